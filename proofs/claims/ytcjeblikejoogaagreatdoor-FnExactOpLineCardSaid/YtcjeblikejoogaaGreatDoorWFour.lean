-- OVER PRINTED WORDS: laid by this session's program; what this claim does not use is left out; Lean checks it.
import Derived.Test.YtcjeblikejoogaaGreatDoorWTab
namespace Go.Proofs.YtcjeblikejoogaaGreatDoorW.PrintLast
section
variable {P : Program} {ops : Array Oper} {Q : Exit → Act → World → Prop} {md : Region.Mode} {S : World → Prop} {ds : List Nat} {T : Bool × List (List Nat × List Nat)}
end
end Go.Proofs.YtcjeblikejoogaaGreatDoorW.PrintLast
