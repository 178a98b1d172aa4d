-- OVER PRINTED WORDS: laid by this session's program; what this claim does not use is left out; Lean checks it.
import Derived.Test.YtcjeblikejoogaaGreatDoorWTab
namespace Go.Proofs.YtcjeblikejoogaaGreatDoorW.PrintLast
section
variable {P : Program} {ops : Array Oper} {Q : Exit → Act → World → Prop} {md : Region.Mode} {T : Bool × List (List Nat × List Nat)} {B : List Nat} {O : List Nat} {b : Nat → Bool} {i j n : Nat}
end
end Go.Proofs.YtcjeblikejoogaaGreatDoorW.PrintLast
