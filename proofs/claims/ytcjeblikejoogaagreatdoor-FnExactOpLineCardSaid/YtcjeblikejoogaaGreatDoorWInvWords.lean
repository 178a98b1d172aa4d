-- OVER PRINTED WORDS: laid by this session's program; what this claim does not use is left out; Lean checks it.
import Derived.Test.YtcjeblikejoogaaGreatDoorWInv
import Derived.Test.YtcjeblikejoogaaGreatDoorWFootNe
namespace Go.Proofs.YtcjeblikejoogaaGreatDoorW.PrintWords
open Go.RowKit
end Go.Proofs.YtcjeblikejoogaaGreatDoorW.PrintWords
namespace Go.Proofs.YtcjeblikejoogaaGreatDoorW.PrintLast
section
variable {ops : Array Oper} {a : Act} {o og : Oper} {g : Nat} {t : Tmp} {u : Bool}
end
end Go.Proofs.YtcjeblikejoogaaGreatDoorW.PrintLast
