/-
  What the walk asks of the package-level variables: the table of powers of ten, and that the least length's variable holds some int. It stays so whatever is done at new blocks.
-/
import Derived.Test.YtcjeblikejoogaaGreatDoorWMore
import Derived.Test.YtcjeblikejoogaaGreatDoorShelf
import Derived.Lib.AppendIntMem
namespace Go.Proofs.YtcjeblikejoogaaGreatDoor
open Go.RowKit Go.Proofs.YtcjeblikejoogaaGreatDoorW.PrintWords Go.Proofs.YtcjeblikejoogaaGreatDoorW.PrintLast Go.Proofs.YtcjeblikejoogaaGreatDoorW.PrintMore
def Laid (w : World) : Prop := Lib.TabIs Tryz.prog w "internal/strconv.uint64pow10" .u64 Lib.pow10Tab ∧ ∃ m : Int, w.cell? ⟨0, 0, none⟩ = some (.int .i64 m)
theorem Laid.below {w w' : World} (h : Below w.heap.size w w') (hl : Laid w) : Laid w' := by
  obtain ⟨h1, m, h2⟩ := hl
  exact ⟨(Lib.tabBelow_of_tabIs h1) w' h, m, (h.cell (World.block_lt_of_cell? w _ h2)).trans h2⟩
end Go.Proofs.YtcjeblikejoogaaGreatDoor
