/-
  Plain lemmas on wrap64, on reading a list at a whole number and on filling a list from the left, for the pure statements of this seat.
-/
import Derived.Test.YtcjeblikejoogaaGreatDoorWMore
namespace Go.Proofs.YtcjeblikejoogaaGreatDoor.Aid
open Go.RowKit Go.Proofs.YtcjeblikejoogaaGreatDoorW.PrintWords
theorem w_id {x : Int} (h0 : -9223372036854775808 ≤ x) (h1 : x ≤ 9223372036854775807) : wrap64 x = x := by
  unfold wrap64
  omega
theorem w_succ (n : Nat) (h : n < 9223372036854775807) : wrap64 ((n : Int) + 1) = ((n + 1 : Nat) : Int) := by
  unfold wrap64
  omega
theorem set_step {α : Type} (l : List α) (z d : α) (n : Nat) (h : n < l.length) :
    (l.take n ++ List.replicate (l.length - n) z).set n (l.getD n d) = l.take (n + 1) ++ List.replicate (l.length - (n + 1)) z := by
  have e1 : l.getD n d = l[n] := by simp [List.getD, h]
  have e2 : l.length - n = (l.length - (n + 1)) + 1 := by omega
  rw [e1, e2, List.replicate_succ, List.take_succ_eq_append_getElem h, List.append_assoc]
  rw [List.set_append_right _ _ (by simp; omega)]
  have e3 : n - (l.take n).length = 0 := by simp; omega
  rw [e3]
  rfl
theorem drop_cons {α : Type} (l : List α) (d : α) (n : Nat) (h : n < l.length) : l.drop n = l.getD n d :: l.drop (n + 1) := by
  rw [List.drop_eq_getElem_cons h]
  simp [List.getD, h]
theorem drop_end {α : Type} (l : List α) (n : Nat) (h : l.length ≤ n) : l.drop n = [] := List.drop_eq_nil_of_le h
theorem getD_mem {α : Type} (l : List α) (d : α) (n : Nat) (h : n < l.length) : l.getD n d ∈ l := by
  have e1 : l.getD n d = l[n] := by simp [List.getD, h]
  rw [e1]
  exact List.getElem_mem h
end Go.Proofs.YtcjeblikejoogaaGreatDoor.Aid
