/-
  The laws' own functions over lists of operations (size, copy, comparison), as printed: what they answer, in plain words.
-/
import Derived.Test.YtcjeblikejoogaaGreatDoorQSzS
import Derived.Test.YtcjeblikejoogaaGreatDoorQToS
import Derived.Test.YtcjeblikejoogaaGreatDoorQEqS
import Derived.Test.YtcjeblikejoogaaGreatDoorPureOps
namespace Go.Proofs.YtcjeblikejoogaaGreatDoor.Pure
open Go.RowKit Go.Proofs.YtcjeblikejoogaaGreatDoor.PFnExactOpLine Go.Proofs.YtcjeblikejoogaaGreatDoorW.PrintWords Go.Proofs.YtcjeblikejoogaaGreatDoorW.PrintLast Go.Proofs.YtcjeblikejoogaaGreatDoorW.PrintMore Go.Proofs.YtcjeblikejoogaaGreatDoor.Aid
namespace OpsOf
theorem szOpS_l0 (l : List S34) (hl : l.length ≤ 1048576) (hz : ∀ x ∈ l, OkOp x) : ∀ (d n : Nat) (a : Int), n + d = l.length → 0 ≤ a ∧ a ≤ 1048576 →
    ∃ t, Ev (fun k => laws_szOpS.l0 k l a (n : Int)) t ∧ (0 ≤ t → t ≤ a ∧ ∀ x ∈ l.drop n, SmallOp x)
  | 0, n, a, h, ha => by
    refine ⟨a, Ev.step (f := fun _ => some a) (fun k => ?_) (Ev.now _), fun _ => ⟨Int.le_refl _, by simp [drop_end l n (by omega)]⟩⟩
    simp only [laws_szOpS.l0]
    rw [if_neg (by omega)]
  | d + 1, n, a, h, ha => by
    have hm := hz _ (getD_mem l z34 n (by omega))
    obtain ⟨t, ht, h2⟩ := szOp_ev (rd_T34 l (n : Int)) hm a ha
    have gt : ∀ {r}, Ev (fun k => if t < 0 then some (-1) else laws_szOpS.l0 k l t ((n + 1 : Nat) : Int)) r → Ev (fun k => laws_szOpS.l0 k l a (n : Int)) r := by
      intro r hr
      refine Ev.step (fun k => ?_) (Ev.bind (f := fun k t => if t < 0 then some (-1) else laws_szOpS.l0 k l t ((n + 1 : Nat) : Int)) ht hr)
      simp only [laws_szOpS.l0]
      rw [if_pos (by omega), if_pos (by omega), w_succ n (by omega)]
    by_cases h3 : t < 0
    · exact ⟨-1, gt (Ev.congr (fun k => if_pos h3) (Ev.now _)), fun h => by omega⟩
    · have h4 := h2 (by omega)
      obtain ⟨u, hu, h5⟩ := szOpS_l0 l hl hz d (n + 1) t (by omega) (by omega)
      refine ⟨u, gt (Ev.congr (fun k => if_neg h3) hu), fun h6 => ⟨by have := (h5 h6).1; omega, ?_⟩⟩
      rw [drop_cons l z34 n (by omega)]
      intro x hx
      rcases List.mem_cons.1 hx with rfl | hx
      · exact h4.2
      · exact (h5 h6).2 x hx
theorem szOpS_ev (l : List S34) (hm : l.length ≤ maxLen) (hz : ∀ x ∈ l, OkOp x) :
    ∃ t, Ev (fun k => laws_szOpS.f k l 1048576) t ∧ (0 ≤ t → l.length ≤ 1048576 ∧ ∀ x ∈ l, SmallOp x) := by
  unfold maxLen at hm
  have e : wrap64 (1048576 - (l.length : Int)) = 1048576 - (l.length : Int) := w_id (by omega) (by omega)
  by_cases h : 1048576 - (l.length : Int) < 0
  · refine ⟨-1, Ev.congr (fun k => ?_) (Ev.now _), fun h => by omega⟩
    simp only [laws_szOpS.f]
    rw [e, if_pos h]
  · obtain ⟨t, ht, h2⟩ := szOpS_l0 l (by omega) hz l.length 0 (1048576 - (l.length : Int)) (by omega) (by omega)
    refine ⟨t, Ev.congr (fun k => ?_) ht, fun h3 => ⟨by omega, (h2 h3).2⟩⟩
    simp only [laws_szOpS.f]
    rw [e, if_neg h]
    rfl
theorem cvOp_get (l : List S34) (n : Nat) (h : n < l.length) : (l.map cvOp).getD n z49 = cvOp (l.getD n z34) := by simp [List.getD, h]
theorem toOpS_l0 (l : List S34) (hl : l.length ≤ 1048576) (hz : ∀ x ∈ l, SmallOp x) : ∀ (d n : Nat), n + d = l.length →
    Ev (fun k => laws_toOpS.l0 k l ((l.map cvOp).take n ++ List.replicate ((l.map cvOp).length - n) z49) (n : Int)) (l.map cvOp)
  | 0, n, h => by
    refine Ev.step (f := fun _ => some (l.map cvOp)) (fun k => ?_) (Ev.now _)
    obtain rfl : n = l.length := by omega
    simp only [laws_toOpS.l0]
    rw [if_neg (by omega), List.take_of_length_le (by simp)]
    simp
  | d + 1, n, h => by
    have hm := hz _ (getD_mem l z34 n (by omega))
    refine Ev.step (fun k => (laws_toOpS.l0.eq_2 ..).trans ((if_pos (by omega)).trans (if_pos (by omega)))) (Ev.bind (toOp_ev (rd_T34 l (n : Int)) hm) (Ev.congr (fun k => (if_pos (by simp; omega)).trans ?_) (toOpS_l0 l hl hz d (n + 1) (by omega))))
    rw [w_succ n (by omega), Int.toNat_natCast, ← set_step (l.map cvOp) z49 z49 n (by simp; omega), cvOp_get l n (by omega)]
    rfl
theorem toOpS_ev (l : List S34) (hl : l.length ≤ 1048576) (hz : ∀ x ∈ l, SmallOp x) : Ev (fun k => laws_toOpS.f k l) (l.map cvOp) := by
  refine Ev.congr (fun k => ?_) (toOpS_l0 l hl hz l.length 0 (by omega))
  simp only [laws_toOpS.f]
  rw [if_pos (by omega), if_pos (by omega)]
  simp
theorem eqOpS_l0 (l : List S49) (hl : l.length ≤ 1048576) (hz : ∀ x ∈ l, ShortOp x) : ∀ (d n : Nat), n + d = l.length → Ev (fun k => laws_eqOpS.l0 k l l (n : Int)) true
  | 0, n, h => by
    refine Ev.step (f := fun _ => some true) (fun k => ?_) (Ev.now _)
    simp only [laws_eqOpS.l0]
    rw [if_neg (by omega)]
  | d + 1, n, h => by
    have hm := hz _ (getD_mem l z49 n (by omega))
    refine Ev.step (fun k => (laws_eqOpS.l0.eq_2 ..).trans ((if_pos (by omega)).trans ((if_pos (by omega)).trans (if_pos (by omega))))) (Ev.bind (eqOp_ev (rd_T49 l (n : Int)) hm) (Ev.congr (fun k => (if_pos rfl).trans ?_) (eqOpS_l0 l hl hz d (n + 1) (by omega))))
    rw [w_succ n (by omega)]
theorem eqOpS_ev (l : List S49) (hl : l.length ≤ 1048576) (hz : ∀ x ∈ l, ShortOp x) : Ev (fun k => laws_eqOpS.f k l l) true := by
  refine Ev.congr (fun k => ?_) (eqOpS_l0 l hl hz l.length 0 (by omega))
  simp only [laws_eqOpS.f, if_true]
  rfl
theorem shortAll (l : List S34) (hz : ∀ x ∈ l, SmallOp x) : ∀ y ∈ l.map cvOp, ShortOp y := by
  intro y hy
  obtain ⟨x, hx, rfl⟩ := List.mem_map.1 hy
  exact cvOp_short x (hz x hx)
end OpsOf
end Go.Proofs.YtcjeblikejoogaaGreatDoor.Pure
