-- OVER PRINTED WORDS: laid by this session's program; what this claim does not use is left out; Lean checks it.
import Derived.Test.YtcjeblikejoogaaGreatDoorQTy
import Derived.Test.YtcjeblikejoogaaGreatDoorQEq
namespace Go.Proofs.YtcjeblikejoogaaGreatDoor.PFnExactOpLine
open Go.RowKit Go.Proofs.YtcjeblikejoogaaGreatDoorW.PrintWords Go.Proofs.YtcjeblikejoogaaGreatDoorW.PrintLast Go.Proofs.YtcjeblikejoogaaGreatDoorW.PrintMore
attribute [local go_sem] max2_int min2_int max_two min_two max_three min_three max_four min_four
set_option linter.unusedVariables false
set_option linter.unusedSimpArgs false
def laws_eqOpS.l0 : Nat → List (S49) → List (S49) → Int → Option (Bool)
  | 0, _, _, _ => none
  | k + 1, x0, x1, x5 => if x5 < (x0.length : Int) then (if 0 ≤ x5 then (if x5 < (x1.length : Int) then ((laws_eqOp.f k ((rd_T49 x0 x5).f0) ((rd_T49 x0 x5).f1) ((rd_T49 x0 x5).f2) ((rd_T49 x0 x5).f3) ((rd_T49 x0 x5).f4.f0.f0) ((rd_T49 x0 x5).f4.f0.f1) ((rd_T49 x0 x5).f4.f0.f2) ((rd_T49 x0 x5).f4.f1) ((rd_T49 x0 x5).f4.f2.f0.f0) ((rd_T49 x0 x5).f4.f2.f0.f1) ((rd_T49 x0 x5).f4.f2.f0.f2) ((rd_T49 x0 x5).f4.f2.f1.f0) ((rd_T49 x0 x5).f4.f2.f1.f1) ((rd_T49 x0 x5).f4.f2.f1.f2) ((rd_T49 x0 x5).f4.f2.f2) ((rd_T49 x0 x5).f4.f2.f3) ((rd_T49 x1 x5).f0) ((rd_T49 x1 x5).f1) ((rd_T49 x1 x5).f2) ((rd_T49 x1 x5).f3) ((rd_T49 x1 x5).f4.f0.f0) ((rd_T49 x1 x5).f4.f0.f1) ((rd_T49 x1 x5).f4.f0.f2) ((rd_T49 x1 x5).f4.f1) ((rd_T49 x1 x5).f4.f2.f0.f0) ((rd_T49 x1 x5).f4.f2.f0.f1) ((rd_T49 x1 x5).f4.f2.f0.f2) ((rd_T49 x1 x5).f4.f2.f1.f0) ((rd_T49 x1 x5).f4.f2.f1.f1) ((rd_T49 x1 x5).f4.f2.f1.f2) ((rd_T49 x1 x5).f4.f2.f2) ((rd_T49 x1 x5).f4.f2.f3)).bind fun t702 => (if t702 = true then (laws_eqOpS.l0 k x0 x1 (wrap64 (x5 + 1))) else (none))) else (none)) else (none)) else (some true)
def laws_eqOpS.f (k : Nat) (l0 : List (S49)) (l1 : List (S49)) : Option (Bool) := if (l0.length : Int) = (l1.length : Int) then (laws_eqOpS.l0 k l0 l1 0) else (none)
def laws_eqOpS.T6 : Bool × List (List Nat × List Nat) := (true, [([], []), ([], []), ([0, 1], [0, 1]), ([2], [2]), ([], []), ([], []), ([4, 5], [4, 5]), ([6], [6]), ([3, 7], [3, 7]), ([8], [8])])
def laws_eqOpS.B6 : List Nat := [0, 0, 3, 7, 0, 0, 48, 112, 255, 511]
theorem laws_eqOpS.tab6 : rtab .any (opsOf Tryz.f14 6) = laws_eqOpS.T6 := by kernel_rfl
theorem laws_eqOpS.bits6 : waitsOk laws_eqOpS.T6.2 laws_eqOpS.B6 = true := by kernel_rfl
set_option maxHeartbeats 8000000 in
set_option maxRecDepth 100000 in
theorem laws_eqOpS.calls (k : Nat) (A0 : Option Addr) (c0 : Nat) (l0 : List (S49)) (A1 : Option Addr) (c1 : Nat) (l1 : List (S49)) (r : Bool) (w : World) (hr0 : Kd.C k49 w A0 l0.length l0) (hc0 : l0.length ≤ c0) (hr1 : Kd.C k49 w A1 l1.length l1) (hc1 : l1.length ≤ c1) (h : laws_eqOpS.f k l0 l1 = some r) :
    Calls Tryz.prog 14 #[.slice A0 l0.length c0, .slice A1 l1.length c1] w fun e w' => e = .returned (.bool r) ∧ Below w.heap.size w w' := by
  have hu49 := Tryz.underlying49
  have HR0 := Aside0.mk hr0
  have HC0 := Aside0.mk hc0
  clear hr0 hc0
  have HR1 := Aside0.mk hr1
  have HC1 := Aside0.mk hc1
  clear hr1 hc1
  have HB := Aside0.mk (Below.refl w.heap.size w)
  have H : (if (l0.length : Int) = (l1.length : Int) then (laws_eqOpS.l0 k l0 l1 0) else (none)) = some r := h
  clear h
  by_cases c3 : (l0.length : Int) = (l1.length : Int)
  · rw [if_pos c3] at H
    have c3b0 : ((l0.length : Int) == (l1.length : Int)) = true := beq_iff_eq.mpr c3
    have c3b1 : ((l0.length : Int) != (l1.length : Int)) = false := bne_eq_false_iff_eq.mpr c3
    have c3b2 : (l0.length == l1.length) = true := by first | simpa using c3 | (simp at c3 ⊢; omega)
    clear c3
    have H' := Aside0.mk H
    clear H
    go_enter Tryz.func14, Tryz.ntmps14
    go_wp2
    go_loopg [5] k (fun kq v5 w' => ∃ (x5_1 : Int), v5 = .int .i64 x5_1 ∧ Aside0 (laws_eqOpS.l0 kq l0 l1 x5_1 = some r) ∧ Aside0 (kq ≤ k) ∧ Aside0 (Below w.heap.size w w'))
    case atStart => exact ⟨(0), (rs_), H', ⟨Nat.le_refl _⟩, ⟨hb0_⟩⟩
    case round =>
      clear H'
      try clear c1
      try clear p2
      try clear c3
      try clear c3b0
      try clear c3b1
      try clear c3b2
      obtain ⟨x5_1, rfl, HA, HK1, HB⟩ := hrel
      cases gk with
      | zero => exact absurd HA.out (by simp [laws_eqOpS.l0])
      | succ k1 =>
        have H := HA.out
        clear HA
        simp only [laws_eqOpS.l0] at H
        by_cases c4 : x5_1 < (l0.length : Int)
        · rw [if_pos c4] at H
          have c4b0 : decide (x5_1 < (l0.length : Int)) = true := decide_eq_true c4
          clear c4
          by_cases c5 : 0 ≤ x5_1
          · rw [if_pos c5] at H
            have c5b0 : decide (0 ≤ x5_1) = true := decide_eq_true c5
            clear c5
            by_cases c6 : x5_1 < (l1.length : Int)
            · rw [if_pos c6] at H
              have c6b0 : decide (x5_1 < (l1.length : Int)) = true := decide_eq_true c6
              clear c6
              replace H := Option.bind_eq_some_iff.mp H
              obtain ⟨t702, A70, H⟩ := H
              replace H : (if t702 = true then (laws_eqOpS.l0 k1 l0 l1 (wrap64 (x5_1 + 1))) else (none)) = some r := H
              have A7 := Aside0.mk A70
              clear A70
              by_cases c8 : t702 = true
              · subst c8
                have H1 : (laws_eqOpS.l0 k1 l0 l1 (wrap64 (x5_1 + 1))) = some r := by rw [if_pos rfl] at H; exact H
                clear H
                have H := H1
                clear H1
                have H' := Aside0.mk H
                clear H
                try go_wp2
                have n0_ := Aside0.mk (below_drew1 HB.out)
                clear HB
                have HB := n0_
                clear n0_
                have p700 : 0 ≤ (x5_1 : Int) := of_decide_eq_true as_
                have q700 : x5_1 < (l0.length : Int) := of_decide_eq_true as_
                obtain ⟨ad700, A700_3, c700_3, A700_7, c700_7, A700_8, c700_8, A700_11, c700_11, e700, hx700_0, hx700_1, hx700_2, hx700_3, hx700_4, hx700_5, hx700_6, hx700_7, hx700_8, hx700_9, hx700_10, hx700_11, hx700_12, hx700_13, hx700_14, hx700_15, hl700_3, hi700_3, hl700_7, hi700_7, hl700_8, hi700_8, hl700_11, hi700_11⟩ := at_T49 HR0.out x5_1 p700 q700
                have hw700_15 := hx700_15
                have hw700_14 := hx700_14
                have hw700_13 := hx700_13
                have hw700_12 := hx700_12
                have hw700_11 := hx700_11
                have hw700_10 := hx700_10
                have hw700_9 := hx700_9
                have hw700_8 := hx700_8
                have hw700_7 := hx700_7
                have hw700_6 := hx700_6
                have hw700_5 := hx700_5
                have hw700_4 := hx700_4
                have hw700_3 := hx700_3
                have hw700_2 := hx700_2
                have hw700_1 := hx700_1
                have hw700_0 := hx700_0
                cases e700
                replace hx700_0 := (HB.out.cell (World.block_lt_of_cell? w _ hx700_0)).trans hx700_0
                replace hx700_1 := (HB.out.cell (World.block_lt_of_cell? w _ hx700_1)).trans hx700_1
                replace hx700_2 := (HB.out.cell (World.block_lt_of_cell? w _ hx700_2)).trans hx700_2
                replace hx700_3 := (HB.out.cell (World.block_lt_of_cell? w _ hx700_3)).trans hx700_3
                replace hx700_4 := (HB.out.cell (World.block_lt_of_cell? w _ hx700_4)).trans hx700_4
                replace hx700_5 := (HB.out.cell (World.block_lt_of_cell? w _ hx700_5)).trans hx700_5
                replace hx700_6 := (HB.out.cell (World.block_lt_of_cell? w _ hx700_6)).trans hx700_6
                replace hx700_7 := (HB.out.cell (World.block_lt_of_cell? w _ hx700_7)).trans hx700_7
                replace hx700_8 := (HB.out.cell (World.block_lt_of_cell? w _ hx700_8)).trans hx700_8
                replace hx700_9 := (HB.out.cell (World.block_lt_of_cell? w _ hx700_9)).trans hx700_9
                replace hx700_10 := (HB.out.cell (World.block_lt_of_cell? w _ hx700_10)).trans hx700_10
                replace hx700_11 := (HB.out.cell (World.block_lt_of_cell? w _ hx700_11)).trans hx700_11
                replace hx700_12 := (HB.out.cell (World.block_lt_of_cell? w _ hx700_12)).trans hx700_12
                replace hx700_13 := (HB.out.cell (World.block_lt_of_cell? w _ hx700_13)).trans hx700_13
                replace hx700_14 := (HB.out.cell (World.block_lt_of_cell? w _ hx700_14)).trans hx700_14
                replace hx700_15 := (HB.out.cell (World.block_lt_of_cell? w _ hx700_15)).trans hx700_15
                have HR700_3 := Aside0.mk hi700_3
                have HC700_3 := Aside0.mk hl700_3
                clear hi700_3 hl700_3
                have HR700_7 := Aside0.mk hi700_7
                have HC700_7 := Aside0.mk hl700_7
                clear hi700_7 hl700_7
                have HR700_8 := Aside0.mk hi700_8
                have HC700_8 := Aside0.mk hl700_8
                clear hi700_8 hl700_8
                have HR700_11 := Aside0.mk hi700_11
                have HC700_11 := Aside0.mk hl700_11
                clear hi700_11 hl700_11
                replace p700 := eq_true p700
                replace q700 := eq_true q700
                have p701 : 0 ≤ (x5_1 : Int) := of_decide_eq_true as_
                have q701 : x5_1 < (l1.length : Int) := of_decide_eq_true as_
                obtain ⟨ad701, A701_3, c701_3, A701_7, c701_7, A701_8, c701_8, A701_11, c701_11, e701, hx701_0, hx701_1, hx701_2, hx701_3, hx701_4, hx701_5, hx701_6, hx701_7, hx701_8, hx701_9, hx701_10, hx701_11, hx701_12, hx701_13, hx701_14, hx701_15, hl701_3, hi701_3, hl701_7, hi701_7, hl701_8, hi701_8, hl701_11, hi701_11⟩ := at_T49 HR1.out x5_1 p701 q701
                have hw701_15 := hx701_15
                have hw701_14 := hx701_14
                have hw701_13 := hx701_13
                have hw701_12 := hx701_12
                have hw701_11 := hx701_11
                have hw701_10 := hx701_10
                have hw701_9 := hx701_9
                have hw701_8 := hx701_8
                have hw701_7 := hx701_7
                have hw701_6 := hx701_6
                have hw701_5 := hx701_5
                have hw701_4 := hx701_4
                have hw701_3 := hx701_3
                have hw701_2 := hx701_2
                have hw701_1 := hx701_1
                have hw701_0 := hx701_0
                cases e701
                replace hx701_0 := (HB.out.cell (World.block_lt_of_cell? w _ hx701_0)).trans hx701_0
                replace hx701_1 := (HB.out.cell (World.block_lt_of_cell? w _ hx701_1)).trans hx701_1
                replace hx701_2 := (HB.out.cell (World.block_lt_of_cell? w _ hx701_2)).trans hx701_2
                replace hx701_3 := (HB.out.cell (World.block_lt_of_cell? w _ hx701_3)).trans hx701_3
                replace hx701_4 := (HB.out.cell (World.block_lt_of_cell? w _ hx701_4)).trans hx701_4
                replace hx701_5 := (HB.out.cell (World.block_lt_of_cell? w _ hx701_5)).trans hx701_5
                replace hx701_6 := (HB.out.cell (World.block_lt_of_cell? w _ hx701_6)).trans hx701_6
                replace hx701_7 := (HB.out.cell (World.block_lt_of_cell? w _ hx701_7)).trans hx701_7
                replace hx701_8 := (HB.out.cell (World.block_lt_of_cell? w _ hx701_8)).trans hx701_8
                replace hx701_9 := (HB.out.cell (World.block_lt_of_cell? w _ hx701_9)).trans hx701_9
                replace hx701_10 := (HB.out.cell (World.block_lt_of_cell? w _ hx701_10)).trans hx701_10
                replace hx701_11 := (HB.out.cell (World.block_lt_of_cell? w _ hx701_11)).trans hx701_11
                replace hx701_12 := (HB.out.cell (World.block_lt_of_cell? w _ hx701_12)).trans hx701_12
                replace hx701_13 := (HB.out.cell (World.block_lt_of_cell? w _ hx701_13)).trans hx701_13
                replace hx701_14 := (HB.out.cell (World.block_lt_of_cell? w _ hx701_14)).trans hx701_14
                replace hx701_15 := (HB.out.cell (World.block_lt_of_cell? w _ hx701_15)).trans hx701_15
                have HR701_3 := Aside0.mk hi701_3
                have HC701_3 := Aside0.mk hl701_3
                clear hi701_3 hl701_3
                have HR701_7 := Aside0.mk hi701_7
                have HC701_7 := Aside0.mk hl701_7
                clear hi701_7 hl701_7
                have HR701_8 := Aside0.mk hi701_8
                have HC701_8 := Aside0.mk hl701_8
                clear hi701_8 hl701_8
                have HR701_11 := Aside0.mk hi701_11
                have HC701_11 := Aside0.mk hl701_11
                clear hi701_11 hl701_11
                replace p701 := eq_true p701
                replace q701 := eq_true q701
                refine start_ (n := 10) (S := fun w' => w'.cell? (ad700.add ((x5_1).toNat * 16)) = some (.int .i64 ((rd_T49 l0 x5_1).f0)) ∧ w'.cell? ⟨(ad700.add ((x5_1).toNat * 16)).block, (ad700.add ((x5_1).toNat * 16)).off + 1, none⟩ = some (.int .i64 ((rd_T49 l0 x5_1).f1)) ∧ w'.cell? ⟨(ad700.add ((x5_1).toNat * 16)).block, (ad700.add ((x5_1).toNat * 16)).off + 2, none⟩ = some (.string ((rd_T49 l0 x5_1).f2)) ∧ w'.cell? ⟨(ad700.add ((x5_1).toNat * 16)).block, (ad700.add ((x5_1).toNat * 16)).off + 3, none⟩ = some (.slice A700_3 ((rd_T49 l0 x5_1).f3).length c700_3) ∧ w'.cell? ⟨(ad700.add ((x5_1).toNat * 16)).block, (ad700.add ((x5_1).toNat * 16)).off + 4, none⟩ = some (.int .i64 ((rd_T49 l0 x5_1).f4.f0.f0)) ∧ w'.cell? ⟨(ad700.add ((x5_1).toNat * 16)).block, (ad700.add ((x5_1).toNat * 16)).off + 5, none⟩ = some (.int .i64 ((rd_T49 l0 x5_1).f4.f0.f1)) ∧ w'.cell? ⟨(ad700.add ((x5_1).toNat * 16)).block, (ad700.add ((x5_1).toNat * 16)).off + 6, none⟩ = some (.int .i64 ((rd_T49 l0 x5_1).f4.f0.f2)) ∧ w'.cell? ⟨(ad700.add ((x5_1).toNat * 16)).block, (ad700.add ((x5_1).toNat * 16)).off + 7, none⟩ = some (.slice A700_7 ((rd_T49 l0 x5_1).f4.f1).length c700_7) ∧ w'.cell? ⟨(ad700.add ((x5_1).toNat * 16)).block, (ad700.add ((x5_1).toNat * 16)).off + 8, none⟩ = some (.slice A700_8 ((rd_T49 l0 x5_1).f4.f2.f0.f0).length c700_8) ∧ w'.cell? ⟨(ad700.add ((x5_1).toNat * 16)).block, (ad700.add ((x5_1).toNat * 16)).off + 9, none⟩ = some (.int .i64 ((rd_T49 l0 x5_1).f4.f2.f0.f1)) ∧ w'.cell? ⟨(ad700.add ((x5_1).toNat * 16)).block, (ad700.add ((x5_1).toNat * 16)).off + 10, none⟩ = some (.int .i64 ((rd_T49 l0 x5_1).f4.f2.f0.f2)) ∧ w'.cell? ⟨(ad700.add ((x5_1).toNat * 16)).block, (ad700.add ((x5_1).toNat * 16)).off + 11, none⟩ = some (.slice A700_11 ((rd_T49 l0 x5_1).f4.f2.f1.f0).length c700_11) ∧ w'.cell? ⟨(ad700.add ((x5_1).toNat * 16)).block, (ad700.add ((x5_1).toNat * 16)).off + 12, none⟩ = some (.int .i64 ((rd_T49 l0 x5_1).f4.f2.f1.f1)) ∧ w'.cell? ⟨(ad700.add ((x5_1).toNat * 16)).block, (ad700.add ((x5_1).toNat * 16)).off + 13, none⟩ = some (.int .i64 ((rd_T49 l0 x5_1).f4.f2.f1.f2)) ∧ w'.cell? ⟨(ad700.add ((x5_1).toNat * 16)).block, (ad700.add ((x5_1).toNat * 16)).off + 14, none⟩ = some (.int .i64 ((rd_T49 l0 x5_1).f4.f2.f2)) ∧ w'.cell? ⟨(ad700.add ((x5_1).toNat * 16)).block, (ad700.add ((x5_1).toNat * 16)).off + 15, none⟩ = some (.int .i64 ((rd_T49 l0 x5_1).f4.f2.f3)) ∧ w'.cell? (ad701.add ((x5_1).toNat * 16)) = some (.int .i64 ((rd_T49 l1 x5_1).f0)) ∧ w'.cell? ⟨(ad701.add ((x5_1).toNat * 16)).block, (ad701.add ((x5_1).toNat * 16)).off + 1, none⟩ = some (.int .i64 ((rd_T49 l1 x5_1).f1)) ∧ w'.cell? ⟨(ad701.add ((x5_1).toNat * 16)).block, (ad701.add ((x5_1).toNat * 16)).off + 2, none⟩ = some (.string ((rd_T49 l1 x5_1).f2)) ∧ w'.cell? ⟨(ad701.add ((x5_1).toNat * 16)).block, (ad701.add ((x5_1).toNat * 16)).off + 3, none⟩ = some (.slice A701_3 ((rd_T49 l1 x5_1).f3).length c701_3) ∧ w'.cell? ⟨(ad701.add ((x5_1).toNat * 16)).block, (ad701.add ((x5_1).toNat * 16)).off + 4, none⟩ = some (.int .i64 ((rd_T49 l1 x5_1).f4.f0.f0)) ∧ w'.cell? ⟨(ad701.add ((x5_1).toNat * 16)).block, (ad701.add ((x5_1).toNat * 16)).off + 5, none⟩ = some (.int .i64 ((rd_T49 l1 x5_1).f4.f0.f1)) ∧ w'.cell? ⟨(ad701.add ((x5_1).toNat * 16)).block, (ad701.add ((x5_1).toNat * 16)).off + 6, none⟩ = some (.int .i64 ((rd_T49 l1 x5_1).f4.f0.f2)) ∧ w'.cell? ⟨(ad701.add ((x5_1).toNat * 16)).block, (ad701.add ((x5_1).toNat * 16)).off + 7, none⟩ = some (.slice A701_7 ((rd_T49 l1 x5_1).f4.f1).length c701_7) ∧ w'.cell? ⟨(ad701.add ((x5_1).toNat * 16)).block, (ad701.add ((x5_1).toNat * 16)).off + 8, none⟩ = some (.slice A701_8 ((rd_T49 l1 x5_1).f4.f2.f0.f0).length c701_8) ∧ w'.cell? ⟨(ad701.add ((x5_1).toNat * 16)).block, (ad701.add ((x5_1).toNat * 16)).off + 9, none⟩ = some (.int .i64 ((rd_T49 l1 x5_1).f4.f2.f0.f1)) ∧ w'.cell? ⟨(ad701.add ((x5_1).toNat * 16)).block, (ad701.add ((x5_1).toNat * 16)).off + 10, none⟩ = some (.int .i64 ((rd_T49 l1 x5_1).f4.f2.f0.f2)) ∧ w'.cell? ⟨(ad701.add ((x5_1).toNat * 16)).block, (ad701.add ((x5_1).toNat * 16)).off + 11, none⟩ = some (.slice A701_11 ((rd_T49 l1 x5_1).f4.f2.f1.f0).length c701_11) ∧ w'.cell? ⟨(ad701.add ((x5_1).toNat * 16)).block, (ad701.add ((x5_1).toNat * 16)).off + 12, none⟩ = some (.int .i64 ((rd_T49 l1 x5_1).f4.f2.f1.f1)) ∧ w'.cell? ⟨(ad701.add ((x5_1).toNat * 16)).block, (ad701.add ((x5_1).toNat * 16)).off + 13, none⟩ = some (.int .i64 ((rd_T49 l1 x5_1).f4.f2.f1.f2)) ∧ w'.cell? ⟨(ad701.add ((x5_1).toNat * 16)).block, (ad701.add ((x5_1).toNat * 16)).off + 14, none⟩ = some (.int .i64 ((rd_T49 l1 x5_1).f4.f2.f2)) ∧ w'.cell? ⟨(ad701.add ((x5_1).toNat * 16)).block, (ad701.add ((x5_1).toNat * 16)).off + 15, none⟩ = some (.int .i64 ((rd_T49 l1 x5_1).f4.f2.f3))) (ds := []) #[false, false, false, false, false, false, false, false, false, false] (by kernel_rfl) rfl rfl ⟨((HB.out.cell (World.block_lt_of_cell? w _ hw700_0)).trans hw700_0), ((HB.out.cell (World.block_lt_of_cell? w _ hw700_1)).trans hw700_1), ((HB.out.cell (World.block_lt_of_cell? w _ hw700_2)).trans hw700_2), ((HB.out.cell (World.block_lt_of_cell? w _ hw700_3)).trans hw700_3), ((HB.out.cell (World.block_lt_of_cell? w _ hw700_4)).trans hw700_4), ((HB.out.cell (World.block_lt_of_cell? w _ hw700_5)).trans hw700_5), ((HB.out.cell (World.block_lt_of_cell? w _ hw700_6)).trans hw700_6), ((HB.out.cell (World.block_lt_of_cell? w _ hw700_7)).trans hw700_7), ((HB.out.cell (World.block_lt_of_cell? w _ hw700_8)).trans hw700_8), ((HB.out.cell (World.block_lt_of_cell? w _ hw700_9)).trans hw700_9), ((HB.out.cell (World.block_lt_of_cell? w _ hw700_10)).trans hw700_10), ((HB.out.cell (World.block_lt_of_cell? w _ hw700_11)).trans hw700_11), ((HB.out.cell (World.block_lt_of_cell? w _ hw700_12)).trans hw700_12), ((HB.out.cell (World.block_lt_of_cell? w _ hw700_13)).trans hw700_13), ((HB.out.cell (World.block_lt_of_cell? w _ hw700_14)).trans hw700_14), ((HB.out.cell (World.block_lt_of_cell? w _ hw700_15)).trans hw700_15), ((HB.out.cell (World.block_lt_of_cell? w _ hw701_0)).trans hw701_0), ((HB.out.cell (World.block_lt_of_cell? w _ hw701_1)).trans hw701_1), ((HB.out.cell (World.block_lt_of_cell? w _ hw701_2)).trans hw701_2), ((HB.out.cell (World.block_lt_of_cell? w _ hw701_3)).trans hw701_3), ((HB.out.cell (World.block_lt_of_cell? w _ hw701_4)).trans hw701_4), ((HB.out.cell (World.block_lt_of_cell? w _ hw701_5)).trans hw701_5), ((HB.out.cell (World.block_lt_of_cell? w _ hw701_6)).trans hw701_6), ((HB.out.cell (World.block_lt_of_cell? w _ hw701_7)).trans hw701_7), ((HB.out.cell (World.block_lt_of_cell? w _ hw701_8)).trans hw701_8), ((HB.out.cell (World.block_lt_of_cell? w _ hw701_9)).trans hw701_9), ((HB.out.cell (World.block_lt_of_cell? w _ hw701_10)).trans hw701_10), ((HB.out.cell (World.block_lt_of_cell? w _ hw701_11)).trans hw701_11), ((HB.out.cell (World.block_lt_of_cell? w _ hw701_12)).trans hw701_12), ((HB.out.cell (World.block_lt_of_cell? w _ hw701_13)).trans hw701_13), ((HB.out.cell (World.block_lt_of_cell? w _ hw701_14)).trans hw701_14), ((HB.out.cell (World.block_lt_of_cell? w _ hw701_15)).trans hw701_15)⟩ (fun hHeld => ?_); refine with_tabW laws_eqOpS.tab6 laws_eqOpS.bits6 (fun HT_ HW_ => ?_)
                generalize wr.drew = w9 at HB HR700_11 HR700_3 HR700_7 HR700_8 HR701_11 HR701_3 HR701_7 HR701_8 hx700_0 hx700_1 hx700_10 hx700_11 hx700_12 hx700_13 hx700_14 hx700_15 hx700_2 hx700_3 hx700_4 hx700_5 hx700_6 hx700_7 hx700_8 hx700_9 hx701_0 hx701_1 hx701_10 hx701_11 hx701_12 hx701_13 hx701_14 hx701_15 hx701_2 hx701_3 hx701_4 hx701_5 hx701_6 hx701_7 hx701_8 hx701_9 hHeld ⊢
                refine pure_ (i := 0) (N := some 17) (v := ?_) (a' := ?_) #[true, false, false, false, false, false, false, false, false, false] rfl rfl (any_of HT_.out (by kernel_rfl)) (fun _ _ _ h => h) (Or.inl ⟨by rfl, ?_⟩) ?_ ?_
                rotate_left
                · intro w'
                  go_simp
                  with_reducible rfl
                rotate_left
                · simp only [Act.put, List.setIfInBounds_toArray, List.set_cons_zero, List.set_cons_succ, i64_w, i32_w]
                  rfl
                refine pure_ (i := 1) (N := some 18) (v := ?_) (a' := ?_) #[true, true, false, false, false, false, false, false, false, false] rfl rfl (any_of HT_.out (by kernel_rfl)) (fun _ _ _ h => h) (Or.inl ⟨by rfl, ?_⟩) ?_ ?_
                rotate_left
                · intro w'
                  go_simp
                  with_reducible rfl
                rotate_left
                · simp only [Act.put, List.setIfInBounds_toArray, List.set_cons_zero, List.set_cons_succ, i64_w, i32_w]
                  rfl
                refine pure_ (i := 2) (N := some 19) (v := ?_) (a' := ?_) #[true, true, true, false, false, false, false, false, false, false] rfl rfl (any_of HT_.out (by kernel_rfl)) (fun _ _ _ h => h) (Or.inl ⟨by rfl, ?_⟩) ?_ ?_
                rotate_left
                · intro w'
                  go_simp
                  with_reducible rfl
                rotate_left
                · simp only [Act.put, List.setIfInBounds_toArray, List.set_cons_zero, List.set_cons_succ, i64_w, i32_w]
                  rfl
                refine pure_ (i := 4) (N := some 21) (v := ?_) (a' := ?_) #[true, true, true, false, true, false, false, false, false, false] rfl rfl (any_of HT_.out (by kernel_rfl)) (fun _ _ _ h => h) (Or.inl ⟨by rfl, ?_⟩) ?_ ?_
                rotate_left
                · intro w'
                  go_simp
                  with_reducible rfl
                rotate_left
                · simp only [Act.put, List.setIfInBounds_toArray, List.set_cons_zero, List.set_cons_succ, i64_w, i32_w]
                  rfl
                refine pure_ (i := 5) (N := some 22) (v := ?_) (a' := ?_) #[true, true, true, false, true, true, false, false, false, false] rfl rfl (any_of HT_.out (by kernel_rfl)) (fun _ _ _ h => h) (Or.inl ⟨by rfl, ?_⟩) ?_ ?_
                rotate_left
                · intro w'
                  go_simp
                  with_reducible rfl
                rotate_left
                · simp only [Act.put, List.setIfInBounds_toArray, List.set_cons_zero, List.set_cons_succ, i64_w, i32_w]
                  rfl
                refine pure_ (i := 6) (N := some 23) (v := ?_) (a' := ?_) #[true, true, true, false, true, true, true, false, false, false] rfl rfl (any_of HT_.out (by kernel_rfl)) (fun _ _ _ h => h) (Or.inl ⟨by rfl, ?_⟩) ?_ ?_
                rotate_left
                · intro w'
                  go_simp
                  with_reducible rfl
                rotate_left
                · simp only [Act.put, List.setIfInBounds_toArray, List.set_cons_zero, List.set_cons_succ, i64_w, i32_w]
                  rfl
                refine take_ (i := 3) (N := some 20) (v := ?_) (a' := ?_) #[true, true, true, true, true, true, true, false, false, false] rfl rfl (take_ofW HT_.out HW_.out (by kernel_rfl)) (fun _ _ _ h => h) (Or.inl ⟨by rfl, ?_⟩) hHeld ?_ ?_
                rotate_left
                · rintro w' ⟨s0, s1, s2, s3, s4, s5, s6, s7, s8, s9, s10, s11, s12, s13, s14, s15, s16, s17, s18, s19, s20, s21, s22, s23, s24, s25, s26, s27, s28, s29, s30, s31⟩
                  go_simp
                  with_reducible rfl
                rotate_left
                · simp only [Act.put, List.setIfInBounds_toArray, List.set_cons_zero, List.set_cons_succ, i64_w, i32_w]
                  rfl
                refine take_ (i := 7) (N := some 24) (v := ?_) (a' := ?_) #[true, true, true, true, true, true, true, true, false, false] rfl rfl (take_ofW HT_.out HW_.out (by kernel_rfl)) (fun _ _ _ h => h) (Or.inl ⟨by rfl, ?_⟩) hHeld ?_ ?_
                rotate_left
                · rintro w' ⟨s0, s1, s2, s3, s4, s5, s6, s7, s8, s9, s10, s11, s12, s13, s14, s15, s16, s17, s18, s19, s20, s21, s22, s23, s24, s25, s26, s27, s28, s29, s30, s31⟩
                  go_simp
                  with_reducible rfl
                rotate_left
                · simp only [Act.put, List.setIfInBounds_toArray, List.set_cons_zero, List.set_cons_succ, i64_w, i32_w]
                  rfl
                refine one_ (i := 8) (N := some 25) #[true, true, true, true, true, true, true, true, true, false] rfl rfl (one_of HT_.out (by kernel_rfl)) (by decide) (fun K hK => ?_)
                refine goes_ Tryz.func9 (by kernel_rfl) rfl #[.agg #[.int .i64 ((rd_T49 l0 x5_1).f0), .int .i64 ((rd_T49 l0 x5_1).f1), .string ((rd_T49 l0 x5_1).f2), .slice A700_3 ((rd_T49 l0 x5_1).f3).length c700_3, .int .i64 ((rd_T49 l0 x5_1).f4.f0.f0), .int .i64 ((rd_T49 l0 x5_1).f4.f0.f1), .int .i64 ((rd_T49 l0 x5_1).f4.f0.f2), .slice A700_7 ((rd_T49 l0 x5_1).f4.f1).length c700_7, .slice A700_8 ((rd_T49 l0 x5_1).f4.f2.f0.f0).length c700_8, .int .i64 ((rd_T49 l0 x5_1).f4.f2.f0.f1), .int .i64 ((rd_T49 l0 x5_1).f4.f2.f0.f2), .slice A700_11 ((rd_T49 l0 x5_1).f4.f2.f1.f0).length c700_11, .int .i64 ((rd_T49 l0 x5_1).f4.f2.f1.f1), .int .i64 ((rd_T49 l0 x5_1).f4.f2.f1.f2), .int .i64 ((rd_T49 l0 x5_1).f4.f2.f2), .int .i64 ((rd_T49 l0 x5_1).f4.f2.f3)], .agg #[.int .i64 ((rd_T49 l1 x5_1).f0), .int .i64 ((rd_T49 l1 x5_1).f1), .string ((rd_T49 l1 x5_1).f2), .slice A701_3 ((rd_T49 l1 x5_1).f3).length c701_3, .int .i64 ((rd_T49 l1 x5_1).f4.f0.f0), .int .i64 ((rd_T49 l1 x5_1).f4.f0.f1), .int .i64 ((rd_T49 l1 x5_1).f4.f0.f2), .slice A701_7 ((rd_T49 l1 x5_1).f4.f1).length c701_7, .slice A701_8 ((rd_T49 l1 x5_1).f4.f2.f0.f0).length c701_8, .int .i64 ((rd_T49 l1 x5_1).f4.f2.f0.f1), .int .i64 ((rd_T49 l1 x5_1).f4.f2.f0.f2), .slice A701_11 ((rd_T49 l1 x5_1).f4.f2.f1.f0).length c701_11, .int .i64 ((rd_T49 l1 x5_1).f4.f2.f1.f1), .int .i64 ((rd_T49 l1 x5_1).f4.f2.f1.f2), .int .i64 ((rd_T49 l1 x5_1).f4.f2.f2), .int .i64 ((rd_T49 l1 x5_1).f4.f2.f3)]] (by rfl) rfl rfl (me_) ?_
                with_reducible refine (laws_eqOp.calls k1 ((rd_T49 l0 x5_1).f0) ((rd_T49 l0 x5_1).f1) ((rd_T49 l0 x5_1).f2) _ _ ((rd_T49 l0 x5_1).f3) ((rd_T49 l0 x5_1).f4.f0.f0) ((rd_T49 l0 x5_1).f4.f0.f1) ((rd_T49 l0 x5_1).f4.f0.f2) _ _ ((rd_T49 l0 x5_1).f4.f1) _ _ ((rd_T49 l0 x5_1).f4.f2.f0.f0) ((rd_T49 l0 x5_1).f4.f2.f0.f1) ((rd_T49 l0 x5_1).f4.f2.f0.f2) _ _ ((rd_T49 l0 x5_1).f4.f2.f1.f0) ((rd_T49 l0 x5_1).f4.f2.f1.f1) ((rd_T49 l0 x5_1).f4.f2.f1.f2) ((rd_T49 l0 x5_1).f4.f2.f2) ((rd_T49 l0 x5_1).f4.f2.f3) ((rd_T49 l1 x5_1).f0) ((rd_T49 l1 x5_1).f1) ((rd_T49 l1 x5_1).f2) _ _ ((rd_T49 l1 x5_1).f3) ((rd_T49 l1 x5_1).f4.f0.f0) ((rd_T49 l1 x5_1).f4.f0.f1) ((rd_T49 l1 x5_1).f4.f0.f2) _ _ ((rd_T49 l1 x5_1).f4.f1) _ _ ((rd_T49 l1 x5_1).f4.f2.f0.f0) ((rd_T49 l1 x5_1).f4.f2.f0.f1) ((rd_T49 l1 x5_1).f4.f2.f0.f2) _ _ ((rd_T49 l1 x5_1).f4.f2.f1.f0) ((rd_T49 l1 x5_1).f4.f2.f1.f1) ((rd_T49 l1 x5_1).f4.f2.f1.f2) ((rd_T49 l1 x5_1).f4.f2.f2) ((rd_T49 l1 x5_1).f4.f2.f3) _ _ ?side1 ?side2 ?side3 ?side4 ?side5 ?side6 ?side7 ?side8 ?side9 ?side10 ?side11 ?side12 ?side13 ?side14 ?side15 ?side16 A7.out).mono ?_
                (case side1 => repeat (first | exact (Kd.C_below HR700_3.out HB.out) | (with_reducible refine Kd.C_alloc ?_ _) | (with_reducible refine Kd.C_drewN ?_ _) | (with_reducible refine Kd.C_drew ?_)))
                (case side2 => exact HC700_3.out)
                (case side3 => repeat (first | exact (Kd.C_below HR700_7.out HB.out) | (with_reducible refine Kd.C_alloc ?_ _) | (with_reducible refine Kd.C_drewN ?_ _) | (with_reducible refine Kd.C_drew ?_)))
                (case side4 => exact HC700_7.out)
                (case side5 => repeat (first | exact (Kd.C_below HR700_8.out HB.out) | (with_reducible refine Kd.C_alloc ?_ _) | (with_reducible refine Kd.C_drewN ?_ _) | (with_reducible refine Kd.C_drew ?_)))
                (case side6 => exact HC700_8.out)
                (case side7 => repeat (first | exact (Kd.C_below HR700_11.out HB.out) | (with_reducible refine Kd.C_alloc ?_ _) | (with_reducible refine Kd.C_drewN ?_ _) | (with_reducible refine Kd.C_drew ?_)))
                (case side8 => exact HC700_11.out)
                (case side9 => repeat (first | exact (Kd.C_below HR701_3.out HB.out) | (with_reducible refine Kd.C_alloc ?_ _) | (with_reducible refine Kd.C_drewN ?_ _) | (with_reducible refine Kd.C_drew ?_)))
                (case side10 => exact HC701_3.out)
                (case side11 => repeat (first | exact (Kd.C_below HR701_7.out HB.out) | (with_reducible refine Kd.C_alloc ?_ _) | (with_reducible refine Kd.C_drewN ?_ _) | (with_reducible refine Kd.C_drew ?_)))
                (case side12 => exact HC701_7.out)
                (case side13 => repeat (first | exact (Kd.C_below HR701_8.out HB.out) | (with_reducible refine Kd.C_alloc ?_ _) | (with_reducible refine Kd.C_drewN ?_ _) | (with_reducible refine Kd.C_drew ?_)))
                (case side14 => exact HC701_8.out)
                (case side15 => repeat (first | exact (Kd.C_below HR701_11.out HB.out) | (with_reducible refine Kd.C_alloc ?_ _) | (with_reducible refine Kd.C_drewN ?_ _) | (with_reducible refine Kd.C_drew ?_)))
                (case side16 => exact HC701_11.out)
                rintro e w10 ⟨rfl, hb⟩
                refine ⟨_, rfl, ?_⟩
                have n0_ := Aside0.mk (below_step (hb0_) hb)
                clear HB
                have HB := n0_
                clear n0_
                (try clear hb)
                (try clear hb2)
                (try clear hk)
                (try clear hi)
                refine hK.out _ _ ⟨((HB.out.cell (World.block_lt_of_cell? w _ hw700_0)).trans hw700_0), ((HB.out.cell (World.block_lt_of_cell? w _ hw700_1)).trans hw700_1), ((HB.out.cell (World.block_lt_of_cell? w _ hw700_2)).trans hw700_2), ((HB.out.cell (World.block_lt_of_cell? w _ hw700_3)).trans hw700_3), ((HB.out.cell (World.block_lt_of_cell? w _ hw700_4)).trans hw700_4), ((HB.out.cell (World.block_lt_of_cell? w _ hw700_5)).trans hw700_5), ((HB.out.cell (World.block_lt_of_cell? w _ hw700_6)).trans hw700_6), ((HB.out.cell (World.block_lt_of_cell? w _ hw700_7)).trans hw700_7), ((HB.out.cell (World.block_lt_of_cell? w _ hw700_8)).trans hw700_8), ((HB.out.cell (World.block_lt_of_cell? w _ hw700_9)).trans hw700_9), ((HB.out.cell (World.block_lt_of_cell? w _ hw700_10)).trans hw700_10), ((HB.out.cell (World.block_lt_of_cell? w _ hw700_11)).trans hw700_11), ((HB.out.cell (World.block_lt_of_cell? w _ hw700_12)).trans hw700_12), ((HB.out.cell (World.block_lt_of_cell? w _ hw700_13)).trans hw700_13), ((HB.out.cell (World.block_lt_of_cell? w _ hw700_14)).trans hw700_14), ((HB.out.cell (World.block_lt_of_cell? w _ hw700_15)).trans hw700_15), ((HB.out.cell (World.block_lt_of_cell? w _ hw701_0)).trans hw701_0), ((HB.out.cell (World.block_lt_of_cell? w _ hw701_1)).trans hw701_1), ((HB.out.cell (World.block_lt_of_cell? w _ hw701_2)).trans hw701_2), ((HB.out.cell (World.block_lt_of_cell? w _ hw701_3)).trans hw701_3), ((HB.out.cell (World.block_lt_of_cell? w _ hw701_4)).trans hw701_4), ((HB.out.cell (World.block_lt_of_cell? w _ hw701_5)).trans hw701_5), ((HB.out.cell (World.block_lt_of_cell? w _ hw701_6)).trans hw701_6), ((HB.out.cell (World.block_lt_of_cell? w _ hw701_7)).trans hw701_7), ((HB.out.cell (World.block_lt_of_cell? w _ hw701_8)).trans hw701_8), ((HB.out.cell (World.block_lt_of_cell? w _ hw701_9)).trans hw701_9), ((HB.out.cell (World.block_lt_of_cell? w _ hw701_10)).trans hw701_10), ((HB.out.cell (World.block_lt_of_cell? w _ hw701_11)).trans hw701_11), ((HB.out.cell (World.block_lt_of_cell? w _ hw701_12)).trans hw701_12), ((HB.out.cell (World.block_lt_of_cell? w _ hw701_13)).trans hw701_13), ((HB.out.cell (World.block_lt_of_cell? w _ hw701_14)).trans hw701_14), ((HB.out.cell (World.block_lt_of_cell? w _ hw701_15)).trans hw701_15)⟩ (fun hHeld => ?_)
                clear hK K
                refine norm_ (a' := ?_) ?_ ?_
                rotate_left
                · show Act.put _ (some 25) _ = _
                  simp only [Act.put, List.setIfInBounds_toArray, List.set_cons_zero, List.set_cons_succ, i64_w, i32_w]
                  rfl
                refine pure_ (i := 9) (N := some 26) (v := ?_) (a' := ?_) #[true, true, true, true, true, true, true, true, true, true] rfl rfl (any_of HT_.out (by kernel_rfl)) (fun _ _ _ h => h) (Or.inl ⟨by rfl, ?_⟩) ?_ ?_
                rotate_left
                · intro w'
                  go_simp
                  with_reducible rfl
                rotate_left
                · simp only [Act.put, List.setIfInBounds_toArray, List.set_cons_zero, List.set_cons_succ, i64_w, i32_w]
                  rfl
                refine done_ (done_of HT_.out (by kernel_rfl)) ?_
                try go_wp2
                go_roundg k1
                case measure => have := HK1.out; omega
                case rel => exact ⟨(wrap64 (x5_1 + 1)), (rs_), H', ⟨by have := HK1.out; omega⟩, ⟨hb0_⟩⟩
              · replace c8 := Bool.eq_false_iff.mpr c8
                subst c8
                have H1 : (none) = some r := by rw [if_neg (show ¬ (false = true) by decide)] at H; exact H
                clear H
                have H := H1
                clear H1
                exact absurd H (by simp)
            · rw [if_neg c6] at H
              exact absurd H (by simp)
          · rw [if_neg c5] at H
            exact absurd H (by simp)
        · rw [if_neg c4] at H
          have c4b0 : decide (x5_1 < (l0.length : Int)) = false := decide_eq_false c4
          clear c4
          obtain rfl := Option.some.inj H
          go_wp2
          go_ret
          exact ⟨re_, hb0_⟩
  · rw [if_neg c3] at H
    exact absurd H (by simp)
end Go.Proofs.YtcjeblikejoogaaGreatDoor.PFnExactOpLine
