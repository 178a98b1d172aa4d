-- OVER PRINTED WORDS: laid by this session's program; what this claim does not use is left out; Lean checks it.
import Derived.Test.YtcjeblikejoogaaGreatDoorQTy
import Derived.Test.YtcjeblikejoogaaGreatDoorQSz
namespace Go.Proofs.YtcjeblikejoogaaGreatDoor.PFnExactOpLine
open Go.RowKit Go.Proofs.YtcjeblikejoogaaGreatDoorW.PrintWords Go.Proofs.YtcjeblikejoogaaGreatDoorW.PrintLast Go.Proofs.YtcjeblikejoogaaGreatDoorW.PrintMore
attribute [local go_sem] max2_int min2_int max_two min_two max_three min_three max_four min_four
set_option linter.unusedVariables false
set_option linter.unusedSimpArgs false
def laws_szOpS.l0 : Nat → List (S34) → Int → Int → Option (Int)
  | 0, _, _, _ => none
  | k + 1, x0, x1, x5 => if x5 < (x0.length : Int) then (if 0 ≤ x5 then ((laws_szOp.f k ((rd_T34 x0 x5).f0) ((rd_T34 x0 x5).f1) ((rd_T34 x0 x5).f2) ((rd_T34 x0 x5).f3) ((rd_T34 x0 x5).f4.f0.f0) ((rd_T34 x0 x5).f4.f0.f1) ((rd_T34 x0 x5).f4.f0.f2) ((rd_T34 x0 x5).f4.f1) ((rd_T34 x0 x5).f4.f2.f0.f0) ((rd_T34 x0 x5).f4.f2.f0.f1) ((rd_T34 x0 x5).f4.f2.f0.f2) ((rd_T34 x0 x5).f4.f2.f1.f0) ((rd_T34 x0 x5).f4.f2.f1.f1) ((rd_T34 x0 x5).f4.f2.f1.f2) ((rd_T34 x0 x5).f4.f2.f2) ((rd_T34 x0 x5).f4.f2.f3) x1).bind fun t119 => (if t119 < 0 then (some (-1)) else (laws_szOpS.l0 k x0 t119 (wrap64 (x5 + 1))))) else (none)) else (some x1)
def laws_szOpS.f (k : Nat) (l0 : List (S34)) (a1 : Int) : Option (Int) := if (wrap64 (a1 - (l0.length : Int))) < 0 then (some (-1)) else (laws_szOpS.l0 k l0 (wrap64 (a1 - (l0.length : Int))) 0)
set_option maxHeartbeats 8000000 in
set_option maxRecDepth 100000 in
theorem laws_szOpS.calls (k : Nat) (A0 : Option Addr) (c0 : Nat) (l0 : List (S34)) (a1 r : Int) (w : World) (hr0 : Kd.C k34 w A0 l0.length l0) (hc0 : l0.length ≤ c0) (h : laws_szOpS.f k l0 a1 = some r) :
    Calls Tryz.prog 10 #[.slice A0 l0.length c0, .int .i64 a1] w fun e w' => e = .returned (.int .i64 r) ∧ Below w.heap.size w w' := by
  have hu34 := Tryz.underlying34
  have HR0 := Aside0.mk hr0
  have HC0 := Aside0.mk hc0
  clear hr0 hc0
  have HB := Aside0.mk (Below.refl w.heap.size w)
  have H : (if (wrap64 (a1 - (l0.length : Int))) < 0 then (some (-1)) else (laws_szOpS.l0 k l0 (wrap64 (a1 - (l0.length : Int))) 0)) = some r := h
  clear h
  by_cases c3 : (wrap64 (a1 - (l0.length : Int))) < 0
  · rw [if_pos c3] at H
    have c3b0 : decide ((wrap64 (a1 - (l0.length : Int))) < 0) = true := decide_eq_true c3
    clear c3
    obtain rfl := Option.some.inj H
    go_enter Tryz.func10, Tryz.ntmps10
    go_wp2
    go_ret
    exact ⟨re_, hb0_⟩
  · rw [if_neg c3] at H
    have c3b0 : decide ((wrap64 (a1 - (l0.length : Int))) < 0) = false := decide_eq_false c3
    clear c3
    have H' := Aside0.mk H
    clear H
    go_enter Tryz.func10, Tryz.ntmps10
    go_wp2
    go_loopg [1, 5] k (fun kq v1 v5 w' => ∃ (x1_1 x5_1 : Int), v1 = .int .i64 x1_1 ∧ v5 = .int .i64 x5_1 ∧ Aside0 (laws_szOpS.l0 kq l0 x1_1 x5_1 = some r) ∧ Aside0 (kq ≤ k) ∧ Aside0 (Below w.heap.size w w'))
    case atStart => exact ⟨(wrap64 (a1 - (l0.length : Int))), (0), (rs_), (rs_), H', ⟨Nat.le_refl _⟩, ⟨hb0_⟩⟩
    case round =>
      clear H'
      try clear c1
      try clear p2
      try clear c3
      try clear c3b0
      obtain ⟨x1_1, x5_1, rfl, rfl, HA, HK1, HB⟩ := hrel
      cases gk with
      | zero => exact absurd HA.out (by simp [laws_szOpS.l0])
      | succ k1 =>
        have H := HA.out
        clear HA
        simp only [laws_szOpS.l0] at H
        by_cases c4 : x5_1 < (l0.length : Int)
        · rw [if_pos c4] at H
          have c4b0 : decide (x5_1 < (l0.length : Int)) = true := decide_eq_true c4
          clear c4
          by_cases c5 : 0 ≤ x5_1
          · rw [if_pos c5] at H
            have c5b0 : decide (0 ≤ x5_1) = true := decide_eq_true c5
            clear c5
            replace H := Option.bind_eq_some_iff.mp H
            obtain ⟨t119, A60, H⟩ := H
            replace H : (if t119 < 0 then (some (-1)) else (laws_szOpS.l0 k1 l0 t119 (wrap64 (x5_1 + 1)))) = some r := H
            have A6 := Aside0.mk A60
            clear A60
            by_cases c7 : t119 < 0
            · rw [if_pos c7] at H
              have c7b0 : decide (t119 < 0) = true := decide_eq_true c7
              clear c7
              obtain rfl := Option.some.inj H
              have p118 : 0 ≤ (x5_1 : Int) := of_decide_eq_true as_
              have q118 : x5_1 < (l0.length : Int) := of_decide_eq_true as_
              obtain ⟨ad118, A118_3, c118_3, A118_7, c118_7, A118_8, c118_8, A118_11, c118_11, e118, hx118_0, hx118_1, hx118_2, hx118_3, hx118_4, hx118_5, hx118_6, hx118_7, hx118_8, hx118_9, hx118_10, hx118_11, hx118_12, hx118_13, hx118_14, hx118_15, hl118_3, hi118_3, hl118_7, hi118_7, hl118_8, hi118_8, hl118_11, hi118_11⟩ := at_T34 HR0.out x5_1 p118 q118
              cases e118
              replace hx118_0 := (HB.out.cell (World.block_lt_of_cell? w _ hx118_0)).trans hx118_0
              replace hx118_1 := (HB.out.cell (World.block_lt_of_cell? w _ hx118_1)).trans hx118_1
              replace hx118_2 := (HB.out.cell (World.block_lt_of_cell? w _ hx118_2)).trans hx118_2
              replace hx118_3 := (HB.out.cell (World.block_lt_of_cell? w _ hx118_3)).trans hx118_3
              replace hx118_4 := (HB.out.cell (World.block_lt_of_cell? w _ hx118_4)).trans hx118_4
              replace hx118_5 := (HB.out.cell (World.block_lt_of_cell? w _ hx118_5)).trans hx118_5
              replace hx118_6 := (HB.out.cell (World.block_lt_of_cell? w _ hx118_6)).trans hx118_6
              replace hx118_7 := (HB.out.cell (World.block_lt_of_cell? w _ hx118_7)).trans hx118_7
              replace hx118_8 := (HB.out.cell (World.block_lt_of_cell? w _ hx118_8)).trans hx118_8
              replace hx118_9 := (HB.out.cell (World.block_lt_of_cell? w _ hx118_9)).trans hx118_9
              replace hx118_10 := (HB.out.cell (World.block_lt_of_cell? w _ hx118_10)).trans hx118_10
              replace hx118_11 := (HB.out.cell (World.block_lt_of_cell? w _ hx118_11)).trans hx118_11
              replace hx118_12 := (HB.out.cell (World.block_lt_of_cell? w _ hx118_12)).trans hx118_12
              replace hx118_13 := (HB.out.cell (World.block_lt_of_cell? w _ hx118_13)).trans hx118_13
              replace hx118_14 := (HB.out.cell (World.block_lt_of_cell? w _ hx118_14)).trans hx118_14
              replace hx118_15 := (HB.out.cell (World.block_lt_of_cell? w _ hx118_15)).trans hx118_15
              have HR118_3 := Aside0.mk hi118_3
              have HC118_3 := Aside0.mk hl118_3
              clear hi118_3 hl118_3
              have HR118_7 := Aside0.mk hi118_7
              have HC118_7 := Aside0.mk hl118_7
              clear hi118_7 hl118_7
              have HR118_8 := Aside0.mk hi118_8
              have HC118_8 := Aside0.mk hl118_8
              clear hi118_8 hl118_8
              have HR118_11 := Aside0.mk hi118_11
              have HC118_11 := Aside0.mk hl118_11
              clear hi118_11 hl118_11
              replace p118 := eq_true p118
              replace q118 := eq_true q118
              go_wp2_with (first | ((with_reducible refine gate_callee (f := 5) rfl ?_); refine goesL_ (some 23) rfl rfl Tryz.func5 (by kernel_rfl) rfl #[.agg #[.int .i64 ((rd_T34 l0 x5_1).f0), .int .i64 ((rd_T34 l0 x5_1).f1), .string ((rd_T34 l0 x5_1).f2), .slice A118_3 ((rd_T34 l0 x5_1).f3).length c118_3, .int .i64 ((rd_T34 l0 x5_1).f4.f0.f0), .int .i64 ((rd_T34 l0 x5_1).f4.f0.f1), .int .i64 ((rd_T34 l0 x5_1).f4.f0.f2), .slice A118_7 ((rd_T34 l0 x5_1).f4.f1).length c118_7, .slice A118_8 ((rd_T34 l0 x5_1).f4.f2.f0.f0).length c118_8, .int .i64 ((rd_T34 l0 x5_1).f4.f2.f0.f1), .int .i64 ((rd_T34 l0 x5_1).f4.f2.f0.f2), .slice A118_11 ((rd_T34 l0 x5_1).f4.f2.f1.f0).length c118_11, .int .i64 ((rd_T34 l0 x5_1).f4.f2.f1.f1), .int .i64 ((rd_T34 l0 x5_1).f4.f2.f1.f2), .int .i64 ((rd_T34 l0 x5_1).f4.f2.f2), .int .i64 ((rd_T34 l0 x5_1).f4.f2.f3)], .int .i64 x1_1] rfl (me_) ?_; (with_reducible refine (laws_szOp.calls k1 ((rd_T34 l0 x5_1).f0) ((rd_T34 l0 x5_1).f1) ((rd_T34 l0 x5_1).f2) _ _ ((rd_T34 l0 x5_1).f3) ((rd_T34 l0 x5_1).f4.f0.f0) ((rd_T34 l0 x5_1).f4.f0.f1) ((rd_T34 l0 x5_1).f4.f0.f2) _ _ ((rd_T34 l0 x5_1).f4.f1) _ _ ((rd_T34 l0 x5_1).f4.f2.f0.f0) ((rd_T34 l0 x5_1).f4.f2.f0.f1) ((rd_T34 l0 x5_1).f4.f2.f0.f2) _ _ ((rd_T34 l0 x5_1).f4.f2.f1.f0) ((rd_T34 l0 x5_1).f4.f2.f1.f1) ((rd_T34 l0 x5_1).f4.f2.f1.f2) ((rd_T34 l0 x5_1).f4.f2.f2) ((rd_T34 l0 x5_1).f4.f2.f3) x1_1 _ _ ?side1 ?side2 ?side3 ?side4 ?side5 ?side6 ?side7 ?side8 A6.out).mono ?_); (case side1 => repeat (first | exact (Kd.C_below HR118_3.out HB.out) | (with_reducible refine Kd.C_alloc ?_ _) | (with_reducible refine Kd.C_drewN ?_ _) | (with_reducible refine Kd.C_drew ?_))); (case side2 => exact HC118_3.out); (case side3 => repeat (first | exact (Kd.C_below HR118_7.out HB.out) | (with_reducible refine Kd.C_alloc ?_ _) | (with_reducible refine Kd.C_drewN ?_ _) | (with_reducible refine Kd.C_drew ?_))); (case side4 => exact HC118_7.out); (case side5 => repeat (first | exact (Kd.C_below HR118_8.out HB.out) | (with_reducible refine Kd.C_alloc ?_ _) | (with_reducible refine Kd.C_drewN ?_ _) | (with_reducible refine Kd.C_drew ?_))); (case side6 => exact HC118_8.out); (case side7 => repeat (first | exact (Kd.C_below HR118_11.out HB.out) | (with_reducible refine Kd.C_alloc ?_ _) | (with_reducible refine Kd.C_drewN ?_ _) | (with_reducible refine Kd.C_drew ?_))); (case side8 => exact HC118_11.out); rintro e w8 ⟨rfl, hb⟩; refine ⟨_, rfl, ?_⟩; have n0_ := Aside0.mk (below_step (hb0_) hb); clear HB; have HB := n0_; clear n0_; (try clear hb); (try clear hb2); (try clear hk); (try clear hi)))
              go_ret
              exact ⟨re_, hb0_⟩
            · rw [if_neg c7] at H
              have c7b0 : decide (t119 < 0) = false := decide_eq_false c7
              clear c7
              have H' := Aside0.mk H
              clear H
              have p118 : 0 ≤ (x5_1 : Int) := of_decide_eq_true as_
              have q118 : x5_1 < (l0.length : Int) := of_decide_eq_true as_
              obtain ⟨ad118, A118_3, c118_3, A118_7, c118_7, A118_8, c118_8, A118_11, c118_11, e118, hx118_0, hx118_1, hx118_2, hx118_3, hx118_4, hx118_5, hx118_6, hx118_7, hx118_8, hx118_9, hx118_10, hx118_11, hx118_12, hx118_13, hx118_14, hx118_15, hl118_3, hi118_3, hl118_7, hi118_7, hl118_8, hi118_8, hl118_11, hi118_11⟩ := at_T34 HR0.out x5_1 p118 q118
              cases e118
              replace hx118_0 := (HB.out.cell (World.block_lt_of_cell? w _ hx118_0)).trans hx118_0
              replace hx118_1 := (HB.out.cell (World.block_lt_of_cell? w _ hx118_1)).trans hx118_1
              replace hx118_2 := (HB.out.cell (World.block_lt_of_cell? w _ hx118_2)).trans hx118_2
              replace hx118_3 := (HB.out.cell (World.block_lt_of_cell? w _ hx118_3)).trans hx118_3
              replace hx118_4 := (HB.out.cell (World.block_lt_of_cell? w _ hx118_4)).trans hx118_4
              replace hx118_5 := (HB.out.cell (World.block_lt_of_cell? w _ hx118_5)).trans hx118_5
              replace hx118_6 := (HB.out.cell (World.block_lt_of_cell? w _ hx118_6)).trans hx118_6
              replace hx118_7 := (HB.out.cell (World.block_lt_of_cell? w _ hx118_7)).trans hx118_7
              replace hx118_8 := (HB.out.cell (World.block_lt_of_cell? w _ hx118_8)).trans hx118_8
              replace hx118_9 := (HB.out.cell (World.block_lt_of_cell? w _ hx118_9)).trans hx118_9
              replace hx118_10 := (HB.out.cell (World.block_lt_of_cell? w _ hx118_10)).trans hx118_10
              replace hx118_11 := (HB.out.cell (World.block_lt_of_cell? w _ hx118_11)).trans hx118_11
              replace hx118_12 := (HB.out.cell (World.block_lt_of_cell? w _ hx118_12)).trans hx118_12
              replace hx118_13 := (HB.out.cell (World.block_lt_of_cell? w _ hx118_13)).trans hx118_13
              replace hx118_14 := (HB.out.cell (World.block_lt_of_cell? w _ hx118_14)).trans hx118_14
              replace hx118_15 := (HB.out.cell (World.block_lt_of_cell? w _ hx118_15)).trans hx118_15
              have HR118_3 := Aside0.mk hi118_3
              have HC118_3 := Aside0.mk hl118_3
              clear hi118_3 hl118_3
              have HR118_7 := Aside0.mk hi118_7
              have HC118_7 := Aside0.mk hl118_7
              clear hi118_7 hl118_7
              have HR118_8 := Aside0.mk hi118_8
              have HC118_8 := Aside0.mk hl118_8
              clear hi118_8 hl118_8
              have HR118_11 := Aside0.mk hi118_11
              have HC118_11 := Aside0.mk hl118_11
              clear hi118_11 hl118_11
              replace p118 := eq_true p118
              replace q118 := eq_true q118
              go_wp2_with (first | ((with_reducible refine gate_callee (f := 5) rfl ?_); refine goesL_ (some 23) rfl rfl Tryz.func5 (by kernel_rfl) rfl #[.agg #[.int .i64 ((rd_T34 l0 x5_1).f0), .int .i64 ((rd_T34 l0 x5_1).f1), .string ((rd_T34 l0 x5_1).f2), .slice A118_3 ((rd_T34 l0 x5_1).f3).length c118_3, .int .i64 ((rd_T34 l0 x5_1).f4.f0.f0), .int .i64 ((rd_T34 l0 x5_1).f4.f0.f1), .int .i64 ((rd_T34 l0 x5_1).f4.f0.f2), .slice A118_7 ((rd_T34 l0 x5_1).f4.f1).length c118_7, .slice A118_8 ((rd_T34 l0 x5_1).f4.f2.f0.f0).length c118_8, .int .i64 ((rd_T34 l0 x5_1).f4.f2.f0.f1), .int .i64 ((rd_T34 l0 x5_1).f4.f2.f0.f2), .slice A118_11 ((rd_T34 l0 x5_1).f4.f2.f1.f0).length c118_11, .int .i64 ((rd_T34 l0 x5_1).f4.f2.f1.f1), .int .i64 ((rd_T34 l0 x5_1).f4.f2.f1.f2), .int .i64 ((rd_T34 l0 x5_1).f4.f2.f2), .int .i64 ((rd_T34 l0 x5_1).f4.f2.f3)], .int .i64 x1_1] rfl (me_) ?_; (with_reducible refine (laws_szOp.calls k1 ((rd_T34 l0 x5_1).f0) ((rd_T34 l0 x5_1).f1) ((rd_T34 l0 x5_1).f2) _ _ ((rd_T34 l0 x5_1).f3) ((rd_T34 l0 x5_1).f4.f0.f0) ((rd_T34 l0 x5_1).f4.f0.f1) ((rd_T34 l0 x5_1).f4.f0.f2) _ _ ((rd_T34 l0 x5_1).f4.f1) _ _ ((rd_T34 l0 x5_1).f4.f2.f0.f0) ((rd_T34 l0 x5_1).f4.f2.f0.f1) ((rd_T34 l0 x5_1).f4.f2.f0.f2) _ _ ((rd_T34 l0 x5_1).f4.f2.f1.f0) ((rd_T34 l0 x5_1).f4.f2.f1.f1) ((rd_T34 l0 x5_1).f4.f2.f1.f2) ((rd_T34 l0 x5_1).f4.f2.f2) ((rd_T34 l0 x5_1).f4.f2.f3) x1_1 _ _ ?side1 ?side2 ?side3 ?side4 ?side5 ?side6 ?side7 ?side8 A6.out).mono ?_); (case side1 => repeat (first | exact (Kd.C_below HR118_3.out HB.out) | (with_reducible refine Kd.C_alloc ?_ _) | (with_reducible refine Kd.C_drewN ?_ _) | (with_reducible refine Kd.C_drew ?_))); (case side2 => exact HC118_3.out); (case side3 => repeat (first | exact (Kd.C_below HR118_7.out HB.out) | (with_reducible refine Kd.C_alloc ?_ _) | (with_reducible refine Kd.C_drewN ?_ _) | (with_reducible refine Kd.C_drew ?_))); (case side4 => exact HC118_7.out); (case side5 => repeat (first | exact (Kd.C_below HR118_8.out HB.out) | (with_reducible refine Kd.C_alloc ?_ _) | (with_reducible refine Kd.C_drewN ?_ _) | (with_reducible refine Kd.C_drew ?_))); (case side6 => exact HC118_8.out); (case side7 => repeat (first | exact (Kd.C_below HR118_11.out HB.out) | (with_reducible refine Kd.C_alloc ?_ _) | (with_reducible refine Kd.C_drewN ?_ _) | (with_reducible refine Kd.C_drew ?_))); (case side8 => exact HC118_11.out); rintro e w9 ⟨rfl, hb⟩; refine ⟨_, rfl, ?_⟩; have n0_ := Aside0.mk (below_step (hb0_) hb); clear HB; have HB := n0_; clear n0_; (try clear hb); (try clear hb2); (try clear hk); (try clear hi)))
              go_roundg k1
              case measure => have := HK1.out; omega
              case rel => exact ⟨(t119), (wrap64 (x5_1 + 1)), (rs_), (rs_), H', ⟨by have := HK1.out; omega⟩, ⟨hb0_⟩⟩
          · rw [if_neg c5] at H
            exact absurd H (by simp)
        · rw [if_neg c4] at H
          have c4b0 : decide (x5_1 < (l0.length : Int)) = false := decide_eq_false c4
          clear c4
          obtain rfl := Option.some.inj H
          go_wp2
          go_ret
          exact ⟨re_, hb0_⟩
end Go.Proofs.YtcjeblikejoogaaGreatDoor.PFnExactOpLine
