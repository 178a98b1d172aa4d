-- OVER PRINTED WORDS: laid by this session's program; what this claim does not use is left out; Lean checks it.
import Derived.Test.YtcjeblikejoogaaGreatDoorQTy
namespace Go.Proofs.YtcjeblikejoogaaGreatDoor.PFnExactOpLine
open Go.RowKit Go.Proofs.YtcjeblikejoogaaGreatDoorW.PrintWords Go.Proofs.YtcjeblikejoogaaGreatDoorW.PrintLast Go.Proofs.YtcjeblikejoogaaGreatDoorW.PrintMore
attribute [local go_sem] max2_int min2_int max_two min_two max_three min_three max_four min_four
set_option linter.unusedVariables false
set_option linter.unusedSimpArgs false
def laws_szPod.f (a0_0 : ByteArray) (a0_1 a0_2 : Int) (a0_3 : Bool) (a1 : Int) : Option (Int) := if (wrap64 (a1 - (a0_0.size : Int))) < 0 then (some (-1)) else (some (wrap64 (a1 - (a0_0.size : Int))))
theorem laws_szPod.t1_ {p : Prop} (h : p := by
    go_enter Tryz.func35, Tryz.ntmps35
    go_wp2_with (first | ((with_reducible refine gate_dst (N := 2) rfl ?_); refine box_event ?hg (N := 2) ?hd (cs := #[.string a0_0, .int .i64 a0_1, .int .i64 a0_2, .bool a0_3]) (t := 83) ?hr ?_; (case hd => rfl); (case hg => rfl); (case hr => first | (go_simp; done) | (go_simp; rfl)); intro gbq0 hg wq1 hbox hb; have nq2 := Aside0.mk (below_step (hb0_) hb); have BKq3 := Aside0.mk (hbox); have GWq4 := Aside0.mk (bs_ hg (hb0_)); have GEq5 := GWq4; clear HB; have HB := nq2; clear nq2; clear hb hbox hg; obtain ⟨⟨czq6, fzq7⟩, ⟨czq8, fzq9⟩, ⟨czq10, fzq11⟩, ⟨czq12, fzq13⟩⟩ := bc4_ BKq3))
    go_ret
    exact ⟨re_, hb1_ GEq5⟩) : p := h
set_option maxHeartbeats 8000000 in
set_option maxRecDepth 100000 in
theorem laws_szPod.calls (a0_0 : ByteArray) (a0_1 a0_2 : Int) (a0_3 : Bool) (a1 r : Int) (w : World) (h : laws_szPod.f a0_0 a0_1 a0_2 a0_3 a1 = some r) :
    Calls Tryz.prog 35 #[.agg #[.string a0_0, .int .i64 a0_1, .int .i64 a0_2, .bool a0_3], .int .i64 a1] w fun e w' => e = .returned (.int .i64 r) ∧ Below w.heap.size w w' := by
  have hu83 := Tryz.underlying83
  have HB := Aside0.mk (Below.refl w.heap.size w)
  have H : (if (wrap64 (a1 - (a0_0.size : Int))) < 0 then (some (-1)) else (some (wrap64 (a1 - (a0_0.size : Int))))) = some r := h
  clear h
  by_cases c3 : (wrap64 (a1 - (a0_0.size : Int))) < 0
  · rw [if_pos c3] at H
    have c3b0 : decide ((wrap64 (a1 - (a0_0.size : Int))) < 0) = true := decide_eq_true c3
    clear c3
    obtain rfl := Option.some.inj H
    exact laws_szPod.t1_
  · rw [if_neg c3] at H
    have c3b0 : decide ((wrap64 (a1 - (a0_0.size : Int))) < 0) = false := decide_eq_false c3
    clear c3
    obtain rfl := Option.some.inj H
    exact laws_szPod.t1_
def laws_szPodS.l0 : Nat → List (S83) → Int → Int → Option (Int)
  | 0, _, _, _ => none
  | k + 1, x0, x1, x5 => if x5 < (x0.length : Int) then (if 0 ≤ x5 then ((laws_szPod.f ((rd_T83 x0 x5).f0) ((rd_T83 x0 x5).f1) ((rd_T83 x0 x5).f2) ((rd_T83 x0 x5).f3) x1).bind fun t103 => (if t103 < 0 then (some (-1)) else (laws_szPodS.l0 k x0 t103 (wrap64 (x5 + 1))))) else (none)) else (some x1)
def laws_szPodS.f (k : Nat) (l0 : List (S83)) (a1 : Int) : Option (Int) := if (wrap64 (a1 - (l0.length : Int))) < 0 then (some (-1)) else (laws_szPodS.l0 k l0 (wrap64 (a1 - (l0.length : Int))) 0)
set_option maxHeartbeats 8000000 in
set_option maxRecDepth 100000 in
theorem laws_szPodS.calls (k : Nat) (A0 : Option Addr) (c0 : Nat) (l0 : List (S83)) (a1 r : Int) (w : World) (hr0 : Kd.C k83 w A0 l0.length l0) (hc0 : l0.length ≤ c0) (h : laws_szPodS.f k l0 a1 = some r) :
    Calls Tryz.prog 15 #[.slice A0 l0.length c0, .int .i64 a1] w fun e w' => e = .returned (.int .i64 r) ∧ Below w.heap.size w w' := by
  have hu83 := Tryz.underlying83
  have HR0 := Aside0.mk hr0
  have HC0 := Aside0.mk hc0
  clear hr0 hc0
  have HB := Aside0.mk (Below.refl w.heap.size w)
  have H : (if (wrap64 (a1 - (l0.length : Int))) < 0 then (some (-1)) else (laws_szPodS.l0 k l0 (wrap64 (a1 - (l0.length : Int))) 0)) = some r := h
  clear h
  by_cases c3 : (wrap64 (a1 - (l0.length : Int))) < 0
  · rw [if_pos c3] at H
    have c3b0 : decide ((wrap64 (a1 - (l0.length : Int))) < 0) = true := decide_eq_true c3
    clear c3
    obtain rfl := Option.some.inj H
    go_enter Tryz.func15, Tryz.ntmps15
    go_wp2
    go_ret
    exact ⟨re_, hb0_⟩
  · rw [if_neg c3] at H
    have c3b0 : decide ((wrap64 (a1 - (l0.length : Int))) < 0) = false := decide_eq_false c3
    clear c3
    have H' := Aside0.mk H
    clear H
    go_enter Tryz.func15, Tryz.ntmps15
    go_wp2
    go_loopg [1, 5] k (fun kq v1 v5 w' => ∃ (x1_1 x5_1 : Int), v1 = .int .i64 x1_1 ∧ v5 = .int .i64 x5_1 ∧ Aside0 (laws_szPodS.l0 kq l0 x1_1 x5_1 = some r) ∧ Aside0 (kq ≤ k) ∧ Aside0 (Below w.heap.size w w'))
    case atStart => exact ⟨(wrap64 (a1 - (l0.length : Int))), (0), (rs_), (rs_), H', ⟨Nat.le_refl _⟩, ⟨hb0_⟩⟩
    case round =>
      clear H'
      try clear c1
      try clear p2
      try clear c3
      try clear c3b0
      obtain ⟨x1_1, x5_1, rfl, rfl, HA, HK1, HB⟩ := hrel
      cases gk with
      | zero => exact absurd HA.out (by simp [laws_szPodS.l0])
      | succ k1 =>
        have H := HA.out
        clear HA
        simp only [laws_szPodS.l0] at H
        by_cases c4 : x5_1 < (l0.length : Int)
        · rw [if_pos c4] at H
          have c4b0 : decide (x5_1 < (l0.length : Int)) = true := decide_eq_true c4
          clear c4
          by_cases c5 : 0 ≤ x5_1
          · rw [if_pos c5] at H
            have c5b0 : decide (0 ≤ x5_1) = true := decide_eq_true c5
            clear c5
            replace H := Option.bind_eq_some_iff.mp H
            obtain ⟨t103, A60, H⟩ := H
            replace H : (if t103 < 0 then (some (-1)) else (laws_szPodS.l0 k1 l0 t103 (wrap64 (x5_1 + 1)))) = some r := H
            have A6 := Aside0.mk A60
            clear A60
            by_cases c7 : t103 < 0
            · rw [if_pos c7] at H
              have c7b0 : decide (t103 < 0) = true := decide_eq_true c7
              clear c7
              obtain rfl := Option.some.inj H
              have p102 : 0 ≤ (x5_1 : Int) := of_decide_eq_true as_
              have q102 : x5_1 < (l0.length : Int) := of_decide_eq_true as_
              obtain ⟨ad102, e102, hx102_0, hx102_1, hx102_2, hx102_3⟩ := at_T83 HR0.out x5_1 p102 q102
              cases e102
              replace hx102_0 := (HB.out.cell (World.block_lt_of_cell? w _ hx102_0)).trans hx102_0
              replace hx102_1 := (HB.out.cell (World.block_lt_of_cell? w _ hx102_1)).trans hx102_1
              replace hx102_2 := (HB.out.cell (World.block_lt_of_cell? w _ hx102_2)).trans hx102_2
              replace hx102_3 := (HB.out.cell (World.block_lt_of_cell? w _ hx102_3)).trans hx102_3
              replace p102 := eq_true p102
              replace q102 := eq_true q102
              go_wp2_with (first | ((with_reducible refine gate_callee (f := 35) rfl ?_); refine goesL_ (some 23) rfl rfl Tryz.func35 (by kernel_rfl) rfl #[.agg #[.string ((rd_T83 l0 x5_1).f0), .int .i64 ((rd_T83 l0 x5_1).f1), .int .i64 ((rd_T83 l0 x5_1).f2), .bool ((rd_T83 l0 x5_1).f3)], .int .i64 x1_1] rfl (me_) ?_; (with_reducible refine (laws_szPod.calls ((rd_T83 l0 x5_1).f0) ((rd_T83 l0 x5_1).f1) ((rd_T83 l0 x5_1).f2) ((rd_T83 l0 x5_1).f3) x1_1 _ _ A6.out).mono ?_); rintro e w8 ⟨rfl, hb⟩; refine ⟨_, rfl, ?_⟩; have n0_ := Aside0.mk (below_step (hb0_) hb); clear HB; have HB := n0_; clear n0_; (try clear hb); (try clear hb2); (try clear hk); (try clear hi)))
              go_ret
              exact ⟨re_, hb0_⟩
            · rw [if_neg c7] at H
              have c7b0 : decide (t103 < 0) = false := decide_eq_false c7
              clear c7
              have H' := Aside0.mk H
              clear H
              have p102 : 0 ≤ (x5_1 : Int) := of_decide_eq_true as_
              have q102 : x5_1 < (l0.length : Int) := of_decide_eq_true as_
              obtain ⟨ad102, e102, hx102_0, hx102_1, hx102_2, hx102_3⟩ := at_T83 HR0.out x5_1 p102 q102
              cases e102
              replace hx102_0 := (HB.out.cell (World.block_lt_of_cell? w _ hx102_0)).trans hx102_0
              replace hx102_1 := (HB.out.cell (World.block_lt_of_cell? w _ hx102_1)).trans hx102_1
              replace hx102_2 := (HB.out.cell (World.block_lt_of_cell? w _ hx102_2)).trans hx102_2
              replace hx102_3 := (HB.out.cell (World.block_lt_of_cell? w _ hx102_3)).trans hx102_3
              replace p102 := eq_true p102
              replace q102 := eq_true q102
              go_wp2_with (first | ((with_reducible refine gate_callee (f := 35) rfl ?_); refine goesL_ (some 23) rfl rfl Tryz.func35 (by kernel_rfl) rfl #[.agg #[.string ((rd_T83 l0 x5_1).f0), .int .i64 ((rd_T83 l0 x5_1).f1), .int .i64 ((rd_T83 l0 x5_1).f2), .bool ((rd_T83 l0 x5_1).f3)], .int .i64 x1_1] rfl (me_) ?_; (with_reducible refine (laws_szPod.calls ((rd_T83 l0 x5_1).f0) ((rd_T83 l0 x5_1).f1) ((rd_T83 l0 x5_1).f2) ((rd_T83 l0 x5_1).f3) x1_1 _ _ A6.out).mono ?_); rintro e w9 ⟨rfl, hb⟩; refine ⟨_, rfl, ?_⟩; have n0_ := Aside0.mk (below_step (hb0_) hb); clear HB; have HB := n0_; clear n0_; (try clear hb); (try clear hb2); (try clear hk); (try clear hi)))
              go_roundg k1
              case measure => have := HK1.out; omega
              case rel => exact ⟨(t103), (wrap64 (x5_1 + 1)), (rs_), (rs_), H', ⟨by have := HK1.out; omega⟩, ⟨hb0_⟩⟩
          · rw [if_neg c5] at H
            exact absurd H (by simp)
        · rw [if_neg c4] at H
          have c4b0 : decide (x5_1 < (l0.length : Int)) = false := decide_eq_false c4
          clear c4
          obtain rfl := Option.some.inj H
          go_wp2
          go_ret
          exact ⟨re_, hb0_⟩
def laws_szGoal.f (a0_0 : ByteArray) (a0_1 a0_2 a1 : Int) : Option (Int) := if (wrap64 (a1 - (a0_0.size : Int))) < 0 then (some (-1)) else (some (wrap64 (a1 - (a0_0.size : Int))))
theorem laws_szGoal.t1_ {p : Prop} (h : p := by
    go_enter Tryz.func64, Tryz.ntmps64
    go_wp2_with (first | ((with_reducible refine gate_dst (N := 2) rfl ?_); refine box_event ?hg (N := 2) ?hd (cs := #[.string a0_0, .int .i64 a0_1, .int .i64 a0_2]) (t := 111) ?hr ?_; (case hd => rfl); (case hg => rfl); (case hr => first | (go_simp; done) | (go_simp; rfl)); intro gbq0 hg wq1 hbox hb; have nq2 := Aside0.mk (below_step (hb0_) hb); have BKq3 := Aside0.mk (hbox); have GWq4 := Aside0.mk (bs_ hg (hb0_)); have GEq5 := GWq4; clear HB; have HB := nq2; clear nq2; clear hb hbox hg; obtain ⟨⟨czq6, fzq7⟩, ⟨czq8, fzq9⟩, ⟨czq10, fzq11⟩⟩ := bc3_ BKq3))
    go_ret
    exact ⟨re_, hb1_ GEq5⟩) : p := h
set_option maxHeartbeats 8000000 in
set_option maxRecDepth 100000 in
theorem laws_szGoal.calls (a0_0 : ByteArray) (a0_1 a0_2 a1 r : Int) (w : World) (h : laws_szGoal.f a0_0 a0_1 a0_2 a1 = some r) :
    Calls Tryz.prog 64 #[.agg #[.string a0_0, .int .i64 a0_1, .int .i64 a0_2], .int .i64 a1] w fun e w' => e = .returned (.int .i64 r) ∧ Below w.heap.size w w' := by
  have hu111 := Tryz.underlying111
  have HB := Aside0.mk (Below.refl w.heap.size w)
  have H : (if (wrap64 (a1 - (a0_0.size : Int))) < 0 then (some (-1)) else (some (wrap64 (a1 - (a0_0.size : Int))))) = some r := h
  clear h
  by_cases c3 : (wrap64 (a1 - (a0_0.size : Int))) < 0
  · rw [if_pos c3] at H
    have c3b0 : decide ((wrap64 (a1 - (a0_0.size : Int))) < 0) = true := decide_eq_true c3
    clear c3
    obtain rfl := Option.some.inj H
    exact laws_szGoal.t1_
  · rw [if_neg c3] at H
    have c3b0 : decide ((wrap64 (a1 - (a0_0.size : Int))) < 0) = false := decide_eq_false c3
    clear c3
    obtain rfl := Option.some.inj H
    exact laws_szGoal.t1_
def laws_szGoalS.l0 : Nat → List (S111) → Int → Int → Option (Int)
  | 0, _, _, _ => none
  | k + 1, x0, x1, x5 => if x5 < (x0.length : Int) then (if 0 ≤ x5 then ((laws_szGoal.f ((rd_T111 x0 x5).f0) ((rd_T111 x0 x5).f1) ((rd_T111 x0 x5).f2) x1).bind fun t106 => (if t106 < 0 then (some (-1)) else (laws_szGoalS.l0 k x0 t106 (wrap64 (x5 + 1))))) else (none)) else (some x1)
def laws_szGoalS.f (k : Nat) (l0 : List (S111)) (a1 : Int) : Option (Int) := if (wrap64 (a1 - (l0.length : Int))) < 0 then (some (-1)) else (laws_szGoalS.l0 k l0 (wrap64 (a1 - (l0.length : Int))) 0)
set_option maxHeartbeats 8000000 in
set_option maxRecDepth 100000 in
theorem laws_szGoalS.calls (k : Nat) (A0 : Option Addr) (c0 : Nat) (l0 : List (S111)) (a1 r : Int) (w : World) (hr0 : Kd.C k111 w A0 l0.length l0) (hc0 : l0.length ≤ c0) (h : laws_szGoalS.f k l0 a1 = some r) :
    Calls Tryz.prog 36 #[.slice A0 l0.length c0, .int .i64 a1] w fun e w' => e = .returned (.int .i64 r) ∧ Below w.heap.size w w' := by
  have hu111 := Tryz.underlying111
  have HR0 := Aside0.mk hr0
  have HC0 := Aside0.mk hc0
  clear hr0 hc0
  have HB := Aside0.mk (Below.refl w.heap.size w)
  have H : (if (wrap64 (a1 - (l0.length : Int))) < 0 then (some (-1)) else (laws_szGoalS.l0 k l0 (wrap64 (a1 - (l0.length : Int))) 0)) = some r := h
  clear h
  by_cases c3 : (wrap64 (a1 - (l0.length : Int))) < 0
  · rw [if_pos c3] at H
    have c3b0 : decide ((wrap64 (a1 - (l0.length : Int))) < 0) = true := decide_eq_true c3
    clear c3
    obtain rfl := Option.some.inj H
    go_enter Tryz.func36, Tryz.ntmps36
    go_wp2
    go_ret
    exact ⟨re_, hb0_⟩
  · rw [if_neg c3] at H
    have c3b0 : decide ((wrap64 (a1 - (l0.length : Int))) < 0) = false := decide_eq_false c3
    clear c3
    have H' := Aside0.mk H
    clear H
    go_enter Tryz.func36, Tryz.ntmps36
    go_wp2
    go_loopg [1, 5] k (fun kq v1 v5 w' => ∃ (x1_1 x5_1 : Int), v1 = .int .i64 x1_1 ∧ v5 = .int .i64 x5_1 ∧ Aside0 (laws_szGoalS.l0 kq l0 x1_1 x5_1 = some r) ∧ Aside0 (kq ≤ k) ∧ Aside0 (Below w.heap.size w w'))
    case atStart => exact ⟨(wrap64 (a1 - (l0.length : Int))), (0), (rs_), (rs_), H', ⟨Nat.le_refl _⟩, ⟨hb0_⟩⟩
    case round =>
      clear H'
      try clear p2
      try clear c3
      try clear c3b0
      obtain ⟨x1_1, x5_1, rfl, rfl, HA, HK1, HB⟩ := hrel
      cases gk with
      | zero => exact absurd HA.out (by simp [laws_szGoalS.l0])
      | succ k1 =>
        have H := HA.out
        clear HA
        simp only [laws_szGoalS.l0] at H
        by_cases c4 : x5_1 < (l0.length : Int)
        · rw [if_pos c4] at H
          have c4b0 : decide (x5_1 < (l0.length : Int)) = true := decide_eq_true c4
          clear c4
          by_cases c5 : 0 ≤ x5_1
          · rw [if_pos c5] at H
            have c5b0 : decide (0 ≤ x5_1) = true := decide_eq_true c5
            clear c5
            replace H := Option.bind_eq_some_iff.mp H
            obtain ⟨t106, A60, H⟩ := H
            replace H : (if t106 < 0 then (some (-1)) else (laws_szGoalS.l0 k1 l0 t106 (wrap64 (x5_1 + 1)))) = some r := H
            have A6 := Aside0.mk A60
            clear A60
            by_cases c7 : t106 < 0
            · rw [if_pos c7] at H
              have c7b0 : decide (t106 < 0) = true := decide_eq_true c7
              clear c7
              obtain rfl := Option.some.inj H
              have p105 : 0 ≤ (x5_1 : Int) := of_decide_eq_true as_
              have q105 : x5_1 < (l0.length : Int) := of_decide_eq_true as_
              obtain ⟨ad105, e105, hx105_0, hx105_1, hx105_2⟩ := at_T111 HR0.out x5_1 p105 q105
              cases e105
              replace hx105_0 := (HB.out.cell (World.block_lt_of_cell? w _ hx105_0)).trans hx105_0
              replace hx105_1 := (HB.out.cell (World.block_lt_of_cell? w _ hx105_1)).trans hx105_1
              replace hx105_2 := (HB.out.cell (World.block_lt_of_cell? w _ hx105_2)).trans hx105_2
              replace p105 := eq_true p105
              replace q105 := eq_true q105
              go_wp2_with (first | ((with_reducible refine gate_callee (f := 64) rfl ?_); refine goesL_ (some 23) rfl rfl Tryz.func64 (by kernel_rfl) rfl #[.agg #[.string ((rd_T111 l0 x5_1).f0), .int .i64 ((rd_T111 l0 x5_1).f1), .int .i64 ((rd_T111 l0 x5_1).f2)], .int .i64 x1_1] rfl (me_) ?_; (with_reducible refine (laws_szGoal.calls ((rd_T111 l0 x5_1).f0) ((rd_T111 l0 x5_1).f1) ((rd_T111 l0 x5_1).f2) x1_1 _ _ A6.out).mono ?_); rintro e w8 ⟨rfl, hb⟩; refine ⟨_, rfl, ?_⟩; have n0_ := Aside0.mk (below_step (hb0_) hb); clear HB; have HB := n0_; clear n0_; (try clear hb); (try clear hb2); (try clear hk); (try clear hi)))
              go_ret
              exact ⟨re_, hb0_⟩
            · rw [if_neg c7] at H
              have c7b0 : decide (t106 < 0) = false := decide_eq_false c7
              clear c7
              have H' := Aside0.mk H
              clear H
              have p105 : 0 ≤ (x5_1 : Int) := of_decide_eq_true as_
              have q105 : x5_1 < (l0.length : Int) := of_decide_eq_true as_
              obtain ⟨ad105, e105, hx105_0, hx105_1, hx105_2⟩ := at_T111 HR0.out x5_1 p105 q105
              cases e105
              replace hx105_0 := (HB.out.cell (World.block_lt_of_cell? w _ hx105_0)).trans hx105_0
              replace hx105_1 := (HB.out.cell (World.block_lt_of_cell? w _ hx105_1)).trans hx105_1
              replace hx105_2 := (HB.out.cell (World.block_lt_of_cell? w _ hx105_2)).trans hx105_2
              replace p105 := eq_true p105
              replace q105 := eq_true q105
              go_wp2_with (first | ((with_reducible refine gate_callee (f := 64) rfl ?_); refine goesL_ (some 23) rfl rfl Tryz.func64 (by kernel_rfl) rfl #[.agg #[.string ((rd_T111 l0 x5_1).f0), .int .i64 ((rd_T111 l0 x5_1).f1), .int .i64 ((rd_T111 l0 x5_1).f2)], .int .i64 x1_1] rfl (me_) ?_; (with_reducible refine (laws_szGoal.calls ((rd_T111 l0 x5_1).f0) ((rd_T111 l0 x5_1).f1) ((rd_T111 l0 x5_1).f2) x1_1 _ _ A6.out).mono ?_); rintro e w9 ⟨rfl, hb⟩; refine ⟨_, rfl, ?_⟩; have n0_ := Aside0.mk (below_step (hb0_) hb); clear HB; have HB := n0_; clear n0_; (try clear hb); (try clear hb2); (try clear hk); (try clear hi)))
              go_roundg k1
              case measure => have := HK1.out; omega
              case rel => exact ⟨(t106), (wrap64 (x5_1 + 1)), (rs_), (rs_), H', ⟨by have := HK1.out; omega⟩, ⟨hb0_⟩⟩
          · rw [if_neg c5] at H
            exact absurd H (by simp)
        · rw [if_neg c4] at H
          have c4b0 : decide (x5_1 < (l0.length : Int)) = false := decide_eq_false c4
          clear c4
          obtain rfl := Option.some.inj H
          go_wp2
          go_ret
          exact ⟨re_, hb0_⟩
def laws_szPolicyS.f (l0 : List (S155)) (a1 : Int) : Option (Int) := if (wrap64 (a1 - (l0.length : Int))) < 0 then (some (-1)) else (some (wrap64 (a1 - (l0.length : Int))))
set_option maxHeartbeats 8000000 in
set_option maxRecDepth 100000 in
theorem laws_szPolicyS.calls (A0 : Option Addr) (c0 : Nat) (l0 : List (S155)) (a1 r : Int) (w : World) (hr0 : Kd.C k155 w A0 l0.length l0) (hc0 : l0.length ≤ c0) (h : laws_szPolicyS.f l0 a1 = some r) :
    Calls Tryz.prog 98 #[.slice A0 l0.length c0, .int .i64 a1] w fun e w' => e = .returned (.int .i64 r) ∧ Drawn0 w w' := by
  have HR0 := Aside0.mk hr0
  have HC0 := Aside0.mk hc0
  clear hr0 hc0
  have H : (if (wrap64 (a1 - (l0.length : Int))) < 0 then (some (-1)) else (some (wrap64 (a1 - (l0.length : Int))))) = some r := h
  clear h
  by_cases c3 : (wrap64 (a1 - (l0.length : Int))) < 0
  · rw [if_pos c3] at H
    have c3b0 : decide ((wrap64 (a1 - (l0.length : Int))) < 0) = true := decide_eq_true c3
    clear c3
    obtain rfl := Option.some.inj H
    go_enter Tryz.func98, Tryz.ntmps98
    go_wp2
    go_ret
    exact ⟨rs_, by repeat (first | exact Drawn0.refl _ | apply Drawn0.step)⟩
  · rw [if_neg c3] at H
    have c3b0 : decide ((wrap64 (a1 - (l0.length : Int))) < 0) = false := decide_eq_false c3
    clear c3
    obtain rfl := Option.some.inj H
    go_enter Tryz.func98, Tryz.ntmps98
    go_wp2
    go_ret
    exact ⟨rs_, by repeat (first | exact Drawn0.refl _ | apply Drawn0.step)⟩
def laws_szSide.f (l0_0 : List (S155)) (a0_1 a0_2 a1 : Int) : Option (Int) := (laws_szPolicyS.f l0_0 a1).bind fun t108 => (if t108 < 0 then (some (-1)) else (some t108))
theorem laws_szSide.t1_ {p : Prop} (h : p := by
    go_enter Tryz.func65, Tryz.ntmps65
    go_wp2_with (first | ((with_reducible refine gate_dst (N := 2) rfl ?_); refine box_event ?hg (N := 2) ?hd (cs := #[.slice A0_0 l0_0.length c0_0, .int .i64 a0_1, .int .i64 a0_2]) (t := 28) ?hr ?_; (case hd => rfl); (case hg => rfl); (case hr => first | (go_simp; done) | (go_simp; rfl)); intro gbq0 hg wq1 hbox hb; have nq2 := Aside0.mk (below_step (hb0_) hb); have BKq3 := Aside0.mk (hbox); have GWq4 := Aside0.mk (bs_ hg (hb0_)); have GEq5 := GWq4; clear HB; have HB := nq2; clear nq2; clear hb hbox hg; obtain ⟨⟨czq6, fzq7⟩, ⟨czq8, fzq9⟩, ⟨czq10, fzq11⟩⟩ := bc3_ BKq3) | ((with_reducible refine gate_callee (f := 98) rfl ?_); refine goesL_ (some 8) rfl rfl Tryz.func98 (by kernel_rfl) rfl #[.slice A0_0 l0_0.length c0_0, .int .i64 a1] rfl (me_) ?_; (with_reducible refine (laws_szPolicyS.calls _ _ l0_0 a1 _ _ ?side1 ?side2 A3.out).mono ?_); (case side1 => repeat (first | exact (Kd.C_below HR0_0.out HB.out) | (with_reducible refine Kd.C_alloc ?_ _) | (with_reducible refine Kd.C_drewN ?_ _) | (with_reducible refine Kd.C_drew ?_))); (case side2 => exact HC0_0.out); rintro e w' ⟨rfl, ⟨nd, rfl⟩⟩; refine ⟨_, rfl, ?_⟩))
    go_ret
    exact ⟨re_, hb1_ GEq5⟩) : p := h
set_option maxHeartbeats 8000000 in
set_option maxRecDepth 100000 in
theorem laws_szSide.calls (A0_0 : Option Addr) (c0_0 : Nat) (l0_0 : List (S155)) (a0_1 a0_2 a1 r : Int) (w : World) (hr0_0 : Kd.C k155 w A0_0 l0_0.length l0_0) (hc0_0 : l0_0.length ≤ c0_0) (h : laws_szSide.f l0_0 a0_1 a0_2 a1 = some r) :
    Calls Tryz.prog 65 #[.agg #[.slice A0_0 l0_0.length c0_0, .int .i64 a0_1, .int .i64 a0_2], .int .i64 a1] w fun e w' => e = .returned (.int .i64 r) ∧ Below w.heap.size w w' := by
  have hu28 := Tryz.underlying28
  have HR0_0 := Aside0.mk hr0_0
  have HC0_0 := Aside0.mk hc0_0
  clear hr0_0 hc0_0
  have HB := Aside0.mk (Below.refl w.heap.size w)
  have H : ((laws_szPolicyS.f l0_0 a1).bind fun t108 => (if t108 < 0 then (some (-1)) else (some t108))) = some r := h
  clear h
  replace H := Option.bind_eq_some_iff.mp H
  obtain ⟨t108, A30, H⟩ := H
  replace H : (if t108 < 0 then (some (-1)) else (some t108)) = some r := H
  have A3 := Aside0.mk A30
  clear A30
  by_cases c4 : t108 < 0
  · rw [if_pos c4] at H
    have c4b0 : decide (t108 < 0) = true := decide_eq_true c4
    clear c4
    obtain rfl := Option.some.inj H
    exact laws_szSide.t1_
  · rw [if_neg c4] at H
    have c4b0 : decide (t108 < 0) = false := decide_eq_false c4
    clear c4
    obtain rfl := Option.some.inj H
    exact laws_szSide.t1_
def laws_szBehave.f (l0_0 : List (S155)) (a0_1 a0_2 : Int) (l0_3 : List (S155)) (a0_4 a0_5 a0_6 a0_7 a1 : Int) : Option (Int) := (laws_szSide.f l0_0 a0_1 a0_2 a1).bind fun t110 => (if t110 < 0 then (some (-1)) else ((laws_szSide.f l0_3 a0_4 a0_5 t110).bind fun t111 => (if t111 < 0 then (some (-1)) else (some t111))))
theorem laws_szBehave.t1_ {p : Prop} (h : p := by
    go_enter Tryz.func37, Tryz.ntmps37
    go_wp2_with (first | ((with_reducible refine gate_dst (N := 2) rfl ?_); refine box_event ?hg (N := 2) ?hd (cs := #[.slice A0_0 l0_0.length c0_0, .int .i64 a0_1, .int .i64 a0_2, .slice A0_3 l0_3.length c0_3, .int .i64 a0_4, .int .i64 a0_5, .int .i64 a0_6, .int .i64 a0_7]) (t := 30) ?hr ?_; (case hd => rfl); (case hg => rfl); (case hr => first | (go_simp; done) | (go_simp; rfl)); intro gbq0 hg wq1 hbox hb; have nq2 := Aside0.mk (below_step (hb0_) hb); have BKq3 := Aside0.mk (hbox); have GWq4 := Aside0.mk (bs_ hg (hb0_)); have GEq5 := GWq4; clear HB; have HB := nq2; clear nq2; clear hb hbox hg; obtain ⟨⟨czq6, fzq7⟩, ⟨czq8, fzq9⟩, ⟨czq10, fzq11⟩, ⟨czq12, fzq13⟩, ⟨czq14, fzq15⟩, ⟨czq16, fzq17⟩, ⟨czq18, fzq19⟩, ⟨czq20, fzq21⟩⟩ := bc8_ BKq3) | ((with_reducible refine gate_callee (f := 65) rfl ?_); refine goesL_ (some 8) rfl rfl Tryz.func65 (by kernel_rfl) rfl #[.agg #[.slice A0_0 l0_0.length c0_0, .int .i64 a0_1, .int .i64 a0_2], .int .i64 a1] rfl (me_) ?_; (with_reducible refine (laws_szSide.calls _ _ l0_0 a0_1 a0_2 a1 _ _ ?side1 ?side2 A3.out).mono ?_); (case side1 => repeat (first | exact (Kd.C_below HR0_0.out HB.out) | (with_reducible refine Kd.C_alloc ?_ _) | (with_reducible refine Kd.C_drewN ?_ _) | (with_reducible refine Kd.C_drew ?_))); (case side2 => exact HC0_0.out); rintro e wq22 ⟨rfl, hb⟩; refine ⟨_, rfl, ?_⟩; have nq2 := bb_ BKq3 hb; have nq23 := Aside0.mk (below_step (hb1_ GEq5) hb); clear BKq3; clear HB; have BKq3 := nq2; have HB := nq23; clear nq2 nq23; (try clear hb); (try clear hb2); (try clear hk); (try clear hi); (try (obtain ⟨⟨czq24, fzq25⟩, ⟨czq26, fzq27⟩, ⟨czq28, fzq29⟩, ⟨czq30, fzq31⟩, ⟨czq32, fzq33⟩, ⟨czq34, fzq35⟩, ⟨czq36, fzq37⟩, ⟨czq38, fzq39⟩⟩ := bc8_ BKq3))) | ((with_reducible refine gate_callee (f := 65) rfl ?_); refine goesL_ (some 14) rfl rfl Tryz.func65 (by kernel_rfl) rfl #[.agg #[.slice A0_3 l0_3.length c0_3, .int .i64 a0_4, .int .i64 a0_5], .int .i64 t110] rfl (me_) ?_; (with_reducible refine (laws_szSide.calls _ _ l0_3 a0_4 a0_5 t110 _ _ ?side1 ?side2 A8.out).mono ?_); (case side1 => repeat (first | exact (Kd.C_below HR0_3.out HB.out) | (with_reducible refine Kd.C_alloc ?_ _) | (with_reducible refine Kd.C_drewN ?_ _) | (with_reducible refine Kd.C_drew ?_))); (case side2 => exact HC0_3.out); rintro e wq40 ⟨rfl, hb⟩; refine ⟨_, rfl, ?_⟩; have nq2 := bb_ BKq3 hb; have nq23 := Aside0.mk (below_step (hb1_ GEq5) hb); clear BKq3; clear HB; have BKq3 := nq2; have HB := nq23; clear nq2 nq23; (try clear hb); (try clear hb2); (try clear hk); (try clear hi)))
    go_ret
    exact ⟨re_, hb1_ GEq5⟩) : p := h
set_option maxHeartbeats 8000000 in
set_option maxRecDepth 100000 in
theorem laws_szBehave.calls (A0_0 : Option Addr) (c0_0 : Nat) (l0_0 : List (S155)) (a0_1 a0_2 : Int) (A0_3 : Option Addr) (c0_3 : Nat) (l0_3 : List (S155)) (a0_4 a0_5 a0_6 a0_7 a1 r : Int) (w : World) (hr0_0 : Kd.C k155 w A0_0 l0_0.length l0_0) (hc0_0 : l0_0.length ≤ c0_0) (hr0_3 : Kd.C k155 w A0_3 l0_3.length l0_3) (hc0_3 : l0_3.length ≤ c0_3) (h : laws_szBehave.f l0_0 a0_1 a0_2 l0_3 a0_4 a0_5 a0_6 a0_7 a1 = some r) :
    Calls Tryz.prog 37 #[.agg #[.slice A0_0 l0_0.length c0_0, .int .i64 a0_1, .int .i64 a0_2, .slice A0_3 l0_3.length c0_3, .int .i64 a0_4, .int .i64 a0_5, .int .i64 a0_6, .int .i64 a0_7], .int .i64 a1] w fun e w' => e = .returned (.int .i64 r) ∧ Below w.heap.size w w' := by
  have hu30 := Tryz.underlying30
  have hu28 := Tryz.underlying28
  have HR0_0 := Aside0.mk hr0_0
  have HC0_0 := Aside0.mk hc0_0
  clear hr0_0 hc0_0
  have HR0_3 := Aside0.mk hr0_3
  have HC0_3 := Aside0.mk hc0_3
  clear hr0_3 hc0_3
  have HB := Aside0.mk (Below.refl w.heap.size w)
  have H : ((laws_szSide.f l0_0 a0_1 a0_2 a1).bind fun t110 => (if t110 < 0 then (some (-1)) else ((laws_szSide.f l0_3 a0_4 a0_5 t110).bind fun t111 => (if t111 < 0 then (some (-1)) else (some t111))))) = some r := h
  clear h
  replace H := Option.bind_eq_some_iff.mp H
  obtain ⟨t110, A30, H⟩ := H
  replace H : (if t110 < 0 then (some (-1)) else ((laws_szSide.f l0_3 a0_4 a0_5 t110).bind fun t111 => (if t111 < 0 then (some (-1)) else (some t111)))) = some r := H
  have A3 := Aside0.mk A30
  clear A30
  by_cases c4 : t110 < 0
  · rw [if_pos c4] at H
    have c4b0 : decide (t110 < 0) = true := decide_eq_true c4
    clear c4
    obtain rfl := Option.some.inj H
    exact laws_szBehave.t1_
  · rw [if_neg c4] at H
    have c4b0 : decide (t110 < 0) = false := decide_eq_false c4
    clear c4
    replace H := Option.bind_eq_some_iff.mp H
    obtain ⟨t111, A80, H⟩ := H
    replace H : (if t111 < 0 then (some (-1)) else (some t111)) = some r := H
    have A8 := Aside0.mk A80
    clear A80
    by_cases c9 : t111 < 0
    · rw [if_pos c9] at H
      have c9b0 : decide (t111 < 0) = true := decide_eq_true c9
      clear c9
      obtain rfl := Option.some.inj H
      exact laws_szBehave.t1_
    · rw [if_neg c9] at H
      have c9b0 : decide (t111 < 0) = false := decide_eq_false c9
      clear c9
      obtain rfl := Option.some.inj H
      exact laws_szBehave.t1_
def laws_szSetup.f (k : Nat) (a0_0 a0_1 a0_2 : Int) (l0_3 : List (S111)) (l0_4 : List (S155)) (a0_5 a0_6 : Int) (l0_7 : List (S155)) (a0_8 a0_9 a0_10 a0_11 a1 : Int) : Option (Int) := (laws_szGoalS.f k l0_3 a1).bind fun t113 => (if t113 < 0 then (some (-1)) else ((laws_szBehave.f l0_4 a0_5 a0_6 l0_7 a0_8 a0_9 a0_10 a0_11 t113).bind fun t114 => (if t114 < 0 then (some (-1)) else (some t114))))
theorem laws_szSetup.t1_ {p : Prop} (h : p := by
    go_enter Tryz.func16, Tryz.ntmps16
    go_wp2_with (first | ((with_reducible refine gate_dst (N := 2) rfl ?_); refine box_event ?hg (N := 2) ?hd (cs := #[.int .i64 a0_0, .int .i64 a0_1, .int .i64 a0_2, .slice A0_3 l0_3.length c0_3, .slice A0_4 l0_4.length c0_4, .int .i64 a0_5, .int .i64 a0_6, .slice A0_7 l0_7.length c0_7, .int .i64 a0_8, .int .i64 a0_9, .int .i64 a0_10, .int .i64 a0_11]) (t := 32) ?hr ?_; (case hd => rfl); (case hg => rfl); (case hr => first | (go_simp; done) | (go_simp; rfl)); intro gbq0 hg wq1 hbox hb; have nq2 := Aside0.mk (below_step (hb0_) hb); have BKq3 := Aside0.mk (hbox); have GWq4 := Aside0.mk (bs_ hg (hb0_)); have GEq5 := GWq4; clear HB; have HB := nq2; clear nq2; clear hb hbox hg; obtain ⟨⟨czq6, fzq7⟩, ⟨czq8, fzq9⟩, ⟨czq10, fzq11⟩, ⟨czq12, fzq13⟩, ⟨czq14, fzq15⟩, ⟨czq16, fzq17⟩, ⟨czq18, fzq19⟩, ⟨czq20, fzq21⟩, ⟨czq22, fzq23⟩, ⟨czq24, fzq25⟩, ⟨czq26, fzq27⟩, ⟨czq28, fzq29⟩⟩ := bc12_ BKq3) | ((with_reducible refine gate_callee (f := 36) rfl ?_); refine goesL_ (some 8) rfl rfl Tryz.func36 (by kernel_rfl) rfl #[.slice A0_3 l0_3.length c0_3, .int .i64 a1] rfl (me_) ?_; (with_reducible refine (laws_szGoalS.calls k _ _ l0_3 a1 _ _ ?side1 ?side2 A3.out).mono ?_); (case side1 => repeat (first | exact (Kd.C_below HR0_3.out HB.out) | (with_reducible refine Kd.C_alloc ?_ _) | (with_reducible refine Kd.C_drewN ?_ _) | (with_reducible refine Kd.C_drew ?_))); (case side2 => exact HC0_3.out); rintro e wq30 ⟨rfl, hb⟩; refine ⟨_, rfl, ?_⟩; have nq2 := bb_ BKq3 hb; have nq31 := Aside0.mk (below_step (hb1_ GEq5) hb); clear BKq3; clear HB; have BKq3 := nq2; have HB := nq31; clear nq2 nq31; (try clear hb); (try clear hb2); (try clear hk); (try clear hi); (try (obtain ⟨⟨czq32, fzq33⟩, ⟨czq34, fzq35⟩, ⟨czq36, fzq37⟩, ⟨czq38, fzq39⟩, ⟨czq40, fzq41⟩, ⟨czq42, fzq43⟩, ⟨czq44, fzq45⟩, ⟨czq46, fzq47⟩, ⟨czq48, fzq49⟩, ⟨czq50, fzq51⟩, ⟨czq52, fzq53⟩, ⟨czq54, fzq55⟩⟩ := bc12_ BKq3))) | ((with_reducible refine gate_callee (f := 37) rfl ?_); refine goesL_ (some 14) rfl rfl Tryz.func37 (by kernel_rfl) rfl #[.agg #[.slice A0_4 l0_4.length c0_4, .int .i64 a0_5, .int .i64 a0_6, .slice A0_7 l0_7.length c0_7, .int .i64 a0_8, .int .i64 a0_9, .int .i64 a0_10, .int .i64 a0_11], .int .i64 t113] rfl (me_) ?_; (with_reducible refine (laws_szBehave.calls _ _ l0_4 a0_5 a0_6 _ _ l0_7 a0_8 a0_9 a0_10 a0_11 t113 _ _ ?side1 ?side2 ?side3 ?side4 A8.out).mono ?_); (case side1 => repeat (first | exact (Kd.C_below HR0_4.out HB.out) | (with_reducible refine Kd.C_alloc ?_ _) | (with_reducible refine Kd.C_drewN ?_ _) | (with_reducible refine Kd.C_drew ?_))); (case side2 => exact HC0_4.out); (case side3 => repeat (first | exact (Kd.C_below HR0_7.out HB.out) | (with_reducible refine Kd.C_alloc ?_ _) | (with_reducible refine Kd.C_drewN ?_ _) | (with_reducible refine Kd.C_drew ?_))); (case side4 => exact HC0_7.out); rintro e wq56 ⟨rfl, hb⟩; refine ⟨_, rfl, ?_⟩; have nq2 := bb_ BKq3 hb; have nq31 := Aside0.mk (below_step (hb1_ GEq5) hb); clear BKq3; clear HB; have BKq3 := nq2; have HB := nq31; clear nq2 nq31; (try clear hb); (try clear hb2); (try clear hk); (try clear hi)))
    go_ret
    exact ⟨re_, hb1_ GEq5⟩) : p := h
set_option maxHeartbeats 8000000 in
set_option maxRecDepth 100000 in
theorem laws_szSetup.calls (k : Nat) (a0_0 a0_1 a0_2 : Int) (A0_3 : Option Addr) (c0_3 : Nat) (l0_3 : List (S111)) (A0_4 : Option Addr) (c0_4 : Nat) (l0_4 : List (S155)) (a0_5 a0_6 : Int) (A0_7 : Option Addr) (c0_7 : Nat) (l0_7 : List (S155)) (a0_8 a0_9 a0_10 a0_11 a1 r : Int) (w : World) (hr0_3 : Kd.C k111 w A0_3 l0_3.length l0_3) (hc0_3 : l0_3.length ≤ c0_3) (hr0_4 : Kd.C k155 w A0_4 l0_4.length l0_4) (hc0_4 : l0_4.length ≤ c0_4) (hr0_7 : Kd.C k155 w A0_7 l0_7.length l0_7) (hc0_7 : l0_7.length ≤ c0_7) (h : laws_szSetup.f k a0_0 a0_1 a0_2 l0_3 l0_4 a0_5 a0_6 l0_7 a0_8 a0_9 a0_10 a0_11 a1 = some r) :
    Calls Tryz.prog 16 #[.agg #[.int .i64 a0_0, .int .i64 a0_1, .int .i64 a0_2, .slice A0_3 l0_3.length c0_3, .slice A0_4 l0_4.length c0_4, .int .i64 a0_5, .int .i64 a0_6, .slice A0_7 l0_7.length c0_7, .int .i64 a0_8, .int .i64 a0_9, .int .i64 a0_10, .int .i64 a0_11], .int .i64 a1] w fun e w' => e = .returned (.int .i64 r) ∧ Below w.heap.size w w' := by
  have hu32 := Tryz.underlying32
  have hu30 := Tryz.underlying30
  have HR0_3 := Aside0.mk hr0_3
  have HC0_3 := Aside0.mk hc0_3
  clear hr0_3 hc0_3
  have HR0_4 := Aside0.mk hr0_4
  have HC0_4 := Aside0.mk hc0_4
  clear hr0_4 hc0_4
  have HR0_7 := Aside0.mk hr0_7
  have HC0_7 := Aside0.mk hc0_7
  clear hr0_7 hc0_7
  have HB := Aside0.mk (Below.refl w.heap.size w)
  have H : ((laws_szGoalS.f k l0_3 a1).bind fun t113 => (if t113 < 0 then (some (-1)) else ((laws_szBehave.f l0_4 a0_5 a0_6 l0_7 a0_8 a0_9 a0_10 a0_11 t113).bind fun t114 => (if t114 < 0 then (some (-1)) else (some t114))))) = some r := h
  clear h
  replace H := Option.bind_eq_some_iff.mp H
  obtain ⟨t113, A30, H⟩ := H
  replace H : (if t113 < 0 then (some (-1)) else ((laws_szBehave.f l0_4 a0_5 a0_6 l0_7 a0_8 a0_9 a0_10 a0_11 t113).bind fun t114 => (if t114 < 0 then (some (-1)) else (some t114)))) = some r := H
  have A3 := Aside0.mk A30
  clear A30
  by_cases c4 : t113 < 0
  · rw [if_pos c4] at H
    have c4b0 : decide (t113 < 0) = true := decide_eq_true c4
    clear c4
    obtain rfl := Option.some.inj H
    exact laws_szSetup.t1_
  · rw [if_neg c4] at H
    have c4b0 : decide (t113 < 0) = false := decide_eq_false c4
    clear c4
    replace H := Option.bind_eq_some_iff.mp H
    obtain ⟨t114, A80, H⟩ := H
    replace H : (if t114 < 0 then (some (-1)) else (some t114)) = some r := H
    have A8 := Aside0.mk A80
    clear A80
    by_cases c9 : t114 < 0
    · rw [if_pos c9] at H
      have c9b0 : decide (t114 < 0) = true := decide_eq_true c9
      clear c9
      obtain rfl := Option.some.inj H
      exact laws_szSetup.t1_
    · rw [if_neg c9] at H
      have c9b0 : decide (t114 < 0) = false := decide_eq_false c9
      clear c9
      obtain rfl := Option.some.inj H
      exact laws_szSetup.t1_
def laws_szOp.f (k : Nat) (a0_0 a0_1 : Int) (a0_2 : ByteArray) (l0_3 : List (S83)) (a0_4 a0_5 a0_6 : Int) (l0_7 : List (S111)) (l0_8 : List (S155)) (a0_9 a0_10 : Int) (l0_11 : List (S155)) (a0_12 a0_13 a0_14 a0_15 a1 : Int) : Option (Int) := if (wrap64 (a1 - (a0_2.size : Int))) < 0 then (some (-1)) else ((laws_szPodS.f k l0_3 (wrap64 (a1 - (a0_2.size : Int)))).bind fun t116 => (if t116 < 0 then (some (-1)) else ((laws_szSetup.f k a0_4 a0_5 a0_6 l0_7 l0_8 a0_9 a0_10 l0_11 a0_12 a0_13 a0_14 a0_15 t116).bind fun t117 => (if t117 < 0 then (some (-1)) else (some t117)))))
theorem laws_szOp.t1_ {p : Prop} (h : p := by
    go_enter Tryz.func5, Tryz.ntmps5
    go_wp2_with (first | ((with_reducible refine gate_dst (N := 2) rfl ?_); refine box_event ?hg (N := 2) ?hd (cs := #[.int .i64 a0_0, .int .i64 a0_1, .string a0_2, .slice A0_3 l0_3.length c0_3, .int .i64 a0_4, .int .i64 a0_5, .int .i64 a0_6, .slice A0_7 l0_7.length c0_7, .slice A0_8 l0_8.length c0_8, .int .i64 a0_9, .int .i64 a0_10, .slice A0_11 l0_11.length c0_11, .int .i64 a0_12, .int .i64 a0_13, .int .i64 a0_14, .int .i64 a0_15]) (t := 34) ?hr ?_; (case hd => rfl); (case hg => rfl); (case hr => first | (go_simp; done) | (go_simp; rfl)); intro gbq0 hg wq1 hbox hb; have nq2 := Aside0.mk (below_step (hb0_) hb); have BKq3 := Aside0.mk (hbox); have GWq4 := Aside0.mk (bs_ hg (hb0_)); have GEq5 := GWq4; clear HB; have HB := nq2; clear nq2; clear hb hbox hg; obtain ⟨⟨czq6, fzq7⟩, ⟨czq8, fzq9⟩, ⟨czq10, fzq11⟩, ⟨czq12, fzq13⟩, ⟨czq14, fzq15⟩, ⟨czq16, fzq17⟩, ⟨czq18, fzq19⟩, ⟨czq20, fzq21⟩, ⟨czq22, fzq23⟩, ⟨czq24, fzq25⟩, ⟨czq26, fzq27⟩, ⟨czq28, fzq29⟩, ⟨czq30, fzq31⟩, ⟨czq32, fzq33⟩, ⟨czq34, fzq35⟩, ⟨czq36, fzq37⟩⟩ := bc16_ BKq3) | ((with_reducible refine gate_callee (f := 15) rfl ?_); refine goesL_ (some 15) rfl rfl Tryz.func15 (by kernel_rfl) rfl #[.slice A0_3 l0_3.length c0_3, .int .i64 (wrap64 (a1 - (a0_2.size : Int)))] rfl (me_) ?_; (with_reducible refine (laws_szPodS.calls k _ _ l0_3 (wrap64 (a1 - (a0_2.size : Int))) _ _ ?side1 ?side2 A6.out).mono ?_); (case side1 => repeat (first | exact (Kd.C_below HR0_3.out HB.out) | (with_reducible refine Kd.C_alloc ?_ _) | (with_reducible refine Kd.C_drewN ?_ _) | (with_reducible refine Kd.C_drew ?_))); (case side2 => exact HC0_3.out); rintro e wq38 ⟨rfl, hb⟩; refine ⟨_, rfl, ?_⟩; have nq2 := bb_ BKq3 hb; have nq39 := Aside0.mk (below_step (hb1_ GEq5) hb); clear BKq3; clear HB; have BKq3 := nq2; have HB := nq39; clear nq2 nq39; (try clear hb); (try clear hb2); (try clear hk); (try clear hi); (try (obtain ⟨⟨czq40, fzq41⟩, ⟨czq42, fzq43⟩, ⟨czq44, fzq45⟩, ⟨czq46, fzq47⟩, ⟨czq48, fzq49⟩, ⟨czq50, fzq51⟩, ⟨czq52, fzq53⟩, ⟨czq54, fzq55⟩, ⟨czq56, fzq57⟩, ⟨czq58, fzq59⟩, ⟨czq60, fzq61⟩, ⟨czq62, fzq63⟩, ⟨czq64, fzq65⟩, ⟨czq66, fzq67⟩, ⟨czq68, fzq69⟩, ⟨czq70, fzq71⟩⟩ := bc16_ BKq3))) | ((with_reducible refine gate_callee (f := 16) rfl ?_); refine goesL_ (some 21) rfl rfl Tryz.func16 (by kernel_rfl) rfl #[.agg #[.int .i64 a0_4, .int .i64 a0_5, .int .i64 a0_6, .slice A0_7 l0_7.length c0_7, .slice A0_8 l0_8.length c0_8, .int .i64 a0_9, .int .i64 a0_10, .slice A0_11 l0_11.length c0_11, .int .i64 a0_12, .int .i64 a0_13, .int .i64 a0_14, .int .i64 a0_15], .int .i64 t116] rfl (me_) ?_; (with_reducible refine (laws_szSetup.calls k a0_4 a0_5 a0_6 _ _ l0_7 _ _ l0_8 a0_9 a0_10 _ _ l0_11 a0_12 a0_13 a0_14 a0_15 t116 _ _ ?side1 ?side2 ?side3 ?side4 ?side5 ?side6 A11.out).mono ?_); (case side1 => repeat (first | exact (Kd.C_below HR0_7.out HB.out) | (with_reducible refine Kd.C_alloc ?_ _) | (with_reducible refine Kd.C_drewN ?_ _) | (with_reducible refine Kd.C_drew ?_))); (case side2 => exact HC0_7.out); (case side3 => repeat (first | exact (Kd.C_below HR0_8.out HB.out) | (with_reducible refine Kd.C_alloc ?_ _) | (with_reducible refine Kd.C_drewN ?_ _) | (with_reducible refine Kd.C_drew ?_))); (case side4 => exact HC0_8.out); (case side5 => repeat (first | exact (Kd.C_below HR0_11.out HB.out) | (with_reducible refine Kd.C_alloc ?_ _) | (with_reducible refine Kd.C_drewN ?_ _) | (with_reducible refine Kd.C_drew ?_))); (case side6 => exact HC0_11.out); rintro e wq72 ⟨rfl, hb⟩; refine ⟨_, rfl, ?_⟩; have nq2 := bb_ BKq3 hb; have nq39 := Aside0.mk (below_step (hb1_ GEq5) hb); clear BKq3; clear HB; have BKq3 := nq2; have HB := nq39; clear nq2 nq39; (try clear hb); (try clear hb2); (try clear hk); (try clear hi)))
    go_ret
    exact ⟨re_, hb1_ GEq5⟩) : p := h
set_option maxHeartbeats 8000000 in
set_option maxRecDepth 100000 in
theorem laws_szOp.calls (k : Nat) (a0_0 a0_1 : Int) (a0_2 : ByteArray) (A0_3 : Option Addr) (c0_3 : Nat) (l0_3 : List (S83)) (a0_4 a0_5 a0_6 : Int) (A0_7 : Option Addr) (c0_7 : Nat) (l0_7 : List (S111)) (A0_8 : Option Addr) (c0_8 : Nat) (l0_8 : List (S155)) (a0_9 a0_10 : Int) (A0_11 : Option Addr) (c0_11 : Nat) (l0_11 : List (S155)) (a0_12 a0_13 a0_14 a0_15 a1 r : Int) (w : World) (hr0_3 : Kd.C k83 w A0_3 l0_3.length l0_3) (hc0_3 : l0_3.length ≤ c0_3) (hr0_7 : Kd.C k111 w A0_7 l0_7.length l0_7) (hc0_7 : l0_7.length ≤ c0_7) (hr0_8 : Kd.C k155 w A0_8 l0_8.length l0_8) (hc0_8 : l0_8.length ≤ c0_8) (hr0_11 : Kd.C k155 w A0_11 l0_11.length l0_11) (hc0_11 : l0_11.length ≤ c0_11) (h : laws_szOp.f k a0_0 a0_1 a0_2 l0_3 a0_4 a0_5 a0_6 l0_7 l0_8 a0_9 a0_10 l0_11 a0_12 a0_13 a0_14 a0_15 a1 = some r) :
    Calls Tryz.prog 5 #[.agg #[.int .i64 a0_0, .int .i64 a0_1, .string a0_2, .slice A0_3 l0_3.length c0_3, .int .i64 a0_4, .int .i64 a0_5, .int .i64 a0_6, .slice A0_7 l0_7.length c0_7, .slice A0_8 l0_8.length c0_8, .int .i64 a0_9, .int .i64 a0_10, .slice A0_11 l0_11.length c0_11, .int .i64 a0_12, .int .i64 a0_13, .int .i64 a0_14, .int .i64 a0_15], .int .i64 a1] w fun e w' => e = .returned (.int .i64 r) ∧ Below w.heap.size w w' := by
  have hu34 := Tryz.underlying34
  have hu32 := Tryz.underlying32
  have HR0_3 := Aside0.mk hr0_3
  have HC0_3 := Aside0.mk hc0_3
  clear hr0_3 hc0_3
  have HR0_7 := Aside0.mk hr0_7
  have HC0_7 := Aside0.mk hc0_7
  clear hr0_7 hc0_7
  have HR0_8 := Aside0.mk hr0_8
  have HC0_8 := Aside0.mk hc0_8
  clear hr0_8 hc0_8
  have HR0_11 := Aside0.mk hr0_11
  have HC0_11 := Aside0.mk hc0_11
  clear hr0_11 hc0_11
  have HB := Aside0.mk (Below.refl w.heap.size w)
  have H : (if (wrap64 (a1 - (a0_2.size : Int))) < 0 then (some (-1)) else ((laws_szPodS.f k l0_3 (wrap64 (a1 - (a0_2.size : Int)))).bind fun t116 => (if t116 < 0 then (some (-1)) else ((laws_szSetup.f k a0_4 a0_5 a0_6 l0_7 l0_8 a0_9 a0_10 l0_11 a0_12 a0_13 a0_14 a0_15 t116).bind fun t117 => (if t117 < 0 then (some (-1)) else (some t117)))))) = some r := h
  clear h
  by_cases c3 : (wrap64 (a1 - (a0_2.size : Int))) < 0
  · rw [if_pos c3] at H
    have c3b0 : decide ((wrap64 (a1 - (a0_2.size : Int))) < 0) = true := decide_eq_true c3
    clear c3
    obtain rfl := Option.some.inj H
    exact laws_szOp.t1_
  · rw [if_neg c3] at H
    have c3b0 : decide ((wrap64 (a1 - (a0_2.size : Int))) < 0) = false := decide_eq_false c3
    clear c3
    replace H := Option.bind_eq_some_iff.mp H
    obtain ⟨t116, A60, H⟩ := H
    replace H : (if t116 < 0 then (some (-1)) else ((laws_szSetup.f k a0_4 a0_5 a0_6 l0_7 l0_8 a0_9 a0_10 l0_11 a0_12 a0_13 a0_14 a0_15 t116).bind fun t117 => (if t117 < 0 then (some (-1)) else (some t117)))) = some r := H
    have A6 := Aside0.mk A60
    clear A60
    by_cases c7 : t116 < 0
    · rw [if_pos c7] at H
      have c7b0 : decide (t116 < 0) = true := decide_eq_true c7
      clear c7
      obtain rfl := Option.some.inj H
      exact laws_szOp.t1_
    · rw [if_neg c7] at H
      have c7b0 : decide (t116 < 0) = false := decide_eq_false c7
      clear c7
      replace H := Option.bind_eq_some_iff.mp H
      obtain ⟨t117, A110, H⟩ := H
      replace H : (if t117 < 0 then (some (-1)) else (some t117)) = some r := H
      have A11 := Aside0.mk A110
      clear A110
      by_cases c12 : t117 < 0
      · rw [if_pos c12] at H
        have c12b0 : decide (t117 < 0) = true := decide_eq_true c12
        clear c12
        obtain rfl := Option.some.inj H
        exact laws_szOp.t1_
      · rw [if_neg c12] at H
        have c12b0 : decide (t117 < 0) = false := decide_eq_false c12
        clear c12
        obtain rfl := Option.some.inj H
        exact laws_szOp.t1_
end Go.Proofs.YtcjeblikejoogaaGreatDoor.PFnExactOpLine
