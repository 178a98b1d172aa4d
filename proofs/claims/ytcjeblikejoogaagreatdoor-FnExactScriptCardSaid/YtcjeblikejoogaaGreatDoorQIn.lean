-- OVER PRINTED WORDS: laid by this session's program; what this claim does not use is left out; Lean checks it.
import Derived.Test.YtcjeblikejoogaaGreatDoorQTy
namespace Go.Proofs.YtcjeblikejoogaaGreatDoor.PFnExactOpLine
open Go.RowKit Go.Proofs.YtcjeblikejoogaaGreatDoorW.PrintWords Go.Proofs.YtcjeblikejoogaaGreatDoorW.PrintLast Go.Proofs.YtcjeblikejoogaaGreatDoorW.PrintMore
attribute [local go_sem] max2_int min2_int max_two min_two max_three min_three max_four min_four
set_option linter.unusedVariables false
set_option linter.unusedSimpArgs false
attribute [local go_sem high] eqA39 eqA90 eqA118
def impl_Goal.l0 : Nat → List (S90) → List (S90) → Int → Int → Option (Bool)
  | 0, _, _, _, _ => none
  | k + 1, x0, x1, x12, x13 => if x13 < x12 then (if 0 ≤ x13 then (if x13 < (x0.length : Int) then (if x13 < (x1.length : Int) then (if (!((((rd_T90 x0 x13).f0).toList) == (((rd_T90 x1 x13).f0).toList)) || (!(((rd_T90 x0 x13).f1) == ((rd_T90 x1 x13).f1)) || (!(((rd_T90 x0 x13).f2) == ((rd_T90 x1 x13).f2))))) = true then (some false) else (impl_Goal.l0 k x0 x1 x12 (wrap64 (x13 + 1)))) else (none)) else (none)) else (none)) else (some true)
def impl_Goal.f (k : Nat) (l0 : List (S90)) (l1 : List (S90)) : Option (Bool) := if (l0.length : Int) = (l1.length : Int) then (impl_Goal.l0 k l0 l1 (l0.length : Int) 0) else (some false)
set_option maxHeartbeats 8000000 in
set_option maxRecDepth 100000 in
theorem impl_Goal.calls (k : Nat) (A0 : Option Addr) (c0 : Nat) (l0 : List (S90)) (A1 : Option Addr) (c1 : Nat) (l1 : List (S90)) (r : Bool) (w : World) (hr0 : Kd.C k90 w A0 l0.length l0) (hc0 : l0.length ≤ c0) (hr1 : Kd.C k90 w A1 l1.length l1) (hc1 : l1.length ≤ c1) (h : impl_Goal.f k l0 l1 = some r) :
    Calls Tryz.prog 58 #[.slice A0 l0.length c0, .slice A1 l1.length c1] w fun e w' => e = .returned (.bool r) ∧ Drawn0 w w' := by
  have hu90 := Tryz.underlying90
  have HR0 := Aside0.mk hr0
  have HC0 := Aside0.mk hc0
  clear hr0 hc0
  have HR1 := Aside0.mk hr1
  have HC1 := Aside0.mk hc1
  clear hr1 hc1
  have H : (if (l0.length : Int) = (l1.length : Int) then (impl_Goal.l0 k l0 l1 (l0.length : Int) 0) else (some false)) = some r := h
  clear h
  by_cases c3 : (l0.length : Int) = (l1.length : Int)
  · rw [if_pos c3] at H
    have c3b0 : ((l0.length : Int) == (l1.length : Int)) = true := beq_iff_eq.mpr c3
    have c3b1 : ((l0.length : Int) != (l1.length : Int)) = false := bne_eq_false_iff_eq.mpr c3
    have c3b2 : (l0.length == l1.length) = true := by first | simpa using c3 | (simp at c3 ⊢; omega)
    clear c3
    have H' := Aside0.mk H
    clear H
    go_enter Tryz.func58, Tryz.ntmps58
    go_wp2
    repeat (go_quiet (fail); try go_wp2)
    go_loopg [13] k (fun kq v13 w' => ∃ (x13_1 : Int), v13 = .int .i64 x13_1 ∧ Aside0 (impl_Goal.l0 kq l0 l1 (l0.length : Int) x13_1 = some r) ∧ Aside0 (kq ≤ k) ∧ Drawn0 w w')
    case atStart => exact ⟨(0), (rs_), H', ⟨Nat.le_refl _⟩, by repeat (first | exact Drawn0.refl _ | apply Drawn0.step)⟩
    case round =>
      clear H'
      try clear c1
      try clear p2
      try clear c3
      try clear c3b0
      try clear c3b1
      try clear c3b2
      obtain ⟨x13_1, rfl, HA, HK1, ⟨m1, rfl⟩⟩ := hrel
      cases gk with
      | zero => exact absurd HA.out (by simp [impl_Goal.l0])
      | succ k1 =>
        have H := HA.out
        clear HA
        simp only [impl_Goal.l0] at H
        by_cases c4 : x13_1 < (l0.length : Int)
        · rw [if_pos c4] at H
          have c4b0 : decide (x13_1 < (l0.length : Int)) = true := decide_eq_true c4
          clear c4
          by_cases c5 : 0 ≤ x13_1
          · rw [if_pos c5] at H
            have c5b0 : decide (0 ≤ x13_1) = true := decide_eq_true c5
            clear c5
            by_cases c6 : x13_1 < (l0.length : Int)
            · rw [if_pos c6] at H
              have c6b0 : decide (x13_1 < (l0.length : Int)) = true := decide_eq_true c6
              clear c6
              by_cases c7 : x13_1 < (l1.length : Int)
              · rw [if_pos c7] at H
                have c7b0 : decide (x13_1 < (l1.length : Int)) = true := decide_eq_true c7
                clear c7
                by_cases c8 : (!((((rd_T90 l0 x13_1).f0).toList) == (((rd_T90 l1 x13_1).f0).toList)) || (!(((rd_T90 l0 x13_1).f1) == ((rd_T90 l1 x13_1).f1)) || (!(((rd_T90 l0 x13_1).f2) == ((rd_T90 l1 x13_1).f2))))) = true
                · rw [if_pos c8] at H
                  have c8b0 : (!((((rd_T90 l0 x13_1).f0).toList) == (((rd_T90 l1 x13_1).f0).toList)) || (!(((rd_T90 l0 x13_1).f1) == ((rd_T90 l1 x13_1).f1)) || (!(((rd_T90 l0 x13_1).f2) == ((rd_T90 l1 x13_1).f2))))) = true := c8
                  clear c8
                  obtain rfl := Option.some.inj H
                  have p591 : 0 ≤ (x13_1 : Int) := of_decide_eq_true as_
                  have q591 : x13_1 < (l0.length : Int) := of_decide_eq_true as_
                  obtain ⟨ad591, e591, hx591_0, hx591_1, hx591_2⟩ := at_T90 HR0.out x13_1 p591 q591
                  cases e591
                  replace p591 := eq_true p591
                  replace q591 := eq_true q591
                  have p592 : 0 ≤ (x13_1 : Int) := of_decide_eq_true as_
                  have q592 : x13_1 < (l1.length : Int) := of_decide_eq_true as_
                  obtain ⟨ad592, e592, hx592_0, hx592_1, hx592_2⟩ := at_T90 HR1.out x13_1 p592 q592
                  cases e592
                  replace p592 := eq_true p592
                  replace q592 := eq_true q592
                  go_wp2
                  repeat (go_quiet (fail); try go_wp2)
                  go_ret
                  exact ⟨rs_, by repeat (first | exact Drawn0.refl _ | apply Drawn0.step)⟩
                · rw [if_neg c8] at H
                  have c8b0 : (!((((rd_T90 l0 x13_1).f0).toList) == (((rd_T90 l1 x13_1).f0).toList)) || (!(((rd_T90 l0 x13_1).f1) == ((rd_T90 l1 x13_1).f1)) || (!(((rd_T90 l0 x13_1).f2) == ((rd_T90 l1 x13_1).f2))))) = false := by simpa using c8
                  clear c8
                  have H' := Aside0.mk H
                  clear H
                  have p591 : 0 ≤ (x13_1 : Int) := of_decide_eq_true as_
                  have q591 : x13_1 < (l0.length : Int) := of_decide_eq_true as_
                  obtain ⟨ad591, e591, hx591_0, hx591_1, hx591_2⟩ := at_T90 HR0.out x13_1 p591 q591
                  cases e591
                  replace p591 := eq_true p591
                  replace q591 := eq_true q591
                  have p592 : 0 ≤ (x13_1 : Int) := of_decide_eq_true as_
                  have q592 : x13_1 < (l1.length : Int) := of_decide_eq_true as_
                  obtain ⟨ad592, e592, hx592_0, hx592_1, hx592_2⟩ := at_T90 HR1.out x13_1 p592 q592
                  cases e592
                  replace p592 := eq_true p592
                  replace q592 := eq_true q592
                  go_wp2
                  repeat (go_quiet (fail); try go_wp2)
                  go_roundg k1
                  case measure => have := HK1.out; omega
                  case rel => exact ⟨(wrap64 (x13_1 + 1)), (rs_), H', ⟨by have := HK1.out; omega⟩, by repeat (first | exact Drawn0.refl _ | apply Drawn0.step)⟩
              · rw [if_neg c7] at H
                exact absurd H (by simp)
            · rw [if_neg c6] at H
              exact absurd H (by simp)
          · rw [if_neg c5] at H
            exact absurd H (by simp)
        · rw [if_neg c4] at H
          have c4b0 : decide (x13_1 < (l0.length : Int)) = false := decide_eq_false c4
          clear c4
          obtain rfl := Option.some.inj H
          go_wp2
          repeat (go_quiet (fail); try go_wp2)
          go_ret
          exact ⟨rs_, by repeat (first | exact Drawn0.refl _ | apply Drawn0.step)⟩
  · rw [if_neg c3] at H
    have c3b0 : ((l0.length : Int) == (l1.length : Int)) = false := beq_eq_false_iff_ne.mpr c3
    have c3b1 : ((l0.length : Int) != (l1.length : Int)) = true := bne_iff_ne.mpr c3
    have c3b2 : (l0.length == l1.length) = false := by first | simpa using c3 | (simp at c3 ⊢; omega)
    obtain rfl := Option.some.inj H
    go_enter Tryz.func58, Tryz.ntmps58
    go_wp2
    repeat (go_quiet (fail); try go_wp2)
    go_ret
    exact ⟨rs_, by repeat (first | exact Drawn0.refl _ | apply Drawn0.step)⟩
def impl_Policy.l0 : Nat → List (S118) → List (S118) → Int → Int → Option (Bool)
  | 0, _, _, _, _ => none
  | k + 1, x0, x1, x12, x13 => if x13 < x12 then (if 0 ≤ x13 then (if x13 < (x0.length : Int) then (if x13 < (x1.length : Int) then (if (!(((rd_T118 x0 x13).f0) == ((rd_T118 x1 x13).f0)) || (!(((rd_T118 x0 x13).f1) == ((rd_T118 x1 x13).f1)) || (!(((rd_T118 x0 x13).f2) == ((rd_T118 x1 x13).f2))))) = true then (some false) else (impl_Policy.l0 k x0 x1 x12 (wrap64 (x13 + 1)))) else (none)) else (none)) else (none)) else (some true)
def impl_Policy.f (k : Nat) (l0 : List (S118)) (l1 : List (S118)) : Option (Bool) := if (l0.length : Int) = (l1.length : Int) then (impl_Policy.l0 k l0 l1 (l0.length : Int) 0) else (some false)
set_option maxHeartbeats 8000000 in
set_option maxRecDepth 100000 in
theorem impl_Policy.calls (k : Nat) (A0 : Option Addr) (c0 : Nat) (l0 : List (S118)) (A1 : Option Addr) (c1 : Nat) (l1 : List (S118)) (r : Bool) (w : World) (hr0 : Kd.C k118 w A0 l0.length l0) (hc0 : l0.length ≤ c0) (hr1 : Kd.C k118 w A1 l1.length l1) (hc1 : l1.length ≤ c1) (h : impl_Policy.f k l0 l1 = some r) :
    Calls Tryz.prog 95 #[.slice A0 l0.length c0, .slice A1 l1.length c1] w fun e w' => e = .returned (.bool r) ∧ Drawn0 w w' := by
  have hu118 := Tryz.underlying118
  have HR0 := Aside0.mk hr0
  have HC0 := Aside0.mk hc0
  clear hr0 hc0
  have HR1 := Aside0.mk hr1
  have HC1 := Aside0.mk hc1
  clear hr1 hc1
  have H : (if (l0.length : Int) = (l1.length : Int) then (impl_Policy.l0 k l0 l1 (l0.length : Int) 0) else (some false)) = some r := h
  clear h
  by_cases c3 : (l0.length : Int) = (l1.length : Int)
  · rw [if_pos c3] at H
    have c3b0 : ((l0.length : Int) == (l1.length : Int)) = true := beq_iff_eq.mpr c3
    have c3b1 : ((l0.length : Int) != (l1.length : Int)) = false := bne_eq_false_iff_eq.mpr c3
    have c3b2 : (l0.length == l1.length) = true := by first | simpa using c3 | (simp at c3 ⊢; omega)
    clear c3
    have H' := Aside0.mk H
    clear H
    go_enter Tryz.func95, Tryz.ntmps95
    go_wp2
    repeat (go_quiet (fail); try go_wp2)
    go_loopg [13] k (fun kq v13 w' => ∃ (x13_1 : Int), v13 = .int .i64 x13_1 ∧ Aside0 (impl_Policy.l0 kq l0 l1 (l0.length : Int) x13_1 = some r) ∧ Aside0 (kq ≤ k) ∧ Drawn0 w w')
    case atStart => exact ⟨(0), (rs_), H', ⟨Nat.le_refl _⟩, by repeat (first | exact Drawn0.refl _ | apply Drawn0.step)⟩
    case round =>
      clear H'
      try clear c1
      try clear p2
      try clear c3
      try clear c3b0
      try clear c3b1
      try clear c3b2
      obtain ⟨x13_1, rfl, HA, HK1, ⟨m1, rfl⟩⟩ := hrel
      cases gk with
      | zero => exact absurd HA.out (by simp [impl_Policy.l0])
      | succ k1 =>
        have H := HA.out
        clear HA
        simp only [impl_Policy.l0] at H
        by_cases c4 : x13_1 < (l0.length : Int)
        · rw [if_pos c4] at H
          have c4b0 : decide (x13_1 < (l0.length : Int)) = true := decide_eq_true c4
          clear c4
          by_cases c5 : 0 ≤ x13_1
          · rw [if_pos c5] at H
            have c5b0 : decide (0 ≤ x13_1) = true := decide_eq_true c5
            clear c5
            by_cases c6 : x13_1 < (l0.length : Int)
            · rw [if_pos c6] at H
              have c6b0 : decide (x13_1 < (l0.length : Int)) = true := decide_eq_true c6
              clear c6
              by_cases c7 : x13_1 < (l1.length : Int)
              · rw [if_pos c7] at H
                have c7b0 : decide (x13_1 < (l1.length : Int)) = true := decide_eq_true c7
                clear c7
                by_cases c8 : (!(((rd_T118 l0 x13_1).f0) == ((rd_T118 l1 x13_1).f0)) || (!(((rd_T118 l0 x13_1).f1) == ((rd_T118 l1 x13_1).f1)) || (!(((rd_T118 l0 x13_1).f2) == ((rd_T118 l1 x13_1).f2))))) = true
                · rw [if_pos c8] at H
                  have c8b0 : (!(((rd_T118 l0 x13_1).f0) == ((rd_T118 l1 x13_1).f0)) || (!(((rd_T118 l0 x13_1).f1) == ((rd_T118 l1 x13_1).f1)) || (!(((rd_T118 l0 x13_1).f2) == ((rd_T118 l1 x13_1).f2))))) = true := c8
                  clear c8
                  obtain rfl := Option.some.inj H
                  have p593 : 0 ≤ (x13_1 : Int) := of_decide_eq_true as_
                  have q593 : x13_1 < (l0.length : Int) := of_decide_eq_true as_
                  obtain ⟨ad593, e593, hx593_0, hx593_1, hx593_2⟩ := at_T118 HR0.out x13_1 p593 q593
                  cases e593
                  replace p593 := eq_true p593
                  replace q593 := eq_true q593
                  have p594 : 0 ≤ (x13_1 : Int) := of_decide_eq_true as_
                  have q594 : x13_1 < (l1.length : Int) := of_decide_eq_true as_
                  obtain ⟨ad594, e594, hx594_0, hx594_1, hx594_2⟩ := at_T118 HR1.out x13_1 p594 q594
                  cases e594
                  replace p594 := eq_true p594
                  replace q594 := eq_true q594
                  go_wp2
                  repeat (go_quiet (fail); try go_wp2)
                  go_ret
                  exact ⟨rs_, by repeat (first | exact Drawn0.refl _ | apply Drawn0.step)⟩
                · rw [if_neg c8] at H
                  have c8b0 : (!(((rd_T118 l0 x13_1).f0) == ((rd_T118 l1 x13_1).f0)) || (!(((rd_T118 l0 x13_1).f1) == ((rd_T118 l1 x13_1).f1)) || (!(((rd_T118 l0 x13_1).f2) == ((rd_T118 l1 x13_1).f2))))) = false := by simpa using c8
                  clear c8
                  have H' := Aside0.mk H
                  clear H
                  have p593 : 0 ≤ (x13_1 : Int) := of_decide_eq_true as_
                  have q593 : x13_1 < (l0.length : Int) := of_decide_eq_true as_
                  obtain ⟨ad593, e593, hx593_0, hx593_1, hx593_2⟩ := at_T118 HR0.out x13_1 p593 q593
                  cases e593
                  replace p593 := eq_true p593
                  replace q593 := eq_true q593
                  have p594 : 0 ≤ (x13_1 : Int) := of_decide_eq_true as_
                  have q594 : x13_1 < (l1.length : Int) := of_decide_eq_true as_
                  obtain ⟨ad594, e594, hx594_0, hx594_1, hx594_2⟩ := at_T118 HR1.out x13_1 p594 q594
                  cases e594
                  replace p594 := eq_true p594
                  replace q594 := eq_true q594
                  go_wp2
                  repeat (go_quiet (fail); try go_wp2)
                  go_roundg k1
                  case measure => have := HK1.out; omega
                  case rel => exact ⟨(wrap64 (x13_1 + 1)), (rs_), H', ⟨by have := HK1.out; omega⟩, by repeat (first | exact Drawn0.refl _ | apply Drawn0.step)⟩
              · rw [if_neg c7] at H
                exact absurd H (by simp)
            · rw [if_neg c6] at H
              exact absurd H (by simp)
          · rw [if_neg c5] at H
            exact absurd H (by simp)
        · rw [if_neg c4] at H
          have c4b0 : decide (x13_1 < (l0.length : Int)) = false := decide_eq_false c4
          clear c4
          obtain rfl := Option.some.inj H
          go_wp2
          repeat (go_quiet (fail); try go_wp2)
          go_ret
          exact ⟨rs_, by repeat (first | exact Drawn0.refl _ | apply Drawn0.step)⟩
  · rw [if_neg c3] at H
    have c3b0 : ((l0.length : Int) == (l1.length : Int)) = false := beq_eq_false_iff_ne.mpr c3
    have c3b1 : ((l0.length : Int) != (l1.length : Int)) = true := bne_iff_ne.mpr c3
    have c3b2 : (l0.length == l1.length) = false := by first | simpa using c3 | (simp at c3 ⊢; omega)
    obtain rfl := Option.some.inj H
    go_enter Tryz.func95, Tryz.ntmps95
    go_wp2
    repeat (go_quiet (fail); try go_wp2)
    go_ret
    exact ⟨rs_, by repeat (first | exact Drawn0.refl _ | apply Drawn0.step)⟩
def impl_sameSide.f (k : Nat) (l0_0 : List (S118)) (a0_1 a0_2 : Int) (l1_0 : List (S118)) (a1_1 a1_2 : Int) : Option (Bool) := if a0_1 = a1_1 then (if a0_2 = a1_2 then ((impl_Policy.f k l0_0 l1_0).bind fun t597 => (some t597)) else (some false)) else (some false)
theorem impl_sameSide.t1_ {p : Prop} (h : p := by
    go_enter Tryz.func59, Tryz.ntmps59
    go_wp2_with (first | ((with_reducible refine gate_dst (N := 2) rfl ?_); refine box_event ?hg (N := 2) ?hd (cs := #[.slice A0_0 l0_0.length c0_0, .int .i64 a0_1, .int .i64 a0_2]) (t := 43) ?hr ?_; (case hd => rfl); (case hg => rfl); (case hr => first | (go_simp; done) | (go_simp; rfl)); intro gbq0 hg wq1 hbox hb; have nq2 := Aside0.mk (below_step (hb0_) hb); have BKq3 := Aside0.mk (hbox); have GWq4 := Aside0.mk (bs_ hg (hb0_)); have GEq5 := GWq4; clear HB; have HB := nq2; clear nq2; clear hb hbox hg) | ((with_reducible refine gate_dst (N := 3) rfl ?_); refine box_event ?hg (N := 3) ?hd (cs := #[.slice A1_0 l1_0.length c1_0, .int .i64 a1_1, .int .i64 a1_2]) (t := 43) ?hr ?_; (case hd => rfl); (case hg => rfl); (case hr => first | (go_simp; done) | (go_simp; rfl)); intro gbq6 hg wq7 hbox hb; have nq2 := bb_ BKq3 hb; have nq8 := Aside0.mk (below_step (hb1_ GEq5) hb); have BKq9 := Aside0.mk (hbox); have GWq10 := Aside0.mk (bs_ hg (hb1_ GEq5)); have GEq11 := GWq10; have NBq12 := Aside0.mk ((by rw [hg]; exact Nat.ne_of_lt (blk_lt (g := gbq0) (o := .cells #[.slice A0_0 l0_0.length c0_0, .int .i64 a0_1, .int .i64 a0_2] 43 (0, 0)) (bk_ BKq3)) : gbq0 ≠ gbq6)); have NBq13 := Aside0.mk ((by rw [hg]; exact Nat.ne_of_gt (blk_lt (g := gbq0) (o := .cells #[.slice A0_0 l0_0.length c0_0, .int .i64 a0_1, .int .i64 a0_2] 43 (0, 0)) (bk_ BKq3)) : gbq6 ≠ gbq0)); clear BKq3; clear HB; have BKq3 := nq2; have HB := nq8; clear nq2 nq8; clear hb hbox hg; have hnbq14 := NBq12.out; have hncq15 := NBq13.out; obtain ⟨⟨czq16, fzq17⟩, ⟨czq18, fzq19⟩, ⟨czq20, fzq21⟩⟩ := bc3_ BKq3; obtain ⟨czq22, fzq23⟩ := bc_ BKq9 0; obtain ⟨czq24, fzq25⟩ := bc_ BKq9 1; obtain ⟨czq26, fzq27⟩ := bc_ BKq9 2) | (go_at_call 95; (with_reducible refine (impl_Policy.calls k _ _ l0_0 _ _ l1_0 _ _ ?side1 ?side2 ?side3 ?side4 A5.out).mono ?_); (case side1 => repeat (first | exact (Kd.C_below HR0_0.out HB.out) | (with_reducible refine Kd.C_alloc ?_ _) | (with_reducible refine Kd.C_drewN ?_ _) | (with_reducible refine Kd.C_drew ?_))); (case side2 => exact HC0_0.out); (case side3 => repeat (first | exact (Kd.C_below HR1_0.out HB.out) | (with_reducible refine Kd.C_alloc ?_ _) | (with_reducible refine Kd.C_drewN ?_ _) | (with_reducible refine Kd.C_drew ?_))); (case side4 => exact HC1_0.out); rintro e w' ⟨rfl, ⟨nd, rfl⟩⟩))
    go_ret
    exact ⟨re_, hb2_ GEq5 GEq11⟩) : p := h
set_option maxHeartbeats 8000000 in
set_option maxRecDepth 100000 in
theorem impl_sameSide.calls (k : Nat) (A0_0 : Option Addr) (c0_0 : Nat) (l0_0 : List (S118)) (a0_1 a0_2 : Int) (A1_0 : Option Addr) (c1_0 : Nat) (l1_0 : List (S118)) (a1_1 a1_2 : Int) (r : Bool) (w : World) (hr0_0 : Kd.C k118 w A0_0 l0_0.length l0_0) (hc0_0 : l0_0.length ≤ c0_0) (hr1_0 : Kd.C k118 w A1_0 l1_0.length l1_0) (hc1_0 : l1_0.length ≤ c1_0) (h : impl_sameSide.f k l0_0 a0_1 a0_2 l1_0 a1_1 a1_2 = some r) :
    Calls Tryz.prog 59 #[.agg #[.slice A0_0 l0_0.length c0_0, .int .i64 a0_1, .int .i64 a0_2], .agg #[.slice A1_0 l1_0.length c1_0, .int .i64 a1_1, .int .i64 a1_2]] w fun e w' => e = .returned (.bool r) ∧ Below w.heap.size w w' := by
  have hu43 := Tryz.underlying43
  have HR0_0 := Aside0.mk hr0_0
  have HC0_0 := Aside0.mk hc0_0
  clear hr0_0 hc0_0
  have HR1_0 := Aside0.mk hr1_0
  have HC1_0 := Aside0.mk hc1_0
  clear hr1_0 hc1_0
  have HB := Aside0.mk (Below.refl w.heap.size w)
  have H : (if a0_1 = a1_1 then (if a0_2 = a1_2 then ((impl_Policy.f k l0_0 l1_0).bind fun t597 => (some t597)) else (some false)) else (some false)) = some r := h
  clear h
  by_cases c3 : a0_1 = a1_1
  · rw [if_pos c3] at H
    have c3b0 : (a0_1 == a1_1) = true := beq_iff_eq.mpr c3
    have c3b1 : (a0_1 != a1_1) = false := bne_eq_false_iff_eq.mpr c3
    clear c3
    by_cases c4 : a0_2 = a1_2
    · rw [if_pos c4] at H
      have c4b0 : (a0_2 == a1_2) = true := beq_iff_eq.mpr c4
      have c4b1 : (a0_2 != a1_2) = false := bne_eq_false_iff_eq.mpr c4
      clear c4
      replace H := Option.bind_eq_some_iff.mp H
      obtain ⟨t597, A50, H⟩ := H
      replace H : (some t597) = some r := H
      have A5 := Aside0.mk A50
      clear A50
      obtain rfl := Option.some.inj H
      exact impl_sameSide.t1_
    · rw [if_neg c4] at H
      have c4b0 : (a0_2 == a1_2) = false := beq_eq_false_iff_ne.mpr c4
      have c4b1 : (a0_2 != a1_2) = true := bne_iff_ne.mpr c4
      obtain rfl := Option.some.inj H
      exact impl_sameSide.t1_
  · rw [if_neg c3] at H
    have c3b0 : (a0_1 == a1_1) = false := beq_eq_false_iff_ne.mpr c3
    have c3b1 : (a0_1 != a1_1) = true := bne_iff_ne.mpr c3
    obtain rfl := Option.some.inj H
    exact impl_sameSide.t1_
end Go.Proofs.YtcjeblikejoogaaGreatDoor.PFnExactOpLine
