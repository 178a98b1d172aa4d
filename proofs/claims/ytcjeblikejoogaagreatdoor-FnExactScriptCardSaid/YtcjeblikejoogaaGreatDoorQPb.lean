-- OVER PRINTED WORDS: laid by this session's program; what this claim does not use is left out; Lean checks it.
import Derived.Test.YtcjeblikejoogaaGreatDoorQTy
import Derived.Test.YtcjeblikejoogaaGreatDoorQSq
namespace Go.Proofs.YtcjeblikejoogaaGreatDoor.PFnExactOpLine
open Go.RowKit Go.Proofs.YtcjeblikejoogaaGreatDoorW.PrintWords Go.Proofs.YtcjeblikejoogaaGreatDoorW.PrintLast Go.Proofs.YtcjeblikejoogaaGreatDoorW.PrintMore
attribute [local go_sem] max2_int min2_int max_two min_two max_three min_three max_four min_four
set_option linter.unusedVariables false
set_option linter.unusedSimpArgs false
mutual
def spec_ParseMilli.l0 : Nat → ByteArray → Int → Int → Int → Option (Int × Bool)
  | 0, _, _, _, _ => none
  | k + 1, x0, x4, x5, x6 => if x6 < (x0.size : Int) then (if 0 ≤ x6 then (if (bt x0 x6) = 45 then (spec_ParseMilli.j1 k x0 x4 x5 x6 (x6 == 0)) else (spec_ParseMilli.j1 k x0 x4 x5 x6 false)) else (none)) else (if x5 ≥ 0 then (spec_ParseMilli.j3 k x0 x4 (wrap64 ((wrap64 ((x0.size : Int) - x5)) - 1))) else (spec_ParseMilli.j3 k x0 x4 0))
def spec_ParseMilli.j1 : Nat → ByteArray → Int → Int → Int → Bool → Option (Int × Bool)
  | 0, _, _, _, _, _ => none
  | k + 1, x0, x4, x5, x6, x17 => if x17 = true then (spec_ParseMilli.l0 k x0 x4 x5 (wrap64 (x6 + 1))) else (if 0 ≤ x6 then (if x6 < (x0.size : Int) then (if (bt x0 x6) = 46 then (spec_ParseMilli.j2 k x0 x4 x5 x6 (decide (x5 < 0))) else (spec_ParseMilli.j2 k x0 x4 x5 x6 false)) else (none)) else (none))
def spec_ParseMilli.j2 : Nat → ByteArray → Int → Int → Int → Bool → Option (Int × Bool)
  | 0, _, _, _, _, _ => none
  | k + 1, x0, x4, x5, x6, x26 => if x26 = true then (spec_ParseMilli.l0 k x0 x4 x6 (wrap64 (x6 + 1))) else (if 0 ≤ x6 then (if x6 < (x0.size : Int) then (if (bt x0 x6) ≥ 48 then (if (bt x0 x6) ≤ 57 then (spec_ParseMilli.l0 k x0 (wrap64 ((wrap64 ((wrap64 (10 * x4)) + (wrap64 (bt x0 x6)))) - 48)) x5 (wrap64 (x6 + 1))) else (none)) else (none)) else (none)) else (none))
def spec_ParseMilli.j3 : Nat → ByteArray → Int → Int → Option (Int × Bool)
  | 0, _, _, _ => none
  | k + 1, x0, x4, x7 => if x7 > 3 then (none) else (spec_ParseMilli.l1 k x0 x4 x7)
def spec_ParseMilli.l1 : Nat → ByteArray → Int → Int → Option (Int × Bool)
  | 0, _, _, _ => none
  | k + 1, x0, x4, x7 => if x7 < 3 then (spec_ParseMilli.l1 k x0 (wrap64 (10 * x4)) (wrap64 (x7 + 1))) else (if (x0.size : Int) > 0 then (if 0 < (x0.size : Int) then (spec_ParseMilli.j5 k x0 x4 ((bt x0 0) == 45)) else (none)) else (spec_ParseMilli.j5 k x0 x4 false))
def spec_ParseMilli.j5 : Nat → ByteArray → Int → Bool → Option (Int × Bool)
  | 0, _, _, _ => none
  | k + 1, x0, x4, x77 => if x77 = true then ((spec_MilliText.f k (wrap64 (-x4))).bind fun t263 => (if t263.toList = x0.toList then (if x0.toList = ([] : List UInt8) then (none) else (some (wrap64 (-x4), true))) else (none))) else ((spec_MilliText.f k x4).bind fun t264 => (if t264.toList = x0.toList then (if x0.toList = ([] : List UInt8) then (none) else (some (x4, true))) else (none)))
end
def spec_ParseMilli.f (k : Nat) (a0 : ByteArray) : Option (Int × Bool) := if (a0.size : Int) > 13 then (none) else (spec_ParseMilli.l0 k a0 0 (-1) 0)
set_option maxHeartbeats 8000000 in
set_option maxRecDepth 100000 in
theorem spec_ParseMilli.calls (k : Nat) (a0 : ByteArray) (r1 : Int) (r2 : Bool) (w : World) (h : spec_ParseMilli.f k a0 = some (r1, r2)) :
    Calls Tryz.prog 102 #[.string a0] w fun e w' => e = .returned (.tuple #[.int .i64 r1, .bool r2]) ∧ Below w.heap.size w w' := by
  have HB := Aside0.mk (Below.refl w.heap.size w)
  have H : (if (a0.size : Int) > 13 then (none) else (spec_ParseMilli.l0 k a0 0 (-1) 0)) = some (r1, r2) := h
  clear h
  by_cases c2 : (a0.size : Int) > 13
  · rw [if_pos c2] at H
    exact absurd H (by simp)
  · rw [if_neg c2] at H
    have c2b0 : decide (13 < (a0.size : Int)) = false := decide_eq_false c2
    have c2b1 : decide (13 < a0.size) = false := decide_eq_false (by omega)
    clear c2
    have H' := Aside0.mk H
    clear H
    go_enter Tryz.func102, Tryz.ntmps102
    go_wp2
    go_loopg [4, 5, 6] k (fun kq v4 v5 v6 w' => ∃ (x4_1 x5_1 x6_1 : Int), v4 = .int .i64 x4_1 ∧ v5 = .int .i64 x5_1 ∧ v6 = .int .i64 x6_1 ∧ Aside0 (spec_ParseMilli.l0 kq a0 x4_1 x5_1 x6_1 = some (r1, r2)) ∧ Aside0 (kq ≤ k) ∧ Aside0 (Below w.heap.size w w'))
    case atStart => exact ⟨(0), ((-1)), (0), (rs_), (rs_), (rs_), H', ⟨Nat.le_refl _⟩, ⟨hb0_⟩⟩
    case round =>
      clear H'
      try clear c1
      try clear c2
      try clear c2b0
      try clear c2b1
      try clear p2
      obtain ⟨x4_1, x5_1, x6_1, rfl, rfl, rfl, HA, HK1, HB⟩ := hrel
      cases gk with
      | zero => exact absurd HA.out (by simp [spec_ParseMilli.l0])
      | succ k1 =>
        have H := HA.out
        clear HA
        simp only [spec_ParseMilli.l0] at H
        by_cases c3 : x6_1 < (a0.size : Int)
        · rw [if_pos c3] at H
          have c3b0 : decide (x6_1 < (a0.size : Int)) = true := decide_eq_true c3
          clear c3
          have HC4 := Aside0.mk H
          clear H
          go_upto_region 9 with (fail)
          go_cut [17] (fun v17 wc => ∃ (kq : Nat) (x17_3 : Bool), v17 = .bool x17_3 ∧ Aside0 (spec_ParseMilli.j1 kq a0 x4_1 x5_1 x6_1 x17_3 = some (r1, r2)) ∧ Aside0 (kq ≤ k1) ∧ Aside0 (Below w.heap.size w wc))
          case first =>
            have H := HC4.out
            clear HC4
            by_cases c5 : 0 ≤ x6_1
            · rw [if_pos c5] at H
              have c5b0 : decide (0 ≤ x6_1) = true := decide_eq_true c5
              clear c5
              (first | rw [c5b0] | (simp only [i64_w, i32_w]; rw [c5b0]) | skip)
              by_cases c7 : (bt a0 x6_1) = 45
              · rw [if_pos c7] at H
                have c7b0 : ((bt a0 x6_1) == 45) = true := beq_iff_eq.mpr c7
                have c7b1 : ((bt a0 x6_1) != 45) = false := bne_eq_false_iff_eq.mpr c7
                clear c7
                have H' := Aside0.mk H
                clear H
                have p6 : 0 ≤ (x6_1 : Int) := of_decide_eq_true as_
                have q6 : x6_1 < (a0.size : Int) := of_decide_eq_true as_
                have hx6 := bt_at a0 x6_1
                replace p6 := eq_true p6
                replace q6 := eq_true q6
                go_wp2
                go_meet
                case rel => exact ⟨_, ((x6_1 == 0)), (rs_), H', ⟨by have := HK1.out; first | omega | exact Nat.le_refl _⟩, ⟨hb0_⟩⟩
              · rw [if_neg c7] at H
                have c7b0 : ((bt a0 x6_1) == 45) = false := beq_eq_false_iff_ne.mpr c7
                have c7b1 : ((bt a0 x6_1) != 45) = true := bne_iff_ne.mpr c7
                have H' := Aside0.mk H
                clear H
                have p6 : 0 ≤ (x6_1 : Int) := of_decide_eq_true as_
                have q6 : x6_1 < (a0.size : Int) := of_decide_eq_true as_
                have hx6 := bt_at a0 x6_1
                replace p6 := eq_true p6
                replace q6 := eq_true q6
                go_wp2
                go_meet
                case rel => exact ⟨_, (false), (rs_), H', ⟨by have := HK1.out; first | omega | exact Nat.le_refl _⟩, ⟨hb0_⟩⟩
            · rw [if_neg c5] at H
              exact absurd H (by simp)
          case rest =>
            clear HC4
            try clear c1
            try clear c2
            try clear c2b0
            try clear c2b1
            try clear p2
            try clear c3
            try clear c3b0
            try clear c5
            try clear c5b0
            try clear p6
            try clear q6
            try clear hx6
            try clear c7
            try clear c7b0
            try clear c7b1
            try clear p2
            try clear p6
            try clear q6
            obtain ⟨kq, x17_3, rfl, HA, HJ3, HB⟩ := hcut
            cases kq with
            | zero => exact absurd HA.out (by simp [spec_ParseMilli.j1])
            | succ kj3 =>
              have H := HA.out
              clear HA
              simp only [spec_ParseMilli.j1] at H
              by_cases c8 : x17_3 = true
              · subst c8
                have H1 : (spec_ParseMilli.l0 kj3 a0 x4_1 x5_1 (wrap64 (x6_1 + 1))) = some (r1, r2) := by rw [if_pos rfl] at H; exact H
                clear H
                have H := H1
                clear H1
                have H' := Aside0.mk H
                clear H
                go_wp2
                go_roundg kj3
                case measure => have := HK1.out; have := HJ3.out; omega
                case rel => exact ⟨(x4_1), (x5_1), (wrap64 (x6_1 + 1)), (rs_), (rs_), (rs_), H', ⟨by have := HK1.out; have := HJ3.out; omega⟩, ⟨hb0_⟩⟩
              · replace c8 := Bool.eq_false_iff.mpr c8
                subst c8
                have H1 : (if 0 ≤ x6_1 then (if x6_1 < (a0.size : Int) then (if (bt a0 x6_1) = 46 then (spec_ParseMilli.j2 kj3 a0 x4_1 x5_1 x6_1 (decide (x5_1 < 0))) else (spec_ParseMilli.j2 kj3 a0 x4_1 x5_1 x6_1 false)) else (none)) else (none)) = some (r1, r2) := by rw [if_neg (show ¬ (false = true) by decide)] at H; exact H
                clear H
                have H := H1
                clear H1
                have HC9 := Aside0.mk H
                clear H
                go_upto_region 10 with (fail)
                go_cut [26] (fun v26 wc => ∃ (kq : Nat) (x26_8 : Bool), v26 = .bool x26_8 ∧ Aside0 (spec_ParseMilli.j2 kq a0 x4_1 x5_1 x6_1 x26_8 = some (r1, r2)) ∧ Aside0 (kq ≤ kj3) ∧ Aside0 (Below w.heap.size w wc))
                case first =>
                  have H := HC9.out
                  clear HC9
                  by_cases c10 : 0 ≤ x6_1
                  · rw [if_pos c10] at H
                    have c10b0 : decide (0 ≤ x6_1) = true := decide_eq_true c10
                    clear c10
                    (first | rw [c10b0] | (simp only [i64_w, i32_w]; rw [c10b0]) | skip)
                    by_cases c11 : x6_1 < (a0.size : Int)
                    · rw [if_pos c11] at H
                      have c11b0 : decide (x6_1 < (a0.size : Int)) = true := decide_eq_true c11
                      clear c11
                      by_cases c13 : (bt a0 x6_1) = 46
                      · rw [if_pos c13] at H
                        have c13b0 : ((bt a0 x6_1) == 46) = true := beq_iff_eq.mpr c13
                        have c13b1 : ((bt a0 x6_1) != 46) = false := bne_eq_false_iff_eq.mpr c13
                        clear c13
                        have H' := Aside0.mk H
                        clear H
                        have p12 : 0 ≤ (x6_1 : Int) := of_decide_eq_true as_
                        have q12 : x6_1 < (a0.size : Int) := of_decide_eq_true as_
                        have hx12 := bt_at a0 x6_1
                        replace p12 := eq_true p12
                        replace q12 := eq_true q12
                        go_wp2
                        go_meet
                        case rel => exact ⟨_, (decide (x5_1 < 0)), (rs_), H', ⟨by have := HK1.out; have := HJ3.out; first | omega | exact Nat.le_refl _⟩, ⟨hb0_⟩⟩
                      · rw [if_neg c13] at H
                        have c13b0 : ((bt a0 x6_1) == 46) = false := beq_eq_false_iff_ne.mpr c13
                        have c13b1 : ((bt a0 x6_1) != 46) = true := bne_iff_ne.mpr c13
                        have H' := Aside0.mk H
                        clear H
                        have p12 : 0 ≤ (x6_1 : Int) := of_decide_eq_true as_
                        have q12 : x6_1 < (a0.size : Int) := of_decide_eq_true as_
                        have hx12 := bt_at a0 x6_1
                        replace p12 := eq_true p12
                        replace q12 := eq_true q12
                        go_wp2
                        go_meet
                        case rel => exact ⟨_, (false), (rs_), H', ⟨by have := HK1.out; have := HJ3.out; first | omega | exact Nat.le_refl _⟩, ⟨hb0_⟩⟩
                    · rw [if_neg c11] at H
                      exact absurd H (by simp)
                  · rw [if_neg c10] at H
                    exact absurd H (by simp)
                case rest =>
                  clear HC9
                  try clear c1
                  try clear p1
                  try clear q1
                  try clear hx1
                  try clear c2
                  try clear c2b0
                  try clear c2b1
                  try clear p2
                  try clear c3
                  try clear c3b0
                  try clear c5
                  try clear c5b0
                  try clear p6
                  try clear q6
                  try clear hx6
                  try clear c7
                  try clear c7b0
                  try clear c7b1
                  try clear c8
                  try clear c10
                  try clear c10b0
                  try clear c11
                  try clear c11b0
                  try clear p12
                  try clear q12
                  try clear hx12
                  try clear c13
                  try clear c13b0
                  try clear c13b1
                  try clear p12
                  try clear p2
                  try clear p6
                  try clear q12
                  try clear q6
                  obtain ⟨kq, x26_8, rfl, HA, HJ8, HB⟩ := hcut
                  cases kq with
                  | zero => exact absurd HA.out (by simp [spec_ParseMilli.j2])
                  | succ kj8 =>
                    have H := HA.out
                    clear HA
                    simp only [spec_ParseMilli.j2] at H
                    by_cases c14 : x26_8 = true
                    · subst c14
                      have H1 : (spec_ParseMilli.l0 kj8 a0 x4_1 x6_1 (wrap64 (x6_1 + 1))) = some (r1, r2) := by rw [if_pos rfl] at H; exact H
                      clear H
                      have H := H1
                      clear H1
                      have H' := Aside0.mk H
                      clear H
                      go_wp2
                      go_roundg kj8
                      case measure => have := HK1.out; have := HJ3.out; have := HJ8.out; omega
                      case rel => exact ⟨(x4_1), (x6_1), (wrap64 (x6_1 + 1)), (rs_), (rs_), (rs_), H', ⟨by have := HK1.out; have := HJ3.out; have := HJ8.out; omega⟩, ⟨hb0_⟩⟩
                    · replace c14 := Bool.eq_false_iff.mpr c14
                      subst c14
                      have H1 : (if 0 ≤ x6_1 then (if x6_1 < (a0.size : Int) then (if (bt a0 x6_1) ≥ 48 then (if (bt a0 x6_1) ≤ 57 then (spec_ParseMilli.l0 kj8 a0 (wrap64 ((wrap64 ((wrap64 (10 * x4_1)) + (wrap64 (bt a0 x6_1)))) - 48)) x5_1 (wrap64 (x6_1 + 1))) else (none)) else (none)) else (none)) else (none)) = some (r1, r2) := by rw [if_neg (show ¬ (false = true) by decide)] at H; exact H
                      clear H
                      have H := H1
                      clear H1
                      by_cases c15 : 0 ≤ x6_1
                      · rw [if_pos c15] at H
                        have c15b0 : decide (0 ≤ x6_1) = true := decide_eq_true c15
                        clear c15
                        by_cases c16 : x6_1 < (a0.size : Int)
                        · rw [if_pos c16] at H
                          have c16b0 : decide (x6_1 < (a0.size : Int)) = true := decide_eq_true c16
                          clear c16
                          by_cases c18 : (bt a0 x6_1) ≥ 48
                          · rw [if_pos c18] at H
                            have c18b0 : decide (48 ≤ (bt a0 x6_1)) = true := decide_eq_true c18
                            clear c18
                            by_cases c20 : (bt a0 x6_1) ≤ 57
                            · rw [if_pos c20] at H
                              have c20b0 : decide ((bt a0 x6_1) ≤ 57) = true := decide_eq_true c20
                              clear c20
                              have H' := Aside0.mk H
                              clear H
                              have p17 : 0 ≤ (x6_1 : Int) := of_decide_eq_true as_
                              have q17 : x6_1 < (a0.size : Int) := of_decide_eq_true as_
                              have hx17 := bt_at a0 x6_1
                              replace p17 := eq_true p17
                              replace q17 := eq_true q17
                              have p19 : 0 ≤ (x6_1 : Int) := of_decide_eq_true as_
                              have q19 : x6_1 < (a0.size : Int) := of_decide_eq_true as_
                              have hx19 := bt_at a0 x6_1
                              replace p19 := eq_true p19
                              replace q19 := eq_true q19
                              have p21 : 0 ≤ (x6_1 : Int) := of_decide_eq_true as_
                              have q21 : x6_1 < (a0.size : Int) := of_decide_eq_true as_
                              have hx21 := bt_at a0 x6_1
                              replace p21 := eq_true p21
                              replace q21 := eq_true q21
                              go_wp2
                              go_roundg kj8
                              case measure => have := HK1.out; have := HJ3.out; have := HJ8.out; omega
                              case rel => exact ⟨(wrap64 ((wrap64 ((wrap64 (10 * x4_1)) + (wrap64 (bt a0 x6_1)))) - 48)), (x5_1), (wrap64 (x6_1 + 1)), (rs_), (rs_), (rs_), H', ⟨by have := HK1.out; have := HJ3.out; have := HJ8.out; omega⟩, ⟨hb0_⟩⟩
                            · rw [if_neg c20] at H
                              exact absurd H (by simp)
                          · rw [if_neg c18] at H
                            exact absurd H (by simp)
                        · rw [if_neg c16] at H
                          exact absurd H (by simp)
                      · rw [if_neg c15] at H
                        exact absurd H (by simp)
        · rw [if_neg c3] at H
          have c3b0 : decide (x6_1 < (a0.size : Int)) = false := decide_eq_false c3
          clear c3
          have HC22 := Aside0.mk H
          clear H
          go_upto_if 56 with (fail)
          go_cut [7] (fun v7 wc => ∃ (kq : Nat) (x7_21 : Int), v7 = .int .i64 x7_21 ∧ Aside0 (spec_ParseMilli.j3 kq a0 x4_1 x7_21 = some (r1, r2)) ∧ Aside0 (kq ≤ k1) ∧ Aside0 (Below w.heap.size w wc))
          case first =>
            have H := HC22.out
            clear HC22
            by_cases c23 : x5_1 ≥ 0
            · rw [if_pos c23] at H
              have c23b0 : decide (0 ≤ x5_1) = true := decide_eq_true c23
              clear c23
              (first | rw [c23b0] | (simp only [i64_w, i32_w]; rw [c23b0]) | skip)
              have H' := Aside0.mk H
              clear H
              go_wp2
              go_meet
              case rel => exact ⟨_, (wrap64 ((wrap64 ((a0.size : Int) - x5_1)) - 1)), (rs_), H', ⟨by have := HK1.out; first | omega | exact Nat.le_refl _⟩, ⟨hb0_⟩⟩
            · rw [if_neg c23] at H
              have c23b0 : decide (0 ≤ x5_1) = false := decide_eq_false c23
              clear c23
              (first | rw [c23b0] | (simp only [i64_w, i32_w]; rw [c23b0]) | skip)
              have H' := Aside0.mk H
              clear H
              go_wp2
              go_meet
              case rel => exact ⟨_, (0), (rs_), H', ⟨by have := HK1.out; first | omega | exact Nat.le_refl _⟩, ⟨hb0_⟩⟩
          case rest =>
            clear HC22
            try clear c1
            try clear p1
            try clear q1
            try clear hx1
            try clear c2
            try clear c2b0
            try clear c2b1
            try clear p2
            try clear q2
            try clear hx2
            try clear c3
            try clear c3b0
            try clear c5
            try clear c5b0
            try clear p6
            try clear q6
            try clear hx6
            try clear c7
            try clear c7b0
            try clear c7b1
            try clear c8
            try clear c10
            try clear c10b0
            try clear c11
            try clear c11b0
            try clear p12
            try clear q12
            try clear hx12
            try clear c13
            try clear c13b0
            try clear c13b1
            try clear c14
            try clear c15
            try clear c15b0
            try clear c16
            try clear c16b0
            try clear p17
            try clear q17
            try clear hx17
            try clear c18
            try clear c18b0
            try clear p19
            try clear q19
            try clear hx19
            try clear c20
            try clear c20b0
            try clear p21
            try clear q21
            try clear hx21
            try clear c23
            try clear c23b0
            try clear p1
            try clear p12
            try clear p17
            try clear p19
            try clear p2
            try clear p21
            try clear p6
            try clear q1
            try clear q12
            try clear q17
            try clear q19
            try clear q21
            try clear q6
            obtain ⟨kq, x7_21, rfl, HA, HJ21, HB⟩ := hcut
            cases kq with
            | zero => exact absurd HA.out (by simp [spec_ParseMilli.j3])
            | succ kj21 =>
              have H := HA.out
              clear HA
              simp only [spec_ParseMilli.j3] at H
              by_cases c24 : x7_21 > 3
              · rw [if_pos c24] at H
                exact absurd H (by simp)
              · rw [if_neg c24] at H
                have c24b0 : decide (3 < x7_21) = false := decide_eq_false c24
                clear c24
                have H' := Aside0.mk H
                clear H
                go_wp2
                go_loopg [4, 7] kj21 (fun kq v4 v7 w' => ∃ (x4_3 x7_3 : Int), v4 = .int .i64 x4_3 ∧ v7 = .int .i64 x7_3 ∧ Aside0 (spec_ParseMilli.l1 kq a0 x4_3 x7_3 = some (r1, r2)) ∧ Aside0 (kq ≤ kj21) ∧ Aside0 (Below w.heap.size w w'))
                case atStart => exact ⟨(x4_1), (x7_21), (rs_), (rs_), H', ⟨Nat.le_refl _⟩, ⟨hb0_⟩⟩
                case round =>
                  clear H'
                  try clear c1
                  try clear p1
                  try clear q1
                  try clear hx1
                  try clear c2
                  try clear c2b0
                  try clear c2b1
                  try clear p2
                  try clear q2
                  try clear hx2
                  try clear c3
                  try clear c3b0
                  try clear c5
                  try clear c5b0
                  try clear p6
                  try clear q6
                  try clear hx6
                  try clear c7
                  try clear c7b0
                  try clear c7b1
                  try clear c8
                  try clear c10
                  try clear c10b0
                  try clear c11
                  try clear c11b0
                  try clear p12
                  try clear q12
                  try clear hx12
                  try clear c13
                  try clear c13b0
                  try clear c13b1
                  try clear c14
                  try clear c15
                  try clear c15b0
                  try clear c16
                  try clear c16b0
                  try clear p17
                  try clear q17
                  try clear hx17
                  try clear c18
                  try clear c18b0
                  try clear p19
                  try clear q19
                  try clear hx19
                  try clear c20
                  try clear c20b0
                  try clear p21
                  try clear q21
                  try clear hx21
                  try clear c23
                  try clear c23b0
                  try clear c24
                  try clear c24b0
                  try clear p1
                  try clear p12
                  try clear p17
                  try clear p19
                  try clear p2
                  try clear p21
                  try clear p6
                  try clear q1
                  try clear q12
                  try clear q17
                  try clear q19
                  try clear q2
                  try clear q21
                  try clear q6
                  obtain ⟨x4_3, x7_3, rfl, rfl, HA, HK3, HB⟩ := hrel
                  cases gk with
                  | zero => exact absurd HA.out (by simp [spec_ParseMilli.l1])
                  | succ k3 =>
                    have H := HA.out
                    clear HA
                    simp only [spec_ParseMilli.l1] at H
                    by_cases c25 : x7_3 < 3
                    · rw [if_pos c25] at H
                      have c25b0 : decide (x7_3 < 3) = true := decide_eq_true c25
                      clear c25
                      have H' := Aside0.mk H
                      clear H
                      go_wp2
                      go_roundg k3
                      case measure => have := HK1.out; have := HJ21.out; have := HK3.out; omega
                      case rel => exact ⟨(wrap64 (10 * x4_3)), (wrap64 (x7_3 + 1)), (rs_), (rs_), H', ⟨by have := HK1.out; have := HJ21.out; have := HK3.out; omega⟩, ⟨hb0_⟩⟩
                    · rw [if_neg c25] at H
                      have c25b0 : decide (x7_3 < 3) = false := decide_eq_false c25
                      clear c25
                      have HC26 := Aside0.mk H
                      clear H
                      go_upto_region 22 with (fail)
                      go_cut [77] (fun v77 wc => ∃ (kq : Nat) (x77_25 : Bool), v77 = .bool x77_25 ∧ Aside0 (spec_ParseMilli.j5 kq a0 x4_3 x77_25 = some (r1, r2)) ∧ Aside0 (kq ≤ k3) ∧ Aside0 (Below w.heap.size w wc))
                      case first =>
                        have H := HC26.out
                        clear HC26
                        by_cases c27 : (a0.size : Int) > 0
                        · rw [if_pos c27] at H
                          have c27b0 : decide (0 < (a0.size : Int)) = true := decide_eq_true c27
                          have c27b1 : decide (0 < a0.size) = true := decide_eq_true (by omega)
                          clear c27
                          (first | rw [c27b0] | (simp only [i64_w, i32_w]; rw [c27b0]) | skip)
                          by_cases c28 : 0 < (a0.size : Int)
                          · rw [if_pos c28] at H
                            have c28b0 : decide (0 < (a0.size : Int)) = true := decide_eq_true c28
                            have c28b1 : decide (0 < a0.size) = true := decide_eq_true (by omega)
                            clear c28
                            have H' := Aside0.mk H
                            clear H
                            have p29 : 0 ≤ (0 : Int) := (by omega)
                            have q29 : 0 < a0.size := (by have : (0 : Int) < (a0.size : Int) := of_decide_eq_true as_; omega)
                            have hx29 : ∀ h : 0 < a0.size, ((a0[0]'h).toNat : Int) = bt a0 0 := bt_at a0 0
                            clear p29
                            have qi29 : (0 < (a0.size : Int)) = True := eq_true (of_decide_eq_true as_)
                            replace q29 := eq_true q29
                            go_wp2
                            go_meet
                            case rel => exact ⟨_, (((bt a0 0) == 45)), (rs_), H', ⟨by have := HK1.out; have := HJ21.out; have := HK3.out; first | omega | exact Nat.le_refl _⟩, ⟨hb0_⟩⟩
                          · rw [if_neg c28] at H
                            exact absurd H (by simp)
                        · rw [if_neg c27] at H
                          have c27b0 : decide (0 < (a0.size : Int)) = false := decide_eq_false c27
                          have c27b1 : decide (0 < a0.size) = false := decide_eq_false (by omega)
                          clear c27
                          (first | rw [c27b0] | (simp only [i64_w, i32_w]; rw [c27b0]) | skip)
                          have H' := Aside0.mk H
                          clear H
                          go_wp2
                          go_meet
                          case rel => exact ⟨_, (false), (rs_), H', ⟨by have := HK1.out; have := HJ21.out; have := HK3.out; first | omega | exact Nat.le_refl _⟩, ⟨hb0_⟩⟩
                      case rest =>
                        clear HC26
                        try clear c1
                        try clear p1
                        try clear q1
                        try clear hx1
                        try clear c2
                        try clear c2b0
                        try clear c2b1
                        try clear p2
                        try clear q2
                        try clear hx2
                        try clear qi2
                        try clear c3
                        try clear c3b0
                        try clear c5
                        try clear c5b0
                        try clear p6
                        try clear q6
                        try clear hx6
                        try clear c7
                        try clear c7b0
                        try clear c7b1
                        try clear c8
                        try clear c10
                        try clear c10b0
                        try clear c11
                        try clear c11b0
                        try clear p12
                        try clear q12
                        try clear hx12
                        try clear c13
                        try clear c13b0
                        try clear c13b1
                        try clear c14
                        try clear c15
                        try clear c15b0
                        try clear c16
                        try clear c16b0
                        try clear p17
                        try clear q17
                        try clear hx17
                        try clear c18
                        try clear c18b0
                        try clear p19
                        try clear q19
                        try clear hx19
                        try clear c20
                        try clear c20b0
                        try clear p21
                        try clear q21
                        try clear hx21
                        try clear c23
                        try clear c23b0
                        try clear c24
                        try clear c24b0
                        try clear c25
                        try clear c25b0
                        try clear c27
                        try clear c27b0
                        try clear c27b1
                        try clear c28
                        try clear c28b0
                        try clear c28b1
                        try clear p29
                        try clear q29
                        try clear hx29
                        try clear qi29
                        try clear p1
                        try clear p12
                        try clear p17
                        try clear p19
                        try clear p2
                        try clear p21
                        try clear p29
                        try clear p6
                        try clear q1
                        try clear q12
                        try clear q17
                        try clear q19
                        try clear q2
                        try clear q21
                        try clear q29
                        try clear q6
                        obtain ⟨kq, x77_25, rfl, HA, HJ25, HB⟩ := hcut
                        cases kq with
                        | zero => exact absurd HA.out (by simp [spec_ParseMilli.j5])
                        | succ kj25 =>
                          have H := HA.out
                          clear HA
                          simp only [spec_ParseMilli.j5] at H
                          by_cases c30 : x77_25 = true
                          · subst c30
                            have H1 : ((spec_MilliText.f kj25 (wrap64 (-x4_3))).bind fun t263 => (if t263.toList = a0.toList then (if a0.toList = ([] : List UInt8) then (none) else (some (wrap64 (-x4_3), true))) else (none))) = some (r1, r2) := by rw [if_pos rfl] at H; exact H
                            clear H
                            have H := H1
                            clear H1
                            replace H := Option.bind_eq_some_iff.mp H
                            obtain ⟨t263, A310, H⟩ := H
                            replace H : (if t263.toList = a0.toList then (if a0.toList = ([] : List UInt8) then (none) else (some (wrap64 (-x4_3), true))) else (none)) = some (r1, r2) := H
                            have A31 := Aside0.mk A310
                            clear A310
                            by_cases c32 : t263.toList = a0.toList
                            · rw [if_pos c32] at H
                              have c32b0 : (t263.toList == a0.toList) = true := beq_iff_eq.mpr c32
                              have c32b1 : (t263.toList != a0.toList) = false := bne_eq_false_iff_eq.mpr c32
                              clear c32
                              by_cases c33 : a0.toList = ([] : List UInt8)
                              · rw [if_pos c33] at H
                                exact absurd H (by simp)
                              · rw [if_neg c33] at H
                                have c33b0 : (a0.toList == ([] : List UInt8)) = false := beq_eq_false_iff_ne.mpr c33
                                have c33b1 : (a0.toList != ([] : List UInt8)) = true := bne_iff_ne.mpr c33
                                simp only [Option.some.injEq, Prod.mk.injEq] at H
                                obtain ⟨rfl, rfl⟩ := H
                                go_wp2_with (first | ((with_reducible refine gate_callee (f := 70) rfl ?_); refine goesL_ (some 81) rfl rfl Tryz.func70 (by kernel_rfl) rfl #[.int .i64 (wrap64 (-x4_3))] rfl (me_) ?_; (with_reducible refine (spec_MilliText.calls kj25 (wrap64 (-x4_3)) _ _ A31.out).mono ?_); rintro e w34 ⟨rfl, hb⟩; refine ⟨_, rfl, ?_⟩; have n0_ := Aside0.mk (below_step (hb0_) hb); clear HB; have HB := n0_; clear n0_; (try clear hb); (try clear hb2); (try clear hk); (try clear hi)))
                                go_ret2
                                exact ⟨re_, hb0_⟩
                            · rw [if_neg c32] at H
                              exact absurd H (by simp)
                          · replace c30 := Bool.eq_false_iff.mpr c30
                            subst c30
                            have H1 : ((spec_MilliText.f kj25 x4_3).bind fun t264 => (if t264.toList = a0.toList then (if a0.toList = ([] : List UInt8) then (none) else (some (x4_3, true))) else (none))) = some (r1, r2) := by rw [if_neg (show ¬ (false = true) by decide)] at H; exact H
                            clear H
                            have H := H1
                            clear H1
                            replace H := Option.bind_eq_some_iff.mp H
                            obtain ⟨t264, A350, H⟩ := H
                            replace H : (if t264.toList = a0.toList then (if a0.toList = ([] : List UInt8) then (none) else (some (x4_3, true))) else (none)) = some (r1, r2) := H
                            have A35 := Aside0.mk A350
                            clear A350
                            by_cases c36 : t264.toList = a0.toList
                            · rw [if_pos c36] at H
                              have c36b0 : (t264.toList == a0.toList) = true := beq_iff_eq.mpr c36
                              have c36b1 : (t264.toList != a0.toList) = false := bne_eq_false_iff_eq.mpr c36
                              clear c36
                              by_cases c37 : a0.toList = ([] : List UInt8)
                              · rw [if_pos c37] at H
                                exact absurd H (by simp)
                              · rw [if_neg c37] at H
                                have c37b0 : (a0.toList == ([] : List UInt8)) = false := beq_eq_false_iff_ne.mpr c37
                                have c37b1 : (a0.toList != ([] : List UInt8)) = true := bne_iff_ne.mpr c37
                                simp only [Option.some.injEq, Prod.mk.injEq] at H
                                obtain ⟨rfl, rfl⟩ := H
                                go_wp2_with (first | ((with_reducible refine gate_callee (f := 70) rfl ?_); refine goesL_ (some 81) rfl rfl Tryz.func70 (by kernel_rfl) rfl #[.int .i64 x4_3] rfl (me_) ?_; (with_reducible refine (spec_MilliText.calls kj25 x4_3 _ _ A35.out).mono ?_); rintro e w38 ⟨rfl, hb⟩; refine ⟨_, rfl, ?_⟩; have n0_ := Aside0.mk (below_step (hb0_) hb); clear HB; have HB := n0_; clear n0_; (try clear hb); (try clear hb2); (try clear hk); (try clear hi)))
                                go_ret2
                                exact ⟨re_, hb0_⟩
                            · rw [if_neg c36] at H
                              exact absurd H (by simp)
end Go.Proofs.YtcjeblikejoogaaGreatDoor.PFnExactOpLine
