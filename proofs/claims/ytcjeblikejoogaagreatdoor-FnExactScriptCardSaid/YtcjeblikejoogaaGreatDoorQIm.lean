-- OVER PRINTED WORDS: laid by this session's program; what this claim does not use is left out; Lean checks it.
import Derived.Test.YtcjeblikejoogaaGreatDoorQTy
namespace Go.Proofs.YtcjeblikejoogaaGreatDoor.PFnExactOpLine
open Go.RowKit Go.Proofs.YtcjeblikejoogaaGreatDoorW.PrintWords Go.Proofs.YtcjeblikejoogaaGreatDoorW.PrintLast Go.Proofs.YtcjeblikejoogaaGreatDoorW.PrintMore
attribute [local go_sem] max2_int min2_int max_two min_two max_three min_three max_four min_four
set_option linter.unusedVariables false
set_option linter.unusedSimpArgs false
def strconv_Itoa.f (a0 : Int) : Option ByteArray := if -9223372036854775808 ≤ a0 ∧ a0 ≤ 9223372036854775807 then some ⟨(Go.Lib.itoa a0).toArray⟩ else none
theorem strconv_Itoa.calls (a0 : Int) (r : ByteArray) (w : World) (hLd : Laid w) (h : strconv_Itoa.f a0 = some r) :
    Calls Tryz.prog 51 #[.int .i64 a0] w fun e w' => e = .returned (.string r) ∧ Below w.heap.size w w' := by
  unfold strconv_Itoa.f at h
  by_cases c : -9223372036854775808 ≤ a0 ∧ a0 ≤ 9223372036854775807
  · rw [if_pos c] at h
    obtain rfl := Option.some.inj h
    refine (Tryz.strconv_Itoa a0 c.1 c.2 w hLd.1).mono ?_
    rintro e w' ⟨rfl, k, os, rfl⟩
    exact ⟨rfl, Go.Lib.below_grow w.heap.size w (Nat.le_refl _) k os⟩
  · rw [if_neg c] at h
    exact absurd h (by simp)
def impl_number.f (a0 : Int) : Option (ByteArray) := (strconv_Itoa.f a0).bind fun t520 => (some t520)
set_option maxHeartbeats 8000000 in
set_option maxRecDepth 100000 in
theorem impl_number.calls (a0 : Int) (r : ByteArray) (w : World) (hLd : Laid w) (h : impl_number.f a0 = some r) :
    Calls Tryz.prog 27 #[.int .i64 a0] w fun e w' => e = .returned (.string r) ∧ Below w.heap.size w w' := by
  have HLd := Aside0.mk hLd
  clear hLd
  have HB := Aside0.mk (Below.refl w.heap.size w)
  have H : ((strconv_Itoa.f a0).bind fun t520 => (some t520)) = some r := h
  clear h
  replace H := Option.bind_eq_some_iff.mp H
  obtain ⟨t520, A20, H⟩ := H
  replace H : (some t520) = some r := H
  have A2 := Aside0.mk A20
  clear A20
  obtain rfl := Option.some.inj H
  go_enter Tryz.func27, Tryz.ntmps27
  go_wp2_with (first | ((with_reducible refine gate_callee (f := 51) rfl ?_); refine goesL_ (some 4) rfl rfl Tryz.func51 (by kernel_rfl) rfl #[.int .i64 a0] rfl (me_) ?_; (with_reducible refine (strconv_Itoa.calls a0 _ _ ?side999 A2.out).mono ?_); (case side999 => exact Laid.below (hb0_) HLd.out); rintro e w3 ⟨rfl, hb⟩; refine ⟨_, rfl, ?_⟩; have n0_ := Aside0.mk (below_step (hb0_) hb); clear HB; have HB := n0_; clear n0_; (try clear hb); (try clear hb2); (try clear hk); (try clear hi)))
  go_ret
  exact ⟨re_, hb0_⟩
def strings_TrimPrefix.f (a0 a1 : ByteArray) : Option ByteArray := some ⟨(Go.Lib.trimPrefix a0.data.toList a1.data.toList).toArray⟩
theorem strings_TrimPrefix.calls (a0 a1 r : ByteArray) (w : World) (h : strings_TrimPrefix.f a0 a1 = some r) :
    Calls Tryz.prog 49 #[.string a0, .string a1] w fun e w' => e = .returned (.string r) ∧ Drawn0 w w' := by
  obtain rfl := Option.some.inj h
  refine (Tryz.strings_TrimPrefix a0 a1 w).mono ?_
  rintro e w' ⟨rfl, rfl⟩
  exact ⟨rfl, Drawn0.refl _⟩
def impl_atoi.f (a0 : ByteArray) : Option Int := if a0.size ≤ 9223372036854775806 then (match Go.Lib.atoiAll a0.data.toList with | .ok v => some v | _ => none) else none
theorem impl_atoi.calls (a0 : ByteArray) (r : Int) (w : World) (h : impl_atoi.f a0 = some r) :
    Calls Tryz.prog 50 #[.string a0] w fun e w' => e = .returned (.int .i64 r) ∧ Below w.heap.size w w' := by
  unfold impl_atoi.f at h
  by_cases c : a0.size ≤ 9223372036854775806
  · rw [if_pos c] at h
    have hv : Go.Lib.atoiAll a0.data.toList = .ok r := by
      revert h
      cases Go.Lib.atoiAll a0.data.toList <;> simp
    clear h
    have HV := Aside0.mk hv
    have HC := Aside0.mk c
    clear hv c
    go_enter Tryz.func50, Tryz.ntmps50
    go_wp2_with (go_at_call 79; refine (Tryz.strconv_Atoi_ok a0 HC.out r HV.out _).mono ?_; rintro e w' ⟨rfl, hw⟩)
    have hb : Below w.heap.size w w' := by
      rcases hw with rfl | ⟨t, rfl⟩
      · exact Below.refl _ _
      · exact Lib.bytesWorld_below _ _ _
    go_ret
    exact ⟨rfl, hb⟩
  · rw [if_neg c] at h
    exact absurd h (by simp)
def impl_readNumber.f (a0 : ByteArray) : Option (Int × Bool) := (strings_TrimPrefix.f a0 (⟨#[45]⟩ : ByteArray)).bind fun t521 => ((impl_atoi.f a0).bind fun t522 => (if (t521.size : Int) ≤ 10 then ((impl_number.f t522).bind fun t523 => (some (t522, (t523.toList == a0.toList)))) else (some (t522, false))))
theorem impl_readNumber.t1_ {p : Prop} (h : p := by
    go_enter Tryz.func26, Tryz.ntmps26
    go_wp2_with (first | ((with_reducible refine gate_callee (f := 49) rfl ?_); refine goesL_ (some 7) rfl rfl Tryz.func49 (by kernel_rfl) rfl #[.string a0, .string (⟨#[45]⟩ : ByteArray)] rfl (me_) ?_; (with_reducible refine (strings_TrimPrefix.calls a0 (⟨#[45]⟩ : ByteArray) _ _ A2.out).mono ?_); rintro e w' ⟨rfl, ⟨nd, rfl⟩⟩; refine ⟨_, rfl, ?_⟩) | ((with_reducible refine gate_callee (f := 50) rfl ?_); refine goesL_ (some 9) rfl rfl Tryz.func50 (by kernel_rfl) rfl #[.string a0] rfl (me_) ?_; (with_reducible refine (impl_atoi.calls a0 _ _ A3.out).mono ?_); rintro e wq0 ⟨rfl, hb⟩; refine ⟨_, rfl, ?_⟩; have nq1 := Aside0.mk (below_step (hb0_) hb); clear HB; have HB := nq1; clear nq1; (try clear hb); (try clear hb2); (try clear hk); (try clear hi)) | (go_at_call 27; (with_reducible refine (impl_number.calls t522 _ _ ?side999 A5.out).mono ?_); (case side999 => exact Laid.below (hb0_) HLd.out); rintro e wq2 ⟨rfl, hb⟩; have nq1 := Aside0.mk (below_step (hb0_) hb); clear HB; have HB := nq1; clear nq1; (try clear hb); (try clear hb2); (try clear hk); (try clear hi)))
    go_ret2
    exact ⟨re_, hb0_⟩) : p := h
set_option maxHeartbeats 8000000 in
set_option maxRecDepth 100000 in
theorem impl_readNumber.calls (a0 : ByteArray) (r1 : Int) (r2 : Bool) (w : World) (hLd : Laid w) (h : impl_readNumber.f a0 = some (r1, r2)) :
    Calls Tryz.prog 26 #[.string a0] w fun e w' => e = .returned (.tuple #[.int .i64 r1, .bool r2]) ∧ Below w.heap.size w w' := by
  have HLd := Aside0.mk hLd
  clear hLd
  have HB := Aside0.mk (Below.refl w.heap.size w)
  have H : ((strings_TrimPrefix.f a0 (⟨#[45]⟩ : ByteArray)).bind fun t521 => ((impl_atoi.f a0).bind fun t522 => (if (t521.size : Int) ≤ 10 then ((impl_number.f t522).bind fun t523 => (some (t522, (t523.toList == a0.toList)))) else (some (t522, false))))) = some (r1, r2) := h
  clear h
  replace H := Option.bind_eq_some_iff.mp H
  obtain ⟨t521, A20, H⟩ := H
  replace H : ((impl_atoi.f a0).bind fun t522 => (if (t521.size : Int) ≤ 10 then ((impl_number.f t522).bind fun t523 => (some (t522, (t523.toList == a0.toList)))) else (some (t522, false)))) = some (r1, r2) := H
  have A2 := Aside0.mk A20
  clear A20
  replace H := Option.bind_eq_some_iff.mp H
  obtain ⟨t522, A30, H⟩ := H
  replace H : (if (t521.size : Int) ≤ 10 then ((impl_number.f t522).bind fun t523 => (some (t522, (t523.toList == a0.toList)))) else (some (t522, false))) = some (r1, r2) := H
  have A3 := Aside0.mk A30
  clear A30
  by_cases c4 : (t521.size : Int) ≤ 10
  · rw [if_pos c4] at H
    have c4b0 : decide ((t521.size : Int) ≤ 10) = true := decide_eq_true c4
    have c4b1 : decide (t521.size ≤ 10) = true := decide_eq_true (by omega)
    clear c4
    replace H := Option.bind_eq_some_iff.mp H
    obtain ⟨t523, A50, H⟩ := H
    replace H : (some (t522, (t523.toList == a0.toList))) = some (r1, r2) := H
    have A5 := Aside0.mk A50
    clear A50
    simp only [Option.some.injEq, Prod.mk.injEq] at H
    obtain ⟨rfl, rfl⟩ := H
    exact impl_readNumber.t1_
  · rw [if_neg c4] at H
    have c4b0 : decide ((t521.size : Int) ≤ 10) = false := decide_eq_false c4
    have c4b1 : decide (t521.size ≤ 10) = false := decide_eq_false (by omega)
    clear c4
    simp only [Option.some.injEq, Prod.mk.injEq] at H
    obtain ⟨rfl, rfl⟩ := H
    exact impl_readNumber.t1_
def strings_Join.f (l0 : List ByteArray) (a1 : ByteArray) : Option ByteArray := if l0.length ≤ 140737488355328 ∧ (Go.Lib.join (l0.map (·.data.toList)) a1.data.toList).length ≤ 140737488355328 then some ⟨(Go.Lib.join (l0.map (·.data.toList)) a1.data.toList).toArray⟩ else none
theorem strings_Join.calls (A0 : Option Addr) (c0 : Nat) (l0 : List ByteArray) (a1 r : ByteArray) (w : World) (hr0 : Kd.C Kd.string w A0 l0.length l0) (hc0 : l0.length ≤ c0) (h : strings_Join.f l0 a1 = some r) :
    Calls Tryz.prog 52 #[.slice A0 l0.length c0, .string a1] w fun e w' => e = .returned (.string r) ∧ Below w.heap.size w w' := by
  unfold strings_Join.f at h
  by_cases c : l0.length ≤ 140737488355328 ∧ (Go.Lib.join (l0.map (·.data.toList)) a1.data.toList).length ≤ 140737488355328
  · rw [if_pos c] at h
    obtain rfl := Option.some.inj h
    cases l0 with
    | nil =>
      refine (Tryz.strings_Join_none A0 c0 a1 w).mono ?_
      rintro e w' ⟨rfl, rfl⟩
      exact ⟨rfl, Below.refl _ _⟩
    | cons x xs =>
      obtain ⟨ad, e, h0⟩ := Kd.at_string hr0 0 (by omega) (by simp)
      obtain ⟨bk, o, sp⟩ := ad
      have hs : sp = none := by
        cases sp with
        | none => rfl
        | some s =>
          simp only [Int.toNat_zero, Addr.add, if_pos] at h0
          unfold World.cell? at h0
          split at h0 <;> simp at h0
      subst hs
      subst e
      have ha : ∀ j : Nat, (⟨bk, o, none⟩ : Addr).add j = ⟨bk, o + j, none⟩ := by
        intro j
        unfold Addr.add
        by_cases hj : j = 0
        · rw [if_pos hj, hj]
          rfl
        · rw [if_neg hj]
      have hcells : ∀ (j : Nat) y, (x :: xs)[j]? = some y → w.cell? ⟨bk, o + j, none⟩ = some (.string y) := by
        intro j y hy
        have hj : j < (x :: xs).length := (List.getElem?_eq_some_iff.1 hy).1
        obtain ⟨ad', e', h'⟩ := Kd.at_string hr0 (j : Int) (by omega) (by omega)
        cases e'
        rw [Int.toNat_natCast, ha j] at h'
        rw [h']
        simp only [rdOf, Int.toNat_natCast, List.getD, hy, Option.getD_some]
      have hbk : bk < w.heap.size := by
        have := World.block_lt_of_cell? w _ h0
        rwa [Int.toNat_zero, ha 0] at this
      exact Tryz.strings_Join bk o c0 (x :: xs) a1 w hcells hbk c.1 hc0 c.2
  · rw [if_neg c] at h
    exact absurd h (by simp)
def impl_words.f (l0 : List ByteArray) : Option (ByteArray) := (strings_Join.f l0 (⟨#[32]⟩ : ByteArray)).bind fun t524 => (some t524)
set_option maxHeartbeats 8000000 in
set_option maxRecDepth 100000 in
theorem impl_words.calls (A0 : Option Addr) (c0 : Nat) (l0 : List ByteArray) (r : ByteArray) (w : World) (hr0 : Kd.C Kd.string w A0 l0.length l0) (hc0 : l0.length ≤ c0) (h : impl_words.f l0 = some r) :
    Calls Tryz.prog 28 #[.slice A0 l0.length c0] w fun e w' => e = .returned (.string r) ∧ Below w.heap.size w w' := by
  have HR0 := Aside0.mk hr0
  have HC0 := Aside0.mk hc0
  clear hr0 hc0
  have HB := Aside0.mk (Below.refl w.heap.size w)
  have H : ((strings_Join.f l0 (⟨#[32]⟩ : ByteArray)).bind fun t524 => (some t524)) = some r := h
  clear h
  replace H := Option.bind_eq_some_iff.mp H
  obtain ⟨t524, A20, H⟩ := H
  replace H : (some t524) = some r := H
  have A2 := Aside0.mk A20
  clear A20
  obtain rfl := Option.some.inj H
  go_enter Tryz.func28, Tryz.ntmps28
  go_wp2_with (first | ((with_reducible refine gate_callee (f := 52) rfl ?_); refine goesL_ (some 4) rfl rfl Tryz.func52 (by kernel_rfl) rfl #[.slice A0 l0.length c0, .string (⟨#[32]⟩ : ByteArray)] rfl (me_) ?_; (with_reducible refine (strings_Join.calls _ _ l0 (⟨#[32]⟩ : ByteArray) _ _ ?side1 ?side2 A2.out).mono ?_); (case side1 => repeat (first | exact HR0.out | (with_reducible refine Kd.C_alloc ?_ _) | (with_reducible refine Kd.C_drewN ?_ _) | (with_reducible refine Kd.C_drew ?_))); (case side2 => exact HC0.out); rintro e w3 ⟨rfl, hb⟩; refine ⟨_, rfl, ?_⟩; have n0_ := Aside0.mk (below_step (hb0_) hb); clear HB; have HB := n0_; clear n0_; (try clear hb); (try clear hb2); (try clear hk); (try clear hi)))
  go_ret
  exact ⟨re_, hb0_⟩
def strings_Contains.f (a0 a1 : ByteArray) : Option Bool := if a1 = ⟨#[59]⟩ then some (decide (0 ≤ Go.Lib.indexByte a0.data.toList 59)) else none
theorem strings_Contains.calls (a0 a1 : ByteArray) (r : Bool) (w : World) (h : strings_Contains.f a0 a1 = some r) :
    Calls Tryz.prog 29 #[.string a0, .string a1] w fun e w' => e = .returned (.bool r) ∧ Drawn0 w w' := by
  unfold strings_Contains.f at h
  by_cases c : a1 = ⟨#[59]⟩
  · rw [if_pos c] at h
    obtain rfl := Option.some.inj h
    subst c
    refine (Tryz.strings_Contains_one a0 59 w).mono ?_
    rintro e w' ⟨rfl, rfl⟩
    exact ⟨rfl, Drawn0.refl _⟩
  · rw [if_neg c] at h
    exact absurd h (by simp)
def strings_ReplaceAll.f (a0 a1 a2 : ByteArray) : Option ByteArray := if a0.size < 4294967281 ∧ 1 ≤ a1.size ∧ a0.size + Go.Lib.countB a0 a1 * a2.size ≤ 140737488355328 then some ⟨(Go.Lib.replaceAll a0.data.toList a1.data.toList a2.data.toList).toArray⟩ else none
theorem strings_ReplaceAll.calls (a0 a1 a2 r : ByteArray) (w : World) (hLd : Laid w) (h : strings_ReplaceAll.f a0 a1 a2 = some r) :
    Calls Tryz.prog 30 #[.string a0, .string a1, .string a2] w fun e w' => e = .returned (.string r) ∧ Below w.heap.size w w' := by
  unfold strings_ReplaceAll.f at h
  by_cases c : a0.size < 4294967281 ∧ 1 ≤ a1.size ∧ a0.size + Go.Lib.countB a0 a1 * a2.size ≤ 140737488355328
  · rw [if_pos c] at h
    obtain rfl := Option.some.inj h
    obtain ⟨m, hm⟩ := hLd.2
    exact Tryz.strings_ReplaceAll a0 a1 a2 m w c.1 hm c.2.1 c.2.2
  · rw [if_neg c] at h
    exact absurd h (by simp)
def impl_in.f (a0 a1 a2 : Int) : Option (Bool) := if a0 ≥ a1 then (some (decide (a0 ≤ a2))) else (some false)
set_option maxHeartbeats 8000000 in
set_option maxRecDepth 100000 in
theorem impl_in.calls (a0 a1 a2 : Int) (r : Bool) (w : World) (h : impl_in.f a0 a1 a2 = some r) :
    Calls Tryz.prog 92 #[.int .i64 a0, .int .i64 a1, .int .i64 a2] w fun e w' => e = .returned (.bool r) ∧ Drawn0 w w' := by
  have H : (if a0 ≥ a1 then (some (decide (a0 ≤ a2))) else (some false)) = some r := h
  clear h
  by_cases c4 : a0 ≥ a1
  · rw [if_pos c4] at H
    have c4b0 : decide (a1 ≤ a0) = true := decide_eq_true c4
    clear c4
    obtain rfl := Option.some.inj H
    go_enter Tryz.func92, Tryz.ntmps92
    go_wp2
    go_ret
    exact ⟨rs_, by repeat (first | exact Drawn0.refl _ | apply Drawn0.step)⟩
  · rw [if_neg c4] at H
    have c4b0 : decide (a1 ≤ a0) = false := decide_eq_false c4
    clear c4
    obtain rfl := Option.some.inj H
    go_enter Tryz.func92, Tryz.ntmps92
    go_wp2
    go_ret
    exact ⟨rs_, by repeat (first | exact Drawn0.refl _ | apply Drawn0.step)⟩
def impl_NameOk.l0 : Nat → ByteArray → Int → Int → Option (Bool)
  | 0, _, _, _ => none
  | k + 1, x0, x6, x7 => if x7 < x6 then (if 0 ≤ x7 then (if x7 < (x0.size : Int) then (if (bt x0 x7) < 97 then (if (bt x0 x7) < 48 then (some false) else (if (bt x0 x7) > 57 then (some false) else (impl_NameOk.l0 k x0 x6 (wrap64 (x7 + 1))))) else (if (bt x0 x7) > 122 then (if (bt x0 x7) < 48 then (some false) else (if (bt x0 x7) > 57 then (some false) else (impl_NameOk.l0 k x0 x6 (wrap64 (x7 + 1))))) else (impl_NameOk.l0 k x0 x6 (wrap64 (x7 + 1))))) else (none)) else (none)) else ((impl_in.f (x0.size : Int) 1 12).bind fun t525 => (some t525))
def impl_NameOk.f (k : Nat) (a0 : ByteArray) : Option (Bool) := impl_NameOk.l0 k a0 (a0.size : Int) 0
set_option maxHeartbeats 8000000 in
set_option maxRecDepth 100000 in
theorem impl_NameOk.calls (k : Nat) (a0 : ByteArray) (r : Bool) (w : World) (h : impl_NameOk.f k a0 = some r) :
    Calls Tryz.prog 117 #[.string a0] w fun e w' => e = .returned (.bool r) ∧ Drawn0 w w' := by
  have H : (impl_NameOk.l0 k a0 (a0.size : Int) 0) = some r := h
  clear h
  have H' := Aside0.mk H
  clear H
  go_enter Tryz.func117, Tryz.ntmps117
  go_wp2
  go_loopg [7] k (fun kq v7 w' => ∃ (x7_1 : Int), v7 = .int .i64 x7_1 ∧ Aside0 (impl_NameOk.l0 kq a0 (a0.size : Int) x7_1 = some r) ∧ Aside0 (kq ≤ k) ∧ Drawn0 w w')
  case atStart => exact ⟨(0), (rs_), H', ⟨Nat.le_refl _⟩, by repeat (first | exact Drawn0.refl _ | apply Drawn0.step)⟩
  case round =>
    clear H'
    try clear c1
    obtain ⟨x7_1, rfl, HA, HK1, ⟨m1, rfl⟩⟩ := hrel
    cases gk with
    | zero => exact absurd HA.out (by simp [impl_NameOk.l0])
    | succ k1 =>
      have H := HA.out
      clear HA
      simp only [impl_NameOk.l0] at H
      by_cases c2 : x7_1 < (a0.size : Int)
      · rw [if_pos c2] at H
        have c2b0 : decide (x7_1 < (a0.size : Int)) = true := decide_eq_true c2
        clear c2
        by_cases c3 : 0 ≤ x7_1
        · rw [if_pos c3] at H
          have c3b0 : decide (0 ≤ x7_1) = true := decide_eq_true c3
          clear c3
          by_cases c4 : x7_1 < (a0.size : Int)
          · rw [if_pos c4] at H
            have c4b0 : decide (x7_1 < (a0.size : Int)) = true := decide_eq_true c4
            clear c4
            by_cases c6 : (bt a0 x7_1) < 97
            · rw [if_pos c6] at H
              have c6b0 : decide ((bt a0 x7_1) < 97) = true := decide_eq_true c6
              clear c6
              by_cases c7 : (bt a0 x7_1) < 48
              · rw [if_pos c7] at H
                have c7b0 : decide ((bt a0 x7_1) < 48) = true := decide_eq_true c7
                clear c7
                obtain rfl := Option.some.inj H
                have p5 : 0 ≤ (x7_1 : Int) := of_decide_eq_true as_
                have q5 : x7_1 < (a0.size : Int) := of_decide_eq_true as_
                have hx5 := bt_at a0 x7_1
                replace p5 := eq_true p5
                replace q5 := eq_true q5
                go_wp2
                go_ret
                exact ⟨rs_, by repeat (first | exact Drawn0.refl _ | apply Drawn0.step)⟩
              · rw [if_neg c7] at H
                have c7b0 : decide ((bt a0 x7_1) < 48) = false := decide_eq_false c7
                clear c7
                by_cases c8 : (bt a0 x7_1) > 57
                · rw [if_pos c8] at H
                  have c8b0 : decide (57 < (bt a0 x7_1)) = true := decide_eq_true c8
                  clear c8
                  obtain rfl := Option.some.inj H
                  have p5 : 0 ≤ (x7_1 : Int) := of_decide_eq_true as_
                  have q5 : x7_1 < (a0.size : Int) := of_decide_eq_true as_
                  have hx5 := bt_at a0 x7_1
                  replace p5 := eq_true p5
                  replace q5 := eq_true q5
                  go_wp2
                  go_ret
                  exact ⟨rs_, by repeat (first | exact Drawn0.refl _ | apply Drawn0.step)⟩
                · rw [if_neg c8] at H
                  have c8b0 : decide (57 < (bt a0 x7_1)) = false := decide_eq_false c8
                  clear c8
                  have H' := Aside0.mk H
                  clear H
                  have p5 : 0 ≤ (x7_1 : Int) := of_decide_eq_true as_
                  have q5 : x7_1 < (a0.size : Int) := of_decide_eq_true as_
                  have hx5 := bt_at a0 x7_1
                  replace p5 := eq_true p5
                  replace q5 := eq_true q5
                  go_wp2
                  go_roundg k1
                  case measure => have := HK1.out; omega
                  case rel => exact ⟨(wrap64 (x7_1 + 1)), (rs_), H', ⟨by have := HK1.out; omega⟩, by repeat (first | exact Drawn0.refl _ | apply Drawn0.step)⟩
            · rw [if_neg c6] at H
              have c6b0 : decide ((bt a0 x7_1) < 97) = false := decide_eq_false c6
              clear c6
              by_cases c9 : (bt a0 x7_1) > 122
              · rw [if_pos c9] at H
                have c9b0 : decide (122 < (bt a0 x7_1)) = true := decide_eq_true c9
                clear c9
                by_cases c10 : (bt a0 x7_1) < 48
                · rw [if_pos c10] at H
                  have c10b0 : decide ((bt a0 x7_1) < 48) = true := decide_eq_true c10
                  clear c10
                  obtain rfl := Option.some.inj H
                  have p5 : 0 ≤ (x7_1 : Int) := of_decide_eq_true as_
                  have q5 : x7_1 < (a0.size : Int) := of_decide_eq_true as_
                  have hx5 := bt_at a0 x7_1
                  replace p5 := eq_true p5
                  replace q5 := eq_true q5
                  go_wp2
                  go_ret
                  exact ⟨rs_, by repeat (first | exact Drawn0.refl _ | apply Drawn0.step)⟩
                · rw [if_neg c10] at H
                  have c10b0 : decide ((bt a0 x7_1) < 48) = false := decide_eq_false c10
                  clear c10
                  by_cases c11 : (bt a0 x7_1) > 57
                  · rw [if_pos c11] at H
                    have c11b0 : decide (57 < (bt a0 x7_1)) = true := decide_eq_true c11
                    clear c11
                    obtain rfl := Option.some.inj H
                    have p5 : 0 ≤ (x7_1 : Int) := of_decide_eq_true as_
                    have q5 : x7_1 < (a0.size : Int) := of_decide_eq_true as_
                    have hx5 := bt_at a0 x7_1
                    replace p5 := eq_true p5
                    replace q5 := eq_true q5
                    go_wp2
                    go_ret
                    exact ⟨rs_, by repeat (first | exact Drawn0.refl _ | apply Drawn0.step)⟩
                  · rw [if_neg c11] at H
                    have c11b0 : decide (57 < (bt a0 x7_1)) = false := decide_eq_false c11
                    clear c11
                    have H' := Aside0.mk H
                    clear H
                    have p5 : 0 ≤ (x7_1 : Int) := of_decide_eq_true as_
                    have q5 : x7_1 < (a0.size : Int) := of_decide_eq_true as_
                    have hx5 := bt_at a0 x7_1
                    replace p5 := eq_true p5
                    replace q5 := eq_true q5
                    go_wp2
                    go_roundg k1
                    case measure => have := HK1.out; omega
                    case rel => exact ⟨(wrap64 (x7_1 + 1)), (rs_), H', ⟨by have := HK1.out; omega⟩, by repeat (first | exact Drawn0.refl _ | apply Drawn0.step)⟩
              · rw [if_neg c9] at H
                have c9b0 : decide (122 < (bt a0 x7_1)) = false := decide_eq_false c9
                clear c9
                have H' := Aside0.mk H
                clear H
                have p5 : 0 ≤ (x7_1 : Int) := of_decide_eq_true as_
                have q5 : x7_1 < (a0.size : Int) := of_decide_eq_true as_
                have hx5 := bt_at a0 x7_1
                replace p5 := eq_true p5
                replace q5 := eq_true q5
                go_wp2
                go_roundg k1
                case measure => have := HK1.out; omega
                case rel => exact ⟨(wrap64 (x7_1 + 1)), (rs_), H', ⟨by have := HK1.out; omega⟩, by repeat (first | exact Drawn0.refl _ | apply Drawn0.step)⟩
          · rw [if_neg c4] at H
            exact absurd H (by simp)
        · rw [if_neg c3] at H
          exact absurd H (by simp)
      · rw [if_neg c2] at H
        have c2b0 : decide (x7_1 < (a0.size : Int)) = false := decide_eq_false c2
        clear c2
        replace H := Option.bind_eq_some_iff.mp H
        obtain ⟨t525, A120, H⟩ := H
        replace H : (some t525) = some r := H
        have A12 := Aside0.mk A120
        clear A120
        obtain rfl := Option.some.inj H
        go_wp2_with (first | ((with_reducible refine gate_callee (f := 92) rfl ?_); refine goesL_ (some 30) rfl rfl Tryz.func92 (by kernel_rfl) rfl #[.int .i64 (a0.size : Int), .int .i64 1, .int .i64 12] rfl (me_) ?_; (with_reducible refine (impl_in.calls (a0.size : Int) 1 12 _ _ A12.out).mono ?_); rintro e w' ⟨rfl, ⟨nd, rfl⟩⟩; refine ⟨_, rfl, ?_⟩))
        go_ret
        exact ⟨rs_, by repeat (first | exact Drawn0.refl _ | apply Drawn0.step)⟩
def impl_GoalOk.f (k : Nat) (a0_0 : ByteArray) (a0_1 a0_2 : Int) : Option (Bool) := (impl_NameOk.f k a0_0).bind fun t527 => (if t527 = true then ((impl_in.f a0_1 1 1000000).bind fun t528 => (if t528 = true then ((impl_in.f a0_2 0 1000).bind fun t529 => (some t529)) else (some false))) else (some false))
theorem impl_GoalOk.t1_ {p : Prop} (h : p := by
    go_enter Tryz.func87, Tryz.ntmps87
    go_wp2_with (first | ((with_reducible refine gate_dst (N := 1) rfl ?_); refine box_event ?hg (N := 1) ?hd (cs := #[.string a0_0, .int .i64 a0_1, .int .i64 a0_2]) (t := 90) ?hr ?_; (case hd => rfl); (case hg => rfl); (case hr => first | (go_simp; done) | (go_simp; rfl)); intro gbq0 hg wq1 hbox hb; have nq2 := Aside0.mk (below_step (hb0_) hb); have BKq3 := Aside0.mk (hbox); have GWq4 := Aside0.mk (bs_ hg (hb0_)); have GEq5 := GWq4; clear HB; have HB := nq2; clear nq2; clear hb hbox hg; obtain ⟨⟨czq6, fzq7⟩, ⟨czq8, fzq9⟩, ⟨czq10, fzq11⟩⟩ := bc3_ BKq3) | ((with_reducible refine gate_callee (f := 117) rfl ?_); refine goesL_ (some 5) rfl rfl Tryz.func117 (by kernel_rfl) rfl #[.string a0_0] rfl (me_) ?_; (with_reducible refine (impl_NameOk.calls k a0_0 _ _ A2.out).mono ?_); rintro e w' ⟨rfl, ⟨nd, rfl⟩⟩; refine ⟨_, rfl, ?_⟩) | (go_at_call 92; (with_reducible refine (impl_in.calls a0_1 1 1000000 _ _ A4.out).mono ?_); rintro e w' ⟨rfl, ⟨nd, rfl⟩⟩) | (go_at_call 92; (with_reducible refine (impl_in.calls a0_2 0 1000 _ _ A6.out).mono ?_); rintro e w' ⟨rfl, ⟨nd, rfl⟩⟩))
    go_ret
    exact ⟨re_, hb1_ GEq5⟩) : p := h
set_option maxHeartbeats 8000000 in
set_option maxRecDepth 100000 in
theorem impl_GoalOk.calls (k : Nat) (a0_0 : ByteArray) (a0_1 a0_2 : Int) (r : Bool) (w : World) (h : impl_GoalOk.f k a0_0 a0_1 a0_2 = some r) :
    Calls Tryz.prog 87 #[.agg #[.string a0_0, .int .i64 a0_1, .int .i64 a0_2]] w fun e w' => e = .returned (.bool r) ∧ Below w.heap.size w w' := by
  have hu90 := Tryz.underlying90
  have HB := Aside0.mk (Below.refl w.heap.size w)
  have H : ((impl_NameOk.f k a0_0).bind fun t527 => (if t527 = true then ((impl_in.f a0_1 1 1000000).bind fun t528 => (if t528 = true then ((impl_in.f a0_2 0 1000).bind fun t529 => (some t529)) else (some false))) else (some false))) = some r := h
  clear h
  replace H := Option.bind_eq_some_iff.mp H
  obtain ⟨t527, A20, H⟩ := H
  replace H : (if t527 = true then ((impl_in.f a0_1 1 1000000).bind fun t528 => (if t528 = true then ((impl_in.f a0_2 0 1000).bind fun t529 => (some t529)) else (some false))) else (some false)) = some r := H
  have A2 := Aside0.mk A20
  clear A20
  by_cases c3 : t527 = true
  · subst c3
    have H1 : ((impl_in.f a0_1 1 1000000).bind fun t528 => (if t528 = true then ((impl_in.f a0_2 0 1000).bind fun t529 => (some t529)) else (some false))) = some r := by rw [if_pos rfl] at H; exact H
    clear H
    have H := H1
    clear H1
    replace H := Option.bind_eq_some_iff.mp H
    obtain ⟨t528, A40, H⟩ := H
    replace H : (if t528 = true then ((impl_in.f a0_2 0 1000).bind fun t529 => (some t529)) else (some false)) = some r := H
    have A4 := Aside0.mk A40
    clear A40
    by_cases c5 : t528 = true
    · subst c5
      have H1 : ((impl_in.f a0_2 0 1000).bind fun t529 => (some t529)) = some r := by rw [if_pos rfl] at H; exact H
      clear H
      have H := H1
      clear H1
      replace H := Option.bind_eq_some_iff.mp H
      obtain ⟨t529, A60, H⟩ := H
      replace H : (some t529) = some r := H
      have A6 := Aside0.mk A60
      clear A60
      obtain rfl := Option.some.inj H
      exact impl_GoalOk.t1_
    · replace c5 := Bool.eq_false_iff.mpr c5
      subst c5
      have H1 : (some false) = some r := by rw [if_neg (show ¬ (false = true) by decide)] at H; exact H
      clear H
      have H := H1
      clear H1
      obtain rfl := Option.some.inj H
      exact impl_GoalOk.t1_
  · replace c3 := Bool.eq_false_iff.mpr c3
    subst c3
    have H1 : (some false) = some r := by rw [if_neg (show ¬ (false = true) by decide)] at H; exact H
    clear H
    have H := H1
    clear H1
    obtain rfl := Option.some.inj H
    exact impl_GoalOk.t1_
def impl_RulesOk.f (a0_0 a0_1 a0_2 : Int) : Option (Bool) := (impl_in.f a0_0 0 1000).bind fun t531 => (if t531 = true then ((impl_in.f a0_1 0 1000).bind fun t532 => (if t532 = true then ((impl_in.f a0_2 0 1000).bind fun t533 => (some t533)) else (some false))) else (some false))
theorem impl_RulesOk.t1_ {p : Prop} (h : p := by
    go_enter Tryz.func90, Tryz.ntmps90
    go_wp2_with (first | ((with_reducible refine gate_dst (N := 1) rfl ?_); refine box_event ?hg (N := 1) ?hd (cs := #[.int .i64 a0_0, .int .i64 a0_1, .int .i64 a0_2]) (t := 39) ?hr ?_; (case hd => rfl); (case hg => rfl); (case hr => first | (go_simp; done) | (go_simp; rfl)); intro gbq0 hg wq1 hbox hb; have nq2 := Aside0.mk (below_step (hb0_) hb); have BKq3 := Aside0.mk (hbox); have GWq4 := Aside0.mk (bs_ hg (hb0_)); have GEq5 := GWq4; clear HB; have HB := nq2; clear nq2; clear hb hbox hg; obtain ⟨⟨czq6, fzq7⟩, ⟨czq8, fzq9⟩, ⟨czq10, fzq11⟩⟩ := bc3_ BKq3) | ((with_reducible refine gate_callee (f := 92) rfl ?_); refine goesL_ (some 5) rfl rfl Tryz.func92 (by kernel_rfl) rfl #[.int .i64 a0_0, .int .i64 0, .int .i64 1000] rfl (me_) ?_; (with_reducible refine (impl_in.calls a0_0 0 1000 _ _ A2.out).mono ?_); rintro e w' ⟨rfl, ⟨nd, rfl⟩⟩; refine ⟨_, rfl, ?_⟩) | (go_at_call 92; (with_reducible refine (impl_in.calls a0_1 0 1000 _ _ A4.out).mono ?_); rintro e w' ⟨rfl, ⟨nd, rfl⟩⟩) | (go_at_call 92; (with_reducible refine (impl_in.calls a0_2 0 1000 _ _ A6.out).mono ?_); rintro e w' ⟨rfl, ⟨nd, rfl⟩⟩))
    go_ret
    exact ⟨re_, hb1_ GEq5⟩) : p := h
set_option maxHeartbeats 8000000 in
set_option maxRecDepth 100000 in
theorem impl_RulesOk.calls (a0_0 a0_1 a0_2 : Int) (r : Bool) (w : World) (h : impl_RulesOk.f a0_0 a0_1 a0_2 = some r) :
    Calls Tryz.prog 90 #[.agg #[.int .i64 a0_0, .int .i64 a0_1, .int .i64 a0_2]] w fun e w' => e = .returned (.bool r) ∧ Below w.heap.size w w' := by
  have hu39 := Tryz.underlying39
  have HB := Aside0.mk (Below.refl w.heap.size w)
  have H : ((impl_in.f a0_0 0 1000).bind fun t531 => (if t531 = true then ((impl_in.f a0_1 0 1000).bind fun t532 => (if t532 = true then ((impl_in.f a0_2 0 1000).bind fun t533 => (some t533)) else (some false))) else (some false))) = some r := h
  clear h
  replace H := Option.bind_eq_some_iff.mp H
  obtain ⟨t531, A20, H⟩ := H
  replace H : (if t531 = true then ((impl_in.f a0_1 0 1000).bind fun t532 => (if t532 = true then ((impl_in.f a0_2 0 1000).bind fun t533 => (some t533)) else (some false))) else (some false)) = some r := H
  have A2 := Aside0.mk A20
  clear A20
  by_cases c3 : t531 = true
  · subst c3
    have H1 : ((impl_in.f a0_1 0 1000).bind fun t532 => (if t532 = true then ((impl_in.f a0_2 0 1000).bind fun t533 => (some t533)) else (some false))) = some r := by rw [if_pos rfl] at H; exact H
    clear H
    have H := H1
    clear H1
    replace H := Option.bind_eq_some_iff.mp H
    obtain ⟨t532, A40, H⟩ := H
    replace H : (if t532 = true then ((impl_in.f a0_2 0 1000).bind fun t533 => (some t533)) else (some false)) = some r := H
    have A4 := Aside0.mk A40
    clear A40
    by_cases c5 : t532 = true
    · subst c5
      have H1 : ((impl_in.f a0_2 0 1000).bind fun t533 => (some t533)) = some r := by rw [if_pos rfl] at H; exact H
      clear H
      have H := H1
      clear H1
      replace H := Option.bind_eq_some_iff.mp H
      obtain ⟨t533, A60, H⟩ := H
      replace H : (some t533) = some r := H
      have A6 := Aside0.mk A60
      clear A60
      obtain rfl := Option.some.inj H
      exact impl_RulesOk.t1_
    · replace c5 := Bool.eq_false_iff.mpr c5
      subst c5
      have H1 : (some false) = some r := by rw [if_neg (show ¬ (false = true) by decide)] at H; exact H
      clear H
      have H := H1
      clear H1
      obtain rfl := Option.some.inj H
      exact impl_RulesOk.t1_
  · replace c3 := Bool.eq_false_iff.mpr c3
    subst c3
    have H1 : (some false) = some r := by rw [if_neg (show ¬ (false = true) by decide)] at H; exact H
    clear H
    have H := H1
    clear H1
    obtain rfl := Option.some.inj H
    exact impl_RulesOk.t1_
def impl_SideOk.l0 : Nat → List (S118) → Int → Int → List (S118) → Int → Int → Option (Bool)
  | 0, _, _, _, _, _, _ => none
  | k + 1, x6, x7, x8, x535000, x535001, x535002 => if x8 < x7 then (if 0 ≤ x8 then (if x8 < (x6.length : Int) then ((impl_in.f ((rd_T118 x6 x8).f0) 0 1).bind fun t539 => (if t539 = true then ((impl_in.f ((rd_T118 x6 x8).f1) 1 1000).bind fun t540 => (if t540 = true then ((impl_in.f ((rd_T118 x6 x8).f2) 1 1000).bind fun t541 => (if t541 = true then (impl_SideOk.l0 k x6 x7 (wrap64 (x8 + 1)) x535000 x535001 x535002) else (some false))) else (some false))) else (some false))) else (none)) else (none)) else (if (x535000.length : Int) ≤ 3 then ((impl_in.f x535001 0 2).bind fun t535 => (if t535 = true then ((impl_in.f x535002 0 1000).bind fun t536 => (some t536)) else (some false))) else (some false))
def impl_SideOk.f (k : Nat) (l0_0 : List (S118)) (a0_1 a0_2 : Int) : Option (Bool) := impl_SideOk.l0 k l0_0 (l0_0.length : Int) 0 l0_0 a0_1 a0_2
theorem impl_SideOk.t1_ {p : Prop} (h : p := by
    go_wp2_with (first | ((with_reducible refine gate_dst (N := 4) rfl ?_); refine box_event ?hg (N := 4) ?hd (cs := #[.int .i64 0, .int .i64 0, .int .i64 0]) (t := 118) ?hr ?_; (case hd => rfl); (case hg => rfl); (case hr => first | (go_simp; done) | (go_simp; rfl)); intro gbq0 hg wq1 hbox hb; have nq2 := bb_ BK534 hb; have nq3 := Aside0.mk (below_step (hb1_ GE534) hb); have BKq4 := Aside0.mk (hbox); have GWq5 := Aside0.mk (bs_ hg (hb1_ GE534)); have GEq6 := GWq5; have NBq7 := Aside0.mk ((by rw [hg]; exact Nat.ne_of_lt (blk_lt (g := gb534) (o := .cells #[.slice (some ad537) l0_0.length c0_0, .int .i64 a0_1, .int .i64 a0_2] 43 (0, 0)) (bk_ BK534)) : gb534 ≠ gbq0)); have NBq8 := Aside0.mk ((by rw [hg]; exact Nat.ne_of_gt (blk_lt (g := gb534) (o := .cells #[.slice (some ad537) l0_0.length c0_0, .int .i64 a0_1, .int .i64 a0_2] 43 (0, 0)) (bk_ BK534)) : gbq0 ≠ gb534)); clear BK534; clear HB; have BK534 := nq2; have HB := nq3; clear nq2 nq3; clear hb hbox hg; have hnbq9 := NBq8.out; have hncq10 := NBq7.out; obtain ⟨czq11, fzq12⟩ := bc_ BKq4 0; obtain ⟨czq13, fzq14⟩ := bc_ BKq4 1; obtain ⟨czq15, fzq16⟩ := bc_ BKq4 2) | ((with_reducible refine gate_callee (f := 92) rfl ?_); refine goesL_ (some 14) rfl rfl Tryz.func92 (by kernel_rfl) rfl #[.int .i64 ((rd_T118 l0_0 x8_1).f0), .int .i64 0, .int .i64 1] rfl (me_) ?_; (with_reducible refine (impl_in.calls ((rd_T118 l0_0 x8_1).f0) 0 1 _ _ A7.out).mono ?_); rintro e w' ⟨rfl, ⟨nd, rfl⟩⟩; refine ⟨_, rfl, ?_⟩) | (go_at_call 92; (with_reducible refine (impl_in.calls ((rd_T118 l0_0 x8_1).f1) 1 1000 _ _ A9.out).mono ?_); rintro e w' ⟨rfl, ⟨nd, rfl⟩⟩) | (go_at_call 92; (with_reducible refine (impl_in.calls ((rd_T118 l0_0 x8_1).f2) 1 1000 _ _ A11.out).mono ?_); rintro e w' ⟨rfl, ⟨nd, rfl⟩⟩))
    go_ret
    exact ⟨re_, hb2_ GE534 GEq6⟩) : p := h
set_option maxHeartbeats 8000000 in
set_option maxRecDepth 100000 in
theorem impl_SideOk.calls (k : Nat) (A0_0 : Option Addr) (c0_0 : Nat) (l0_0 : List (S118)) (a0_1 a0_2 : Int) (r : Bool) (w : World) (hr0_0 : Kd.C k118 w A0_0 l0_0.length l0_0) (hc0_0 : l0_0.length ≤ c0_0) (h : impl_SideOk.f k l0_0 a0_1 a0_2 = some r) :
    Calls Tryz.prog 94 #[.agg #[.slice A0_0 l0_0.length c0_0, .int .i64 a0_1, .int .i64 a0_2]] w fun e w' => e = .returned (.bool r) ∧ Below w.heap.size w w' := by
  have hu43 := Tryz.underlying43
  have hu118 := Tryz.underlying118
  have HR0_0 := Aside0.mk hr0_0
  have HC0_0 := Aside0.mk hc0_0
  clear hr0_0 hc0_0
  have HB := Aside0.mk (Below.refl w.heap.size w)
  have H : (impl_SideOk.l0 k l0_0 (l0_0.length : Int) 0 l0_0 a0_1 a0_2) = some r := h
  clear h
  have H' := Aside0.mk H
  clear H
  go_enter Tryz.func94, Tryz.ntmps94
  go_wp2_with (first | ((with_reducible refine gate_dst (N := 1) rfl ?_); refine box_event ?hg (N := 1) ?hd (cs := #[.slice A0_0 l0_0.length c0_0, .int .i64 a0_1, .int .i64 a0_2]) (t := 43) ?hr ?_; (case hd => rfl); (case hg => rfl); (case hr => first | (go_simp; done) | (go_simp; rfl)); intro gb534 hg w2 hbox hb; have n0_ := Aside0.mk (below_step (hb0_) hb); have BK534 := Aside0.mk (hbox); have GW534 := Aside0.mk (bs_ hg (hb0_)); have GE534 := GW534; clear HB; have HB := n0_; clear n0_; clear hb hbox hg; obtain ⟨⟨cz3_0, fz3_0⟩, ⟨cz3_1, fz3_1⟩, ⟨cz3_2, fz3_2⟩⟩ := bc3_ BK534))
  go_loopg [8] k (fun kq v8 w' => ∃ (x8_1 : Int), v8 = .int .i64 x8_1 ∧ Aside0 (impl_SideOk.l0 kq l0_0 (l0_0.length : Int) x8_1 l0_0 a0_1 a0_2 = some r) ∧ Aside0 (kq ≤ k) ∧ Aside0 (w'.heap[gb534]? = some (.cells #[(.slice A0_0 l0_0.length c0_0), .int .i64 a0_1, .int .i64 a0_2] 43 (0, 0))) ∧ Aside0 (Below w.heap.size w w'))
  case atStart => exact ⟨(0), (rs_), H', ⟨Nat.le_refl _⟩, ⟨bk_ BK534⟩, ⟨hb1_ GE534⟩⟩
  case round =>
    clear H'
    try clear p2
    try clear cz3_0
    try clear cz3_1
    try clear cz3_2
    try clear fz3_0
    try clear fz3_1
    try clear fz3_2
    obtain ⟨x8_1, rfl, HA, HK1, BK534, HB⟩ := hrel
    cases gk with
    | zero => exact absurd HA.out (by simp [impl_SideOk.l0])
    | succ k1 =>
      have H := HA.out
      clear HA
      simp only [impl_SideOk.l0] at H
      by_cases c4 : x8_1 < (l0_0.length : Int)
      · rw [if_pos c4] at H
        have c4b0 : decide (x8_1 < (l0_0.length : Int)) = true := decide_eq_true c4
        clear c4
        by_cases c5 : 0 ≤ x8_1
        · rw [if_pos c5] at H
          have c5b0 : decide (0 ≤ x8_1) = true := decide_eq_true c5
          clear c5
          by_cases c6 : x8_1 < (l0_0.length : Int)
          · rw [if_pos c6] at H
            have c6b0 : decide (x8_1 < (l0_0.length : Int)) = true := decide_eq_true c6
            clear c6
            replace H := Option.bind_eq_some_iff.mp H
            obtain ⟨t539, A70, H⟩ := H
            replace H : (if t539 = true then ((impl_in.f ((rd_T118 l0_0 x8_1).f1) 1 1000).bind fun t540 => (if t540 = true then ((impl_in.f ((rd_T118 l0_0 x8_1).f2) 1 1000).bind fun t541 => (if t541 = true then (impl_SideOk.l0 k1 l0_0 (l0_0.length : Int) (wrap64 (x8_1 + 1)) l0_0 a0_1 a0_2) else (some false))) else (some false))) else (some false)) = some r := H
            have A7 := Aside0.mk A70
            clear A70
            by_cases c8 : t539 = true
            · subst c8
              have H1 : ((impl_in.f ((rd_T118 l0_0 x8_1).f1) 1 1000).bind fun t540 => (if t540 = true then ((impl_in.f ((rd_T118 l0_0 x8_1).f2) 1 1000).bind fun t541 => (if t541 = true then (impl_SideOk.l0 k1 l0_0 (l0_0.length : Int) (wrap64 (x8_1 + 1)) l0_0 a0_1 a0_2) else (some false))) else (some false))) = some r := by rw [if_pos rfl] at H; exact H
              clear H
              have H := H1
              clear H1
              replace H := Option.bind_eq_some_iff.mp H
              obtain ⟨t540, A90, H⟩ := H
              replace H : (if t540 = true then ((impl_in.f ((rd_T118 l0_0 x8_1).f2) 1 1000).bind fun t541 => (if t541 = true then (impl_SideOk.l0 k1 l0_0 (l0_0.length : Int) (wrap64 (x8_1 + 1)) l0_0 a0_1 a0_2) else (some false))) else (some false)) = some r := H
              have A9 := Aside0.mk A90
              clear A90
              by_cases c10 : t540 = true
              · subst c10
                have H1 : ((impl_in.f ((rd_T118 l0_0 x8_1).f2) 1 1000).bind fun t541 => (if t541 = true then (impl_SideOk.l0 k1 l0_0 (l0_0.length : Int) (wrap64 (x8_1 + 1)) l0_0 a0_1 a0_2) else (some false))) = some r := by rw [if_pos rfl] at H; exact H
                clear H
                have H := H1
                clear H1
                replace H := Option.bind_eq_some_iff.mp H
                obtain ⟨t541, A110, H⟩ := H
                replace H : (if t541 = true then (impl_SideOk.l0 k1 l0_0 (l0_0.length : Int) (wrap64 (x8_1 + 1)) l0_0 a0_1 a0_2) else (some false)) = some r := H
                have A11 := Aside0.mk A110
                clear A110
                by_cases c12 : t541 = true
                · subst c12
                  have H1 : (impl_SideOk.l0 k1 l0_0 (l0_0.length : Int) (wrap64 (x8_1 + 1)) l0_0 a0_1 a0_2) = some r := by rw [if_pos rfl] at H; exact H
                  clear H
                  have H := H1
                  clear H1
                  have H' := Aside0.mk H
                  clear H
                  have p537 : 0 ≤ (x8_1 : Int) := of_decide_eq_true as_
                  have q537 : x8_1 < (l0_0.length : Int) := of_decide_eq_true as_
                  obtain ⟨ad537, e537, hx537_0, hx537_1, hx537_2⟩ := at_T118 HR0_0.out x8_1 p537 q537
                  cases e537
                  replace hx537_0 := (HB.out.cell (World.block_lt_of_cell? w _ hx537_0)).trans hx537_0
                  replace hx537_1 := (HB.out.cell (World.block_lt_of_cell? w _ hx537_1)).trans hx537_1
                  replace hx537_2 := (HB.out.cell (World.block_lt_of_cell? w _ hx537_2)).trans hx537_2
                  replace p537 := eq_true p537
                  replace q537 := eq_true q537
                  go_wp2_with (first | ((with_reducible refine gate_dst (N := 4) rfl ?_); refine box_event ?hg (N := 4) ?hd (cs := #[.int .i64 0, .int .i64 0, .int .i64 0]) (t := 118) ?hr ?_; (case hd => rfl); (case hg => rfl); (case hr => first | (go_simp; done) | (go_simp; rfl)); intro gb538 hg w13 hbox hb; have n0_ := bb_ BK534 hb; have n1_ := Aside0.mk (below_step (hb1_ GE534) hb); have BK538 := Aside0.mk (hbox); have GW538 := Aside0.mk (bs_ hg (hb1_ GE534)); have GE538 := GW538; have NB534_538 := Aside0.mk ((by rw [hg]; exact Nat.ne_of_lt (blk_lt (g := gb534) (o := .cells #[.slice (some ad537) l0_0.length c0_0, .int .i64 a0_1, .int .i64 a0_2] 43 (0, 0)) (bk_ BK534)) : gb534 ≠ gb538)); have NB538_534 := Aside0.mk ((by rw [hg]; exact Nat.ne_of_gt (blk_lt (g := gb534) (o := .cells #[.slice (some ad537) l0_0.length c0_0, .int .i64 a0_1, .int .i64 a0_2] 43 (0, 0)) (bk_ BK534)) : gb538 ≠ gb534)); clear BK534; clear HB; have BK534 := n0_; have HB := n1_; clear n0_ n1_; clear hb hbox hg; have hnb14 := NB538_534.out; have hnc14 := NB534_538.out; obtain ⟨cz15_0, fz15_0⟩ := bc_ BK538 0; obtain ⟨cz15_1, fz15_1⟩ := bc_ BK538 1; obtain ⟨cz15_2, fz15_2⟩ := bc_ BK538 2) | ((with_reducible refine gate_callee (f := 92) rfl ?_); refine goesL_ (some 14) rfl rfl Tryz.func92 (by kernel_rfl) rfl #[.int .i64 ((rd_T118 l0_0 x8_1).f0), .int .i64 0, .int .i64 1] rfl (me_) ?_; (with_reducible refine (impl_in.calls ((rd_T118 l0_0 x8_1).f0) 0 1 _ _ A7.out).mono ?_); rintro e w' ⟨rfl, ⟨nd, rfl⟩⟩; refine ⟨_, rfl, ?_⟩) | (go_at_call 92; (with_reducible refine (impl_in.calls ((rd_T118 l0_0 x8_1).f1) 1 1000 _ _ A9.out).mono ?_); rintro e w' ⟨rfl, ⟨nd, rfl⟩⟩) | (go_at_call 92; (with_reducible refine (impl_in.calls ((rd_T118 l0_0 x8_1).f2) 1 1000 _ _ A11.out).mono ?_); rintro e w' ⟨rfl, ⟨nd, rfl⟩⟩))
                  go_roundg k1
                  case measure => have := HK1.out; omega
                  case rel => exact ⟨(wrap64 (x8_1 + 1)), (rs_), H', ⟨by have := HK1.out; omega⟩, ⟨bp_ BK534⟩, ⟨hb2_ GE534 GE538⟩⟩
                · replace c12 := Bool.eq_false_iff.mpr c12
                  subst c12
                  have H1 : (some false) = some r := by rw [if_neg (show ¬ (false = true) by decide)] at H; exact H
                  clear H
                  have H := H1
                  clear H1
                  obtain rfl := Option.some.inj H
                  have p537 : 0 ≤ (x8_1 : Int) := of_decide_eq_true as_
                  have q537 : x8_1 < (l0_0.length : Int) := of_decide_eq_true as_
                  obtain ⟨ad537, e537, hx537_0, hx537_1, hx537_2⟩ := at_T118 HR0_0.out x8_1 p537 q537
                  cases e537
                  replace hx537_0 := (HB.out.cell (World.block_lt_of_cell? w _ hx537_0)).trans hx537_0
                  replace hx537_1 := (HB.out.cell (World.block_lt_of_cell? w _ hx537_1)).trans hx537_1
                  replace hx537_2 := (HB.out.cell (World.block_lt_of_cell? w _ hx537_2)).trans hx537_2
                  replace p537 := eq_true p537
                  replace q537 := eq_true q537
                  exact impl_SideOk.t1_
              · replace c10 := Bool.eq_false_iff.mpr c10
                subst c10
                have H1 : (some false) = some r := by rw [if_neg (show ¬ (false = true) by decide)] at H; exact H
                clear H
                have H := H1
                clear H1
                obtain rfl := Option.some.inj H
                have p537 : 0 ≤ (x8_1 : Int) := of_decide_eq_true as_
                have q537 : x8_1 < (l0_0.length : Int) := of_decide_eq_true as_
                obtain ⟨ad537, e537, hx537_0, hx537_1, hx537_2⟩ := at_T118 HR0_0.out x8_1 p537 q537
                cases e537
                replace hx537_0 := (HB.out.cell (World.block_lt_of_cell? w _ hx537_0)).trans hx537_0
                replace hx537_1 := (HB.out.cell (World.block_lt_of_cell? w _ hx537_1)).trans hx537_1
                replace hx537_2 := (HB.out.cell (World.block_lt_of_cell? w _ hx537_2)).trans hx537_2
                replace p537 := eq_true p537
                replace q537 := eq_true q537
                exact impl_SideOk.t1_
            · replace c8 := Bool.eq_false_iff.mpr c8
              subst c8
              have H1 : (some false) = some r := by rw [if_neg (show ¬ (false = true) by decide)] at H; exact H
              clear H
              have H := H1
              clear H1
              obtain rfl := Option.some.inj H
              have p537 : 0 ≤ (x8_1 : Int) := of_decide_eq_true as_
              have q537 : x8_1 < (l0_0.length : Int) := of_decide_eq_true as_
              obtain ⟨ad537, e537, hx537_0, hx537_1, hx537_2⟩ := at_T118 HR0_0.out x8_1 p537 q537
              cases e537
              replace hx537_0 := (HB.out.cell (World.block_lt_of_cell? w _ hx537_0)).trans hx537_0
              replace hx537_1 := (HB.out.cell (World.block_lt_of_cell? w _ hx537_1)).trans hx537_1
              replace hx537_2 := (HB.out.cell (World.block_lt_of_cell? w _ hx537_2)).trans hx537_2
              replace p537 := eq_true p537
              replace q537 := eq_true q537
              exact impl_SideOk.t1_
          · rw [if_neg c6] at H
            exact absurd H (by simp)
        · rw [if_neg c5] at H
          exact absurd H (by simp)
      · rw [if_neg c4] at H
        have c4b0 : decide (x8_1 < (l0_0.length : Int)) = false := decide_eq_false c4
        clear c4
        by_cases c25 : (l0_0.length : Int) ≤ 3
        · rw [if_pos c25] at H
          have c25b0 : decide ((l0_0.length : Int) ≤ 3) = true := decide_eq_true c25
          have c25b1 : decide (l0_0.length ≤ 3) = true := decide_eq_true (by omega)
          clear c25
          replace H := Option.bind_eq_some_iff.mp H
          obtain ⟨t535, A260, H⟩ := H
          replace H : (if t535 = true then ((impl_in.f a0_2 0 1000).bind fun t536 => (some t536)) else (some false)) = some r := H
          have A26 := Aside0.mk A260
          clear A260
          by_cases c27 : t535 = true
          · subst c27
            have H1 : ((impl_in.f a0_2 0 1000).bind fun t536 => (some t536)) = some r := by rw [if_pos rfl] at H; exact H
            clear H
            have H := H1
            clear H1
            replace H := Option.bind_eq_some_iff.mp H
            obtain ⟨t536, A280, H⟩ := H
            replace H : (some t536) = some r := H
            have A28 := Aside0.mk A280
            clear A280
            obtain rfl := Option.some.inj H
            obtain ⟨⟨cz29_0, fz29_0⟩, ⟨cz29_1, fz29_1⟩, ⟨cz29_2, fz29_2⟩⟩ := bc3_ BK534
            go_wp2_with (first | (go_at_call 92; (with_reducible refine (impl_in.calls a0_1 0 2 _ _ A26.out).mono ?_); rintro e w' ⟨rfl, ⟨nd, rfl⟩⟩) | (go_at_call 92; (with_reducible refine (impl_in.calls a0_2 0 1000 _ _ A28.out).mono ?_); rintro e w' ⟨rfl, ⟨nd, rfl⟩⟩))
            go_ret
            exact ⟨re_, hb1_ GE534⟩
          · replace c27 := Bool.eq_false_iff.mpr c27
            subst c27
            have H1 : (some false) = some r := by rw [if_neg (show ¬ (false = true) by decide)] at H; exact H
            clear H
            have H := H1
            clear H1
            obtain rfl := Option.some.inj H
            obtain ⟨⟨cz30_0, fz30_0⟩, ⟨cz30_1, fz30_1⟩, ⟨cz30_2, fz30_2⟩⟩ := bc3_ BK534
            go_wp2_with (first | (go_at_call 92; (with_reducible refine (impl_in.calls a0_1 0 2 _ _ A26.out).mono ?_); rintro e w' ⟨rfl, ⟨nd, rfl⟩⟩))
            go_ret
            exact ⟨re_, hb1_ GE534⟩
        · rw [if_neg c25] at H
          have c25b0 : decide ((l0_0.length : Int) ≤ 3) = false := decide_eq_false c25
          have c25b1 : decide (l0_0.length ≤ 3) = false := decide_eq_false (by omega)
          clear c25
          obtain rfl := Option.some.inj H
          obtain ⟨⟨cz31_0, fz31_0⟩, ⟨cz31_1, fz31_1⟩, ⟨cz31_2, fz31_2⟩⟩ := bc3_ BK534
          go_wp2
          go_ret
          exact ⟨re_, hb1_ GE534⟩
def impl_BehaveOk.f (k : Nat) (l0_0 : List (S118)) (a0_1 a0_2 : Int) (l0_3 : List (S118)) (a0_4 a0_5 a0_6 a0_7 : Int) : Option (Bool) := (impl_SideOk.f k l0_0 a0_1 a0_2).bind fun t543 => (if t543 = true then ((impl_SideOk.f k l0_3 a0_4 a0_5).bind fun t544 => (if t544 = true then (if a0_6 ≥ 0 then (if a0_6 ≤ a0_7 then (some (decide (a0_7 ≤ 1000))) else (some false)) else (some false)) else (some false))) else (some false))
theorem impl_BehaveOk.t1_ {p : Prop} (h : p := by
    go_enter Tryz.func91, Tryz.ntmps91
    go_wp2_with (first | ((with_reducible refine gate_dst (N := 1) rfl ?_); refine box_event ?hg (N := 1) ?hd (cs := #[.slice A0_0 l0_0.length c0_0, .int .i64 a0_1, .int .i64 a0_2, .slice A0_3 l0_3.length c0_3, .int .i64 a0_4, .int .i64 a0_5, .int .i64 a0_6, .int .i64 a0_7]) (t := 45) ?hr ?_; (case hd => rfl); (case hg => rfl); (case hr => first | (go_simp; done) | (go_simp; rfl)); intro gbq0 hg wq1 hbox hb; have nq2 := Aside0.mk (below_step (hb0_) hb); have BKq3 := Aside0.mk (hbox); have GWq4 := Aside0.mk (bs_ hg (hb0_)); have GEq5 := GWq4; clear HB; have HB := nq2; clear nq2; clear hb hbox hg; obtain ⟨⟨czq6, fzq7⟩, ⟨czq8, fzq9⟩, ⟨czq10, fzq11⟩, ⟨czq12, fzq13⟩, ⟨czq14, fzq15⟩, ⟨czq16, fzq17⟩, ⟨czq18, fzq19⟩, ⟨czq20, fzq21⟩⟩ := bc8_ BKq3) | ((with_reducible refine gate_callee (f := 94) rfl ?_); refine goesL_ (some 5) rfl rfl Tryz.func94 (by kernel_rfl) rfl #[.agg #[.slice A0_0 l0_0.length c0_0, .int .i64 a0_1, .int .i64 a0_2]] rfl (me_) ?_; (with_reducible refine (impl_SideOk.calls k _ _ l0_0 a0_1 a0_2 _ _ ?side1 ?side2 A2.out).mono ?_); (case side1 => repeat (first | exact (Kd.C_below HR0_0.out HB.out) | (with_reducible refine Kd.C_alloc ?_ _) | (with_reducible refine Kd.C_drewN ?_ _) | (with_reducible refine Kd.C_drew ?_))); (case side2 => exact HC0_0.out); rintro e wq22 ⟨rfl, hb⟩; refine ⟨_, rfl, ?_⟩; have nq2 := bb_ BKq3 hb; have nq23 := Aside0.mk (below_step (hb1_ GEq5) hb); clear BKq3; clear HB; have BKq3 := nq2; have HB := nq23; clear nq2 nq23; (try clear hb); (try clear hb2); (try clear hk); (try clear hi); (try (obtain ⟨⟨czq24, fzq25⟩, ⟨czq26, fzq27⟩, ⟨czq28, fzq29⟩, ⟨czq30, fzq31⟩, ⟨czq32, fzq33⟩, ⟨czq34, fzq35⟩, ⟨czq36, fzq37⟩, ⟨czq38, fzq39⟩⟩ := bc8_ BKq3))) | (go_at_call 94; (with_reducible refine (impl_SideOk.calls k _ _ l0_3 a0_4 a0_5 _ _ ?side1 ?side2 A4.out).mono ?_); (case side1 => repeat (first | exact (Kd.C_below HR0_3.out HB.out) | (with_reducible refine Kd.C_alloc ?_ _) | (with_reducible refine Kd.C_drewN ?_ _) | (with_reducible refine Kd.C_drew ?_))); (case side2 => exact HC0_3.out); rintro e wq40 ⟨rfl, hb⟩; have nq2 := bb_ BKq3 hb; have nq23 := Aside0.mk (below_step (hb1_ GEq5) hb); clear BKq3; clear HB; have BKq3 := nq2; have HB := nq23; clear nq2 nq23; (try clear hb); (try clear hb2); (try clear hk); (try clear hi); (try (obtain ⟨⟨czq41, fzq42⟩, ⟨czq43, fzq44⟩, ⟨czq45, fzq46⟩, ⟨czq47, fzq48⟩, ⟨czq49, fzq50⟩, ⟨czq51, fzq52⟩, ⟨czq53, fzq54⟩, ⟨czq55, fzq56⟩⟩ := bc8_ BKq3))))
    go_ret
    exact ⟨re_, hb1_ GEq5⟩) : p := h
set_option maxHeartbeats 8000000 in
set_option maxRecDepth 100000 in
theorem impl_BehaveOk.calls (k : Nat) (A0_0 : Option Addr) (c0_0 : Nat) (l0_0 : List (S118)) (a0_1 a0_2 : Int) (A0_3 : Option Addr) (c0_3 : Nat) (l0_3 : List (S118)) (a0_4 a0_5 a0_6 a0_7 : Int) (r : Bool) (w : World) (hr0_0 : Kd.C k118 w A0_0 l0_0.length l0_0) (hc0_0 : l0_0.length ≤ c0_0) (hr0_3 : Kd.C k118 w A0_3 l0_3.length l0_3) (hc0_3 : l0_3.length ≤ c0_3) (h : impl_BehaveOk.f k l0_0 a0_1 a0_2 l0_3 a0_4 a0_5 a0_6 a0_7 = some r) :
    Calls Tryz.prog 91 #[.agg #[.slice A0_0 l0_0.length c0_0, .int .i64 a0_1, .int .i64 a0_2, .slice A0_3 l0_3.length c0_3, .int .i64 a0_4, .int .i64 a0_5, .int .i64 a0_6, .int .i64 a0_7]] w fun e w' => e = .returned (.bool r) ∧ Below w.heap.size w w' := by
  have hu45 := Tryz.underlying45
  have hu43 := Tryz.underlying43
  have HR0_0 := Aside0.mk hr0_0
  have HC0_0 := Aside0.mk hc0_0
  clear hr0_0 hc0_0
  have HR0_3 := Aside0.mk hr0_3
  have HC0_3 := Aside0.mk hc0_3
  clear hr0_3 hc0_3
  have HB := Aside0.mk (Below.refl w.heap.size w)
  have H : ((impl_SideOk.f k l0_0 a0_1 a0_2).bind fun t543 => (if t543 = true then ((impl_SideOk.f k l0_3 a0_4 a0_5).bind fun t544 => (if t544 = true then (if a0_6 ≥ 0 then (if a0_6 ≤ a0_7 then (some (decide (a0_7 ≤ 1000))) else (some false)) else (some false)) else (some false))) else (some false))) = some r := h
  clear h
  replace H := Option.bind_eq_some_iff.mp H
  obtain ⟨t543, A20, H⟩ := H
  replace H : (if t543 = true then ((impl_SideOk.f k l0_3 a0_4 a0_5).bind fun t544 => (if t544 = true then (if a0_6 ≥ 0 then (if a0_6 ≤ a0_7 then (some (decide (a0_7 ≤ 1000))) else (some false)) else (some false)) else (some false))) else (some false)) = some r := H
  have A2 := Aside0.mk A20
  clear A20
  by_cases c3 : t543 = true
  · subst c3
    have H1 : ((impl_SideOk.f k l0_3 a0_4 a0_5).bind fun t544 => (if t544 = true then (if a0_6 ≥ 0 then (if a0_6 ≤ a0_7 then (some (decide (a0_7 ≤ 1000))) else (some false)) else (some false)) else (some false))) = some r := by rw [if_pos rfl] at H; exact H
    clear H
    have H := H1
    clear H1
    replace H := Option.bind_eq_some_iff.mp H
    obtain ⟨t544, A40, H⟩ := H
    replace H : (if t544 = true then (if a0_6 ≥ 0 then (if a0_6 ≤ a0_7 then (some (decide (a0_7 ≤ 1000))) else (some false)) else (some false)) else (some false)) = some r := H
    have A4 := Aside0.mk A40
    clear A40
    by_cases c5 : t544 = true
    · subst c5
      have H1 : (if a0_6 ≥ 0 then (if a0_6 ≤ a0_7 then (some (decide (a0_7 ≤ 1000))) else (some false)) else (some false)) = some r := by rw [if_pos rfl] at H; exact H
      clear H
      have H := H1
      clear H1
      by_cases c6 : a0_6 ≥ 0
      · rw [if_pos c6] at H
        have c6b0 : decide (0 ≤ a0_6) = true := decide_eq_true c6
        clear c6
        by_cases c7 : a0_6 ≤ a0_7
        · rw [if_pos c7] at H
          have c7b0 : decide (a0_6 ≤ a0_7) = true := decide_eq_true c7
          clear c7
          obtain rfl := Option.some.inj H
          exact impl_BehaveOk.t1_
        · rw [if_neg c7] at H
          have c7b0 : decide (a0_6 ≤ a0_7) = false := decide_eq_false c7
          clear c7
          obtain rfl := Option.some.inj H
          exact impl_BehaveOk.t1_
      · rw [if_neg c6] at H
        have c6b0 : decide (0 ≤ a0_6) = false := decide_eq_false c6
        clear c6
        obtain rfl := Option.some.inj H
        exact impl_BehaveOk.t1_
    · replace c5 := Bool.eq_false_iff.mpr c5
      subst c5
      have H1 : (some false) = some r := by rw [if_neg (show ¬ (false = true) by decide)] at H; exact H
      clear H
      have H := H1
      clear H1
      obtain rfl := Option.some.inj H
      exact impl_BehaveOk.t1_
  · replace c3 := Bool.eq_false_iff.mpr c3
    subst c3
    have H1 : (some false) = some r := by rw [if_neg (show ¬ (false = true) by decide)] at H; exact H
    clear H
    have H := H1
    clear H1
    obtain rfl := Option.some.inj H
    exact impl_BehaveOk.t1_
def impl_isValue.f (a0 : Int) : Option (Bool) := (impl_in.f a0 (-1000000000) 1000000000).bind fun t545 => (some t545)
set_option maxHeartbeats 8000000 in
set_option maxRecDepth 100000 in
theorem impl_isValue.calls (a0 : Int) (r : Bool) (w : World) (h : impl_isValue.f a0 = some r) :
    Calls Tryz.prog 119 #[.int .i64 a0] w fun e w' => e = .returned (.bool r) ∧ Drawn0 w w' := by
  have H : ((impl_in.f a0 (-1000000000) 1000000000).bind fun t545 => (some t545)) = some r := h
  clear h
  replace H := Option.bind_eq_some_iff.mp H
  obtain ⟨t545, A20, H⟩ := H
  replace H : (some t545) = some r := H
  have A2 := Aside0.mk A20
  clear A20
  obtain rfl := Option.some.inj H
  go_enter Tryz.func119, Tryz.ntmps119
  go_wp2_with (first | ((with_reducible refine gate_callee (f := 92) rfl ?_); refine goesL_ (some 4) rfl rfl Tryz.func92 (by kernel_rfl) rfl #[.int .i64 a0, .int .i64 (-1000000000), .int .i64 1000000000] rfl (me_) ?_; (with_reducible refine (impl_in.calls a0 (-1000000000) 1000000000 _ _ A2.out).mono ?_); rintro e w' ⟨rfl, ⟨nd, rfl⟩⟩; refine ⟨_, rfl, ?_⟩))
  go_ret
  exact ⟨rs_, by repeat (first | exact Drawn0.refl _ | apply Drawn0.step)⟩
def strings_TrimRight.f (a0 a1 : ByteArray) : Option ByteArray := if a1 = ⟨#[48]⟩ ∧ a0.size ≤ 9223372036854775807 then some ⟨(Go.Lib.trimRightB a0.data.toList 48).toArray⟩ else none
theorem strings_TrimRight.calls (a0 a1 r : ByteArray) (w : World) (h : strings_TrimRight.f a0 a1 = some r) :
    Calls Tryz.prog 120 #[.string a0, .string a1] w fun e w' => e = .returned (.string r) ∧ Drawn0 w w' := by
  unfold strings_TrimRight.f at h
  by_cases c : a1 = ⟨#[48]⟩ ∧ a0.size ≤ 9223372036854775807
  · rw [if_pos c] at h
    obtain rfl := Option.some.inj h
    obtain ⟨rfl, c⟩ := c
    refine (Tryz.strings_TrimRight_one a0 48 (by decide) w c).mono ?_
    rintro e w' ⟨rfl, rfl⟩
    exact ⟨rfl, Drawn0.refl _⟩
  · rw [if_neg c] at h
    exact absurd h (by simp)
def impl_MilliText.j0 : Nat → Int → ByteArray → Option (ByteArray)
  | 0, _, _ => none
  | k + 1, x0, x3 => (strconv_Itoa.f (wrap64 (Int.tdiv x0 1000))).bind fun t547 => (if x3.size + t547.size ≤ 9223372036854775807 then (if (Int.tmod x0 1000) = 0 then (some (x3 ++ t547)) else (if (x3 ++ t547).size + 1 ≤ 9223372036854775807 then ((strconv_Itoa.f (wrap64 (1000 + (Int.tmod x0 1000)))).bind fun t548 => (if 1 ≤ (t548.size : Int) then ((strings_TrimRight.f (t548.extract 1 t548.size) (⟨#[48]⟩ : ByteArray)).bind fun t549 => (if ((x3 ++ t547) ++ (⟨#[46]⟩ : ByteArray)).size + t549.size ≤ 9223372036854775807 then (some (((x3 ++ t547) ++ (⟨#[46]⟩ : ByteArray)) ++ t549)) else (none))) else (none))) else (none))) else (none))
def impl_MilliText.f (k : Nat) (a0 : Int) : Option (ByteArray) := (impl_isValue.f a0).bind fun t546 => (if t546 = true then (if a0 < 0 then (impl_MilliText.j0 k (wrap64 (-a0)) (⟨#[45]⟩ : ByteArray)) else (impl_MilliText.j0 k a0 (⟨#[]⟩ : ByteArray))) else (some (⟨#[]⟩ : ByteArray)))
theorem impl_MilliText.t1_ {p : Prop} (h : p := by
    go_wp2_with (first | ((with_reducible refine gate_callee (f := 51) rfl ?_); refine goesL_ (some 14) rfl rfl Tryz.func51 (by kernel_rfl) rfl #[.int .i64 (wrap64 (Int.tdiv x0_3 1000))] rfl (me_) ?_; (with_reducible refine (strconv_Itoa.calls (wrap64 (Int.tdiv x0_3 1000)) _ _ ?side999 A6.out).mono ?_); (case side999 => exact Laid.below (hb0_) HLd.out); rintro e wq0 ⟨rfl, hb⟩; refine ⟨_, rfl, ?_⟩; have nq1 := Aside0.mk (below_step (hb0_) hb); clear HB; have HB := nq1; clear nq1; (try clear hb); (try clear hb2); (try clear hk); (try clear hi)) | ((with_reducible refine gate_callee (f := 51) rfl ?_); refine goesL_ (some 25) rfl rfl Tryz.func51 (by kernel_rfl) rfl #[.int .i64 (wrap64 (1000 + (Int.tmod x0_3 1000)))] rfl (me_) ?_; (with_reducible refine (strconv_Itoa.calls (wrap64 (1000 + (Int.tmod x0_3 1000))) _ _ ?side999 A11.out).mono ?_); (case side999 => exact Laid.below (hb0_) HLd.out); rintro e wq2 ⟨rfl, hb⟩; refine ⟨_, rfl, ?_⟩; have nq1 := Aside0.mk (below_step (hb0_) hb); clear HB; have HB := nq1; clear nq1; (try clear hb); (try clear hb2); (try clear hk); (try clear hi)) | ((with_reducible refine gate_callee (f := 120) rfl ?_); refine goesL_ (some 27) rfl rfl Tryz.func120 (by kernel_rfl) rfl #[.string (t548.extract 1 t548.size), .string (⟨#[48]⟩ : ByteArray)] rfl (me_) ?_; (with_reducible refine (strings_TrimRight.calls (t548.extract 1 t548.size) (⟨#[48]⟩ : ByteArray) _ _ A13.out).mono ?_); rintro e w' ⟨rfl, ⟨nd, rfl⟩⟩; refine ⟨_, rfl, ?_⟩))
    go_ret
    exact ⟨re_, hb0_⟩) : p := h
set_option maxHeartbeats 8000000 in
set_option maxRecDepth 100000 in
theorem impl_MilliText.calls (k : Nat) (a0 : Int) (r : ByteArray) (w : World) (hLd : Laid w) (h : impl_MilliText.f k a0 = some r) :
    Calls Tryz.prog 93 #[.int .i64 a0] w fun e w' => e = .returned (.string r) ∧ Below w.heap.size w w' := by
  have HLd := Aside0.mk hLd
  clear hLd
  have HB := Aside0.mk (Below.refl w.heap.size w)
  have H : ((impl_isValue.f a0).bind fun t546 => (if t546 = true then (if a0 < 0 then (impl_MilliText.j0 k (wrap64 (-a0)) (⟨#[45]⟩ : ByteArray)) else (impl_MilliText.j0 k a0 (⟨#[]⟩ : ByteArray))) else (some (⟨#[]⟩ : ByteArray)))) = some r := h
  clear h
  replace H := Option.bind_eq_some_iff.mp H
  obtain ⟨t546, A20, H⟩ := H
  replace H : (if t546 = true then (if a0 < 0 then (impl_MilliText.j0 k (wrap64 (-a0)) (⟨#[45]⟩ : ByteArray)) else (impl_MilliText.j0 k a0 (⟨#[]⟩ : ByteArray))) else (some (⟨#[]⟩ : ByteArray))) = some r := H
  have A2 := Aside0.mk A20
  clear A20
  by_cases c3 : t546 = true
  · subst c3
    have H1 : (if a0 < 0 then (impl_MilliText.j0 k (wrap64 (-a0)) (⟨#[45]⟩ : ByteArray)) else (impl_MilliText.j0 k a0 (⟨#[]⟩ : ByteArray))) = some r := by rw [if_pos rfl] at H; exact H
    clear H
    have H := H1
    clear H1
    have HC4 := Aside0.mk H
    clear H
    go_enter Tryz.func93, Tryz.ntmps93
    go_upto_if 8 with (first | ((with_reducible refine gate_callee (f := 119) rfl ?_); refine goesL_ (some 5) rfl rfl Tryz.func119 (by kernel_rfl) rfl #[.int .i64 a0] rfl (me_) ?_; (with_reducible refine (impl_isValue.calls a0 _ _ A2.out).mono ?_); rintro e w' ⟨rfl, ⟨nd, rfl⟩⟩; refine ⟨_, rfl, ?_⟩))
    (try simp only [Act.put, List.setIfInBounds_toArray, List.set_cons_zero, List.set_cons_succ])
    go_cut [0, 3] (fun v0 v3 wc => ∃ (kq : Nat) (x0_3 : Int) (x3_3 : ByteArray), v0 = .int .i64 x0_3 ∧ v3 = .string x3_3 ∧ Aside0 (impl_MilliText.j0 kq x0_3 x3_3 = some r) ∧ Aside0 (kq ≤ k) ∧ Aside0 (Below w.heap.size w wc))
    case first =>
      have H := HC4.out
      clear HC4
      by_cases c5 : a0 < 0
      · rw [if_pos c5] at H
        have c5b0 : decide (a0 < 0) = true := decide_eq_true c5
        clear c5
        (first | rw [c5b0] | (simp only [i64_w, i32_w]; rw [c5b0]) | skip)
        have H' := Aside0.mk H
        clear H
        go_wp2
        go_meet
        case rel => exact ⟨_, (wrap64 (-a0)), ((⟨#[45]⟩ : ByteArray)), (rs_), (rs_), H', ⟨by first | omega | exact Nat.le_refl _⟩, ⟨hb0_⟩⟩
      · rw [if_neg c5] at H
        have c5b0 : decide (a0 < 0) = false := decide_eq_false c5
        clear c5
        (first | rw [c5b0] | (simp only [i64_w, i32_w]; rw [c5b0]) | skip)
        have H' := Aside0.mk H
        clear H
        go_wp2
        go_meet
        case rel => exact ⟨_, (a0), ((⟨#[]⟩ : ByteArray)), (rs_), (rs_), H', ⟨by first | omega | exact Nat.le_refl _⟩, ⟨hb0_⟩⟩
    case rest =>
      clear HC4
      try clear c1
      try clear p2
      try clear c3
      try clear c5
      try clear c5b0
      obtain ⟨kq, x0_3, x3_3, rfl, rfl, HA, HJ3, HB⟩ := hcut
      cases kq with
      | zero => exact absurd HA.out (by simp [impl_MilliText.j0])
      | succ kj3 =>
        have H := HA.out
        clear HA
        simp only [impl_MilliText.j0] at H
        replace H := Option.bind_eq_some_iff.mp H
        obtain ⟨t547, A60, H⟩ := H
        replace H : (if x3_3.size + t547.size ≤ 9223372036854775807 then (if (Int.tmod x0_3 1000) = 0 then (some (x3_3 ++ t547)) else (if (x3_3 ++ t547).size + 1 ≤ 9223372036854775807 then ((strconv_Itoa.f (wrap64 (1000 + (Int.tmod x0_3 1000)))).bind fun t548 => (if 1 ≤ (t548.size : Int) then ((strings_TrimRight.f (t548.extract 1 t548.size) (⟨#[48]⟩ : ByteArray)).bind fun t549 => (if ((x3_3 ++ t547) ++ (⟨#[46]⟩ : ByteArray)).size + t549.size ≤ 9223372036854775807 then (some (((x3_3 ++ t547) ++ (⟨#[46]⟩ : ByteArray)) ++ t549)) else (none))) else (none))) else (none))) else (none)) = some r := H
        have A6 := Aside0.mk A60
        clear A60
        by_cases c7 : x3_3.size + t547.size ≤ 9223372036854775807
        · rw [if_pos c7] at H
          have c7b0 := eq_true c7
          have c7b1 : decide (x3_3.size + t547.size ≤ 9223372036854775807) = true := decide_eq_true c7
          try have c7b2 : (9223372036854775807 < x3_3.size + t547.size) = False := eq_false (Nat.not_lt.2 c7)
          by_cases c8 : (Int.tmod x0_3 1000) = 0
          · rw [if_pos c8] at H
            have c8b0 : ((Int.tmod x0_3 1000) == 0) = true := beq_iff_eq.mpr c8
            have c8b1 : ((Int.tmod x0_3 1000) != 0) = false := bne_eq_false_iff_eq.mpr c8
            clear c8
            obtain rfl := Option.some.inj H
            exact impl_MilliText.t1_
          · rw [if_neg c8] at H
            have c8b0 : ((Int.tmod x0_3 1000) == 0) = false := beq_eq_false_iff_ne.mpr c8
            have c8b1 : ((Int.tmod x0_3 1000) != 0) = true := bne_iff_ne.mpr c8
            by_cases c10 : (x3_3 ++ t547).size + 1 ≤ 9223372036854775807
            · rw [if_pos c10] at H
              have c10b0 := eq_true c10
              have c10b1 : decide ((x3_3 ++ t547).size + 1 ≤ 9223372036854775807) = true := decide_eq_true c10
              try have c10b2 : (9223372036854775807 < (x3_3 ++ t547).size + 1) = False := eq_false (Nat.not_lt.2 c10)
              have c10b7 : (9223372036854775807 < x3_3.size + t547.size + 1) = False := eq_false (sz_ c10)
              replace H := Option.bind_eq_some_iff.mp H
              obtain ⟨t548, A110, H⟩ := H
              replace H : (if 1 ≤ (t548.size : Int) then ((strings_TrimRight.f (t548.extract 1 t548.size) (⟨#[48]⟩ : ByteArray)).bind fun t549 => (if ((x3_3 ++ t547) ++ (⟨#[46]⟩ : ByteArray)).size + t549.size ≤ 9223372036854775807 then (some (((x3_3 ++ t547) ++ (⟨#[46]⟩ : ByteArray)) ++ t549)) else (none))) else (none)) = some r := H
              have A11 := Aside0.mk A110
              clear A110
              by_cases c12 : 1 ≤ (t548.size : Int)
              · rw [if_pos c12] at H
                have c12b0 := eq_true c12
                have c12b1 : decide (1 ≤ (t548.size : Int)) = true := decide_eq_true c12
                clear c12
                replace H := Option.bind_eq_some_iff.mp H
                obtain ⟨t549, A130, H⟩ := H
                replace H : (if ((x3_3 ++ t547) ++ (⟨#[46]⟩ : ByteArray)).size + t549.size ≤ 9223372036854775807 then (some (((x3_3 ++ t547) ++ (⟨#[46]⟩ : ByteArray)) ++ t549)) else (none)) = some r := H
                have A13 := Aside0.mk A130
                clear A130
                by_cases c14 : ((x3_3 ++ t547) ++ (⟨#[46]⟩ : ByteArray)).size + t549.size ≤ 9223372036854775807
                · rw [if_pos c14] at H
                  have c14b0 := eq_true c14
                  have c14b1 : decide (((x3_3 ++ t547) ++ (⟨#[46]⟩ : ByteArray)).size + t549.size ≤ 9223372036854775807) = true := decide_eq_true c14
                  try have c14b2 : (9223372036854775807 < ((x3_3 ++ t547) ++ (⟨#[46]⟩ : ByteArray)).size + t549.size) = False := eq_false (Nat.not_lt.2 c14)
                  have c14b7 : (9223372036854775807 < x3_3.size + t547.size + 1 + t549.size) = False := eq_false (sz_ c14)
                  obtain rfl := Option.some.inj H
                  exact impl_MilliText.t1_
                · rw [if_neg c14] at H
                  exact absurd H (by simp)
              · rw [if_neg c12] at H
                exact absurd H (by simp)
            · rw [if_neg c10] at H
              exact absurd H (by simp)
        · rw [if_neg c7] at H
          exact absurd H (by simp)
  · replace c3 := Bool.eq_false_iff.mpr c3
    subst c3
    have H1 : (some (⟨#[]⟩ : ByteArray)) = some r := by rw [if_neg (show ¬ (false = true) by decide)] at H; exact H
    clear H
    have H := H1
    clear H1
    obtain rfl := Option.some.inj H
    go_enter Tryz.func93, Tryz.ntmps93
    go_wp2_with (first | ((with_reducible refine gate_callee (f := 119) rfl ?_); refine goesL_ (some 5) rfl rfl Tryz.func119 (by kernel_rfl) rfl #[.int .i64 a0] rfl (me_) ?_; (with_reducible refine (impl_isValue.calls a0 _ _ A2.out).mono ?_); rintro e w' ⟨rfl, ⟨nd, rfl⟩⟩; refine ⟨_, rfl, ?_⟩))
    go_ret
    exact ⟨re_, hb0_⟩
end Go.Proofs.YtcjeblikejoogaaGreatDoor.PFnExactOpLine
