-- OVER PRINTED WORDS: laid by this session's program; what this claim does not use is left out; Lean checks it.
import Derived.Test.YtcjeblikejoogaaGreatDoorQTy
namespace Go.Proofs.YtcjeblikejoogaaGreatDoor.PFnExactOpLine
open Go.RowKit Go.Proofs.YtcjeblikejoogaaGreatDoorW.PrintWords Go.Proofs.YtcjeblikejoogaaGreatDoorW.PrintLast Go.Proofs.YtcjeblikejoogaaGreatDoorW.PrintMore
attribute [local go_sem] max2_int min2_int max_two min_two max_three min_three max_four min_four
set_option linter.unusedVariables false
set_option linter.unusedSimpArgs false
attribute [local go_sem high] eqA39 eqA90 eqA118
def spec_l10NoSide.f (l0_0 : List (S118)) (a0_1 a0_2 : Int) : Option (Bool) := if (l0_0.length : Int) = 0 then (if a0_1 = 0 then (some (a0_2 == 0)) else (some false)) else (some false)
theorem spec_l10NoSide.t1_ {p : Prop} (h : p := by
    go_enter Tryz.func38, Tryz.ntmps38
    go_wp2_with (first | ((with_reducible refine gate_dst (N := 1) rfl ?_); refine box_event ?hg (N := 1) ?hd (cs := #[.slice A0_0 l0_0.length c0_0, .int .i64 a0_1, .int .i64 a0_2]) (t := 43) ?hr ?_; (case hd => rfl); (case hg => rfl); (case hr => first | (go_simp; done) | (go_simp; rfl)); intro gbq0 hg wq1 hbox hb; have nq2 := Aside0.mk (below_step (hb0_) hb); have BKq3 := Aside0.mk (hbox); have GWq4 := Aside0.mk (bs_ hg (hb0_)); have GEq5 := GWq4; clear HB; have HB := nq2; clear nq2; clear hb hbox hg; obtain ⟨⟨czq6, fzq7⟩, ⟨czq8, fzq9⟩, ⟨czq10, fzq11⟩⟩ := bc3_ BKq3))
    go_ret
    exact ⟨re_, hb1_ GEq5⟩) : p := h
set_option maxHeartbeats 8000000 in
set_option maxRecDepth 100000 in
theorem spec_l10NoSide.calls (A0_0 : Option Addr) (c0_0 : Nat) (l0_0 : List (S118)) (a0_1 a0_2 : Int) (r : Bool) (w : World) (hr0_0 : Kd.C k118 w A0_0 l0_0.length l0_0) (hc0_0 : l0_0.length ≤ c0_0) (h : spec_l10NoSide.f l0_0 a0_1 a0_2 = some r) :
    Calls Tryz.prog 38 #[.agg #[.slice A0_0 l0_0.length c0_0, .int .i64 a0_1, .int .i64 a0_2]] w fun e w' => e = .returned (.bool r) ∧ Below w.heap.size w w' := by
  have hu43 := Tryz.underlying43
  have HR0_0 := Aside0.mk hr0_0
  have HC0_0 := Aside0.mk hc0_0
  clear hr0_0 hc0_0
  have HB := Aside0.mk (Below.refl w.heap.size w)
  have H : (if (l0_0.length : Int) = 0 then (if a0_1 = 0 then (some (a0_2 == 0)) else (some false)) else (some false)) = some r := h
  clear h
  by_cases c2 : (l0_0.length : Int) = 0
  · rw [if_pos c2] at H
    have c2b0 : ((l0_0.length : Int) == 0) = true := beq_iff_eq.mpr c2
    have c2b1 : ((l0_0.length : Int) != 0) = false := bne_eq_false_iff_eq.mpr c2
    clear c2
    by_cases c3 : a0_1 = 0
    · rw [if_pos c3] at H
      have c3b0 : (a0_1 == 0) = true := beq_iff_eq.mpr c3
      have c3b1 : (a0_1 != 0) = false := bne_eq_false_iff_eq.mpr c3
      clear c3
      obtain rfl := Option.some.inj H
      exact spec_l10NoSide.t1_
    · rw [if_neg c3] at H
      have c3b0 : (a0_1 == 0) = false := beq_eq_false_iff_ne.mpr c3
      have c3b1 : (a0_1 != 0) = true := bne_iff_ne.mpr c3
      obtain rfl := Option.some.inj H
      exact spec_l10NoSide.t1_
  · rw [if_neg c2] at H
    have c2b0 : ((l0_0.length : Int) == 0) = false := beq_eq_false_iff_ne.mpr c2
    have c2b1 : ((l0_0.length : Int) != 0) = true := bne_iff_ne.mpr c2
    have c2b2 : ¬ (l0_0 = []) := fun h_ => c2 (by rw [h_]; rfl)
    obtain rfl := Option.some.inj H
    exact spec_l10NoSide.t1_
def spec_l10Empty.f (a0_0 a0_1 a0_2 : Int) (l0_3 : List (S90)) (l0_4 : List (S118)) (a0_5 a0_6 : Int) (l0_7 : List (S118)) (a0_8 a0_9 a0_10 a0_11 : Int) : Option (Bool) := if (a0_0 == 0 && (a0_1 == 0 && (a0_2 == 0))) = true then (if (l0_3.length : Int) = 0 then ((spec_l10NoSide.f l0_4 a0_5 a0_6).bind fun t120 => (if t120 = true then ((spec_l10NoSide.f l0_7 a0_8 a0_9).bind fun t121 => (if t121 = true then (if a0_10 = 0 then (some (a0_11 == 0)) else (some false)) else (some false))) else (some false))) else (some false)) else (some false)
theorem spec_l10Empty.t1_ {p : Prop} (h : p := by
    go_enter Tryz.func17, Tryz.ntmps17
    go_wp2_with (first | ((with_reducible refine gate_dst (N := 1) rfl ?_); (try (refine gate_guard (by rfl) ?_; dsimp only)); refine box_event ?hg (N := 1) ?hd (cs := #[.int .i64 a0_0, .int .i64 a0_1, .int .i64 a0_2, .slice A0_3 l0_3.length c0_3, .slice A0_4 l0_4.length c0_4, .int .i64 a0_5, .int .i64 a0_6, .slice A0_7 l0_7.length c0_7, .int .i64 a0_8, .int .i64 a0_9, .int .i64 a0_10, .int .i64 a0_11]) (t := 47) ?hr ?_; (case hd => rfl); (case hg => rfl); (case hr => first | (go_simp; done) | (go_simp; rfl)); intro gbq0 hg wq1 hbox hb; have nq2 := Aside0.mk (below_step (hb0_) hb); have BKq3 := Aside0.mk (hbox); have GWq4 := Aside0.mk (bs_ hg (hb0_)); have GEq5 := GWq4; clear HB; have HB := nq2; clear nq2; clear hb hbox hg; obtain ⟨⟨czq6, fzq7⟩, ⟨czq8, fzq9⟩, ⟨czq10, fzq11⟩, ⟨czq12, fzq13⟩, ⟨czq14, fzq15⟩, ⟨czq16, fzq17⟩, ⟨czq18, fzq19⟩, ⟨czq20, fzq21⟩, ⟨czq22, fzq23⟩, ⟨czq24, fzq25⟩, ⟨czq26, fzq27⟩, ⟨czq28, fzq29⟩⟩ := bc12_ BKq3) | (go_at_call 38; (with_reducible refine (spec_l10NoSide.calls _ _ l0_4 a0_5 a0_6 _ _ ?side1 ?side2 A4.out).mono ?_); (case side1 => repeat (first | exact (Kd.C_below HR0_4.out HB.out) | (with_reducible refine Kd.C_alloc ?_ _) | (with_reducible refine Kd.C_drewN ?_ _) | (with_reducible refine Kd.C_drew ?_))); (case side2 => exact HC0_4.out); rintro e wq30 ⟨rfl, hb⟩; have nq2 := bb_ BKq3 hb; have nq31 := Aside0.mk (below_step (hb1_ GEq5) hb); clear BKq3; clear HB; have BKq3 := nq2; have HB := nq31; clear nq2 nq31; (try clear hb); (try clear hb2); (try clear hk); (try clear hi); (try (obtain ⟨⟨czq32, fzq33⟩, ⟨czq34, fzq35⟩, ⟨czq36, fzq37⟩, ⟨czq38, fzq39⟩, ⟨czq40, fzq41⟩, ⟨czq42, fzq43⟩, ⟨czq44, fzq45⟩, ⟨czq46, fzq47⟩, ⟨czq48, fzq49⟩, ⟨czq50, fzq51⟩, ⟨czq52, fzq53⟩, ⟨czq54, fzq55⟩⟩ := bc12_ BKq3))) | (go_at_call 38; (with_reducible refine (spec_l10NoSide.calls _ _ l0_7 a0_8 a0_9 _ _ ?side1 ?side2 A6.out).mono ?_); (case side1 => repeat (first | exact (Kd.C_below HR0_7.out HB.out) | (with_reducible refine Kd.C_alloc ?_ _) | (with_reducible refine Kd.C_drewN ?_ _) | (with_reducible refine Kd.C_drew ?_))); (case side2 => exact HC0_7.out); rintro e wq56 ⟨rfl, hb⟩; have nq2 := bb_ BKq3 hb; have nq31 := Aside0.mk (below_step (hb1_ GEq5) hb); clear BKq3; clear HB; have BKq3 := nq2; have HB := nq31; clear nq2 nq31; (try clear hb); (try clear hb2); (try clear hk); (try clear hi); (try (obtain ⟨⟨czq57, fzq58⟩, ⟨czq59, fzq60⟩, ⟨czq61, fzq62⟩, ⟨czq63, fzq64⟩, ⟨czq65, fzq66⟩, ⟨czq67, fzq68⟩, ⟨czq69, fzq70⟩, ⟨czq71, fzq72⟩, ⟨czq73, fzq74⟩, ⟨czq75, fzq76⟩, ⟨czq77, fzq78⟩, ⟨czq79, fzq80⟩⟩ := bc12_ BKq3))))
    go_ret
    exact ⟨re_, hb1_ GEq5⟩) : p := h
set_option maxHeartbeats 8000000 in
set_option maxRecDepth 100000 in
theorem spec_l10Empty.calls (a0_0 a0_1 a0_2 : Int) (A0_3 : Option Addr) (c0_3 : Nat) (l0_3 : List (S90)) (A0_4 : Option Addr) (c0_4 : Nat) (l0_4 : List (S118)) (a0_5 a0_6 : Int) (A0_7 : Option Addr) (c0_7 : Nat) (l0_7 : List (S118)) (a0_8 a0_9 a0_10 a0_11 : Int) (r : Bool) (w : World) (hr0_3 : Kd.C k90 w A0_3 l0_3.length l0_3) (hc0_3 : l0_3.length ≤ c0_3) (hr0_4 : Kd.C k118 w A0_4 l0_4.length l0_4) (hc0_4 : l0_4.length ≤ c0_4) (hr0_7 : Kd.C k118 w A0_7 l0_7.length l0_7) (hc0_7 : l0_7.length ≤ c0_7) (h : spec_l10Empty.f a0_0 a0_1 a0_2 l0_3 l0_4 a0_5 a0_6 l0_7 a0_8 a0_9 a0_10 a0_11 = some r) :
    Calls Tryz.prog 17 #[.agg #[.int .i64 a0_0, .int .i64 a0_1, .int .i64 a0_2, .slice A0_3 l0_3.length c0_3, .slice A0_4 l0_4.length c0_4, .int .i64 a0_5, .int .i64 a0_6, .slice A0_7 l0_7.length c0_7, .int .i64 a0_8, .int .i64 a0_9, .int .i64 a0_10, .int .i64 a0_11]] w fun e w' => e = .returned (.bool r) ∧ Below w.heap.size w w' := by
  have hu47 := Tryz.underlying47
  have hu39 := Tryz.underlying39
  have hu43 := Tryz.underlying43
  have HR0_3 := Aside0.mk hr0_3
  have HC0_3 := Aside0.mk hc0_3
  clear hr0_3 hc0_3
  have HR0_4 := Aside0.mk hr0_4
  have HC0_4 := Aside0.mk hc0_4
  clear hr0_4 hc0_4
  have HR0_7 := Aside0.mk hr0_7
  have HC0_7 := Aside0.mk hc0_7
  clear hr0_7 hc0_7
  have HB := Aside0.mk (Below.refl w.heap.size w)
  have H : (if (a0_0 == 0 && (a0_1 == 0 && (a0_2 == 0))) = true then (if (l0_3.length : Int) = 0 then ((spec_l10NoSide.f l0_4 a0_5 a0_6).bind fun t120 => (if t120 = true then ((spec_l10NoSide.f l0_7 a0_8 a0_9).bind fun t121 => (if t121 = true then (if a0_10 = 0 then (some (a0_11 == 0)) else (some false)) else (some false))) else (some false))) else (some false)) else (some false)) = some r := h
  clear h
  by_cases c2 : (a0_0 == 0 && (a0_1 == 0 && (a0_2 == 0))) = true
  · rw [if_pos c2] at H
    have c2b0 : (a0_0 == 0 && (a0_1 == 0 && (a0_2 == 0))) = true := c2
    (try (have c2b1 : decide (a0_0 = 0 && (a0_1 == 0 && (a0_2 == 0))) = true := by simpa using c2))
    (try (have c2b2 : (a0_0 == 0 && (a0_1 == 0 && (a0_2 == 0))) = true := by simpa using c2))
    clear c2
    by_cases c3 : (l0_3.length : Int) = 0
    · rw [if_pos c3] at H
      have c3b0 : ((l0_3.length : Int) == 0) = true := beq_iff_eq.mpr c3
      have c3b1 : ((l0_3.length : Int) != 0) = false := bne_eq_false_iff_eq.mpr c3
      clear c3
      replace H := Option.bind_eq_some_iff.mp H
      obtain ⟨t120, A40, H⟩ := H
      replace H : (if t120 = true then ((spec_l10NoSide.f l0_7 a0_8 a0_9).bind fun t121 => (if t121 = true then (if a0_10 = 0 then (some (a0_11 == 0)) else (some false)) else (some false))) else (some false)) = some r := H
      have A4 := Aside0.mk A40
      clear A40
      by_cases c5 : t120 = true
      · subst c5
        have H1 : ((spec_l10NoSide.f l0_7 a0_8 a0_9).bind fun t121 => (if t121 = true then (if a0_10 = 0 then (some (a0_11 == 0)) else (some false)) else (some false))) = some r := by rw [if_pos rfl] at H; exact H
        clear H
        have H := H1
        clear H1
        replace H := Option.bind_eq_some_iff.mp H
        obtain ⟨t121, A60, H⟩ := H
        replace H : (if t121 = true then (if a0_10 = 0 then (some (a0_11 == 0)) else (some false)) else (some false)) = some r := H
        have A6 := Aside0.mk A60
        clear A60
        by_cases c7 : t121 = true
        · subst c7
          have H1 : (if a0_10 = 0 then (some (a0_11 == 0)) else (some false)) = some r := by rw [if_pos rfl] at H; exact H
          clear H
          have H := H1
          clear H1
          by_cases c8 : a0_10 = 0
          · rw [if_pos c8] at H
            have c8b0 : (a0_10 == 0) = true := beq_iff_eq.mpr c8
            have c8b1 : (a0_10 != 0) = false := bne_eq_false_iff_eq.mpr c8
            clear c8
            obtain rfl := Option.some.inj H
            exact spec_l10Empty.t1_
          · rw [if_neg c8] at H
            have c8b0 : (a0_10 == 0) = false := beq_eq_false_iff_ne.mpr c8
            have c8b1 : (a0_10 != 0) = true := bne_iff_ne.mpr c8
            obtain rfl := Option.some.inj H
            exact spec_l10Empty.t1_
        · replace c7 := Bool.eq_false_iff.mpr c7
          subst c7
          have H1 : (some false) = some r := by rw [if_neg (show ¬ (false = true) by decide)] at H; exact H
          clear H
          have H := H1
          clear H1
          obtain rfl := Option.some.inj H
          exact spec_l10Empty.t1_
      · replace c5 := Bool.eq_false_iff.mpr c5
        subst c5
        have H1 : (some false) = some r := by rw [if_neg (show ¬ (false = true) by decide)] at H; exact H
        clear H
        have H := H1
        clear H1
        obtain rfl := Option.some.inj H
        exact spec_l10Empty.t1_
    · rw [if_neg c3] at H
      have c3b0 : ((l0_3.length : Int) == 0) = false := beq_eq_false_iff_ne.mpr c3
      have c3b1 : ((l0_3.length : Int) != 0) = true := bne_iff_ne.mpr c3
      have c3b2 : ¬ (l0_3 = []) := fun h_ => c3 (by rw [h_]; rfl)
      obtain rfl := Option.some.inj H
      exact spec_l10Empty.t1_
  · rw [if_neg c2] at H
    have c2b0 : (a0_0 == 0 && (a0_1 == 0 && (a0_2 == 0))) = false := by simpa using c2
    (try (have c2b1 : decide (a0_0 = 0 && (a0_1 == 0 && (a0_2 == 0))) = false := by simpa using c2))
    (try (have c2b2 : (a0_0 == 0 && (a0_1 == 0 && (a0_2 == 0))) = false := by simpa using c2))
    (try (have c2b3 : ¬ (a0_0 = 0 && (a0_1 == 0 && (a0_2 == 0))) := by simpa using c2))
    clear c2
    obtain rfl := Option.some.inj H
    exact spec_l10Empty.t1_
def spec_l10Kinds.f  : Option (List Int) := some (([0, 4, 5] : List Int))
set_option maxHeartbeats 8000000 in
set_option maxRecDepth 100000 in
theorem spec_l10Kinds.calls  (r : List Int) (w : World) (h : spec_l10Kinds.f  = some r) :
    Calls Tryz.prog 18 #[] w fun e w' => ∃ v0_ : Value, e = .returned (v0_) ∧ Kd.R (Kd.int .i64) 3 w' w.heap.size (fun _ => True) v0_ r ∧ Below w.heap.size w w' := by
  have HB := Aside0.mk (Below.refl w.heap.size w)
  have H : (some (([0, 4, 5] : List Int))) = some r := h
  clear h
  obtain ⟨y122, hy122⟩ : ∃ y_ : List Int, y_ = (([0, 4, 5] : List Int)) := ⟨_, rfl⟩
  replace H : (some y122) = some r := by first | (rw [hy122]; with_reducible exact H) | (have H2_ := (Option.bind_some _ _).symm.trans H; rw [hy122]; with_reducible exact H2_) | (have H2_ := (Option.bind_some _ _).symm.trans H; with_reducible exact H2_) | with_reducible exact H | (rw [hy122]; exact H) | exact H
  have Ny122 := Aside0.mk hy122
  clear hy122
  obtain rfl := Option.some.inj H
  go_enter Tryz.func18, Tryz.ntmps18
  go_wp2_with (first | ((with_reducible refine gate_dst (N := 1) rfl ?_); refine Kd.R_lit (Kd.int .i64) _ 3 ?hg (N := 1) ?hd (xs := ([0, 4, 5] : List Int)) (inner := [.int .i64 0, .int .i64 4, .int .i64 5]) (ok := fun _ => True) (okp := fun _ => True) ?hr ?hp (fun _ hk => hk) trivial (Below.refl _ _) (Nat.le_refl _) (by simp) ?_; (case hd => rfl); (case hg => rfl); (case hr => first | (go_simp; done) | (go_simp; rfl)); (case hp => exact (Reps.one (show Kd.M (Kd.int .i64) _ _ _ 0 [.int .i64 0] from rfl) (Reps.one (show Kd.M (Kd.int .i64) _ _ _ 4 [.int .i64 4] from rfl) (Reps.one (show Kd.M (Kd.int .i64) _ _ _ 5 [.int .i64 5] from rfl) (Reps.none _ _))))); intro v123 w1 ho2 hb hg_ hnew_; clear hg_ hnew_; (first | rw [← Ny122.out] at ho2 | (simp only [Int.reduceToNat] at ho2; rw [← Ny122.out] at ho2)); have HO124 := Aside0.mk (Kd.R_lower ho2 (below_size (hb0_))); have n1_ := Aside0.mk (below_step (hb0_) hb); clear HB; have HB := n1_; clear n1_; clear hb ho2))
  go_ret
  exact ⟨_, re_, by (with_reducible repeat (first | apply Kd.R_alloc | apply Kd.R_drewN | apply Kd.R_drew)); exact HO124.out, hb0_⟩
def spec_l10Verbs.f  : Option (List ByteArray) := some (([(⟨#[116, 105, 99, 107]⟩ : ByteArray), (⟨#[104, 97, 110, 100, 115]⟩ : ByteArray), (⟨#[102, 97, 117, 108, 116, 115]⟩ : ByteArray)] : List ByteArray))
set_option maxHeartbeats 8000000 in
set_option maxRecDepth 100000 in
theorem spec_l10Verbs.calls  (r : List ByteArray) (w : World) (h : spec_l10Verbs.f  = some r) :
    Calls Tryz.prog 19 #[] w fun e w' => ∃ v0_ : Value, e = .returned (v0_) ∧ Kd.R Kd.string 9 w' w.heap.size (fun _ => True) v0_ r ∧ Below w.heap.size w w' := by
  have HB := Aside0.mk (Below.refl w.heap.size w)
  have H : (some (([(⟨#[116, 105, 99, 107]⟩ : ByteArray), (⟨#[104, 97, 110, 100, 115]⟩ : ByteArray), (⟨#[102, 97, 117, 108, 116, 115]⟩ : ByteArray)] : List ByteArray))) = some r := h
  clear h
  obtain ⟨y125, hy125⟩ : ∃ y_ : List ByteArray, y_ = (([(⟨#[116, 105, 99, 107]⟩ : ByteArray), (⟨#[104, 97, 110, 100, 115]⟩ : ByteArray), (⟨#[102, 97, 117, 108, 116, 115]⟩ : ByteArray)] : List ByteArray)) := ⟨_, rfl⟩
  replace H : (some y125) = some r := by first | (rw [hy125]; with_reducible exact H) | (have H2_ := (Option.bind_some _ _).symm.trans H; rw [hy125]; with_reducible exact H2_) | (have H2_ := (Option.bind_some _ _).symm.trans H; with_reducible exact H2_) | with_reducible exact H | (rw [hy125]; exact H) | exact H
  have Ny125 := Aside0.mk hy125
  clear hy125
  obtain rfl := Option.some.inj H
  go_enter Tryz.func19, Tryz.ntmps19
  go_wp2_with (first | ((with_reducible refine gate_dst (N := 1) rfl ?_); refine Kd.R_lit Kd.string _ 9 ?hg (N := 1) ?hd (xs := ([(⟨#[116, 105, 99, 107]⟩ : ByteArray), (⟨#[104, 97, 110, 100, 115]⟩ : ByteArray), (⟨#[102, 97, 117, 108, 116, 115]⟩ : ByteArray)] : List ByteArray)) (inner := [.string (⟨#[116, 105, 99, 107]⟩ : ByteArray), .string (⟨#[104, 97, 110, 100, 115]⟩ : ByteArray), .string (⟨#[102, 97, 117, 108, 116, 115]⟩ : ByteArray)]) (ok := fun _ => True) (okp := fun _ => True) ?hr ?hp (fun _ hk => hk) trivial (Below.refl _ _) (Nat.le_refl _) (by simp) ?_; (case hd => rfl); (case hg => rfl); (case hr => first | (go_simp; done) | (go_simp; rfl)); (case hp => exact (Reps.one (show Kd.M Kd.string _ _ _ (⟨#[116, 105, 99, 107]⟩ : ByteArray) [.string (⟨#[116, 105, 99, 107]⟩ : ByteArray)] from rfl) (Reps.one (show Kd.M Kd.string _ _ _ (⟨#[104, 97, 110, 100, 115]⟩ : ByteArray) [.string (⟨#[104, 97, 110, 100, 115]⟩ : ByteArray)] from rfl) (Reps.one (show Kd.M Kd.string _ _ _ (⟨#[102, 97, 117, 108, 116, 115]⟩ : ByteArray) [.string (⟨#[102, 97, 117, 108, 116, 115]⟩ : ByteArray)] from rfl) (Reps.none _ _))))); intro v126 w1 ho2 hb hg_ hnew_; clear hg_ hnew_; (first | rw [← Ny125.out] at ho2 | (simp only [Int.reduceToNat] at ho2; rw [← Ny125.out] at ho2)); have HO127 := Aside0.mk (Kd.R_lower ho2 (below_size (hb0_))); have n1_ := Aside0.mk (below_step (hb0_) hb); clear HB; have HB := n1_; clear n1_; clear hb ho2))
  go_ret
  exact ⟨_, re_, by (with_reducible repeat (first | apply Kd.R_alloc | apply Kd.R_drewN | apply Kd.R_drew)); exact HO127.out, hb0_⟩
def spec_l01Num.l0 : Nat → Int → ByteArray → Bool → Option (ByteArray)
  | 0, _, _, _ => none
  | k + 1, x0, x3, x4 => if x0 = 0 then (if x4 = true then (if 1 + x3.size ≤ 9223372036854775807 then (some ((⟨#[45]⟩ : ByteArray) ++ x3)) else (none)) else (some x3)) else (if (Int.tmod x0 10) < 0 then ((some (([(wrap64 (48 + (wrap64 (-(Int.tmod x0 10))))) % 256] : List Int) : List Int)).bind fun y128 => (if (strOfNums y128).size + x3.size ≤ 9223372036854775807 then (spec_l01Num.l0 k (wrap64 (Int.tdiv x0 10)) ((strOfNums y128) ++ x3) x4) else (none))) else ((some (([(wrap64 (48 + (Int.tmod x0 10))) % 256] : List Int) : List Int)).bind fun y131 => (if (strOfNums y131).size + x3.size ≤ 9223372036854775807 then (spec_l01Num.l0 k (wrap64 (Int.tdiv x0 10)) ((strOfNums y131) ++ x3) x4) else (none))))
def spec_l01Num.f (k : Nat) (a0 : Int) : Option (ByteArray) := if a0 = 0 then (some (⟨#[48]⟩ : ByteArray)) else (spec_l01Num.l0 k a0 (⟨#[]⟩ : ByteArray) (decide (a0 < 0)))
set_option maxHeartbeats 8000000 in
set_option maxRecDepth 100000 in
theorem spec_l01Num.calls (k : Nat) (a0 : Int) (r : ByteArray) (w : World) (h : spec_l01Num.f k a0 = some r) :
    Calls Tryz.prog 20 #[.int .i64 a0] w fun e w' => e = .returned (.string r) ∧ Below w.heap.size w w' := by
  have HB := Aside0.mk (Below.refl w.heap.size w)
  have H : (if a0 = 0 then (some (⟨#[48]⟩ : ByteArray)) else (spec_l01Num.l0 k a0 (⟨#[]⟩ : ByteArray) (decide (a0 < 0)))) = some r := h
  clear h
  by_cases c2 : a0 = 0
  · rw [if_pos c2] at H
    have c2b0 : (a0 == 0) = true := beq_iff_eq.mpr c2
    have c2b1 : (a0 != 0) = false := bne_eq_false_iff_eq.mpr c2
    clear c2
    obtain rfl := Option.some.inj H
    go_enter Tryz.func20, Tryz.ntmps20
    go_wp2
    go_ret
    exact ⟨re_, hb0_⟩
  · rw [if_neg c2] at H
    have c2b0 : (a0 == 0) = false := beq_eq_false_iff_ne.mpr c2
    have c2b1 : (a0 != 0) = true := bne_iff_ne.mpr c2
    have H' := Aside0.mk H
    clear H
    go_enter Tryz.func20, Tryz.ntmps20
    go_wp2
    go_loopg [0, 3] k (fun kq v0 v3 w' => ∃ (x0_1 : Int) (x3_1 : ByteArray), v0 = .int .i64 x0_1 ∧ v3 = .string x3_1 ∧ Aside0 (spec_l01Num.l0 kq x0_1 x3_1 (decide (a0 < 0)) = some r) ∧ Aside0 (kq ≤ k) ∧ Aside0 (Below w.heap.size w w'))
    case atStart => exact ⟨(a0), ((⟨#[]⟩ : ByteArray)), (rs_), (rs_), H', ⟨Nat.le_refl _⟩, ⟨hb0_⟩⟩
    case round =>
      clear H'
      try clear c2
      try clear c2b0
      try clear c2b1
      try clear p2
      obtain ⟨x0_1, x3_1, rfl, rfl, HA, HK1, HB⟩ := hrel
      cases gk with
      | zero => exact absurd HA.out (by simp [spec_l01Num.l0])
      | succ k1 =>
        have H := HA.out
        clear HA
        simp only [spec_l01Num.l0] at H
        by_cases c3 : x0_1 = 0
        · rw [if_pos c3] at H
          have c3b0 : (x0_1 == 0) = true := beq_iff_eq.mpr c3
          have c3b1 : (x0_1 != 0) = false := bne_eq_false_iff_eq.mpr c3
          clear c3
          by_cases c4 : (decide (a0 < 0)) = true
          · rw [if_pos c4] at H
            have c4b0 : (decide (a0 < 0)) = true := c4
            clear c4
            by_cases c5 : 1 + x3_1.size ≤ 9223372036854775807
            · rw [if_pos c5] at H
              have c5b0 := eq_true c5
              have c5b1 : decide (1 + x3_1.size ≤ 9223372036854775807) = true := decide_eq_true c5
              try have c5b2 : (9223372036854775807 < 1 + x3_1.size) = False := eq_false (Nat.not_lt.2 c5)
              obtain rfl := Option.some.inj H
              go_wp2
              all_goals (try (exfalso; have q_ := of_decide_eq_true c4b0; omega))
              go_ret
              exact ⟨re_, hb0_⟩
            · rw [if_neg c5] at H
              exact absurd H (by simp)
          · rw [if_neg c4] at H
            have c4b0 : (decide (a0 < 0)) = false := by simpa using c4
            clear c4
            obtain rfl := Option.some.inj H
            go_wp2
            all_goals (try (exfalso; have q_ := of_decide_eq_false c4b0; omega))
            go_ret
            exact ⟨re_, hb0_⟩
        · rw [if_neg c3] at H
          have c3b0 : (x0_1 == 0) = false := beq_eq_false_iff_ne.mpr c3
          have c3b1 : (x0_1 != 0) = true := bne_iff_ne.mpr c3
          by_cases c6 : (Int.tmod x0_1 10) < 0
          · rw [if_pos c6] at H
            have c6b0 : decide ((Int.tmod x0_1 10) < 0) = true := decide_eq_true c6
            clear c6
            obtain ⟨y128, hy128⟩ : ∃ y_ : List Int, y_ = (([(wrap64 (48 + (wrap64 (-(Int.tmod x0_1 10))))) % 256] : List Int)) := ⟨_, rfl⟩
            replace H : (if (strOfNums y128).size + x3_1.size ≤ 9223372036854775807 then (spec_l01Num.l0 k1 (wrap64 (Int.tdiv x0_1 10)) ((strOfNums y128) ++ x3_1) (decide (a0 < 0))) else (none)) = some r := by first | (rw [hy128]; with_reducible exact H) | (have H2_ := (Option.bind_some _ _).symm.trans H; rw [hy128]; with_reducible exact H2_) | (have H2_ := (Option.bind_some _ _).symm.trans H; with_reducible exact H2_) | with_reducible exact H | (rw [hy128]; exact H) | exact H
            have Ny128 := Aside0.mk hy128
            clear hy128
            by_cases c7 : (strOfNums y128).size + x3_1.size ≤ 9223372036854775807
            · rw [if_pos c7] at H
              have c7b0 := eq_true c7
              have c7b1 : decide ((strOfNums y128).size + x3_1.size ≤ 9223372036854775807) = true := decide_eq_true c7
              try have c7b2 : (9223372036854775807 < (strOfNums y128).size + x3_1.size) = False := eq_false (Nat.not_lt.2 c7)
              have H' := Aside0.mk H
              clear H
              go_wp2_with (first | ((with_reducible refine gate_dst (N := 21) rfl ?_); refine Kd.R_lit (Kd.int .u8) _ 5 ?hg (N := 21) ?hd (xs := ([(wrap64 (48 + (wrap64 (-(Int.tmod x0_1 10))))) % 256] : List Int)) (inner := [.int .u8 ((wrap64 (48 + (wrap64 (-(Int.tmod x0_1 10))))) % 256)]) (ok := fun _ => True) (okp := fun _ => True) ?hr ?hp (fun _ hk => hk) trivial (Below.refl _ _) (Nat.le_refl _) (by simp) ?_; (case hd => rfl); (case hg => rfl); (case hr => first | (go_simp; done) | (go_simp; rfl)); (case hp => exact (Reps.one (show Kd.M (Kd.int .u8) _ _ _ ((wrap64 (48 + (wrap64 (-(Int.tmod x0_1 10))))) % 256) [.int .u8 ((wrap64 (48 + (wrap64 (-(Int.tmod x0_1 10))))) % 256)] from rfl) (Reps.none _ _))); intro v129 w8 ho9 hb hg_ hnew_; clear hg_ hnew_; (first | rw [← Ny128.out] at ho9 | (simp only [Int.reduceToNat] at ho9; rw [← Ny128.out] at ho9)); have HO130 := Aside0.mk (Kd.R_lower ho9 (below_size (hb0_))); have n1_ := Aside0.mk (below_step (hb0_) hb); clear HB; have HB := n1_; clear n1_; clear hb ho9; have hcv10 := own_string (P := Tryz.prog) Tryz.underlying87 Tryz.underlying5 Tryz.underlying9 (Kd.own_of_R HO130.out)))
              go_roundg k1
              case measure => have := HK1.out; omega
              case rel => exact ⟨(wrap64 (Int.tdiv x0_1 10)), ((strOfNums y128) ++ x3_1), (rs_), (rs_), H', ⟨by have := HK1.out; omega⟩, ⟨hb0_⟩⟩
            · rw [if_neg c7] at H
              exact absurd H (by simp)
          · rw [if_neg c6] at H
            have c6b0 : decide ((Int.tmod x0_1 10) < 0) = false := decide_eq_false c6
            clear c6
            obtain ⟨y131, hy131⟩ : ∃ y_ : List Int, y_ = (([(wrap64 (48 + (Int.tmod x0_1 10))) % 256] : List Int)) := ⟨_, rfl⟩
            replace H : (if (strOfNums y131).size + x3_1.size ≤ 9223372036854775807 then (spec_l01Num.l0 k1 (wrap64 (Int.tdiv x0_1 10)) ((strOfNums y131) ++ x3_1) (decide (a0 < 0))) else (none)) = some r := by first | (rw [hy131]; with_reducible exact H) | (have H2_ := (Option.bind_some _ _).symm.trans H; rw [hy131]; with_reducible exact H2_) | (have H2_ := (Option.bind_some _ _).symm.trans H; with_reducible exact H2_) | with_reducible exact H | (rw [hy131]; exact H) | exact H
            have Ny131 := Aside0.mk hy131
            clear hy131
            by_cases c11 : (strOfNums y131).size + x3_1.size ≤ 9223372036854775807
            · rw [if_pos c11] at H
              have c11b0 := eq_true c11
              have c11b1 : decide ((strOfNums y131).size + x3_1.size ≤ 9223372036854775807) = true := decide_eq_true c11
              try have c11b2 : (9223372036854775807 < (strOfNums y131).size + x3_1.size) = False := eq_false (Nat.not_lt.2 c11)
              have H' := Aside0.mk H
              clear H
              go_wp2_with (first | ((with_reducible refine gate_dst (N := 21) rfl ?_); refine Kd.R_lit (Kd.int .u8) _ 5 ?hg (N := 21) ?hd (xs := ([(wrap64 (48 + (Int.tmod x0_1 10))) % 256] : List Int)) (inner := [.int .u8 ((wrap64 (48 + (Int.tmod x0_1 10))) % 256)]) (ok := fun _ => True) (okp := fun _ => True) ?hr ?hp (fun _ hk => hk) trivial (Below.refl _ _) (Nat.le_refl _) (by simp) ?_; (case hd => rfl); (case hg => rfl); (case hr => first | (go_simp; done) | (go_simp; rfl)); (case hp => exact (Reps.one (show Kd.M (Kd.int .u8) _ _ _ ((wrap64 (48 + (Int.tmod x0_1 10))) % 256) [.int .u8 ((wrap64 (48 + (Int.tmod x0_1 10))) % 256)] from rfl) (Reps.none _ _))); intro v132 w12 ho13 hb hg_ hnew_; clear hg_ hnew_; (first | rw [← Ny131.out] at ho13 | (simp only [Int.reduceToNat] at ho13; rw [← Ny131.out] at ho13)); have HO133 := Aside0.mk (Kd.R_lower ho13 (below_size (hb0_))); have n1_ := Aside0.mk (below_step (hb0_) hb); clear HB; have HB := n1_; clear n1_; clear hb ho13; have hcv14 := own_string (P := Tryz.prog) Tryz.underlying87 Tryz.underlying5 Tryz.underlying9 (Kd.own_of_R HO133.out)))
              go_roundg k1
              case measure => have := HK1.out; omega
              case rel => exact ⟨(wrap64 (Int.tdiv x0_1 10)), ((strOfNums y131) ++ x3_1), (rs_), (rs_), H', ⟨by have := HK1.out; omega⟩, ⟨hb0_⟩⟩
            · rw [if_neg c11] at H
              exact absurd H (by simp)
def swapL (a1 a2 : Int) (xs : List Int) (n : Nat) : List Int := (xs.take n).map (fun x => if x = a1 then a2 else x) ++ xs.drop n
theorem swapL_length (a1 a2 : Int) (xs : List Int) (n : Nat) : (swapL a1 a2 xs n).length = xs.length := by
  simp [swapL]
  omega
theorem swapL_at (a1 a2 : Int) (xs : List Int) (n : Nat) : (swapL a1 a2 xs n).getD n 0 = xs.getD n 0 := by
  by_cases h : n < xs.length
  · simp [swapL, List.getD, List.getElem?_append, h, Nat.min_eq_left (Nat.le_of_lt h)]
  · have h1 : (swapL a1 a2 xs n).length ≤ n := by rw [swapL_length]; omega
    simp [List.getD, List.getElem?_eq_none h1, List.getElem?_eq_none (show xs.length ≤ n by omega)]
theorem swapL_step (a1 a2 : Int) (xs : List Int) (n : Nat) (h : n < xs.length) : swapL a1 a2 xs (n + 1) = (swapL a1 a2 xs n).set n (if xs.getD n 0 = a1 then a2 else xs.getD n 0) := by
  have e : xs.drop n = xs.getD n 0 :: xs.drop (n + 1) := by
    rw [List.drop_eq_getElem_cons h]
    simp [List.getD, h]
  have e2 : xs.take (n + 1) = xs.take n ++ [xs.getD n 0] := by
    rw [List.take_add_one]
    simp [List.getD, h]
  unfold swapL
  rw [e2, e, List.map_append, List.append_assoc]
  have hl : ((xs.take n).map (fun x => if x = a1 then a2 else x)).length = n := by simp; omega
  generalize (xs.take n).map (fun x => if x = a1 then a2 else x) = ys at hl ⊢
  rw [List.set_append_right _ _ (by omega), hl, Nat.sub_self]
  rfl
theorem swapL_end (a1 a2 : Int) (xs : List Int) : swapL a1 a2 xs xs.length = xs.map (fun x => if x = a1 then a2 else x) := by
  simp [swapL]
def RowIs (b : Nat) (ys : List Int) (w : World) : Prop := ∀ j : Nat, j < ys.length → w.cell? ⟨b, j, none⟩ = some (.int .u8 (ys.getD j 0)) ∧ w.frozen? ⟨b, j, none⟩ = false
theorem RowIs.set {b : Nat} {ys : List Int} {w : World} (h : RowIs b ys w) (n : Nat) (v : Int) (hn : n < ys.length) : RowIs b (ys.set n v) (w.setCell ⟨b, n, none⟩ (.int .u8 v)) := by
  intro j hj
  rw [List.length_set] at hj
  refine ⟨?_, ?_⟩
  · by_cases e : j = n
    · subst e
      rw [World.cell?_setCell_same _ _ _ (h j hj).1]
      simp [List.getD, hj]
    · rw [World.cell?_setCell_other _ _ _ _ (by intro h2; cases h2; exact e rfl), (h j hj).1]
      simp [List.getD, Ne.symm e]
  · rw [World.frozen?_setCell]
    exact (h j hj).2
theorem rowIs_conv (w : World) (s : ByteArray) : RowIs w.heap.size (bytesOf s) (Go.Lib.bytesWorld w 5 s) := by
  intro j hj
  rw [bytesOf_length] at hj
  refine ⟨?_, ?_⟩
  · rw [Go.Lib.bytesWorld_cell w 5 s j hj]
    have hj' : j < s.data.toList.length := by rw [data_length]; exact hj
    simp [bytesOf, List.getD, List.getElem?_eq_getElem hj']
  · unfold World.frozen?
    rw [Go.Lib.bytesWorld_at_new]
    have : j < (Go.Lib.bytesCells w 5 s).size := by
      simp [Go.Lib.bytesCells]
      have : s.data.size = s.size := rfl
      omega
    simp
    omega
def spec_l10Swap.f (a0 : ByteArray) (a1 a2 : Int) : Option ByteArray := if a0.size ≤ 9223372036854775806 then some (strOfNums ((bytesOf a0).map fun x => if x = a1 then a2 else x)) else none
set_option maxHeartbeats 1000000 in
set_option maxRecDepth 100000 in
theorem spec_l10Swap.calls (a0 : ByteArray) (a1 a2 : Int) (r : ByteArray) (w : World) (h : spec_l10Swap.f a0 a1 a2 = some r) :
    Calls Tryz.prog 21 #[.string a0, .int .u8 a1, .int .u8 a2] w fun e w' => e = .returned (.string r) ∧ Below w.heap.size w w' := by
  unfold spec_l10Swap.f at h
  by_cases c : a0.size ≤ 9223372036854775806
  rotate_left
  · rw [if_neg c] at h
    exact absurd h (by simp)
  rw [if_pos c] at h
  obtain rfl := Option.some.inj h
  clear h
  have hcv := Go.Lib.run_convert_string_bytes (P := Tryz.prog) w 9 87 5 a0 (u := .string) Tryz.underlying9 Tryz.underlying87 Tryz.underlying5
  have hrow := rowIs_conv w a0
  have hbel := Go.Lib.bytesWorld_below w 5 a0
  have hlen := bytesOf_length a0
  obtain ⟨W1, hW1⟩ : ∃ W1, W1 = Go.Lib.bytesWorld w 5 a0 := ⟨_, rfl⟩
  rw [← hW1] at hcv hrow hbel
  clear hW1
  obtain ⟨cap, hcap⟩ : ∃ cap, cap = grownCap w a0.size 0 5 := ⟨_, rfl⟩
  rw [← hcap] at hcv
  have HC := Aside0.mk hcap
  clear hcap
  have HR := Aside0.mk hrow
  have HB := Aside0.mk hbel
  have HL := Aside0.mk hlen
  have HS := Aside0.mk c
  clear hrow hbel hlen c
  go_enter Tryz.func21, Tryz.ntmps21
  go_wp2
  go_loopg [8] (a0.size + 1) (fun kq v8 w' => ∃ n : Nat, v8 = .int .i64 (n : Int) ∧ Aside0 (kq + n = a0.size + 1 ∧ n ≤ a0.size) ∧ Aside0 (RowIs w.heap.size (swapL a1 a2 (bytesOf a0) n) w') ∧ Aside0 (Below w.heap.size w w'))
  case atStart => exact ⟨0, rfl, ⟨by omega, by omega⟩, ⟨by simpa [swapL] using HR.out⟩, HB⟩
  case round =>
    obtain ⟨n, rfl, HK, HR, HB⟩ := hrel
    have hl : (swapL a1 a2 (bytesOf a0) n).length = a0.size := by rw [swapL_length]; exact HL.out
    cases gk with
    | zero => exact absurd HK.out.1 (by have := HK.out.2; omega)
    | succ k1 =>
      by_cases hlt : n < a0.size
      · have hx := (HR.out n (by rw [hl]; exact hlt)).1
        have hz := (HR.out n (by rw [hl]; exact hlt)).2
        rw [swapL_at] at hx
        have d1 : decide (n < a0.size) = true := decide_eq_true hlt
        have d3 : decide ((n : Int) < (a0.size : Int)) = true := decide_eq_true (by omega)
        have d4 : ((n : Int) < (a0.size : Int)) = True := eq_true (by omega)
        have hstep := swapL_step a1 a2 (bytesOf a0) n (by rw [HL.out]; exact hlt)
        have hn : wrap64 ((n : Int) + 1) = ((n + 1 : Nat) : Int) := by
          have := HS.out
          unfold wrap64
          omega
        have HN := Aside0.mk hn
        have HLT := Aside0.mk hlt
        have HLL := Aside0.mk hl
        by_cases c : (bytesOf a0).getD n 0 = a1
        · rw [if_pos c] at hstep
          have HST := Aside0.mk hstep
          rw [c] at hx
          clear hstep hlt c hl hn
          go_wp2
          go_roundg k1
          case measure => omega
          case rel => exact ⟨n + 1, congrArg _ HN.out, ⟨by have := HK.out; omega, HLT.out⟩, ⟨by rw [HST.out]; exact HR.out.set n a2 (by rw [HLL.out]; exact HLT.out)⟩, ⟨below_set HB.out (Nat.le_refl _)⟩⟩
        · rw [if_neg c] at hstep
          have e : (swapL a1 a2 (bytesOf a0) n).set n ((bytesOf a0).getD n 0) = swapL a1 a2 (bytesOf a0) n := by
            rw [← swapL_at a1 a2 (bytesOf a0) n]
            apply List.ext_getElem (by simp)
            intro j h1 h2
            rw [List.getElem_set]
            split
            · rename_i h3
              subst h3
              simp [List.getD, h2]
            · rfl
          rw [e] at hstep
          have HST := Aside0.mk hstep
          have d2 : ((bytesOf a0).getD n 0 == a1) = false := beq_eq_false_iff_ne.mpr c
          generalize (bytesOf a0).getD n 0 = x at hx d2
          clear hstep hlt c hl hn e
          go_wp2
          go_roundg k1
          case measure => omega
          case rel => exact ⟨n + 1, congrArg _ HN.out, ⟨by have := HK.out; omega, HLT.out⟩, ⟨by rw [HST.out]; exact HR.out⟩, HB⟩
      · have en : n = a0.size := by have := HK.out; omega
        subst en
        have hr := HR.out
        rw [← HL.out, swapL_end] at hr
        have hreads : ReadsInt wr .u8 (some ⟨w.heap.size, 0, none⟩) a0.size ((bytesOf a0).map (fun x => if x = a1 then a2 else x)) := by
          refine ⟨by rw [List.length_map]; exact HL.out, by have := HS.out; omega, fun _ => ⟨_, rfl, fun j hj => ?_⟩⟩
          rw [add_plain]
          exact (hr j (by rw [List.length_map, HL.out]; exact hj)).1
        have hcs := string_of_reads (P := Tryz.prog) (src := 87) (dst := 9) (e := 5) (c := cap) Tryz.underlying87 Tryz.underlying5 Tryz.underlying9 hreads
        have d1 : decide (a0.size < a0.size) = false := decide_eq_false (Nat.lt_irrefl _)
        clear hr hreads hl hlt
        go_wp2
        go_ret
        exact ⟨rfl, HB.out⟩
def spec_l01In.f (a0 a1 a2 : Int) : Option (Bool) := if a1 ≤ a0 then (some (decide (a0 ≤ a2))) else (some false)
set_option maxHeartbeats 8000000 in
set_option maxRecDepth 100000 in
theorem spec_l01In.calls (a0 a1 a2 : Int) (r : Bool) (w : World) (h : spec_l01In.f a0 a1 a2 = some r) :
    Calls Tryz.prog 68 #[.int .i64 a0, .int .i64 a1, .int .i64 a2] w fun e w' => e = .returned (.bool r) ∧ Drawn0 w w' := by
  have H : (if a1 ≤ a0 then (some (decide (a0 ≤ a2))) else (some false)) = some r := h
  clear h
  by_cases c4 : a1 ≤ a0
  · rw [if_pos c4] at H
    have c4b0 : decide (a1 ≤ a0) = true := decide_eq_true c4
    clear c4
    obtain rfl := Option.some.inj H
    go_enter Tryz.func68, Tryz.ntmps68
    go_wp2
    go_ret
    exact ⟨rs_, by repeat (first | exact Drawn0.refl _ | apply Drawn0.step)⟩
  · rw [if_neg c4] at H
    have c4b0 : decide (a1 ≤ a0) = false := decide_eq_false c4
    clear c4
    obtain rfl := Option.some.inj H
    go_enter Tryz.func68, Tryz.ntmps68
    go_wp2
    go_ret
    exact ⟨rs_, by repeat (first | exact Drawn0.refl _ | apply Drawn0.step)⟩
def spec_RulesOk.f (a0_0 a0_1 a0_2 : Int) : Option (Bool) := (spec_l01In.f a0_0 0 1000).bind fun t135 => (if t135 = true then ((spec_l01In.f a0_1 0 1000).bind fun t136 => (if t136 = true then ((spec_l01In.f a0_2 0 1000).bind fun t137 => (some t137)) else (some false))) else (some false))
theorem spec_RulesOk.t1_ {p : Prop} (h : p := by
    go_enter Tryz.func66, Tryz.ntmps66
    go_wp2_with (first | ((with_reducible refine gate_dst (N := 1) rfl ?_); refine box_event ?hg (N := 1) ?hd (cs := #[.int .i64 a0_0, .int .i64 a0_1, .int .i64 a0_2]) (t := 39) ?hr ?_; (case hd => rfl); (case hg => rfl); (case hr => first | (go_simp; done) | (go_simp; rfl)); intro gbq0 hg wq1 hbox hb; have nq2 := Aside0.mk (below_step (hb0_) hb); have BKq3 := Aside0.mk (hbox); have GWq4 := Aside0.mk (bs_ hg (hb0_)); have GEq5 := GWq4; clear HB; have HB := nq2; clear nq2; clear hb hbox hg; obtain ⟨⟨czq6, fzq7⟩, ⟨czq8, fzq9⟩, ⟨czq10, fzq11⟩⟩ := bc3_ BKq3) | ((with_reducible refine gate_callee (f := 68) rfl ?_); refine goesL_ (some 5) rfl rfl Tryz.func68 (by kernel_rfl) rfl #[.int .i64 a0_0, .int .i64 0, .int .i64 1000] rfl (me_) ?_; (with_reducible refine (spec_l01In.calls a0_0 0 1000 _ _ A2.out).mono ?_); rintro e w' ⟨rfl, ⟨nd, rfl⟩⟩; refine ⟨_, rfl, ?_⟩) | (go_at_call 68; (with_reducible refine (spec_l01In.calls a0_1 0 1000 _ _ A4.out).mono ?_); rintro e w' ⟨rfl, ⟨nd, rfl⟩⟩) | (go_at_call 68; (with_reducible refine (spec_l01In.calls a0_2 0 1000 _ _ A6.out).mono ?_); rintro e w' ⟨rfl, ⟨nd, rfl⟩⟩))
    go_ret
    exact ⟨re_, hb1_ GEq5⟩) : p := h
set_option maxHeartbeats 8000000 in
set_option maxRecDepth 100000 in
theorem spec_RulesOk.calls (a0_0 a0_1 a0_2 : Int) (r : Bool) (w : World) (h : spec_RulesOk.f a0_0 a0_1 a0_2 = some r) :
    Calls Tryz.prog 66 #[.agg #[.int .i64 a0_0, .int .i64 a0_1, .int .i64 a0_2]] w fun e w' => e = .returned (.bool r) ∧ Below w.heap.size w w' := by
  have hu39 := Tryz.underlying39
  have HB := Aside0.mk (Below.refl w.heap.size w)
  have H : ((spec_l01In.f a0_0 0 1000).bind fun t135 => (if t135 = true then ((spec_l01In.f a0_1 0 1000).bind fun t136 => (if t136 = true then ((spec_l01In.f a0_2 0 1000).bind fun t137 => (some t137)) else (some false))) else (some false))) = some r := h
  clear h
  replace H := Option.bind_eq_some_iff.mp H
  obtain ⟨t135, A20, H⟩ := H
  replace H : (if t135 = true then ((spec_l01In.f a0_1 0 1000).bind fun t136 => (if t136 = true then ((spec_l01In.f a0_2 0 1000).bind fun t137 => (some t137)) else (some false))) else (some false)) = some r := H
  have A2 := Aside0.mk A20
  clear A20
  by_cases c3 : t135 = true
  · subst c3
    have H1 : ((spec_l01In.f a0_1 0 1000).bind fun t136 => (if t136 = true then ((spec_l01In.f a0_2 0 1000).bind fun t137 => (some t137)) else (some false))) = some r := by rw [if_pos rfl] at H; exact H
    clear H
    have H := H1
    clear H1
    replace H := Option.bind_eq_some_iff.mp H
    obtain ⟨t136, A40, H⟩ := H
    replace H : (if t136 = true then ((spec_l01In.f a0_2 0 1000).bind fun t137 => (some t137)) else (some false)) = some r := H
    have A4 := Aside0.mk A40
    clear A40
    by_cases c5 : t136 = true
    · subst c5
      have H1 : ((spec_l01In.f a0_2 0 1000).bind fun t137 => (some t137)) = some r := by rw [if_pos rfl] at H; exact H
      clear H
      have H := H1
      clear H1
      replace H := Option.bind_eq_some_iff.mp H
      obtain ⟨t137, A60, H⟩ := H
      replace H : (some t137) = some r := H
      have A6 := Aside0.mk A60
      clear A60
      obtain rfl := Option.some.inj H
      exact spec_RulesOk.t1_
    · replace c5 := Bool.eq_false_iff.mpr c5
      subst c5
      have H1 : (some false) = some r := by rw [if_neg (show ¬ (false = true) by decide)] at H; exact H
      clear H
      have H := H1
      clear H1
      obtain rfl := Option.some.inj H
      exact spec_RulesOk.t1_
  · replace c3 := Bool.eq_false_iff.mpr c3
    subst c3
    have H1 : (some false) = some r := by rw [if_neg (show ¬ (false = true) by decide)] at H; exact H
    clear H
    have H := H1
    clear H1
    obtain rfl := Option.some.inj H
    exact spec_RulesOk.t1_
mutual
def spec_SideOk.j0 : Nat → Bool → List (S118) → Int → Int → Option (Bool)
  | 0, _, _, _, _ => none
  | k + 1, x20, x139000, x139001, x139002 => if x20 = true then (some false) else (spec_SideOk.l0 k 0 x139000 x139001 x139002)
def spec_SideOk.l0 : Nat → Int → List (S118) → Int → Int → Option (Bool)
  | 0, _, _, _, _ => none
  | k + 1, x3, x139000, x139001, x139002 => if x3 < (x139000.length : Int) then (if 0 ≤ x3 then ((spec_l01In.f ((rd_T118 x139000 x3).f0) 0 1).bind fun t143 => (if t143 = true then ((spec_l01In.f ((rd_T118 x139000 x3).f1) 1 1000).bind fun t144 => (if t144 = true then ((spec_l01In.f ((rd_T118 x139000 x3).f2) 1 1000).bind fun t145 => (if t145 = true then (spec_SideOk.l0 k (wrap64 (x3 + 1)) x139000 x139001 x139002) else (some false))) else (some false))) else (some false))) else (none)) else (some true)
end
def spec_SideOk.f (k : Nat) (l0_0 : List (S118)) (a0_1 a0_2 : Int) : Option (Bool) := if (l0_0.length : Int) > 3 then (spec_SideOk.j0 k true l0_0 a0_1 a0_2) else ((spec_l01In.f a0_1 0 2).bind fun t139 => (if t139 = true then ((spec_l01In.f a0_2 0 1000).bind fun t140 => (spec_SideOk.j0 k (!t140) l0_0 a0_1 a0_2)) else (spec_SideOk.j0 k true l0_0 a0_1 a0_2)))
theorem spec_SideOk.t1_ {p : Prop} (h : p := by
    go_wp2_with (first | ((with_reducible refine gate_dst (N := 4) rfl ?_); refine box_event ?hg (N := 4) ?hd (cs := #[.int .i64 0, .int .i64 0, .int .i64 0]) (t := 118) ?hr ?_; (case hd => rfl); (case hg => rfl); (case hr => first | (go_simp; done) | (go_simp; rfl)); intro gbq0 hg wq1 hbox hb; have nq2 := bb_ BK138 hb; have nq3 := Aside0.mk (below_step (hb1_ GE138) hb); have BKq4 := Aside0.mk (hbox); have GWq5 := Aside0.mk (bs_ hg (hb1_ GE138)); have GEq6 := GWq5; have NBq7 := Aside0.mk ((by rw [hg]; exact Nat.ne_of_lt (blk_lt (g := gb138) (o := .cells #[.slice (some ad141) l0_0.length c0_0, .int .i64 a0_1, .int .i64 a0_2] 43 (0, 0)) (bk_ BK138)) : gb138 ≠ gbq0)); have NBq8 := Aside0.mk ((by rw [hg]; exact Nat.ne_of_gt (blk_lt (g := gb138) (o := .cells #[.slice (some ad141) l0_0.length c0_0, .int .i64 a0_1, .int .i64 a0_2] 43 (0, 0)) (bk_ BK138)) : gbq0 ≠ gb138)); clear BK138; clear HB; have BK138 := nq2; have HB := nq3; clear nq2 nq3; clear hb hbox hg; have hnbq9 := NBq8.out; have hncq10 := NBq7.out; obtain ⟨czq11, fzq12⟩ := bc_ BKq4 0; obtain ⟨czq13, fzq14⟩ := bc_ BKq4 1; obtain ⟨czq15, fzq16⟩ := bc_ BKq4 2) | ((with_reducible refine gate_callee (f := 68) rfl ?_); refine goesL_ (some 35) rfl rfl Tryz.func68 (by kernel_rfl) rfl #[.int .i64 ((rd_T118 l0_0 x3_2).f0), .int .i64 0, .int .i64 1] rfl (me_) ?_; (with_reducible refine (spec_l01In.calls ((rd_T118 l0_0 x3_2).f0) 0 1 _ _ A14.out).mono ?_); rintro e w' ⟨rfl, ⟨nd, rfl⟩⟩; refine ⟨_, rfl, ?_⟩) | (go_at_call 68; (with_reducible refine (spec_l01In.calls ((rd_T118 l0_0 x3_2).f1) 1 1000 _ _ A16.out).mono ?_); rintro e w' ⟨rfl, ⟨nd, rfl⟩⟩) | (go_at_call 68; (with_reducible refine (spec_l01In.calls ((rd_T118 l0_0 x3_2).f2) 1 1000 _ _ A18.out).mono ?_); rintro e w' ⟨rfl, ⟨nd, rfl⟩⟩))
    go_ret
    exact ⟨re_, hb2_ GE138 GEq6⟩) : p := h
set_option maxHeartbeats 8000000 in
set_option maxRecDepth 100000 in
theorem spec_SideOk.calls (k : Nat) (A0_0 : Option Addr) (c0_0 : Nat) (l0_0 : List (S118)) (a0_1 a0_2 : Int) (r : Bool) (w : World) (hr0_0 : Kd.C k118 w A0_0 l0_0.length l0_0) (hc0_0 : l0_0.length ≤ c0_0) (h : spec_SideOk.f k l0_0 a0_1 a0_2 = some r) :
    Calls Tryz.prog 71 #[.agg #[.slice A0_0 l0_0.length c0_0, .int .i64 a0_1, .int .i64 a0_2]] w fun e w' => e = .returned (.bool r) ∧ Below w.heap.size w w' := by
  have hu43 := Tryz.underlying43
  have hu118 := Tryz.underlying118
  have HR0_0 := Aside0.mk hr0_0
  have HC0_0 := Aside0.mk hc0_0
  clear hr0_0 hc0_0
  have HB := Aside0.mk (Below.refl w.heap.size w)
  have H : (if (l0_0.length : Int) > 3 then (spec_SideOk.j0 k true l0_0 a0_1 a0_2) else ((spec_l01In.f a0_1 0 2).bind fun t139 => (if t139 = true then ((spec_l01In.f a0_2 0 1000).bind fun t140 => (spec_SideOk.j0 k (!t140) l0_0 a0_1 a0_2)) else (spec_SideOk.j0 k true l0_0 a0_1 a0_2)))) = some r := h
  clear h
  have HC2 := Aside0.mk H
  clear H
  go_enter Tryz.func71, Tryz.ntmps71
  go_upto_region 1 with (first | ((with_reducible refine gate_dst (N := 1) rfl ?_); refine box_event ?hg (N := 1) ?hd (cs := #[.slice A0_0 l0_0.length c0_0, .int .i64 a0_1, .int .i64 a0_2]) (t := 43) ?hr ?_; (case hd => rfl); (case hg => rfl); (case hr => first | (go_simp; done) | (go_simp; rfl)); intro gb138 hg w3 hbox hb; have n0_ := Aside0.mk (below_step (hb0_) hb); have BK138 := Aside0.mk (hbox); have GW138 := Aside0.mk (bs_ hg (hb0_)); have GE138 := GW138; clear HB; have HB := n0_; clear n0_; clear hb hbox hg))
  (try simp only [Act.put, List.setIfInBounds_toArray, List.set_cons_zero, List.set_cons_succ])
  go_cut [20] (fun v20 wc => ∃ (kq : Nat) (x20_1 : Bool), v20 = .bool x20_1 ∧ Aside0 (spec_SideOk.j0 kq x20_1 l0_0 a0_1 a0_2 = some r) ∧ Aside0 (kq ≤ k) ∧ Aside0 (wc.heap[gb138]? = some (.cells #[(.slice A0_0 l0_0.length c0_0), .int .i64 a0_1, .int .i64 a0_2] 43 (0, 0))) ∧ Aside0 (Below w.heap.size w wc))
  case first =>
    have H := HC2.out
    clear HC2
    by_cases c4 : (l0_0.length : Int) > 3
    · rw [if_pos c4] at H
      have c4b0 : decide (3 < (l0_0.length : Int)) = true := decide_eq_true c4
      have c4b1 : decide (3 < l0_0.length) = true := decide_eq_true (by omega)
      clear c4
      (first | rw [c4b0] | (simp only [i64_w, i32_w]; rw [c4b0]) | skip)
      have H' := Aside0.mk H
      clear H
      obtain ⟨⟨cz5_0, fz5_0⟩, ⟨cz5_1, fz5_1⟩, ⟨cz5_2, fz5_2⟩⟩ := bc3_ BK138
      go_wp2
      go_meet
      case rel => exact ⟨_, (true), (rs_), H', ⟨by first | omega | exact Nat.le_refl _⟩, ⟨bk_ BK138⟩, ⟨hb1_ GE138⟩⟩
    · rw [if_neg c4] at H
      have c4b0 : decide (3 < (l0_0.length : Int)) = false := decide_eq_false c4
      have c4b1 : decide (3 < l0_0.length) = false := decide_eq_false (by omega)
      clear c4
      (first | rw [c4b0] | (simp only [i64_w, i32_w]; rw [c4b0]) | skip)
      replace H := Option.bind_eq_some_iff.mp H
      obtain ⟨t139, A60, H⟩ := H
      replace H : (if t139 = true then ((spec_l01In.f a0_2 0 1000).bind fun t140 => (spec_SideOk.j0 k (!t140) l0_0 a0_1 a0_2)) else (spec_SideOk.j0 k true l0_0 a0_1 a0_2)) = some r := H
      have A6 := Aside0.mk A60
      clear A60
      by_cases c7 : t139 = true
      · subst c7
        have H1 : ((spec_l01In.f a0_2 0 1000).bind fun t140 => (spec_SideOk.j0 k (!t140) l0_0 a0_1 a0_2)) = some r := by rw [if_pos rfl] at H; exact H
        clear H
        have H := H1
        clear H1
        replace H := Option.bind_eq_some_iff.mp H
        obtain ⟨t140, A80, H⟩ := H
        replace H : (spec_SideOk.j0 k (!t140) l0_0 a0_1 a0_2) = some r := H
        have A8 := Aside0.mk A80
        clear A80
        have H' := Aside0.mk H
        clear H
        obtain ⟨⟨cz9_0, fz9_0⟩, ⟨cz9_1, fz9_1⟩, ⟨cz9_2, fz9_2⟩⟩ := bc3_ BK138
        go_wp2_with (first | (go_at_call 68; (with_reducible refine (spec_l01In.calls a0_1 0 2 _ _ A6.out).mono ?_); rintro e w' ⟨rfl, ⟨nd, rfl⟩⟩) | (go_at_call 68; (with_reducible refine (spec_l01In.calls a0_2 0 1000 _ _ A8.out).mono ?_); rintro e w' ⟨rfl, ⟨nd, rfl⟩⟩))
        go_meet
        case rel => exact ⟨_, (!t140), (rs_), H', ⟨by first | omega | exact Nat.le_refl _⟩, ⟨bk_ BK138⟩, ⟨hb1_ GE138⟩⟩
      · replace c7 := Bool.eq_false_iff.mpr c7
        subst c7
        have H1 : (spec_SideOk.j0 k true l0_0 a0_1 a0_2) = some r := by rw [if_neg (show ¬ (false = true) by decide)] at H; exact H
        clear H
        have H := H1
        clear H1
        have H' := Aside0.mk H
        clear H
        obtain ⟨⟨cz10_0, fz10_0⟩, ⟨cz10_1, fz10_1⟩, ⟨cz10_2, fz10_2⟩⟩ := bc3_ BK138
        go_wp2_with (first | (go_at_call 68; (with_reducible refine (spec_l01In.calls a0_1 0 2 _ _ A6.out).mono ?_); rintro e w' ⟨rfl, ⟨nd, rfl⟩⟩))
        go_meet
        case rel => exact ⟨_, (true), (rs_), H', ⟨by first | omega | exact Nat.le_refl _⟩, ⟨bk_ BK138⟩, ⟨hb1_ GE138⟩⟩
  case rest =>
    clear HC2
    try clear p2
    try clear c4
    try clear c4b0
    try clear c4b1
    try clear c7
    try clear cz10_0
    try clear cz10_1
    try clear cz10_2
    try clear cz5_0
    try clear cz5_1
    try clear cz5_2
    try clear cz9_0
    try clear cz9_1
    try clear cz9_2
    try clear fz10_0
    try clear fz10_1
    try clear fz10_2
    try clear fz5_0
    try clear fz5_1
    try clear fz5_2
    try clear fz9_0
    try clear fz9_1
    try clear fz9_2
    obtain ⟨kq, x20_1, rfl, HA, HJ1, BK138, HB⟩ := hcut
    cases kq with
    | zero => exact absurd HA.out (by simp [spec_SideOk.j0])
    | succ kj1 =>
      have H := HA.out
      clear HA
      simp only [spec_SideOk.j0] at H
      by_cases c11 : x20_1 = true
      · subst c11
        have H1 : (some false) = some r := by rw [if_pos rfl] at H; exact H
        clear H
        have H := H1
        clear H1
        obtain rfl := Option.some.inj H
        go_wp2
        go_ret
        exact ⟨re_, hb1_ GE138⟩
      · replace c11 := Bool.eq_false_iff.mpr c11
        subst c11
        have H1 : (spec_SideOk.l0 kj1 0 l0_0 a0_1 a0_2) = some r := by rw [if_neg (show ¬ (false = true) by decide)] at H; exact H
        clear H
        have H := H1
        clear H1
        have H' := Aside0.mk H
        clear H
        go_wp2
        go_loopg [3] kj1 (fun kq v3 w' => ∃ (x3_2 : Int), v3 = .int .i64 x3_2 ∧ Aside0 (spec_SideOk.l0 kq x3_2 l0_0 a0_1 a0_2 = some r) ∧ Aside0 (kq ≤ kj1) ∧ Aside0 (w'.heap[gb138]? = some (.cells #[(.slice A0_0 l0_0.length c0_0), .int .i64 a0_1, .int .i64 a0_2] 43 (0, 0))) ∧ Aside0 (Below w.heap.size w w'))
        case atStart => exact ⟨(0), (rs_), H', ⟨Nat.le_refl _⟩, ⟨bk_ BK138⟩, ⟨hb1_ GE138⟩⟩
        case round =>
          clear H'
          try clear c1
          try clear p2
          try clear c4
          try clear c4b0
          try clear c4b1
          try clear c7
          try clear c11
          try clear cz10_0
          try clear cz10_1
          try clear cz10_2
          try clear cz5_0
          try clear cz5_1
          try clear cz5_2
          try clear cz9_0
          try clear cz9_1
          try clear cz9_2
          try clear fz10_0
          try clear fz10_1
          try clear fz10_2
          try clear fz5_0
          try clear fz5_1
          try clear fz5_2
          try clear fz9_0
          try clear fz9_1
          try clear fz9_2
          try clear p2
          obtain ⟨x3_2, rfl, HA, HK2, BK138, HB⟩ := hrel
          cases gk with
          | zero => exact absurd HA.out (by simp [spec_SideOk.l0])
          | succ k2 =>
            have H := HA.out
            clear HA
            simp only [spec_SideOk.l0] at H
            by_cases c12 : x3_2 < (l0_0.length : Int)
            · rw [if_pos c12] at H
              have c12b0 : decide (x3_2 < (l0_0.length : Int)) = true := decide_eq_true c12
              clear c12
              by_cases c13 : 0 ≤ x3_2
              · rw [if_pos c13] at H
                have c13b0 : decide (0 ≤ x3_2) = true := decide_eq_true c13
                clear c13
                replace H := Option.bind_eq_some_iff.mp H
                obtain ⟨t143, A140, H⟩ := H
                replace H : (if t143 = true then ((spec_l01In.f ((rd_T118 l0_0 x3_2).f1) 1 1000).bind fun t144 => (if t144 = true then ((spec_l01In.f ((rd_T118 l0_0 x3_2).f2) 1 1000).bind fun t145 => (if t145 = true then (spec_SideOk.l0 k2 (wrap64 (x3_2 + 1)) l0_0 a0_1 a0_2) else (some false))) else (some false))) else (some false)) = some r := H
                have A14 := Aside0.mk A140
                clear A140
                by_cases c15 : t143 = true
                · subst c15
                  have H1 : ((spec_l01In.f ((rd_T118 l0_0 x3_2).f1) 1 1000).bind fun t144 => (if t144 = true then ((spec_l01In.f ((rd_T118 l0_0 x3_2).f2) 1 1000).bind fun t145 => (if t145 = true then (spec_SideOk.l0 k2 (wrap64 (x3_2 + 1)) l0_0 a0_1 a0_2) else (some false))) else (some false))) = some r := by rw [if_pos rfl] at H; exact H
                  clear H
                  have H := H1
                  clear H1
                  replace H := Option.bind_eq_some_iff.mp H
                  obtain ⟨t144, A160, H⟩ := H
                  replace H : (if t144 = true then ((spec_l01In.f ((rd_T118 l0_0 x3_2).f2) 1 1000).bind fun t145 => (if t145 = true then (spec_SideOk.l0 k2 (wrap64 (x3_2 + 1)) l0_0 a0_1 a0_2) else (some false))) else (some false)) = some r := H
                  have A16 := Aside0.mk A160
                  clear A160
                  by_cases c17 : t144 = true
                  · subst c17
                    have H1 : ((spec_l01In.f ((rd_T118 l0_0 x3_2).f2) 1 1000).bind fun t145 => (if t145 = true then (spec_SideOk.l0 k2 (wrap64 (x3_2 + 1)) l0_0 a0_1 a0_2) else (some false))) = some r := by rw [if_pos rfl] at H; exact H
                    clear H
                    have H := H1
                    clear H1
                    replace H := Option.bind_eq_some_iff.mp H
                    obtain ⟨t145, A180, H⟩ := H
                    replace H : (if t145 = true then (spec_SideOk.l0 k2 (wrap64 (x3_2 + 1)) l0_0 a0_1 a0_2) else (some false)) = some r := H
                    have A18 := Aside0.mk A180
                    clear A180
                    by_cases c19 : t145 = true
                    · subst c19
                      have H1 : (spec_SideOk.l0 k2 (wrap64 (x3_2 + 1)) l0_0 a0_1 a0_2) = some r := by rw [if_pos rfl] at H; exact H
                      clear H
                      have H := H1
                      clear H1
                      have H' := Aside0.mk H
                      clear H
                      obtain ⟨⟨cz20_0, fz20_0⟩, ⟨cz20_1, fz20_1⟩, ⟨cz20_2, fz20_2⟩⟩ := bc3_ BK138
                      have p141 : 0 ≤ (x3_2 : Int) := of_decide_eq_true as_
                      have q141 : x3_2 < (l0_0.length : Int) := of_decide_eq_true as_
                      obtain ⟨ad141, e141, hx141_0, hx141_1, hx141_2⟩ := at_T118 HR0_0.out x3_2 p141 q141
                      cases e141
                      replace hx141_0 := (HB.out.cell (World.block_lt_of_cell? w _ hx141_0)).trans hx141_0
                      replace hx141_1 := (HB.out.cell (World.block_lt_of_cell? w _ hx141_1)).trans hx141_1
                      replace hx141_2 := (HB.out.cell (World.block_lt_of_cell? w _ hx141_2)).trans hx141_2
                      replace p141 := eq_true p141
                      replace q141 := eq_true q141
                      go_wp2_with (first | ((with_reducible refine gate_dst (N := 4) rfl ?_); refine box_event ?hg (N := 4) ?hd (cs := #[.int .i64 0, .int .i64 0, .int .i64 0]) (t := 118) ?hr ?_; (case hd => rfl); (case hg => rfl); (case hr => first | (go_simp; done) | (go_simp; rfl)); intro gb142 hg w21 hbox hb; have n0_ := bb_ BK138 hb; have n1_ := Aside0.mk (below_step (hb1_ GE138) hb); have BK142 := Aside0.mk (hbox); have GW142 := Aside0.mk (bs_ hg (hb1_ GE138)); have GE142 := GW142; have NB138_142 := Aside0.mk ((by rw [hg]; exact Nat.ne_of_lt (blk_lt (g := gb138) (o := .cells #[.slice (some ad141) l0_0.length c0_0, .int .i64 a0_1, .int .i64 a0_2] 43 (0, 0)) (bk_ BK138)) : gb138 ≠ gb142)); have NB142_138 := Aside0.mk ((by rw [hg]; exact Nat.ne_of_gt (blk_lt (g := gb138) (o := .cells #[.slice (some ad141) l0_0.length c0_0, .int .i64 a0_1, .int .i64 a0_2] 43 (0, 0)) (bk_ BK138)) : gb142 ≠ gb138)); clear BK138; clear HB; have BK138 := n0_; have HB := n1_; clear n0_ n1_; clear hb hbox hg; have hnb22 := NB142_138.out; have hnc22 := NB138_142.out; obtain ⟨cz23_0, fz23_0⟩ := bc_ BK142 0; obtain ⟨cz23_1, fz23_1⟩ := bc_ BK142 1; obtain ⟨cz23_2, fz23_2⟩ := bc_ BK142 2) | ((with_reducible refine gate_callee (f := 68) rfl ?_); refine goesL_ (some 35) rfl rfl Tryz.func68 (by kernel_rfl) rfl #[.int .i64 ((rd_T118 l0_0 x3_2).f0), .int .i64 0, .int .i64 1] rfl (me_) ?_; (with_reducible refine (spec_l01In.calls ((rd_T118 l0_0 x3_2).f0) 0 1 _ _ A14.out).mono ?_); rintro e w' ⟨rfl, ⟨nd, rfl⟩⟩; refine ⟨_, rfl, ?_⟩) | (go_at_call 68; (with_reducible refine (spec_l01In.calls ((rd_T118 l0_0 x3_2).f1) 1 1000 _ _ A16.out).mono ?_); rintro e w' ⟨rfl, ⟨nd, rfl⟩⟩) | (go_at_call 68; (with_reducible refine (spec_l01In.calls ((rd_T118 l0_0 x3_2).f2) 1 1000 _ _ A18.out).mono ?_); rintro e w' ⟨rfl, ⟨nd, rfl⟩⟩))
                      go_roundg k2
                      case measure => have := HJ1.out; have := HK2.out; omega
                      case rel => exact ⟨(wrap64 (x3_2 + 1)), (rs_), H', ⟨by have := HJ1.out; have := HK2.out; omega⟩, ⟨bp_ BK138⟩, ⟨hb2_ GE138 GE142⟩⟩
                    · replace c19 := Bool.eq_false_iff.mpr c19
                      subst c19
                      have H1 : (some false) = some r := by rw [if_neg (show ¬ (false = true) by decide)] at H; exact H
                      clear H
                      have H := H1
                      clear H1
                      obtain rfl := Option.some.inj H
                      obtain ⟨⟨cz24_0, fz24_0⟩, ⟨cz24_1, fz24_1⟩, ⟨cz24_2, fz24_2⟩⟩ := bc3_ BK138
                      have p141 : 0 ≤ (x3_2 : Int) := of_decide_eq_true as_
                      have q141 : x3_2 < (l0_0.length : Int) := of_decide_eq_true as_
                      obtain ⟨ad141, e141, hx141_0, hx141_1, hx141_2⟩ := at_T118 HR0_0.out x3_2 p141 q141
                      cases e141
                      replace hx141_0 := (HB.out.cell (World.block_lt_of_cell? w _ hx141_0)).trans hx141_0
                      replace hx141_1 := (HB.out.cell (World.block_lt_of_cell? w _ hx141_1)).trans hx141_1
                      replace hx141_2 := (HB.out.cell (World.block_lt_of_cell? w _ hx141_2)).trans hx141_2
                      replace p141 := eq_true p141
                      replace q141 := eq_true q141
                      exact spec_SideOk.t1_
                  · replace c17 := Bool.eq_false_iff.mpr c17
                    subst c17
                    have H1 : (some false) = some r := by rw [if_neg (show ¬ (false = true) by decide)] at H; exact H
                    clear H
                    have H := H1
                    clear H1
                    obtain rfl := Option.some.inj H
                    obtain ⟨⟨cz28_0, fz28_0⟩, ⟨cz28_1, fz28_1⟩, ⟨cz28_2, fz28_2⟩⟩ := bc3_ BK138
                    have p141 : 0 ≤ (x3_2 : Int) := of_decide_eq_true as_
                    have q141 : x3_2 < (l0_0.length : Int) := of_decide_eq_true as_
                    obtain ⟨ad141, e141, hx141_0, hx141_1, hx141_2⟩ := at_T118 HR0_0.out x3_2 p141 q141
                    cases e141
                    replace hx141_0 := (HB.out.cell (World.block_lt_of_cell? w _ hx141_0)).trans hx141_0
                    replace hx141_1 := (HB.out.cell (World.block_lt_of_cell? w _ hx141_1)).trans hx141_1
                    replace hx141_2 := (HB.out.cell (World.block_lt_of_cell? w _ hx141_2)).trans hx141_2
                    replace p141 := eq_true p141
                    replace q141 := eq_true q141
                    exact spec_SideOk.t1_
                · replace c15 := Bool.eq_false_iff.mpr c15
                  subst c15
                  have H1 : (some false) = some r := by rw [if_neg (show ¬ (false = true) by decide)] at H; exact H
                  clear H
                  have H := H1
                  clear H1
                  obtain rfl := Option.some.inj H
                  obtain ⟨⟨cz32_0, fz32_0⟩, ⟨cz32_1, fz32_1⟩, ⟨cz32_2, fz32_2⟩⟩ := bc3_ BK138
                  have p141 : 0 ≤ (x3_2 : Int) := of_decide_eq_true as_
                  have q141 : x3_2 < (l0_0.length : Int) := of_decide_eq_true as_
                  obtain ⟨ad141, e141, hx141_0, hx141_1, hx141_2⟩ := at_T118 HR0_0.out x3_2 p141 q141
                  cases e141
                  replace hx141_0 := (HB.out.cell (World.block_lt_of_cell? w _ hx141_0)).trans hx141_0
                  replace hx141_1 := (HB.out.cell (World.block_lt_of_cell? w _ hx141_1)).trans hx141_1
                  replace hx141_2 := (HB.out.cell (World.block_lt_of_cell? w _ hx141_2)).trans hx141_2
                  replace p141 := eq_true p141
                  replace q141 := eq_true q141
                  exact spec_SideOk.t1_
              · rw [if_neg c13] at H
                exact absurd H (by simp)
            · rw [if_neg c12] at H
              have c12b0 : decide (x3_2 < (l0_0.length : Int)) = false := decide_eq_false c12
              clear c12
              obtain rfl := Option.some.inj H
              obtain ⟨⟨cz36_0, fz36_0⟩, ⟨cz36_1, fz36_1⟩, ⟨cz36_2, fz36_2⟩⟩ := bc3_ BK138
              go_wp2
              go_ret
              exact ⟨re_, hb1_ GE138⟩
def spec_BehaveOk.f (k : Nat) (l0_0 : List (S118)) (a0_1 a0_2 : Int) (l0_3 : List (S118)) (a0_4 a0_5 a0_6 a0_7 : Int) : Option (Bool) := (spec_SideOk.f k l0_0 a0_1 a0_2).bind fun t147 => (if t147 = true then ((spec_SideOk.f k l0_3 a0_4 a0_5).bind fun t148 => (if t148 = true then ((spec_l01In.f a0_7 0 1000).bind fun t149 => (if t149 = true then ((spec_l01In.f a0_6 0 a0_7).bind fun t150 => (some t150)) else (some false))) else (some false))) else (some false))
theorem spec_BehaveOk.t1_ {p : Prop} (h : p := by
    go_enter Tryz.func67, Tryz.ntmps67
    go_wp2_with (first | ((with_reducible refine gate_dst (N := 1) rfl ?_); refine box_event ?hg (N := 1) ?hd (cs := #[.slice A0_0 l0_0.length c0_0, .int .i64 a0_1, .int .i64 a0_2, .slice A0_3 l0_3.length c0_3, .int .i64 a0_4, .int .i64 a0_5, .int .i64 a0_6, .int .i64 a0_7]) (t := 45) ?hr ?_; (case hd => rfl); (case hg => rfl); (case hr => first | (go_simp; done) | (go_simp; rfl)); intro gbq0 hg wq1 hbox hb; have nq2 := Aside0.mk (below_step (hb0_) hb); have BKq3 := Aside0.mk (hbox); have GWq4 := Aside0.mk (bs_ hg (hb0_)); have GEq5 := GWq4; clear HB; have HB := nq2; clear nq2; clear hb hbox hg; obtain ⟨⟨czq6, fzq7⟩, ⟨czq8, fzq9⟩, ⟨czq10, fzq11⟩, ⟨czq12, fzq13⟩, ⟨czq14, fzq15⟩, ⟨czq16, fzq17⟩, ⟨czq18, fzq19⟩, ⟨czq20, fzq21⟩⟩ := bc8_ BKq3) | ((with_reducible refine gate_callee (f := 71) rfl ?_); refine goesL_ (some 5) rfl rfl Tryz.func71 (by kernel_rfl) rfl #[.agg #[.slice A0_0 l0_0.length c0_0, .int .i64 a0_1, .int .i64 a0_2]] rfl (me_) ?_; (with_reducible refine (spec_SideOk.calls k _ _ l0_0 a0_1 a0_2 _ _ ?side1 ?side2 A2.out).mono ?_); (case side1 => repeat (first | exact (Kd.C_below HR0_0.out HB.out) | (with_reducible refine Kd.C_alloc ?_ _) | (with_reducible refine Kd.C_drewN ?_ _) | (with_reducible refine Kd.C_drew ?_))); (case side2 => exact HC0_0.out); rintro e wq22 ⟨rfl, hb⟩; refine ⟨_, rfl, ?_⟩; have nq2 := bb_ BKq3 hb; have nq23 := Aside0.mk (below_step (hb1_ GEq5) hb); clear BKq3; clear HB; have BKq3 := nq2; have HB := nq23; clear nq2 nq23; (try clear hb); (try clear hb2); (try clear hk); (try clear hi); (try (obtain ⟨⟨czq24, fzq25⟩, ⟨czq26, fzq27⟩, ⟨czq28, fzq29⟩, ⟨czq30, fzq31⟩, ⟨czq32, fzq33⟩, ⟨czq34, fzq35⟩, ⟨czq36, fzq37⟩, ⟨czq38, fzq39⟩⟩ := bc8_ BKq3))) | (go_at_call 71; (with_reducible refine (spec_SideOk.calls k _ _ l0_3 a0_4 a0_5 _ _ ?side1 ?side2 A4.out).mono ?_); (case side1 => repeat (first | exact (Kd.C_below HR0_3.out HB.out) | (with_reducible refine Kd.C_alloc ?_ _) | (with_reducible refine Kd.C_drewN ?_ _) | (with_reducible refine Kd.C_drew ?_))); (case side2 => exact HC0_3.out); rintro e wq40 ⟨rfl, hb⟩; have nq2 := bb_ BKq3 hb; have nq23 := Aside0.mk (below_step (hb1_ GEq5) hb); clear BKq3; clear HB; have BKq3 := nq2; have HB := nq23; clear nq2 nq23; (try clear hb); (try clear hb2); (try clear hk); (try clear hi); (try (obtain ⟨⟨czq41, fzq42⟩, ⟨czq43, fzq44⟩, ⟨czq45, fzq46⟩, ⟨czq47, fzq48⟩, ⟨czq49, fzq50⟩, ⟨czq51, fzq52⟩, ⟨czq53, fzq54⟩, ⟨czq55, fzq56⟩⟩ := bc8_ BKq3))) | (go_at_call 68; (with_reducible refine (spec_l01In.calls a0_7 0 1000 _ _ A6.out).mono ?_); rintro e w' ⟨rfl, ⟨nd, rfl⟩⟩) | (go_at_call 68; (with_reducible refine (spec_l01In.calls a0_6 0 a0_7 _ _ A8.out).mono ?_); rintro e w' ⟨rfl, ⟨nd, rfl⟩⟩))
    go_ret
    exact ⟨re_, hb1_ GEq5⟩) : p := h
set_option maxHeartbeats 8000000 in
set_option maxRecDepth 100000 in
theorem spec_BehaveOk.calls (k : Nat) (A0_0 : Option Addr) (c0_0 : Nat) (l0_0 : List (S118)) (a0_1 a0_2 : Int) (A0_3 : Option Addr) (c0_3 : Nat) (l0_3 : List (S118)) (a0_4 a0_5 a0_6 a0_7 : Int) (r : Bool) (w : World) (hr0_0 : Kd.C k118 w A0_0 l0_0.length l0_0) (hc0_0 : l0_0.length ≤ c0_0) (hr0_3 : Kd.C k118 w A0_3 l0_3.length l0_3) (hc0_3 : l0_3.length ≤ c0_3) (h : spec_BehaveOk.f k l0_0 a0_1 a0_2 l0_3 a0_4 a0_5 a0_6 a0_7 = some r) :
    Calls Tryz.prog 67 #[.agg #[.slice A0_0 l0_0.length c0_0, .int .i64 a0_1, .int .i64 a0_2, .slice A0_3 l0_3.length c0_3, .int .i64 a0_4, .int .i64 a0_5, .int .i64 a0_6, .int .i64 a0_7]] w fun e w' => e = .returned (.bool r) ∧ Below w.heap.size w w' := by
  have hu45 := Tryz.underlying45
  have hu43 := Tryz.underlying43
  have HR0_0 := Aside0.mk hr0_0
  have HC0_0 := Aside0.mk hc0_0
  clear hr0_0 hc0_0
  have HR0_3 := Aside0.mk hr0_3
  have HC0_3 := Aside0.mk hc0_3
  clear hr0_3 hc0_3
  have HB := Aside0.mk (Below.refl w.heap.size w)
  have H : ((spec_SideOk.f k l0_0 a0_1 a0_2).bind fun t147 => (if t147 = true then ((spec_SideOk.f k l0_3 a0_4 a0_5).bind fun t148 => (if t148 = true then ((spec_l01In.f a0_7 0 1000).bind fun t149 => (if t149 = true then ((spec_l01In.f a0_6 0 a0_7).bind fun t150 => (some t150)) else (some false))) else (some false))) else (some false))) = some r := h
  clear h
  replace H := Option.bind_eq_some_iff.mp H
  obtain ⟨t147, A20, H⟩ := H
  replace H : (if t147 = true then ((spec_SideOk.f k l0_3 a0_4 a0_5).bind fun t148 => (if t148 = true then ((spec_l01In.f a0_7 0 1000).bind fun t149 => (if t149 = true then ((spec_l01In.f a0_6 0 a0_7).bind fun t150 => (some t150)) else (some false))) else (some false))) else (some false)) = some r := H
  have A2 := Aside0.mk A20
  clear A20
  by_cases c3 : t147 = true
  · subst c3
    have H1 : ((spec_SideOk.f k l0_3 a0_4 a0_5).bind fun t148 => (if t148 = true then ((spec_l01In.f a0_7 0 1000).bind fun t149 => (if t149 = true then ((spec_l01In.f a0_6 0 a0_7).bind fun t150 => (some t150)) else (some false))) else (some false))) = some r := by rw [if_pos rfl] at H; exact H
    clear H
    have H := H1
    clear H1
    replace H := Option.bind_eq_some_iff.mp H
    obtain ⟨t148, A40, H⟩ := H
    replace H : (if t148 = true then ((spec_l01In.f a0_7 0 1000).bind fun t149 => (if t149 = true then ((spec_l01In.f a0_6 0 a0_7).bind fun t150 => (some t150)) else (some false))) else (some false)) = some r := H
    have A4 := Aside0.mk A40
    clear A40
    by_cases c5 : t148 = true
    · subst c5
      have H1 : ((spec_l01In.f a0_7 0 1000).bind fun t149 => (if t149 = true then ((spec_l01In.f a0_6 0 a0_7).bind fun t150 => (some t150)) else (some false))) = some r := by rw [if_pos rfl] at H; exact H
      clear H
      have H := H1
      clear H1
      replace H := Option.bind_eq_some_iff.mp H
      obtain ⟨t149, A60, H⟩ := H
      replace H : (if t149 = true then ((spec_l01In.f a0_6 0 a0_7).bind fun t150 => (some t150)) else (some false)) = some r := H
      have A6 := Aside0.mk A60
      clear A60
      by_cases c7 : t149 = true
      · subst c7
        have H1 : ((spec_l01In.f a0_6 0 a0_7).bind fun t150 => (some t150)) = some r := by rw [if_pos rfl] at H; exact H
        clear H
        have H := H1
        clear H1
        replace H := Option.bind_eq_some_iff.mp H
        obtain ⟨t150, A80, H⟩ := H
        replace H : (some t150) = some r := H
        have A8 := Aside0.mk A80
        clear A80
        obtain rfl := Option.some.inj H
        exact spec_BehaveOk.t1_
      · replace c7 := Bool.eq_false_iff.mpr c7
        subst c7
        have H1 : (some false) = some r := by rw [if_neg (show ¬ (false = true) by decide)] at H; exact H
        clear H
        have H := H1
        clear H1
        obtain rfl := Option.some.inj H
        exact spec_BehaveOk.t1_
    · replace c5 := Bool.eq_false_iff.mpr c5
      subst c5
      have H1 : (some false) = some r := by rw [if_neg (show ¬ (false = true) by decide)] at H; exact H
      clear H
      have H := H1
      clear H1
      obtain rfl := Option.some.inj H
      exact spec_BehaveOk.t1_
  · replace c3 := Bool.eq_false_iff.mpr c3
    subst c3
    have H1 : (some false) = some r := by rw [if_neg (show ¬ (false = true) by decide)] at H; exact H
    clear H
    have H := H1
    clear H1
    obtain rfl := Option.some.inj H
    exact spec_BehaveOk.t1_
def spec_NameOk.l0 : Nat → ByteArray → Int → Option (Bool)
  | 0, _, _ => none
  | k + 1, x0, x3 => if x3 < (x0.size : Int) then (if 0 ≤ x3 then (if (bt x0 x3) < 97 then (if (bt x0 x3) < 48 then (some false) else (if (bt x0 x3) > 57 then (some false) else (spec_NameOk.l0 k x0 (wrap64 (x3 + 1))))) else (if (bt x0 x3) > 122 then (if (bt x0 x3) < 48 then (some false) else (if (bt x0 x3) > 57 then (some false) else (spec_NameOk.l0 k x0 (wrap64 (x3 + 1))))) else (spec_NameOk.l0 k x0 (wrap64 (x3 + 1))))) else (none)) else (some true)
def spec_NameOk.f (k : Nat) (a0 : ByteArray) : Option (Bool) := (spec_l01In.f (a0.size : Int) 1 12).bind fun t151 => (if t151 = true then (spec_NameOk.l0 k a0 0) else (some false))
set_option maxHeartbeats 8000000 in
set_option maxRecDepth 100000 in
theorem spec_NameOk.calls (k : Nat) (a0 : ByteArray) (r : Bool) (w : World) (h : spec_NameOk.f k a0 = some r) :
    Calls Tryz.prog 99 #[.string a0] w fun e w' => e = .returned (.bool r) ∧ Drawn0 w w' := by
  have H : ((spec_l01In.f (a0.size : Int) 1 12).bind fun t151 => (if t151 = true then (spec_NameOk.l0 k a0 0) else (some false))) = some r := h
  clear h
  replace H := Option.bind_eq_some_iff.mp H
  obtain ⟨t151, A20, H⟩ := H
  replace H : (if t151 = true then (spec_NameOk.l0 k a0 0) else (some false)) = some r := H
  have A2 := Aside0.mk A20
  clear A20
  by_cases c3 : t151 = true
  · subst c3
    have H1 : (spec_NameOk.l0 k a0 0) = some r := by rw [if_pos rfl] at H; exact H
    clear H
    have H := H1
    clear H1
    have H' := Aside0.mk H
    clear H
    go_enter Tryz.func99, Tryz.ntmps99
    go_wp2_with (first | ((with_reducible refine gate_callee (f := 68) rfl ?_); refine goesL_ (some 7) rfl rfl Tryz.func68 (by kernel_rfl) rfl #[.int .i64 (a0.size : Int), .int .i64 1, .int .i64 12] rfl (me_) ?_; (with_reducible refine (spec_l01In.calls (a0.size : Int) 1 12 _ _ A2.out).mono ?_); rintro e w' ⟨rfl, ⟨nd, rfl⟩⟩; refine ⟨_, rfl, ?_⟩))
    go_loopg [3] k (fun kq v3 w' => ∃ (x3_1 : Int), v3 = .int .i64 x3_1 ∧ Aside0 (spec_NameOk.l0 kq a0 x3_1 = some r) ∧ Aside0 (kq ≤ k) ∧ Drawn0 w w')
    case atStart => exact ⟨(0), (rs_), H', ⟨Nat.le_refl _⟩, by repeat (first | exact Drawn0.refl _ | apply Drawn0.step)⟩
    case round =>
      clear H'
      try clear p2
      try clear c3
      obtain ⟨x3_1, rfl, HA, HK1, ⟨m1, rfl⟩⟩ := hrel
      cases gk with
      | zero => exact absurd HA.out (by simp [spec_NameOk.l0])
      | succ k1 =>
        have H := HA.out
        clear HA
        simp only [spec_NameOk.l0] at H
        by_cases c4 : x3_1 < (a0.size : Int)
        · rw [if_pos c4] at H
          have c4b0 : decide (x3_1 < (a0.size : Int)) = true := decide_eq_true c4
          clear c4
          by_cases c5 : 0 ≤ x3_1
          · rw [if_pos c5] at H
            have c5b0 : decide (0 ≤ x3_1) = true := decide_eq_true c5
            clear c5
            by_cases c7 : (bt a0 x3_1) < 97
            · rw [if_pos c7] at H
              have c7b0 : decide ((bt a0 x3_1) < 97) = true := decide_eq_true c7
              clear c7
              by_cases c8 : (bt a0 x3_1) < 48
              · rw [if_pos c8] at H
                have c8b0 : decide ((bt a0 x3_1) < 48) = true := decide_eq_true c8
                clear c8
                obtain rfl := Option.some.inj H
                have p6 : 0 ≤ (x3_1 : Int) := of_decide_eq_true as_
                have q6 : x3_1 < (a0.size : Int) := of_decide_eq_true as_
                have hx6 := bt_at a0 x3_1
                replace p6 := eq_true p6
                replace q6 := eq_true q6
                go_wp2
                go_ret
                exact ⟨rs_, by repeat (first | exact Drawn0.refl _ | apply Drawn0.step)⟩
              · rw [if_neg c8] at H
                have c8b0 : decide ((bt a0 x3_1) < 48) = false := decide_eq_false c8
                clear c8
                by_cases c9 : (bt a0 x3_1) > 57
                · rw [if_pos c9] at H
                  have c9b0 : decide (57 < (bt a0 x3_1)) = true := decide_eq_true c9
                  clear c9
                  obtain rfl := Option.some.inj H
                  have p6 : 0 ≤ (x3_1 : Int) := of_decide_eq_true as_
                  have q6 : x3_1 < (a0.size : Int) := of_decide_eq_true as_
                  have hx6 := bt_at a0 x3_1
                  replace p6 := eq_true p6
                  replace q6 := eq_true q6
                  go_wp2
                  go_ret
                  exact ⟨rs_, by repeat (first | exact Drawn0.refl _ | apply Drawn0.step)⟩
                · rw [if_neg c9] at H
                  have c9b0 : decide (57 < (bt a0 x3_1)) = false := decide_eq_false c9
                  clear c9
                  have H' := Aside0.mk H
                  clear H
                  have p6 : 0 ≤ (x3_1 : Int) := of_decide_eq_true as_
                  have q6 : x3_1 < (a0.size : Int) := of_decide_eq_true as_
                  have hx6 := bt_at a0 x3_1
                  replace p6 := eq_true p6
                  replace q6 := eq_true q6
                  go_wp2
                  go_roundg k1
                  case measure => have := HK1.out; omega
                  case rel => exact ⟨(wrap64 (x3_1 + 1)), (rs_), H', ⟨by have := HK1.out; omega⟩, by repeat (first | exact Drawn0.refl _ | apply Drawn0.step)⟩
            · rw [if_neg c7] at H
              have c7b0 : decide ((bt a0 x3_1) < 97) = false := decide_eq_false c7
              clear c7
              by_cases c10 : (bt a0 x3_1) > 122
              · rw [if_pos c10] at H
                have c10b0 : decide (122 < (bt a0 x3_1)) = true := decide_eq_true c10
                clear c10
                by_cases c11 : (bt a0 x3_1) < 48
                · rw [if_pos c11] at H
                  have c11b0 : decide ((bt a0 x3_1) < 48) = true := decide_eq_true c11
                  clear c11
                  obtain rfl := Option.some.inj H
                  have p6 : 0 ≤ (x3_1 : Int) := of_decide_eq_true as_
                  have q6 : x3_1 < (a0.size : Int) := of_decide_eq_true as_
                  have hx6 := bt_at a0 x3_1
                  replace p6 := eq_true p6
                  replace q6 := eq_true q6
                  go_wp2
                  go_ret
                  exact ⟨rs_, by repeat (first | exact Drawn0.refl _ | apply Drawn0.step)⟩
                · rw [if_neg c11] at H
                  have c11b0 : decide ((bt a0 x3_1) < 48) = false := decide_eq_false c11
                  clear c11
                  by_cases c12 : (bt a0 x3_1) > 57
                  · rw [if_pos c12] at H
                    have c12b0 : decide (57 < (bt a0 x3_1)) = true := decide_eq_true c12
                    clear c12
                    obtain rfl := Option.some.inj H
                    have p6 : 0 ≤ (x3_1 : Int) := of_decide_eq_true as_
                    have q6 : x3_1 < (a0.size : Int) := of_decide_eq_true as_
                    have hx6 := bt_at a0 x3_1
                    replace p6 := eq_true p6
                    replace q6 := eq_true q6
                    go_wp2
                    go_ret
                    exact ⟨rs_, by repeat (first | exact Drawn0.refl _ | apply Drawn0.step)⟩
                  · rw [if_neg c12] at H
                    have c12b0 : decide (57 < (bt a0 x3_1)) = false := decide_eq_false c12
                    clear c12
                    have H' := Aside0.mk H
                    clear H
                    have p6 : 0 ≤ (x3_1 : Int) := of_decide_eq_true as_
                    have q6 : x3_1 < (a0.size : Int) := of_decide_eq_true as_
                    have hx6 := bt_at a0 x3_1
                    replace p6 := eq_true p6
                    replace q6 := eq_true q6
                    go_wp2
                    go_roundg k1
                    case measure => have := HK1.out; omega
                    case rel => exact ⟨(wrap64 (x3_1 + 1)), (rs_), H', ⟨by have := HK1.out; omega⟩, by repeat (first | exact Drawn0.refl _ | apply Drawn0.step)⟩
              · rw [if_neg c10] at H
                have c10b0 : decide (122 < (bt a0 x3_1)) = false := decide_eq_false c10
                clear c10
                have H' := Aside0.mk H
                clear H
                have p6 : 0 ≤ (x3_1 : Int) := of_decide_eq_true as_
                have q6 : x3_1 < (a0.size : Int) := of_decide_eq_true as_
                have hx6 := bt_at a0 x3_1
                replace p6 := eq_true p6
                replace q6 := eq_true q6
                go_wp2
                go_roundg k1
                case measure => have := HK1.out; omega
                case rel => exact ⟨(wrap64 (x3_1 + 1)), (rs_), H', ⟨by have := HK1.out; omega⟩, by repeat (first | exact Drawn0.refl _ | apply Drawn0.step)⟩
          · rw [if_neg c5] at H
            exact absurd H (by simp)
        · rw [if_neg c4] at H
          have c4b0 : decide (x3_1 < (a0.size : Int)) = false := decide_eq_false c4
          clear c4
          obtain rfl := Option.some.inj H
          go_wp2
          go_ret
          exact ⟨rs_, by repeat (first | exact Drawn0.refl _ | apply Drawn0.step)⟩
  · replace c3 := Bool.eq_false_iff.mpr c3
    subst c3
    have H1 : (some false) = some r := by rw [if_neg (show ¬ (false = true) by decide)] at H; exact H
    clear H
    have H := H1
    clear H1
    obtain rfl := Option.some.inj H
    go_enter Tryz.func99, Tryz.ntmps99
    go_wp2_with (first | ((with_reducible refine gate_callee (f := 68) rfl ?_); refine goesL_ (some 7) rfl rfl Tryz.func68 (by kernel_rfl) rfl #[.int .i64 (a0.size : Int), .int .i64 1, .int .i64 12] rfl (me_) ?_; (with_reducible refine (spec_l01In.calls (a0.size : Int) 1 12 _ _ A2.out).mono ?_); rintro e w' ⟨rfl, ⟨nd, rfl⟩⟩; refine ⟨_, rfl, ?_⟩))
    go_ret
    exact ⟨rs_, by repeat (first | exact Drawn0.refl _ | apply Drawn0.step)⟩
def spec_GoalOk.f (k : Nat) (a0_0 : ByteArray) (a0_1 a0_2 : Int) : Option (Bool) := (spec_NameOk.f k a0_0).bind fun t153 => (if t153 = true then ((spec_l01In.f a0_1 1 1000000).bind fun t154 => (if t154 = true then ((spec_l01In.f a0_2 0 1000).bind fun t155 => (some t155)) else (some false))) else (some false))
theorem spec_GoalOk.t1_ {p : Prop} (h : p := by
    go_enter Tryz.func69, Tryz.ntmps69
    go_wp2_with (first | ((with_reducible refine gate_dst (N := 1) rfl ?_); refine box_event ?hg (N := 1) ?hd (cs := #[.string a0_0, .int .i64 a0_1, .int .i64 a0_2]) (t := 90) ?hr ?_; (case hd => rfl); (case hg => rfl); (case hr => first | (go_simp; done) | (go_simp; rfl)); intro gbq0 hg wq1 hbox hb; have nq2 := Aside0.mk (below_step (hb0_) hb); have BKq3 := Aside0.mk (hbox); have GWq4 := Aside0.mk (bs_ hg (hb0_)); have GEq5 := GWq4; clear HB; have HB := nq2; clear nq2; clear hb hbox hg; obtain ⟨⟨czq6, fzq7⟩, ⟨czq8, fzq9⟩, ⟨czq10, fzq11⟩⟩ := bc3_ BKq3) | ((with_reducible refine gate_callee (f := 99) rfl ?_); refine goesL_ (some 5) rfl rfl Tryz.func99 (by kernel_rfl) rfl #[.string a0_0] rfl (me_) ?_; (with_reducible refine (spec_NameOk.calls k a0_0 _ _ A2.out).mono ?_); rintro e w' ⟨rfl, ⟨nd, rfl⟩⟩; refine ⟨_, rfl, ?_⟩) | (go_at_call 68; (with_reducible refine (spec_l01In.calls a0_1 1 1000000 _ _ A4.out).mono ?_); rintro e w' ⟨rfl, ⟨nd, rfl⟩⟩) | (go_at_call 68; (with_reducible refine (spec_l01In.calls a0_2 0 1000 _ _ A6.out).mono ?_); rintro e w' ⟨rfl, ⟨nd, rfl⟩⟩))
    go_ret
    exact ⟨re_, hb1_ GEq5⟩) : p := h
set_option maxHeartbeats 8000000 in
set_option maxRecDepth 100000 in
theorem spec_GoalOk.calls (k : Nat) (a0_0 : ByteArray) (a0_1 a0_2 : Int) (r : Bool) (w : World) (h : spec_GoalOk.f k a0_0 a0_1 a0_2 = some r) :
    Calls Tryz.prog 69 #[.agg #[.string a0_0, .int .i64 a0_1, .int .i64 a0_2]] w fun e w' => e = .returned (.bool r) ∧ Below w.heap.size w w' := by
  have hu90 := Tryz.underlying90
  have HB := Aside0.mk (Below.refl w.heap.size w)
  have H : ((spec_NameOk.f k a0_0).bind fun t153 => (if t153 = true then ((spec_l01In.f a0_1 1 1000000).bind fun t154 => (if t154 = true then ((spec_l01In.f a0_2 0 1000).bind fun t155 => (some t155)) else (some false))) else (some false))) = some r := h
  clear h
  replace H := Option.bind_eq_some_iff.mp H
  obtain ⟨t153, A20, H⟩ := H
  replace H : (if t153 = true then ((spec_l01In.f a0_1 1 1000000).bind fun t154 => (if t154 = true then ((spec_l01In.f a0_2 0 1000).bind fun t155 => (some t155)) else (some false))) else (some false)) = some r := H
  have A2 := Aside0.mk A20
  clear A20
  by_cases c3 : t153 = true
  · subst c3
    have H1 : ((spec_l01In.f a0_1 1 1000000).bind fun t154 => (if t154 = true then ((spec_l01In.f a0_2 0 1000).bind fun t155 => (some t155)) else (some false))) = some r := by rw [if_pos rfl] at H; exact H
    clear H
    have H := H1
    clear H1
    replace H := Option.bind_eq_some_iff.mp H
    obtain ⟨t154, A40, H⟩ := H
    replace H : (if t154 = true then ((spec_l01In.f a0_2 0 1000).bind fun t155 => (some t155)) else (some false)) = some r := H
    have A4 := Aside0.mk A40
    clear A40
    by_cases c5 : t154 = true
    · subst c5
      have H1 : ((spec_l01In.f a0_2 0 1000).bind fun t155 => (some t155)) = some r := by rw [if_pos rfl] at H; exact H
      clear H
      have H := H1
      clear H1
      replace H := Option.bind_eq_some_iff.mp H
      obtain ⟨t155, A60, H⟩ := H
      replace H : (some t155) = some r := H
      have A6 := Aside0.mk A60
      clear A60
      obtain rfl := Option.some.inj H
      exact spec_GoalOk.t1_
    · replace c5 := Bool.eq_false_iff.mpr c5
      subst c5
      have H1 : (some false) = some r := by rw [if_neg (show ¬ (false = true) by decide)] at H; exact H
      clear H
      have H := H1
      clear H1
      obtain rfl := Option.some.inj H
      exact spec_GoalOk.t1_
  · replace c3 := Bool.eq_false_iff.mpr c3
    subst c3
    have H1 : (some false) = some r := by rw [if_neg (show ¬ (false = true) by decide)] at H; exact H
    clear H
    have H := H1
    clear H1
    obtain rfl := Option.some.inj H
    exact spec_GoalOk.t1_
end Go.Proofs.YtcjeblikejoogaaGreatDoor.PFnExactOpLine
