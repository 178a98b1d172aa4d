/-
  Pure statement of FnExactSmoothOf: the reference's and the program's SmoothOf, as printed, answer the same for every list and every part; nothing is shared.
  No condition.
-/
import Derived.Test.YtfcoaecfcoijlaaPFnExactSmoothOfx3
import Derived.Test.YtfcoaecfcoijlaaAid
namespace Go.Proofs.Ytfcoaecfcoijlaa.Pure
open Go.RowKit Go.Proofs.Ytfcoaecfcoijlaa.PFnExactSmoothOf Go.Proofs.YtfcoaecfcoijlaaW.PrintWords Go.Proofs.YtfcoaecfcoijlaaW.PrintLast Go.Proofs.YtfcoaecfcoijlaaW.PrintMore Go.Proofs.Ytfcoaecfcoijlaa.Aid
namespace SmoothOf
theorem toIntS_l0 (l : List Int) (hl : l.length ≤ 1048576) : ∀ (d n : Nat), n + d = l.length →
    Ev (fun k => laws_toIntS.l0 k l (l.take n ++ List.replicate (l.length - n) 0) (n : Int)) l
  | 0, n, h => by
    refine Ev.step (f := fun _ => some l) (fun k => ?_) (Ev.now _)
    obtain rfl : n = l.length := by omega
    simp only [laws_toIntS.l0]
    rw [if_neg (by omega)]
    simp
  | d + 1, n, h => by
    refine Ev.step (fun k => ?_) (toIntS_l0 l hl d (n + 1) (by omega))
    simp only [laws_toIntS.l0]
    rw [if_pos (by omega), if_pos (by omega), if_pos (by simp; omega), w_succ n (by omega), Int.toNat_natCast, rd_nat, set_step l 0 0 n (by omega)]

theorem toIntS_ev (l : List Int) (hl : l.length ≤ 1048576) : Ev (fun k => laws_toIntS.f k l) l := by
  refine Ev.congr (fun k => ?_) (toIntS_l0 l hl l.length 0 (by omega))
  simp only [laws_toIntS.f]
  rw [if_pos (by omega), if_pos (by omega)]
  simp

theorem eqIntS_l0 (l : List Int) (hl : l.length ≤ 1048576) : ∀ (d n : Nat), n + d = l.length →
    Ev (fun k => laws_eqIntS.l0 k l l (n : Int)) true
  | 0, n, h => by
    refine Ev.step (f := fun _ => some true) (fun k => ?_) (Ev.now _)
    simp only [laws_eqIntS.l0]
    rw [if_neg (by omega)]
  | d + 1, n, h => by
    refine Ev.step (fun k => ?_) (eqIntS_l0 l hl d (n + 1) (by omega))
    simp only [laws_eqIntS.l0]
    rw [if_pos (by omega), if_pos (by omega), if_pos (by omega), if_pos trivial, w_succ n (by omega)]

theorem eqIntS_ev (l : List Int) (hl : l.length ≤ 1048576) : Ev (fun k => laws_eqIntS.f k l l) true := by
  refine Ev.congr (fun k => ?_) (eqIntS_l0 l hl l.length 0 (by omega))
  simp only [laws_eqIntS.f]
  rw [if_pos trivial]
  rfl
/-- What markIntS leaves: 1, 2, 3, .. -/
def marked (n : Nat) : List Int := (List.range n).map fun i => ((i + 1 : Nat) : Int)
theorem marked_length (n : Nat) : (marked n).length = n := by simp [marked]
theorem marked_getD (n i : Nat) (h : i < n) : (marked n).getD i 0 = ((i + 1 : Nat) : Int) := by simp [marked, List.getD, h]

theorem marked_step (xs : List Int) (n : Nat) (h : n < xs.length) : (marked n ++ xs.drop n).set n ((n + 1 : Nat) : Int) = marked (n + 1) ++ xs.drop (n + 1) := by
  rw [List.drop_eq_getElem_cons h, List.set_append_right _ _ (by rw [marked_length]; omega), marked_length]
  have e : n - n = 0 := by omega
  rw [e, List.set_cons_zero]
  simp [marked, List.range_succ]

theorem markIntS_l0 (xs : List Int) (hl : xs.length ≤ 1048576) : ∀ (d n : Nat), n + d = xs.length →
    Ev (fun k => laws_markIntS.l0 k (marked n ++ xs.drop n) ((n + 1 : Nat) : Int) (n : Int)) (((xs.length + 1 : Nat) : Int), marked xs.length)
  | 0, n, h => by
    refine Ev.step (f := fun _ => some (((xs.length + 1 : Nat) : Int), marked xs.length)) (fun k => ?_) (Ev.now _)
    obtain rfl : n = xs.length := by omega
    simp only [laws_markIntS.l0]
    rw [if_neg (by simp [marked_length])]
    simp
  | d + 1, n, h => by
    refine Ev.step (fun k => ?_) (markIntS_l0 xs hl d (n + 1) (by omega))
    simp only [laws_markIntS.l0]
    rw [if_pos (by simp [marked_length]; omega), if_pos (by omega), Int.toNat_natCast, marked_step xs n (by omega), w_succ n (by omega), w_succ (n + 1) (by omega)]

theorem markIntS_ev (xs : List Int) (hl : xs.length ≤ 1048576) : Ev (fun k => laws_markIntS.f k xs 1) (((xs.length + 1 : Nat) : Int), marked xs.length) := by
  refine Ev.congr (fun k => ?_) (markIntS_l0 xs hl xs.length 0 (by omega))
  simp only [laws_markIntS.f]
  rfl

theorem heldIntS_l0 (m : Nat) (hl : m ≤ 1048576) : ∀ (d n : Nat), n + d = m →
    Ev (fun k => laws_heldIntS.l0 k (marked m) ((n + 1 : Nat) : Int) (n : Int)) ((m + 1 : Nat) : Int)
  | 0, n, h => by
    refine Ev.step (f := fun _ => some ((m + 1 : Nat) : Int)) (fun k => ?_) (Ev.now _)
    obtain rfl : n = m := by omega
    simp only [laws_heldIntS.l0]
    rw [if_neg (by rw [marked_length]; omega)]
  | d + 1, n, h => by
    refine Ev.step (fun k => ?_) (heldIntS_l0 m hl d (n + 1) (by omega))
    simp only [laws_heldIntS.l0]
    rw [if_pos (by rw [marked_length]; omega), if_pos (by omega), if_pos (by rw [rd_nat, marked_getD m n (by omega)]), w_succ n (by omega), w_succ (n + 1) (by omega)]

theorem heldIntS_ev (m : Nat) (hl : m ≤ 1048576) : Ev (fun k => laws_heldIntS.f k (marked m) 1) ((m + 1 : Nat) : Int) := by
  refine Ev.congr (fun k => ?_) (heldIntS_l0 m hl m 0 (by omega))
  simp only [laws_heldIntS.f]
  rfl

/-- Is each element in 0..1000000000? -/
def sized (l : List Int) : Bool := l.all fun x => decide (0 ≤ x) && decide (x ≤ 1000000000)

theorem in1 (a b c : Int) : spec_l01In.f a b c = some (decide (b ≤ a) && decide (a ≤ c)) := by
  unfold spec_l01In.f
  by_cases h : b ≤ a <;> simp [h]
theorem in2 (a b c : Int) : impl_in.f a b c = some (decide (b ≤ a) && decide (a ≤ c)) := by
  unfold impl_in.f
  by_cases h : a ≥ b <;> simp [h]
theorem amt (a : Int) : spec_l01Amt.f a = some (decide (0 ≤ a) && decide (a ≤ 1000000000)) := by
  unfold spec_l01Amt.f
  rw [in1]
  rfl
theorem isSize (a : Int) : impl_isSize.f a = some (decide (0 ≤ a) && decide (a ≤ 1000000000)) := by
  unfold impl_isSize.f
  rw [in2]
  rfl

theorem sizes_l0 (l : List Int) (hl : l.length ≤ 1048576) : ∀ (d n : Nat), n + d = l.length → Ev (fun k => spec_l11Sizes.l0 k l (n : Int)) (sized (l.drop n))
  | 0, n, h => by
    refine Ev.step (f := fun _ => some (sized (l.drop n))) (fun k => ?_) (Ev.now _)
    simp only [spec_l11Sizes.l0]
    rw [if_neg (by omega), drop_end l n (by omega)]
    rfl
  | d + 1, n, h => by
    have ih := sizes_l0 l hl d (n + 1) (by omega)
    have e : sized (l.drop n) = ((decide (0 ≤ rd l (n : Int)) && decide (rd l (n : Int) ≤ 1000000000)) && sized (l.drop (n + 1))) := by
      rw [drop_cons l 0 n (by omega)]
      rfl
    rw [e]
    cases hb : (decide (0 ≤ rd l (n : Int)) && decide (rd l (n : Int) ≤ 1000000000)) with
    | true =>
      rw [Bool.true_and]
      refine Ev.step (fun k => ?_) ih
      simp only [spec_l11Sizes.l0]
      rw [if_pos (by omega), if_pos (by omega), amt, hb]
      simp only [Option.bind_some]
      rw [if_pos trivial, w_succ n (by omega)]
    | false =>
      rw [Bool.false_and]
      refine Ev.step (f := fun _ => some false) (fun k => ?_) (Ev.now _)
      simp only [spec_l11Sizes.l0]
      rw [if_pos (by omega), if_pos (by omega), amt, hb]
      rfl

theorem sizes_ev (l : List Int) (hl : l.length ≤ 1048576) : Ev (fun k => spec_l11Sizes.f k l) (sized l) := sizes_l0 l hl l.length 0 (by omega)

theorem sized_at (l : List Int) (h : sized l = true) (n : Nat) (hn : n < l.length) : 0 ≤ rd l (n : Int) ∧ rd l (n : Int) ≤ 1000000000 := by
  have := List.all_eq_true.1 h _ (getD_mem l 0 n hn)
  simp only [Bool.and_eq_true, decide_eq_true_eq] at this
  exact this

/-- The quotient of what isn't negative, rounded down, is Go's. -/
theorem floor (x : Int) (h0 : 0 ≤ x) : impl_FloorDiv.f x 1000 = some (wrap64 (Int.tdiv x 1000)) := by
  have h := Int.tmod_nonneg 1000 h0
  unfold impl_FloorDiv.f
  rw [if_neg (by omega), if_neg (by omega), if_neg (by omega)]
theorem floor_any (x : Int) : ∃ y, impl_FloorDiv.f x 1000 = some y := by
  unfold impl_FloorDiv.f
  rw [if_neg (by omega), if_neg (by omega)]
  split <;> exact ⟨_, rfl⟩

/-- An element that is no size: the program answers nothing. -/
theorem bad (l : List Int) (part : Int) (hl : l.length ≤ 1048576) : ∀ (d n : Nat) (out : List Int), n + d = l.length → out.length = n → sized (l.drop n) = false →
    Ev (fun k => impl_SmoothOf.l0 k part out l (l.length : Int) (n : Int)) ([], false)
  | 0, n, out, h, _, hs => by
    rw [drop_end l n (by omega)] at hs
    exact absurd hs (by simp [sized])
  | d + 1, n, out, h, ho, hs => by
    have e : sized (l.drop n) = ((decide (0 ≤ rd l (n : Int)) && decide (rd l (n : Int) ≤ 1000000000)) && sized (l.drop (n + 1))) := by
      rw [drop_cons l 0 n (by omega)]
      rfl
    rw [e] at hs
    cases hb : (decide (0 ≤ rd l (n : Int)) && decide (rd l (n : Int) ≤ 1000000000)) with
    | false =>
      refine Ev.step (f := fun _ => some ([], false)) (fun k => ?_) (Ev.now _)
      simp only [impl_SmoothOf.l0]
      rw [if_pos (by omega), if_pos (by omega), if_pos (by omega), isSize, hb]
      rfl
    | true =>
      rw [hb, Bool.true_and] at hs
      by_cases h0 : n = 0
      · subst h0
        refine Ev.step (fun k => ?_) (bad l part hl d 1 (out ++ [rd l ((0 : Nat) : Int)]) (by omega) (by simp [ho]) hs)
        simp only [impl_SmoothOf.l0]
        rw [if_pos (by omega), if_pos (by omega), if_pos (by omega), isSize, hb]
        simp only [Option.bind_some]
        rw [if_pos trivial, if_neg (by omega), if_pos (by omega), w_succ 0 (by omega)]
      · obtain ⟨m, rfl⟩ : ∃ m, n = m + 1 := ⟨n - 1, by omega⟩
        obtain ⟨y, hy⟩ := floor_any (wrap64 (wrap64 (rd out (m : Int) * wrap64 (1000 - part)) + wrap64 (rd l ((m + 1 : Nat) : Int) * part)))
        refine Ev.step (fun k => ?_) (bad l part hl d (m + 1 + 1) (out ++ [y]) (by omega) (by simp [ho]) hs)
        simp only [impl_SmoothOf.l0]
        rw [if_pos (by omega), if_pos (by omega), if_pos (by omega), isSize, hb]
        simp only [Option.bind_some]
        rw [if_pos trivial, if_pos (by omega), w_pred m (by omega), if_pos (by omega), if_pos (by omega), hy]
        simp only [Option.bind_some]
        rw [if_pos (by omega), w_succ (m + 1) (by omega)]

/-- What is weighed lies within the sizes. -/
theorem between (a b p : Int) (ha : 0 ≤ a ∧ a ≤ 1000000000) (hb : 0 ≤ b ∧ b ≤ 1000000000) (hp : 0 ≤ p ∧ p ≤ 1000) : 0 ≤ a * (1000 - p) + b * p ∧ a * (1000 - p) + b * p ≤ 1000000000000 ∧ 0 ≤ a * (1000 - p) ∧ 0 ≤ b * p := by
  have h1 : 0 ≤ a * (1000 - p) := Int.mul_nonneg ha.1 (by omega)
  have h2 : 0 ≤ b * p := Int.mul_nonneg hb.1 hp.1
  have h3 : a * (1000 - p) ≤ 1000000000 * (1000 - p) := Int.mul_le_mul_of_nonneg_right ha.2 (by omega)
  have h4 : b * p ≤ 1000000000 * p := Int.mul_le_mul_of_nonneg_right hb.2 hp.1
  omega

theorem good (l : List Int) (part : Int) (hl : l.length ≤ 1048576) (hp : 0 ≤ part ∧ part ≤ 1000) (hs : sized l = true) : ∀ (d n : Nat) (out : List Int), n + 1 + d = l.length → out.length = n + 1 → sized out = true →
    ∃ ys : List Int, ys.length = l.length ∧ Ev (fun k => spec_SmoothOf.l0 k l part out ((n + 1 : Nat) : Int)) (ys, true) ∧ Ev (fun k => impl_SmoothOf.l0 k part out l (l.length : Int) ((n + 1 : Nat) : Int)) (ys, true)
  | 0, n, out, h, ho, _ => by
    refine ⟨out, by omega, Ev.step (f := fun _ => some (out, true)) (fun k => ?_) (Ev.now _), Ev.step (f := fun _ => some (out, true)) (fun k => ?_) (Ev.now _)⟩
    · simp only [spec_SmoothOf.l0]
      rw [if_neg (by omega)]
    · simp only [impl_SmoothOf.l0]
      rw [if_neg (by omega)]
  | d + 1, n, out, h, ho, hso => by
    have a1 := sized_at out hso n (by omega)
    have b1 := sized_at l hs (n + 1) (by omega)
    obtain ⟨c1, c2, c3, c4⟩ := between _ _ _ a1 b1 hp
    have e0 : wrap64 (1000 - part) = 1000 - part := w_id (by omega) (by omega)
    have e1 : wrap64 (rd out (n : Int) * (1000 - part)) = rd out (n : Int) * (1000 - part) := w_id (by omega) (by omega)
    have e2 : wrap64 (rd l ((n + 1 : Nat) : Int) * part) = rd l ((n + 1 : Nat) : Int) * part := w_id (by omega) (by omega)
    have e3 : wrap64 (rd out (n : Int) * (1000 - part) + rd l ((n + 1 : Nat) : Int) * part) = rd out (n : Int) * (1000 - part) + rd l ((n + 1 : Nat) : Int) * part := w_id (by omega) (by omega)
    have q : Int.tdiv (rd out (n : Int) * (1000 - part) + rd l ((n + 1 : Nat) : Int) * part) 1000 = (rd out (n : Int) * (1000 - part) + rd l ((n + 1 : Nat) : Int) * part) / 1000 := Int.tdiv_eq_ediv_of_nonneg c1
    have e4 : wrap64 ((rd out (n : Int) * (1000 - part) + rd l ((n + 1 : Nat) : Int) * part) / 1000) = (rd out (n : Int) * (1000 - part) + rd l ((n + 1 : Nat) : Int) * part) / 1000 := w_id (by omega) (by omega)
    have f1 := floor _ c1
    rw [q, e4] at f1
    have hso' : sized (out ++ [(rd out (n : Int) * (1000 - part) + rd l ((n + 1 : Nat) : Int) * part) / 1000]) = true := by
      unfold sized at hso ⊢
      simp only [List.all_append, hso, List.all_cons, List.all_nil, Bool.true_and, Bool.and_true, Bool.and_eq_true, decide_eq_true_eq]
      omega
    obtain ⟨ys, hy, h1, h2⟩ := good l part hl hp hs d (n + 1) (out ++ [(rd out (n : Int) * (1000 - part) + rd l ((n + 1 : Nat) : Int) * part) / 1000]) (by omega) (by simp [ho]) hso'
    have hz := isSize (rd l ((n + 1 : Nat) : Int))
    rw [decide_eq_true b1.1, decide_eq_true b1.2] at hz
    refine ⟨ys, hy, Ev.step (fun k => ?_) h1, Ev.step (fun k => ?_) h2⟩
    · simp only [spec_SmoothOf.l0]
      rw [if_pos (by omega), w_pred n (by omega), if_pos (by omega), if_pos (by omega), if_pos (by omega), if_pos (by omega), e0, e1, e2, e3, q, e4, w_succ (n + 1) (by omega)]
    · simp only [impl_SmoothOf.l0]
      rw [if_pos (by omega), if_pos (by omega), if_pos (by omega), hz]
      simp only [Option.bind_some]
      rw [if_pos (by rfl), if_pos (by omega), w_pred n (by omega), if_pos (by omega), if_pos (by omega), e0, e1, e2, e3, f1]
      simp only [Option.bind_some]
      rw [if_pos (by omega), w_succ (n + 1) (by omega)]

theorem spec_no (l : List Int) (part : Int) (b : Bool) (hb : b = true) : Ev (fun k => spec_SmoothOf.j0 k l part b) ([], false) := by
  subst hb
  exact Ev.step (fun k => (spec_SmoothOf.j0.eq_2 ..).trans (if_pos rfl)) (Ev.now _)

theorem same (l : List Int) (part : Int) (hl : l.length ≤ 1048576) : ∃ ys b, ys.length ≤ 1048576 ∧ Ev (fun k => spec_SmoothOf.f k l part) (ys, b) ∧ Ev (fun k => impl_SmoothOf.f k l part) (ys, b) := by
  by_cases h1 : 1 ≤ l.length ∧ l.length ≤ 300
  rotate_left
  · have e1 : spec_l01In.f (l.length : Int) 1 300 = some false := by
      rw [in1]
      simp
      omega
    have e2 : impl_in.f (l.length : Int) 1 300 = some false := by
      rw [in2]
      simp
      omega
    refine ⟨[], false, by simp, Ev.congr (fun k => ?_) (spec_no l part true rfl), Ev.congr (f := fun k => impl_SmoothOf.j0 k l part true) (fun k => ?_) (Ev.step (fun k => (impl_SmoothOf.j0.eq_2 ..).trans (if_pos rfl)) (Ev.now _))⟩
    · unfold spec_SmoothOf.f
      rw [e1]
      rfl
    · unfold impl_SmoothOf.f
      rw [e2]
      rfl
  have e1 : spec_l01In.f (l.length : Int) 1 300 = some true := by
    rw [in1]
    simp
    omega
  have e2 : impl_in.f (l.length : Int) 1 300 = some true := by
    rw [in2]
    simp
    omega
  by_cases h2 : 0 ≤ part ∧ part ≤ 1000
  rotate_left
  · have e3 : spec_l01In.f part 0 1000 = some false := by
      rw [in1]
      simp
      omega
    have e4 : impl_in.f part 0 1000 = some false := by
      rw [in2]
      simp
      omega
    refine ⟨[], false, by simp, Ev.congr (f := fun k => (spec_l11Sizes.f k l).bind fun t => if t = true then (some false).bind fun t115 => spec_SmoothOf.j0 k l part (!t115) else spec_SmoothOf.j0 k l part true) (fun k => ?_) ?_, Ev.congr (f := fun k => impl_SmoothOf.j0 k l part true) (fun k => ?_) (Ev.step (fun k => (impl_SmoothOf.j0.eq_2 ..).trans (if_pos rfl)) (Ev.now _))⟩
    · unfold spec_SmoothOf.f
      rw [e1, e3]
      rfl
    · refine Ev.bind (sizes_ev l hl) ?_
      cases sized l with
      | true => exact Ev.congr (fun k => if_pos rfl) (spec_no l part _ rfl)
      | false => exact Ev.congr (fun k => if_neg (by simp)) (spec_no l part _ rfl)
    · unfold impl_SmoothOf.f
      rw [e2, e4]
      rfl
  have e3 : spec_l01In.f part 0 1000 = some true := by
    rw [in1]
    simp
    omega
  have e4 : impl_in.f part 0 1000 = some true := by
    rw [in2]
    simp
    omega
  have gS : ∀ {r}, Ev (fun k => if sized l = true then spec_SmoothOf.j0 k l part false else spec_SmoothOf.j0 k l part true) r → Ev (fun k => spec_SmoothOf.f k l part) r := by
    intro r h
    refine Ev.congr (f := fun k => (spec_l11Sizes.f k l).bind fun t => if t = true then spec_SmoothOf.j0 k l part false else spec_SmoothOf.j0 k l part true) (fun k => ?_) (Ev.bind (sizes_ev l hl) h)
    unfold spec_SmoothOf.f
    rw [e1, e3]
    rfl
  have gI : ∀ {r}, Ev (fun k => impl_SmoothOf.l0 k part [] l (l.length : Int) 0) r → Ev (fun k => impl_SmoothOf.f k l part) r := by
    intro r h
    refine Ev.congr (f := fun k => impl_SmoothOf.j0 k l part false) (fun k => ?_) (Ev.step (fun k => (impl_SmoothOf.j0.eq_2 ..).trans (if_neg (by simp))) h)
    unfold impl_SmoothOf.f
    rw [e2, e4]
    rfl
  cases hs : sized l with
  | false =>
    refine ⟨[], false, by simp, gS ?_, gI (bad l part hl l.length 0 [] (by omega) rfl hs)⟩
    exact Ev.congr (fun k => if_neg (by simp [hs])) (spec_no l part true rfl)
  | true =>
    have a := sized_at l hs 0 (by omega)
    obtain ⟨ys, hy, p, q⟩ := good l part hl h2 hs (l.length - 1) 0 [rd l 0] (by omega) rfl (by simp [sized]; exact a)
    refine ⟨ys, true, by omega, gS ?_, gI ?_⟩
    · refine Ev.congr (fun k => if_pos hs) (Ev.step (f := fun k => spec_SmoothOf.l0 k l part [rd l 0] 1) (fun k => ?_) p)
      simp only [spec_SmoothOf.j0]
      rw [if_neg (by simp), if_pos (by omega)]
    · refine Ev.step (fun k => ?_) q
      have hz : impl_isSize.f (rd l 0) = some true := by
        rw [isSize]
        have a' : 0 ≤ rd l 0 ∧ rd l 0 ≤ 1000000000 := a
        rw [decide_eq_true a'.1, decide_eq_true a'.2]
        rfl
      simp only [impl_SmoothOf.l0]
      rw [if_pos (by omega), if_pos (by omega), if_pos (by omega), hz]
      simp only [Option.bind_some]
      rw [if_pos trivial, if_neg (by omega), if_pos (by simp), w_one]
      rfl

theorem law (l : List Int) (a1 : Int) (hl : l.length ≤ 1048576) (ys : List Int) (b : Bool) (hy : ys.length ≤ 1048576) (hs : Ev (fun k => spec_SmoothOf.f k l a1) (ys, b)) (hi : Ev (fun k => impl_SmoothOf.f k l a1) (ys, b)) :
    Ev (fun k => laws_FnExactSmoothOf.f k l a1) true := by
  have T := toIntS_ev l hl
  have E := eqIntS_ev l hl
  have Y := eqIntS_ev ys hy
  have M := markIntS_ev l hl
  have M' := markIntS_ev ys hy
  have H := heldIntS_ev ys.length hy
  refine Ev.congr (fun k => if_neg (by omega)) ?_
  refine Ev.bind T (Ev.bind hs (Ev.bind T (Ev.bind hi (Ev.bind Y ?_))))
  refine Ev.congr (fun k => if_pos rfl) ?_
  refine Ev.step (fun k => (laws_FnExactSmoothOf.j0.eq_2 ..).trans (if_neg (by simp))) ?_
  refine Ev.bind T (Ev.bind E ?_)
  refine Ev.congr (fun k => if_pos rfl) ?_
  refine Ev.bind M ?_
  refine Ev.congr (fun k => if_neg (by simp; omega)) ?_
  refine Ev.bind Y ?_
  refine Ev.congr (fun k => if_pos rfl) ?_
  refine Ev.step (fun k => (laws_FnExactSmoothOf.j1.eq_2 ..).trans (if_neg (by simp))) ?_
  refine Ev.bind M' (Ev.bind H ?_)
  refine Ev.congr (fun k => if_neg (by omega)) ?_
  refine Ev.congr (fun k => if_pos rfl) ?_
  refine Ev.bind T (Ev.bind hi (Ev.bind Y ?_))
  refine Ev.congr (fun k => if_pos rfl) ?_
  refine Ev.step (fun k => (laws_FnExactSmoothOf.j2.eq_2 ..).trans (if_neg (by simp))) ?_
  refine Ev.bind H ?_
  refine Ev.congr (fun k => if_neg (by omega)) ?_
  refine Ev.congr (fun k => if_pos rfl) ?_
  exact Ev.now true
end SmoothOf

theorem FnExactSmoothOf (l : List Int) (a1 : Int) (_ : l.length ≤ maxLen ∧ ∀ x ∈ l, (Lit.int .i64 x).wf = true) (_ : (Lit.int .i64 a1).wf = true) : ∃ k, laws_FnExactSmoothOf.f k l a1 = some true := by
  refine Ev.rounds ?_
  by_cases hl : (l.length : Int) > 1048576
  · exact Ev.congr (fun k => if_pos hl) (Ev.now true)
  obtain ⟨ys, b, hy, hs, hi⟩ := SmoothOf.same l a1 (by omega)
  exact SmoothOf.law l a1 (by omega) ys b hy hs hi

end Go.Proofs.Ytfcoaecfcoijlaa.Pure
