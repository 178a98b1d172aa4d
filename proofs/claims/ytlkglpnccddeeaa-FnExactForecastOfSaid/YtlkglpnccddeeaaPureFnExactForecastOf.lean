/-
  Pure statement of FnExactForecastOf: the reference's and the program's ForecastOf, as printed, answer the same for every list and every distance.
  No condition.
-/
import Derived.Test.YtlkglpnccddeeaaPFnExactForecastOfx2
import Derived.Test.YtlkglpnccddeeaaAid
namespace Go.Proofs.Ytlkglpnccddeeaa.Pure
open Go.RowKit Go.Proofs.Ytlkglpnccddeeaa.PFnExactForecastOf Go.Proofs.YtlkglpnccddeeaaW.PrintWords Go.Proofs.YtlkglpnccddeeaaW.PrintLast Go.Proofs.YtlkglpnccddeeaaW.PrintMore Go.Proofs.Ytlkglpnccddeeaa.Aid
namespace ForecastOf
theorem toIntS_l0 (l : List Int) (hl : l.length ≤ 1048576) : ∀ (d n : Nat), n + d = l.length →
    Ev (fun k => laws_toIntS.l0 k l (l.take n ++ List.replicate (l.length - n) 0) (n : Int)) l
  | 0, n, h => by
    refine Ev.step (f := fun _ => some l) (fun k => ?_) (Ev.now _)
    obtain rfl : n = l.length := by omega
    simp only [laws_toIntS.l0]
    rw [if_neg (by omega)]
    simp
  | d + 1, n, h => by
    refine Ev.step (fun k => ?_) (toIntS_l0 l hl d (n + 1) (by omega))
    simp only [laws_toIntS.l0]
    rw [if_pos (by omega), if_pos (by omega), if_pos (by simp; omega), w_succ n (by omega), Int.toNat_natCast, rd_nat, set_step l 0 0 n (by omega)]

theorem toIntS_ev (l : List Int) (hl : l.length ≤ 1048576) : Ev (fun k => laws_toIntS.f k l) l := by
  refine Ev.congr (fun k => ?_) (toIntS_l0 l hl l.length 0 (by omega))
  simp only [laws_toIntS.f]
  rw [if_pos (by omega), if_pos (by omega)]
  simp

theorem eqIntS_l0 (l : List Int) (hl : l.length ≤ 1048576) : ∀ (d n : Nat), n + d = l.length →
    Ev (fun k => laws_eqIntS.l0 k l l (n : Int)) true
  | 0, n, h => by
    refine Ev.step (f := fun _ => some true) (fun k => ?_) (Ev.now _)
    simp only [laws_eqIntS.l0]
    rw [if_neg (by omega)]
  | d + 1, n, h => by
    refine Ev.step (fun k => ?_) (eqIntS_l0 l hl d (n + 1) (by omega))
    simp only [laws_eqIntS.l0]
    rw [if_pos (by omega), if_pos (by omega), if_pos (by omega), if_pos trivial, w_succ n (by omega)]

theorem eqIntS_ev (l : List Int) (hl : l.length ≤ 1048576) : Ev (fun k => laws_eqIntS.f k l l) true := by
  refine Ev.congr (fun k => ?_) (eqIntS_l0 l hl l.length 0 (by omega))
  simp only [laws_eqIntS.f]
  rw [if_pos trivial]
  rfl

/-- Is each element in 0..1000000000? -/
def sized (l : List Int) : Bool := l.all fun x => decide (0 ≤ x) && decide (x ≤ 1000000000)

theorem in1 (a b c : Int) : spec_l01In.f a b c = some (decide (b ≤ a) && decide (a ≤ c)) := by
  unfold spec_l01In.f
  by_cases h : b ≤ a <;> simp [h]
theorem in2 (a b c : Int) : impl_in.f a b c = some (decide (b ≤ a) && decide (a ≤ c)) := by
  unfold impl_in.f
  by_cases h : a ≥ b <;> simp [h]
theorem amt (a : Int) : spec_l01Amt.f a = some (decide (0 ≤ a) && decide (a ≤ 1000000000)) := by
  unfold spec_l01Amt.f
  rw [in1]
  rfl
theorem isSize (a : Int) : impl_isSize.f a = some (decide (0 ≤ a) && decide (a ≤ 1000000000)) := by
  unfold impl_isSize.f
  rw [in2]
  rfl

theorem sizes_l0 (l : List Int) (hl : l.length ≤ 1048576) : ∀ (d n : Nat), n + d = l.length → Ev (fun k => spec_l11Sizes.l0 k l (n : Int)) (sized (l.drop n))
  | 0, n, h => by
    refine Ev.step (f := fun _ => some (sized (l.drop n))) (fun k => ?_) (Ev.now _)
    simp only [spec_l11Sizes.l0]
    rw [if_neg (by omega), drop_end l n (by omega)]
    rfl
  | d + 1, n, h => by
    have ih := sizes_l0 l hl d (n + 1) (by omega)
    have e : sized (l.drop n) = ((decide (0 ≤ rd l (n : Int)) && decide (rd l (n : Int) ≤ 1000000000)) && sized (l.drop (n + 1))) := by
      rw [drop_cons l 0 n (by omega)]
      rfl
    rw [e]
    cases hb : (decide (0 ≤ rd l (n : Int)) && decide (rd l (n : Int) ≤ 1000000000)) with
    | true =>
      rw [Bool.true_and]
      refine Ev.step (fun k => ?_) ih
      simp only [spec_l11Sizes.l0]
      rw [if_pos (by omega), if_pos (by omega), amt, hb]
      simp only [Option.bind_some]
      rw [if_pos trivial, w_succ n (by omega)]
    | false =>
      rw [Bool.false_and]
      refine Ev.step (f := fun _ => some false) (fun k => ?_) (Ev.now _)
      simp only [spec_l11Sizes.l0]
      rw [if_pos (by omega), if_pos (by omega), amt, hb]
      rfl

theorem sizes_ev (l : List Int) (hl : l.length ≤ 1048576) : Ev (fun k => spec_l11Sizes.f k l) (sized l) := sizes_l0 l hl l.length 0 (by omega)

theorem sized_at (l : List Int) (h : sized l = true) (n : Nat) (hn : n < l.length) : 0 ≤ rd l (n : Int) ∧ rd l (n : Int) ≤ 1000000000 := by
  have := List.all_eq_true.1 h _ (getD_mem l 0 n hn)
  simp only [Bool.and_eq_true, decide_eq_true_eq] at this
  exact this

/-- 0 + 1 + .. + (n - 1), and the same of the squares. -/
def sumI : Nat → Nat
  | 0 => 0
  | n + 1 => sumI n + n
def sumQ : Nat → Nat
  | 0 => 0
  | n + 1 => sumQ n + n * n
theorem sums_small : ∀ n, n ≤ 100 → sumI n ≤ 10000 ∧ sumQ n ≤ 1000000 := by decide +kernel
theorem spread : ∀ n, n ≤ 100 → 2 ≤ n → sumI n * sumI n + 1 ≤ n * sumQ n ∧ n * sumQ n ≤ 100000000 := by decide +kernel

theorem gcd1 : ∀ (m n : Nat), Ev (fun k => spec_l11Gcd.l0 k (m : Int) (n : Int)) ((Nat.gcd n m : Nat) : Int) := by
  intro m n
  induction n using Nat.strongRecOn generalizing m with
  | _ n ih =>
    by_cases h : n = 0
    · subst h
      refine Ev.step (f := fun _ => some (m : Int)) (fun k => ?_) ?_
      · simp only [spec_l11Gcd.l0]
        rw [if_pos (by omega)]
      · simpa using Ev.now (m : Int)
    · have e : Nat.gcd n m = Nat.gcd (m % n) n := Nat.gcd_rec n m
      rw [e]
      refine Ev.step (fun k => ?_) (ih (m % n) (Nat.mod_lt _ (by omega)) n)
      simp only [spec_l11Gcd.l0]
      rw [if_neg (by omega), ← Int.ofNat_tmod]

theorem gcd2 : ∀ (N : Nat) (a b : Int), b.natAbs = N → a.natAbs ≤ 9223372036854775807 → b.natAbs ≤ 9223372036854775807 → Ev (fun k => impl_gcd.l0 k a b) ((Nat.gcd b.natAbs a.natAbs : Nat) : Int) := by
  intro N
  induction N using Nat.strongRecOn with
  | _ N ih =>
    intro a b hb ha hb'
    by_cases h : b = 0
    · subst h
      refine Ev.step (f := fun _ => some ((a.natAbs : Nat) : Int)) (fun k => ?_) ?_
      · simp only [impl_gcd.l0]
        rw [if_pos trivial, w_id (by omega) (by omega)]
        congr 1
        unfold mx
        omega
      · simpa using Ev.now ((a.natAbs : Nat) : Int)
    · have e : Nat.gcd b.natAbs a.natAbs = Nat.gcd (Int.tmod a b).natAbs b.natAbs := by
        rw [Int.natAbs_tmod]
        exact Nat.gcd_rec _ _
      have hlt : (Int.tmod a b).natAbs < b.natAbs := by
        rw [Int.natAbs_tmod]
        exact Nat.mod_lt _ (by omega)
      rw [e]
      refine Ev.step (fun k => ?_) (ih (Int.tmod a b).natAbs (by omega) b (Int.tmod a b) rfl hb' (by omega))
      simp only [impl_gcd.l0]
      rw [if_neg h]

theorem gcd_same (a : Int) (n : Nat) (ha : a.natAbs ≤ 9223372036854775807) (hn : n ≤ 9223372036854775807) (h0 : n ≠ 0) :
    ∃ g : Int, g ≠ 0 ∧ Ev (fun k => spec_l11Gcd.f k a (n : Int)) g ∧ Ev (fun k => impl_gcd.f k a (n : Int)) g := by
  refine ⟨((Nat.gcd n a.natAbs : Nat) : Int), ?_, ?_, ?_⟩
  · have := Nat.gcd_pos_of_pos_left a.natAbs (by omega : 0 < n)
    omega
  · by_cases h : a < 0
    · refine Ev.congr (fun k => if_pos h) (Ev.step (f := fun k => spec_l11Gcd.l0 k ((a.natAbs : Nat) : Int) (n : Int)) (fun k => ?_) (gcd1 a.natAbs n))
      simp only [spec_l11Gcd.j0]
      rw [w_id (by omega) (by omega)]
      congr 1
      omega
    · refine Ev.congr (fun k => if_neg h) (Ev.step (f := fun k => spec_l11Gcd.l0 k ((a.natAbs : Nat) : Int) (n : Int)) (fun k => ?_) (gcd1 a.natAbs n))
      simp only [spec_l11Gcd.j0]
      congr 1
      omega
  · have := gcd2 n a (n : Int) (by omega) ha (by omega)
    simpa [impl_gcd.f] using this

theorem slope_bad (l : List Int) (hl : l.length ≤ 100) : ∀ (d n : Nat) (x y xx xy : Int), n + d = l.length → sized (l.drop n) = false →
    Ev (fun k => impl_SlopeOf.l0 k (l.length : Int) x y xx xy l (l.length : Int) (n : Int)) (0, 1, false)
  | 0, n, x, y, xx, xy, h, hs => by
    rw [drop_end l n (by omega)] at hs
    exact absurd hs (by simp [sized])
  | d + 1, n, x, y, xx, xy, h, hs => by
    have e : sized (l.drop n) = ((decide (0 ≤ rd l (n : Int)) && decide (rd l (n : Int) ≤ 1000000000)) && sized (l.drop (n + 1))) := by
      rw [drop_cons l 0 n (by omega)]
      rfl
    rw [e] at hs
    cases hb : (decide (0 ≤ rd l (n : Int)) && decide (rd l (n : Int) ≤ 1000000000)) with
    | false =>
      refine Ev.step (f := fun _ => some (0, 1, false)) (fun k => ?_) (Ev.now _)
      simp only [impl_SlopeOf.l0]
      rw [if_pos (by omega), if_pos (by omega), if_pos (by omega), isSize, hb]
      rfl
    | true =>
      rw [hb, Bool.true_and] at hs
      refine Ev.step (fun k => ?_) (slope_bad l hl d (n + 1) (wrap64 (x + n)) (wrap64 (y + rd l n)) (wrap64 (xx + wrap64 ((n : Int) * n))) (wrap64 (xy + wrap64 (n * rd l n))) (by omega) hs)
      simp only [impl_SlopeOf.l0]
      rw [if_pos (by omega), if_pos (by omega), if_pos (by omega), isSize, hb]
      simp only [Option.bind_some]
      rw [if_pos trivial, w_succ n (by omega)]

theorem mul_small (n : Nat) (v : Int) (hn : n ≤ 100) (h0 : 0 ≤ v) (h1 : v ≤ 1000000000) : 0 ≤ (n : Int) * v ∧ (n : Int) * v ≤ 100000000000 := by
  have a := Int.mul_nonneg (by omega : 0 ≤ (n : Int)) h0
  have b : (n : Int) * v ≤ 100 * 1000000000 := Int.mul_le_mul (by omega) h1 h0 (by omega)
  omega

theorem den_ok (a b : Nat) (h : b + 1 ≤ a) (ha : a ≤ 100000000) : wrap64 (wrap64 (a : Int) - wrap64 (b : Int)) = ((a - b : Nat) : Int) := by
  rw [w_id (x := (a : Int)) (by omega) (by omega), w_id (x := (b : Int)) (by omega) (by omega), w_id (by omega) (by omega)]
  omega
theorem den_le (a b : Nat) (ha : a ≤ 100000000) : a - b ≤ 9223372036854775807 := by omega
theorem den_pos (a b : Nat) (h : b + 1 ≤ a) : a - b ≠ 0 := by omega
theorem up_ok (a b : Int) (h1 : 0 ≤ a ∧ a ≤ 100 * 10000000000000) (h2 : 0 ≤ b ∧ b ≤ 10000 * 100000000000) : (a - b).natAbs ≤ 9223372036854775807 := by omega

theorem slope_good (l : List Int) (hl : l.length ≤ 100) (h2 : 2 ≤ l.length) (hs : sized l = true) : ∀ (d n : Nat) (y xy : Int), n + d = l.length → 0 ≤ y → y ≤ n * 1000000000 → 0 ≤ xy → xy ≤ n * 100000000000 →
    ∃ a b c, Ev (fun k => spec_SlopeOf.l0 k l (l.length : Int) xy ((sumI n : Nat) : Int) y ((sumQ n : Nat) : Int) (n : Int)) (a, b, c) ∧
      Ev (fun k => impl_SlopeOf.l0 k (l.length : Int) ((sumI n : Nat) : Int) y ((sumQ n : Nat) : Int) xy l (l.length : Int) (n : Int)) (a, b, c) := by
  intro d
  induction d with
  | zero =>
    intro n y xy h y0 y1 z0 z1
    have hn : n = l.length := by omega
    have sm := sums_small n (by omega)
    have sp := spread n (by omega) (by omega)
    have m1 : 0 ≤ (n : Int) * xy ∧ (n : Int) * xy ≤ 100 * 10000000000000 := ⟨Int.mul_nonneg (by omega) z0, Int.mul_le_mul (by omega) (by omega) z0 (by omega)⟩
    have m2 : 0 ≤ ((sumI n : Nat) : Int) * y ∧ ((sumI n : Nat) : Int) * y ≤ 10000 * 100000000000 := ⟨Int.mul_nonneg (by omega) y0, Int.mul_le_mul (by omega) (by omega) y0 (by omega)⟩
    have m3 : (n : Int) * ((sumQ n : Nat) : Int) = ((n * sumQ n : Nat) : Int) := by simp
    have m4 : ((sumI n : Nat) : Int) * ((sumI n : Nat) : Int) = ((sumI n * sumI n : Nat) : Int) := by simp
    have e1 : wrap64 ((n : Int) * xy) = (n : Int) * xy := w_id (by omega) (by omega)
    have e2 : wrap64 (((sumI n : Nat) : Int) * y) = ((sumI n : Nat) : Int) * y := w_id (by omega) (by omega)
    have e3 : wrap64 ((n : Int) * xy - ((sumI n : Nat) : Int) * y) = (n : Int) * xy - ((sumI n : Nat) : Int) * y := w_id (by omega) (by omega)
    have e4 := den_ok _ _ sp.1 sp.2
    obtain ⟨g, g0, g1, g2⟩ := gcd_same ((n : Int) * xy - ((sumI n : Nat) : Int) * y) (n * sumQ n - sumI n * sumI n) (up_ok _ _ m1 m2) (den_le _ _ sp.2) (den_pos _ _ sp.1)
    refine ⟨wrap64 (Int.tdiv ((n : Int) * xy - ((sumI n : Nat) : Int) * y) g), wrap64 (Int.tdiv ((n * sumQ n - sumI n * sumI n : Nat) : Int) g), true, ?_, ?_⟩
    · refine Ev.step (fun k => ?_) (Ev.bind (f := fun _ t => if t = 0 then none else some (wrap64 (Int.tdiv ((n : Int) * xy - ((sumI n : Nat) : Int) * y) t), wrap64 (Int.tdiv ((n * sumQ n - sumI n * sumI n : Nat) : Int) t), true)) g1 (Ev.congr (fun k => if_neg g0) (Ev.now _)))
      simp only [spec_SlopeOf.l0]
      rw [if_neg (by omega), ← hn, e1, e2, e3, m3, m4, e4]
    · refine Ev.step (fun k => ?_) (Ev.bind (f := fun _ t => if t = 0 then none else some (wrap64 (Int.tdiv ((n : Int) * xy - ((sumI n : Nat) : Int) * y) t), wrap64 (Int.tdiv ((n * sumQ n - sumI n * sumI n : Nat) : Int) t), true)) g2 (Ev.congr (fun k => if_neg g0) (Ev.now _)))
      simp only [impl_SlopeOf.l0]
      rw [if_neg (by omega), ← hn, e1, e2, e3, m3, m4, e4]
  | succ d ih =>
    intro n y xy h y0 y1 z0 z1
    have b1 := sized_at l hs n (by omega)
    have sm := sums_small n (by omega)
    have sm' := sums_small (n + 1) (by omega)
    obtain ⟨p0, p1⟩ := mul_small n _ (by omega) b1.1 b1.2
    have e1 : wrap64 ((n : Int) * rd l (n : Int)) = (n : Int) * rd l (n : Int) := w_id (by omega) (by omega)
    have e2 : wrap64 (xy + (n : Int) * rd l (n : Int)) = xy + (n : Int) * rd l (n : Int) := w_id (by omega) (by omega)
    have e3 : wrap64 (((sumI n : Nat) : Int) + (n : Int)) = ((sumI (n + 1) : Nat) : Int) := by
      have : sumI (n + 1) = sumI n + n := rfl
      rw [w_id (by omega) (by omega), this]
      simp
    have e4 : wrap64 (y + rd l (n : Int)) = y + rd l (n : Int) := w_id (by omega) (by omega)
    have q1 : (n : Int) * (n : Int) = ((n * n : Nat) : Int) := by simp
    have q2 : sumQ (n + 1) = sumQ n + n * n := rfl
    have e5 : wrap64 ((n : Int) * (n : Int)) = ((n * n : Nat) : Int) := by
      rw [q1]
      exact w_id (by omega) (by omega)
    have e6 : wrap64 (((sumQ n : Nat) : Int) + ((n * n : Nat) : Int)) = ((sumQ (n + 1) : Nat) : Int) := by
      rw [w_id (by omega) (by omega), q2]
      simp
    obtain ⟨a, b, c, h1, h2⟩ := ih (n + 1) (y + rd l (n : Int)) (xy + (n : Int) * rd l (n : Int)) (by omega) (by omega) (by omega) (by omega) (by omega)
    have hz := isSize (rd l (n : Int))
    rw [decide_eq_true b1.1, decide_eq_true b1.2] at hz
    refine ⟨a, b, c, Ev.step (fun k => ?_) h1, Ev.step (fun k => ?_) h2⟩
    · simp only [spec_SlopeOf.l0]
      rw [if_pos (by omega), if_pos (by omega), if_pos (by omega), e1, e2, e3, e4, e5, e6, w_succ n (by omega)]
    · simp only [impl_SlopeOf.l0]
      rw [if_pos (by omega), if_pos (by omega), if_pos (by omega), hz]
      simp only [Option.bind_some]
      rw [if_pos (by rfl), e1, e2, e3, e4, e5, e6, w_succ n (by omega)]

theorem slope_same (l : List Int) (hl : l.length ≤ 1048576) : ∃ a b c, Ev (fun k => spec_SlopeOf.f k l) (a, b, c) ∧ Ev (fun k => impl_SlopeOf.f k l) (a, b, c) ∧ (c = true → 2 ≤ l.length) := by
  by_cases h1 : 2 ≤ l.length ∧ l.length ≤ 100
  rotate_left
  · have e1 : spec_l01In.f (l.length : Int) 2 100 = some false := by
      rw [in1]
      simp
      omega
    have e2 : impl_in.f (l.length : Int) 2 100 = some false := by
      rw [in2]
      simp
      omega
    refine ⟨0, 1, false, Ev.congr (f := fun k => spec_SlopeOf.j0 k l (l.length : Int) true) (fun k => ?_) (Ev.step (fun k => (spec_SlopeOf.j0.eq_2 ..).trans (if_pos rfl)) (Ev.now _)), Ev.congr (fun k => ?_) (Ev.now _), by simp⟩
    · unfold spec_SlopeOf.f
      rw [e1]
      rfl
    · unfold impl_SlopeOf.f
      rw [e2]
      rfl
  have e1 : spec_l01In.f (l.length : Int) 2 100 = some true := by
    rw [in1]
    simp
    omega
  have e2 : impl_in.f (l.length : Int) 2 100 = some true := by
    rw [in2]
    simp
    omega
  have gS : ∀ {r}, Ev (fun k => spec_SlopeOf.j0 k l (l.length : Int) (!sized l)) r → Ev (fun k => spec_SlopeOf.f k l) r := by
    intro r h
    refine Ev.congr (f := fun k => (spec_l11Sizes.f k l).bind fun t => spec_SlopeOf.j0 k l (l.length : Int) (!t)) (fun k => ?_) (Ev.bind (sizes_ev l hl) h)
    unfold spec_SlopeOf.f
    rw [e1]
    rfl
  have gI : ∀ {r}, Ev (fun k => impl_SlopeOf.l0 k (l.length : Int) 0 0 0 0 l (l.length : Int) 0) r → Ev (fun k => impl_SlopeOf.f k l) r := by
    intro r h
    refine Ev.congr (fun k => ?_) h
    unfold impl_SlopeOf.f
    rw [e2]
    rfl
  cases hs : sized l with
  | false => exact ⟨0, 1, false, gS (Ev.step (fun k => (spec_SlopeOf.j0.eq_2 ..).trans (if_pos (by simp [hs]))) (Ev.now _)), gI (slope_bad l (by omega) l.length 0 0 0 0 0 (by omega) hs), by simp⟩
  | true =>
    obtain ⟨a, b, c, p, q⟩ := slope_good l (by omega) (by omega) hs l.length 0 0 0 (by omega) (by omega) (by omega) (by omega) (by omega)
    exact ⟨a, b, c, gS (Ev.step (fun k => (spec_SlopeOf.j0.eq_2 ..).trans (if_neg (by simp [hs]))) p), gI q, fun _ => h1.1⟩

theorem fd_same (a b : Int) : spec_FloorDiv.f a b = impl_FloorDiv.f a b := rfl
theorem fd_some (a b : Int) : ∃ c, impl_FloorDiv.f a b = some c := by
  unfold impl_FloorDiv.f
  by_cases h : b < 1
  · exact ⟨_, if_pos h⟩
  · rw [if_neg h, if_neg (by omega)]
    split <;> exact ⟨_, rfl⟩
theorem cut_same (a : Int) : spec_l06Cut.f a 0 1000000000 = some (mn (mx a 0) 1000000000) := by
  unfold spec_l06Cut.f mn mx
  by_cases h1 : a < 0
  · rw [if_pos h1, if_pos h1, if_neg (by omega)]
  · rw [if_neg h1, if_neg h1]
    by_cases h2 : a > 1000000000
    · rw [if_pos h2, if_pos (by omega)]
    · rw [if_neg h2, if_neg (by omega)]

theorem same (l : List Int) (t : Int) (hl : l.length ≤ 1048576) : ∃ v b, Ev (fun k => spec_ForecastOf.f k l t) (v, b) ∧ Ev (fun k => impl_ForecastOf.f k l t) (v, b) := by
  obtain ⟨a, b, c, hs, hi, hc⟩ := slope_same l hl
  by_cases ok : c = true ∧ (0 ≤ t ∧ t ≤ 1000)
  rotate_left
  · refine ⟨0, false, Ev.bind hs ?_, Ev.bind hi ?_⟩
    · cases c with
      | false => exact Ev.congr (fun k => if_neg (by simp)) (Ev.step (fun k => (spec_ForecastOf.j0.eq_2 ..).trans (if_pos rfl)) (Ev.now _))
      | true =>
        have e : spec_l01In.f t 0 1000 = some false := by
          rw [in1]
          simp at ok ⊢
          omega
        refine Ev.congr (f := fun k => spec_ForecastOf.j0 k l t a b true) (fun k => ?_) (Ev.step (fun k => (spec_ForecastOf.j0.eq_2 ..).trans (if_pos rfl)) (Ev.now _))
        simp only [if_true]
        rw [e]
        rfl
    · cases c with
      | false => exact Ev.congr (fun k => if_neg (by simp)) (Ev.now _)
      | true =>
        have e : impl_in.f t 0 1000 = some false := by
          rw [in2]
          simp at ok ⊢
          omega
        refine Ev.congr (fun k => ?_) (Ev.now (0, false))
        simp only [if_true]
        rw [e]
        rfl
  obtain ⟨rfl, h0, h1⟩ := ok
  have h2 := hc rfl
  have e1 : spec_l01In.f t 0 1000 = some true := by
    rw [in1]
    simp
    omega
  have e2 : impl_in.f t 0 1000 = some true := by
    rw [in2]
    simp
    omega
  have el : wrap64 ((l.length : Int) - 1) = ((l.length - 1 : Nat) : Int) := by
    rw [w_id (by omega) (by omega)]
    omega
  obtain ⟨y, hy⟩ := fd_some (wrap64 (a * t)) b
  refine ⟨mn (mx (wrap64 (rd l ((l.length - 1 : Nat) : Int) + y)) 0) 1000000000, true, Ev.bind hs ?_, Ev.bind hi ?_⟩
  · refine Ev.congr (f := fun k => spec_ForecastOf.j0 k l t a b false) (fun k => ?_) (Ev.step (f := fun _ => some (mn (mx (wrap64 (rd l ((l.length - 1 : Nat) : Int) + y)) 0) 1000000000, true)) (fun k => ?_) (Ev.now _))
    · simp only [if_true]
      rw [e1]
      rfl
    · rw [spec_ForecastOf.j0.eq_2, if_neg (by simp), el, if_pos (by omega), if_pos (by omega), fd_same, hy]
      simp only [Option.bind_some]
      rw [cut_same]
      rfl
  · refine Ev.congr (fun k => ?_) (Ev.now (mn (mx (wrap64 (rd l ((l.length - 1 : Nat) : Int) + y)) 0) 1000000000, true))
    simp only [if_true]
    rw [e2]
    simp only [Option.bind_some]
    rw [if_pos trivial, el, if_pos (by omega), if_pos (by omega), hy]
    rfl
end ForecastOf

theorem FnExactForecastOf (l : List Int) (t : Int) (_ : l.length ≤ maxLen ∧ ∀ x ∈ l, (Lit.int .i64 x).wf = true) (_ : (Lit.int .i64 t).wf = true) : ∃ k, laws_FnExactForecastOf.f k l t = some true := by
  refine Ev.rounds ?_
  by_cases hl : (l.length : Int) > 1048576
  · exact Ev.congr (fun k => if_pos hl) (Ev.now true)
  have hn : l.length ≤ 1048576 := by omega
  have T := ForecastOf.toIntS_ev l hn
  have E := ForecastOf.eqIntS_ev l hn
  obtain ⟨a, b, hs, hi⟩ := ForecastOf.same l t hn
  refine Ev.congr (fun k => if_neg hl) ?_
  refine Ev.bind T (Ev.bind hs (Ev.bind T (Ev.bind hi ?_)))
  refine Ev.congr (fun k => if_pos rfl) ?_
  refine Ev.step (fun k => (laws_FnExactForecastOf.j0.eq_2 ..).trans (if_neg (by simp))) ?_
  refine Ev.bind T (Ev.bind E ?_)
  exact Ev.congr (fun k => if_pos rfl) (Ev.now true)

end Go.Proofs.Ytlkglpnccddeeaa.Pure
