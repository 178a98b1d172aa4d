/-
  Pure statement of FnWindows: whatever the drawn list and window are, what the law asks of the printed functions holds.
  No condition.
-/
import Derived.Test.YtlkglpnccddeeaaPFnWindowsx6
import Derived.Test.YtlkglpnccddeeaaAid
import Derived.Laws.BitsLemmas
namespace Go.Proofs.Ytlkglpnccddeeaa.Pure
open Go.RowKit Go.Proofs.Ytlkglpnccddeeaa.PFnWindows Go.Proofs.YtlkglpnccddeeaaW.PrintWords Go.Proofs.YtlkglpnccddeeaaW.PrintLast Go.Proofs.YtlkglpnccddeeaaW.PrintMore Go.Proofs.Ytlkglpnccddeeaa.Aid
namespace Windows
theorem value_ok (a : Int) : spec_l01Value.f a = some (!bad a) := by
  unfold spec_l01Value.f spec_l01In.f bad
  by_cases h : -1000000000 ≤ a <;> simp [h]

theorem values_l0 (l : List Int) (hl : l.length ≤ 1048576) : ∀ (d n : Nat), n + d = l.length → Ev (fun k => spec_l11Values.l0 k l (n : Int)) (!(l.drop n).any bad && decide ((l.length : Int) ≤ 300))
  | 0, n, h => by
    rw [drop_end l n (by omega)]
    refine Ev.step (f := fun _ => some (decide ((l.length : Int) ≤ 300))) (fun k => ?_) (Ev.now _)
    simp only [spec_l11Values.l0]
    rw [if_neg (by omega)]
  | d + 1, n, h => by
    rw [drop_cons l 0 n (by omega), List.any_cons]
    cases hb : bad (l.getD n 0) with
    | true =>
      refine Ev.step (f := fun _ => some false) (fun k => ?_) (Ev.now _)
      simp only [spec_l11Values.l0]
      rw [if_pos (by omega), if_pos (by omega), value_ok, rd_nat, hb]
      rfl
    | false =>
      rw [Bool.false_or]
      refine Ev.step (fun k => ?_) (values_l0 l hl d (n + 1) (by omega))
      simp only [spec_l11Values.l0]
      rw [if_pos (by omega), if_pos (by omega), value_ok, rd_nat, hb, w_succ n (by omega)]
      rfl

theorem values_ev (l : List Int) (hl : l.length ≤ 1048576) : Ev (fun k => spec_l11Values.f k l) (areB l) := by
  have h := values_l0 l hl l.length 0 (by omega)
  rw [List.drop_zero] at h
  have e : (!l.any bad && decide ((l.length : Int) ≤ 300)) = areB l := by
    unfold areB
    rw [Bool.and_comm]
    congr 1
    exact decide_eq_decide.2 (by omega)
  rw [e] at h
  exact h
theorem are_len (l : List Int) (h : areB l = true) : l.length ≤ 300 := by
  unfold areB at h
  simp only [Bool.and_eq_true, decide_eq_true_eq] at h
  exact h.1

theorem max_l0 (l : List Int) (hl : l.length ≤ 1048576) : ∀ (d n : Nat) (m : Int), n + d = l.length → ∃ v, (v = m ∨ v ∈ l) ∧ m ≤ v ∧ (∀ x ∈ l.drop n, x ≤ v) ∧ Ev (fun k => slices_Max_int_int.l0 k l m (n : Int)) v
  | 0, n, m, h => by
    refine ⟨m, Or.inl rfl, Int.le_refl _, by simp [drop_end l n (by omega)], Ev.step (f := fun _ => some m) (fun k => ?_) (Ev.now _)⟩
    simp only [slices_Max_int_int.l0]
    rw [if_neg (by omega)]
  | d + 1, n, m, h => by
    obtain ⟨v, h1, h2, h3, h4⟩ := max_l0 l hl d (n + 1) (mx m (rd l (n : Int))) (by omega)
    have hm : rd l (n : Int) ∈ l := getD_mem l 0 n (by omega)
    have b : m ≤ mx m (rd l (n : Int)) ∧ rd l (n : Int) ≤ mx m (rd l (n : Int)) ∧ (mx m (rd l (n : Int)) = m ∨ mx m (rd l (n : Int)) = rd l (n : Int)) := by
      unfold mx
      split <;> omega
    refine ⟨v, ?_, by omega, ?_, Ev.step (fun k => ?_) h4⟩
    · rcases h1 with rfl | h1
      · rcases b.2.2 with b3 | b3
        · exact Or.inl b3
        · exact Or.inr (by rw [b3]; exact hm)
      · exact Or.inr h1
    · rw [drop_cons l 0 n (by omega)]
      intro x hx
      rcases List.mem_cons.1 hx with rfl | hx
      · have : rd l (n : Int) ≤ v := by omega
        exact this
      · exact h3 x hx
    · simp only [slices_Max_int_int.l0]
      rw [if_pos (by omega), if_pos (by omega), w_succ n (by omega)]

theorem head_mem (l : List Int) (h : l ≠ []) : rd l 0 ∈ l := by
  cases l with
  | nil => exact absurd rfl h
  | cons x t => exact List.mem_cons_self
theorem max_ev (l : List Int) (hl : l.length ≤ 1048576) (h : l ≠ []) : ∃ v, v ∈ l ∧ (∀ x ∈ l, x ≤ v) ∧ Ev (fun k => slices_Max_int_int.f k l) v := by
  have hp : 0 < l.length := List.length_pos_iff.2 h
  obtain ⟨v, h1, h2, h3, h4⟩ := max_l0 l hl (l.length - 1) 1 (rd l 0) (by omega)
  refine ⟨v, ?_, ?_, Ev.congr (fun k => ?_) h4⟩
  · rcases h1 with rfl | h1
    · exact head_mem l h
    · exact h1
  · intro x hx
    have e : l = l.drop 0 := rfl
    rw [e, drop_cons l 0 0 hp] at hx
    rcases List.mem_cons.1 hx with rfl | hx
    · exact h2
    · exact h3 x hx
  · unfold slices_Max_int_int.f
    rw [if_neg (by omega), if_pos (by omega)]
    rfl

theorem min_l0 (l : List Int) (hl : l.length ≤ 1048576) : ∀ (d n : Nat) (m : Int), n + d = l.length → ∃ v, (v = m ∨ v ∈ l) ∧ v ≤ m ∧ (∀ x ∈ l.drop n, v ≤ x) ∧ Ev (fun k => slices_Min_int_int.l0 k l m (n : Int)) v
  | 0, n, m, h => by
    refine ⟨m, Or.inl rfl, Int.le_refl _, by simp [drop_end l n (by omega)], Ev.step (f := fun _ => some m) (fun k => ?_) (Ev.now _)⟩
    simp only [slices_Min_int_int.l0]
    rw [if_neg (by omega)]
  | d + 1, n, m, h => by
    obtain ⟨v, h1, h2, h3, h4⟩ := min_l0 l hl d (n + 1) (mn m (rd l (n : Int))) (by omega)
    have hm : rd l (n : Int) ∈ l := getD_mem l 0 n (by omega)
    have b : mn m (rd l (n : Int)) ≤ m ∧ mn m (rd l (n : Int)) ≤ rd l (n : Int) ∧ (mn m (rd l (n : Int)) = m ∨ mn m (rd l (n : Int)) = rd l (n : Int)) := by
      unfold mn
      split <;> omega
    refine ⟨v, ?_, by omega, ?_, Ev.step (fun k => ?_) h4⟩
    · rcases h1 with rfl | h1
      · rcases b.2.2 with b3 | b3
        · exact Or.inl b3
        · exact Or.inr (by rw [b3]; exact hm)
      · exact Or.inr h1
    · rw [drop_cons l 0 n (by omega)]
      intro x hx
      rcases List.mem_cons.1 hx with rfl | hx
      · have : v ≤ rd l (n : Int) := by omega
        exact this
      · exact h3 x hx
    · simp only [slices_Min_int_int.l0]
      rw [if_pos (by omega), if_pos (by omega), w_succ n (by omega)]
theorem min_ev (l : List Int) (hl : l.length ≤ 1048576) (h : l ≠ []) : ∃ v, v ∈ l ∧ (∀ x ∈ l, v ≤ x) ∧ Ev (fun k => slices_Min_int_int.f k l) v := by
  have hp : 0 < l.length := List.length_pos_iff.2 h
  obtain ⟨v, h1, h2, h3, h4⟩ := min_l0 l hl (l.length - 1) 1 (rd l 0) (by omega)
  refine ⟨v, ?_, ?_, Ev.congr (fun k => ?_) h4⟩
  · rcases h1 with rfl | h1
    · exact head_mem l h
    · exact h1
  · intro x hx
    have e : l = l.drop 0 := rfl
    rw [e, drop_cons l 0 0 hp] at hx
    rcases List.mem_cons.1 hx with rfl | hx
    · exact h2
    · exact h3 x hx
  · unfold slices_Min_int_int.f
    rw [if_neg (by omega), if_pos (by omega)]
    rfl

/-- Is each element in 0..1000000000? -/
def sized (l : List Int) : Bool := l.all fun x => decide (0 ≤ x) && decide (x ≤ 1000000000)

theorem in1 (a b c : Int) : spec_l01In.f a b c = some (decide (b ≤ a) && decide (a ≤ c)) := by
  unfold spec_l01In.f
  by_cases h : b ≤ a <;> simp [h]
theorem in2 (a b c : Int) : impl_in.f a b c = some (decide (b ≤ a) && decide (a ≤ c)) := by
  unfold impl_in.f
  by_cases h : a ≥ b <;> simp [h]
theorem amt (a : Int) : spec_l01Amt.f a = some (decide (0 ≤ a) && decide (a ≤ 1000000000)) := by
  unfold spec_l01Amt.f
  rw [in1]
  rfl
theorem isSize (a : Int) : impl_isSize.f a = some (decide (0 ≤ a) && decide (a ≤ 1000000000)) := by
  unfold impl_isSize.f
  rw [in2]
  rfl

theorem sizes_l0 (l : List Int) (hl : l.length ≤ 1048576) : ∀ (d n : Nat), n + d = l.length → Ev (fun k => spec_l11Sizes.l0 k l (n : Int)) (sized (l.drop n))
  | 0, n, h => by
    refine Ev.step (f := fun _ => some (sized (l.drop n))) (fun k => ?_) (Ev.now _)
    simp only [spec_l11Sizes.l0]
    rw [if_neg (by omega), drop_end l n (by omega)]
    rfl
  | d + 1, n, h => by
    have ih := sizes_l0 l hl d (n + 1) (by omega)
    have e : sized (l.drop n) = ((decide (0 ≤ rd l (n : Int)) && decide (rd l (n : Int) ≤ 1000000000)) && sized (l.drop (n + 1))) := by
      rw [drop_cons l 0 n (by omega)]
      rfl
    rw [e]
    cases hb : (decide (0 ≤ rd l (n : Int)) && decide (rd l (n : Int) ≤ 1000000000)) with
    | true =>
      rw [Bool.true_and]
      refine Ev.step (fun k => ?_) ih
      simp only [spec_l11Sizes.l0]
      rw [if_pos (by omega), if_pos (by omega), amt, hb]
      simp only [Option.bind_some]
      rw [if_pos trivial, w_succ n (by omega)]
    | false =>
      rw [Bool.false_and]
      refine Ev.step (f := fun _ => some false) (fun k => ?_) (Ev.now _)
      simp only [spec_l11Sizes.l0]
      rw [if_pos (by omega), if_pos (by omega), amt, hb]
      rfl

theorem sizes_ev (l : List Int) (hl : l.length ≤ 1048576) : Ev (fun k => spec_l11Sizes.f k l) (sized l) := sizes_l0 l hl l.length 0 (by omega)

theorem sized_at (l : List Int) (h : sized l = true) (n : Nat) (hn : n < l.length) : 0 ≤ rd l (n : Int) ∧ rd l (n : Int) ≤ 1000000000 := by
  have := List.all_eq_true.1 h _ (getD_mem l 0 n hn)
  simp only [Bool.and_eq_true, decide_eq_true_eq] at this
  exact this

theorem win_j3f (l : List Int) (w : Int) (out : List Int) (n : Nat) (hn : n < 1048576) (ho : out.length ≤ 1048576) (m x : Int) {r : List Int × Bool} (h : Ev (fun k => spec_WindowMax.l0 k l w (out ++ [m]) ((n + 1 : Nat) : Int)) r) :
    Ev (fun k => spec_WindowMax.j3 k l w out (n : Int) m x false) r := by
  refine Ev.step (fun k => ?_) h
  rw [spec_WindowMax.j3.eq_2, if_neg (by simp), if_pos (by omega), w_succ n (by omega)]

theorem win_l1 (l : List Int) (hl : l.length ≤ 1048576) (w : Int) (hw : 1 ≤ w ∧ w ≤ 300) (out : List Int) (ho : out.length ≤ 1048576) (n : Nat) (hn : n < l.length) (lo : Nat) (hlo : (lo : Int) = mx 0 ((n : Int) - w + 1)) :
    ∀ (d : Nat) (j m : Int), j + 1 = (lo : Int) + (d : Int) → j ≤ (n : Int) → ∃ v, (v = m ∨ ∃ t : Int, (lo : Int) ≤ t ∧ t ≤ j ∧ v = rd l t) ∧ m ≤ v ∧ (∀ t : Int, (lo : Int) ≤ t → t ≤ j → rd l t ≤ v) ∧
      ∀ r, Ev (fun k => spec_WindowMax.l0 k l w (out ++ [v]) ((n + 1 : Nat) : Int)) r → Ev (fun k => spec_WindowMax.l1 k l w out (n : Int) m j) r
  | 0, j, m, h, hj => by
    unfold mx at hlo
    refine ⟨m, Or.inl rfl, Int.le_refl _, fun t h1 h2 => by omega, fun r hr => ?_⟩
    refine Ev.step (fun k => ?_) (win_j3f l w out n (by omega) ho m j hr)
    rw [spec_WindowMax.l1.eq_2]
    by_cases c : j ≥ 0
    · rw [if_pos c, w_id (by omega) (by omega), decide_eq_false]
      split at hlo <;> omega
    · rw [if_neg c]
  | d + 1, j, m, h, hj => by
    have hlo' := hlo
    unfold mx at hlo'
    have step : ∀ {m' : Int} {r : List Int × Bool}, (m' = if rd l j > m then rd l j else m) → Ev (fun k => spec_WindowMax.l1 k l w out (n : Int) m' (j - 1)) r → Ev (fun k => spec_WindowMax.l1 k l w out (n : Int) m j) r := by
      intro m' r hm hr
      refine Ev.step (f := fun k => spec_WindowMax.j3 k l w out (n : Int) m j true) (fun k => ?_) (Ev.step (fun k => ?_) hr)
      · rw [spec_WindowMax.l1.eq_2, if_pos (by omega), w_id (by omega) (by omega), decide_eq_true]
        split at hlo' <;> omega
      · rw [spec_WindowMax.j3.eq_2, if_pos rfl, if_pos (by omega), if_pos (by omega), w_id (by omega) (by omega), hm]
        split <;> rfl
    by_cases c : rd l j > m
    · obtain ⟨v, h1, h2, h3, h4⟩ := win_l1 l hl w hw out ho n hn lo hlo d (j - 1) (rd l j) (by omega) (by omega)
      refine ⟨v, Or.inr ?_, by omega, fun t t1 t2 => ?_, fun r hr => step (by rw [if_pos c]) (h4 r hr)⟩
      · rcases h1 with h1 | ⟨t, t1, t2, t3⟩
        · exact ⟨j, by omega, by omega, h1⟩
        · exact ⟨t, t1, by omega, t3⟩
      · by_cases e : t = j
        · subst e
          exact h2
        · exact h3 t t1 (by omega)
    · obtain ⟨v, h1, h2, h3, h4⟩ := win_l1 l hl w hw out ho n hn lo hlo d (j - 1) m (by omega) (by omega)
      refine ⟨v, ?_, h2, fun t t1 t2 => ?_, fun r hr => step (by rw [if_neg c]) (h4 r hr)⟩
      · rcases h1 with h1 | ⟨t, t1, t2, t3⟩
        · exact Or.inl h1
        · exact Or.inr ⟨t, t1, by omega, t3⟩
      · by_cases e : t = j
        · subst e
          omega
        · exact h3 t t1 (by omega)

theorem slice_mem (l : List Int) (lo n : Nat) (hn : n < l.length) (x : Int) : x ∈ (l.take (n + 1)).drop lo ↔ ∃ t : Int, (lo : Int) ≤ t ∧ t ≤ (n : Int) ∧ x = rd l t := by
  constructor
  · intro h
    obtain ⟨i, hi, rfl⟩ := List.mem_iff_getElem.1 h
    rw [List.length_drop, List.length_take] at hi
    refine ⟨((lo + i : Nat) : Int), by omega, by omega, ?_⟩
    rw [List.getElem_drop, List.getElem_take, rd_nat]
    simp [List.getD, List.getElem?_eq_getElem (show lo + i < l.length by omega)]
  · rintro ⟨t, h1, h2, rfl⟩
    obtain ⟨s, rfl⟩ := Int.eq_ofNat_of_zero_le (by omega : 0 ≤ t)
    refine List.mem_iff_getElem.2 ⟨s - lo, by rw [List.length_drop, List.length_take]; omega, ?_⟩
    rw [List.getElem_drop, List.getElem_take, rd_nat]
    have e : lo + (s - lo) = s := by omega
    simp [List.getD, e, List.getElem?_eq_getElem (show s < l.length by omega)]

theorem win_l0 (l : List Int) (hl : l.length ≤ 1048576) (w : Int) (hw : 1 ≤ w ∧ w ≤ 300) : ∀ (d n : Nat) (out : List Int), n + d = l.length → out.length = n →
    ∃ ys : List Int, ys.length = l.length ∧ (∀ i : Nat, i < l.length → (i < n → rd ys (i : Int) = rd out (i : Int)) ∧ (n ≤ i → rd l (i : Int) ≤ rd ys (i : Int))) ∧ Ev (fun k => spec_WindowMax.l0 k l w out (n : Int)) (ys, true) ∧ Ev (fun k => impl_WindowMax.l0 k l w out (l.length : Int) (n : Int)) (ys, true)
  | 0, n, out, h, ho => by
    refine ⟨out, by omega, fun i hi => ⟨fun _ => rfl, fun h2 => by omega⟩, Ev.step (f := fun _ => some (out, true)) (fun k => ?_) (Ev.now _), Ev.step (f := fun _ => some (out, true)) (fun k => ?_) (Ev.now _)⟩
    · rw [spec_WindowMax.l0.eq_2, if_neg (by omega)]
    · rw [impl_WindowMax.l0.eq_2, if_neg (by omega)]
  | d + 1, n, out, h, ho => by
    obtain ⟨lo, hlo⟩ : ∃ lo : Nat, (lo : Int) = mx 0 ((n : Int) - w + 1) := ⟨(mx 0 ((n : Int) - w + 1)).toNat, by unfold mx; split <;> omega⟩
    have hle : lo ≤ n := by
      have h2 := hlo
      unfold mx at h2
      split at h2 <;> omega
    obtain ⟨v, v1, v2, v3, v4⟩ := win_l1 l hl w hw out (by omega) n (by omega) lo hlo (n + 1 - lo) (n : Int) (rd l (n : Int)) (by omega) (by omega)
    have hS : (l.take (n + 1)).drop lo ≠ [] := by
      intro e
      have := congrArg List.length e
      rw [List.length_drop, List.length_take] at this
      simp at this
      omega
    obtain ⟨u, u1, u2, u3⟩ := max_ev ((l.take (n + 1)).drop lo) (by rw [List.length_drop, List.length_take]; omega) hS
    have huv : u = v := by
      have hv : v ∈ (l.take (n + 1)).drop lo := by
        rw [slice_mem l lo n (by omega)]
        rcases v1 with v1 | v1
        · exact ⟨(n : Int), by omega, by omega, v1⟩
        · exact v1
      obtain ⟨t, t1, t2, t3⟩ := (slice_mem l lo n (by omega) u).1 u1
      have a := u2 v hv
      have b := v3 t t1 t2
      omega
    subst huv
    obtain ⟨ys, hy, hg, h1, h2⟩ := win_l0 l hl w hw d (n + 1) (out ++ [u]) (by omega) (by simp [ho])
    have hge : rd l (n : Int) ≤ u := v3 (n : Int) (by omega) (Int.le_refl _)
    refine ⟨ys, hy, fun i hi => ⟨fun h3 => ?_, fun h3 => ?_⟩, Ev.step (fun k => ?_) (v4 _ h1), Ev.step (fun k => ?_) (Ev.bind (f := fun k t => if out.length < 17592186044416 then impl_WindowMax.l0 k l w (out ++ [t]) (l.length : Int) (wrap64 ((n : Int) + 1)) else none) u3 (Ev.congr (fun k => ?_) h2))⟩
    · rw [(hg i hi).1 (by omega), rd_nat, rd_nat]
      simp [List.getD, List.getElem?_append_left (show i < out.length by omega)]
    · by_cases h4 : i = n
      · subst h4
        rw [(hg i hi).1 (by omega), rd_nat (out ++ [u])]
        simpa [List.getD, ho] using hge
      · exact (hg i hi).2 (by omega)
    · rw [spec_WindowMax.l0.eq_2, if_pos (by omega), if_pos (by omega)]
    · have e1 : wrap64 ((n : Int) - w) = (n : Int) - w := w_id (by omega) (by omega)
      have e2 : wrap64 ((n : Int) - w + 1) = (n : Int) - w + 1 := w_id (by omega) (by omega)
      rw [impl_WindowMax.l0.eq_2, if_pos (by omega), e1, e2, ← hlo, if_pos (by omega), w_succ n (by omega), if_pos (by omega), if_pos (by omega), Int.toNat_natCast, Int.toNat_natCast]
    · rw [if_pos (by omega), w_succ n (by omega)]

theorem win_same (l : List Int) (w : Int) (hl : l.length ≤ 1048576) : ∃ ys b, ys.length ≤ l.length ∧ (∀ i : Nat, i < ys.length → rd l (i : Int) ≤ rd ys (i : Int)) ∧ Ev (fun k => spec_WindowMax.f k l w) (ys, b) ∧ Ev (fun k => impl_WindowMax.f k l w) (ys, b) := by
  have s0 : Ev (fun k => spec_WindowMax.j0 k l w [] true) ([], false) := Ev.step (fun k => (spec_WindowMax.j0.eq_2 ..).trans (if_pos rfl)) (Ev.now _)
  have i0 : Ev (fun k => impl_WindowMax.j0 k l w true) ([], false) := Ev.step (fun k => (impl_WindowMax.j0.eq_2 ..).trans (if_pos rfl)) (Ev.now _)
  by_cases h0 : l.length = 0
  · exact ⟨[], false, by simp, by simp, Ev.congr (fun k => if_pos (by omega)) s0, Ev.congr (fun k => if_pos (by omega)) i0⟩
  have hne : ¬ (l.length : Int) = 0 := by omega
  cases ha : areB l with
  | false =>
    refine ⟨[], false, by simp, by simp, Ev.congr (fun k => if_neg hne) (Ev.bind (values_ev l hl) (Ev.congr (fun k => if_neg (by simp [ha])) s0)), Ev.congr (fun k => ?_) i0⟩
    simp only [impl_WindowMax.f, impl_areValues.f, ha]
    rw [if_neg hne]
    rfl
  | true =>
    by_cases hw : 1 ≤ w ∧ w ≤ 300
    rotate_left
    · have e1 : spec_l01In.f w 1 300 = some false := by
        rw [in1]
        simp
        omega
      have e2 : impl_in.f w 1 300 = some false := by
        rw [in2]
        simp
        omega
      refine ⟨[], false, by simp, by simp, Ev.congr (fun k => if_neg hne) (Ev.bind (values_ev l hl) (Ev.congr (fun k => ?_) s0)), Ev.congr (fun k => ?_) i0⟩
      · rw [if_pos ha, e1]
        rfl
      · simp only [impl_WindowMax.f, impl_areValues.f, ha]
        rw [if_neg hne, e2]
        rfl
    have e1 : spec_l01In.f w 1 300 = some true := by
      rw [in1]
      simp
      omega
    have e2 : impl_in.f w 1 300 = some true := by
      rw [in2]
      simp
      omega
    obtain ⟨ys, hy, hg, h1, h2⟩ := win_l0 l hl w hw l.length 0 [] (by omega) rfl
    refine ⟨ys, true, by omega, fun i hi => (hg i (by omega)).2 (by omega), Ev.congr (fun k => if_neg hne) (Ev.bind (values_ev l hl) (Ev.congr (f := fun k => spec_WindowMax.j0 k l w [] false) (fun k => ?_) (Ev.step (fun k => (spec_WindowMax.j0.eq_2 ..).trans (if_neg (by simp))) h1))),
      Ev.congr (f := fun k => impl_WindowMax.j0 k l w false) (fun k => ?_) (Ev.step (fun k => (impl_WindowMax.j0.eq_2 ..).trans (if_neg (by simp))) h2)⟩
    · rw [if_pos ha, e1]
      rfl
    · simp only [impl_WindowMax.f, impl_areValues.f, ha]
      rw [if_neg hne, e2]
      rfl


/-- 0 + 1 + .. + (n - 1), and the same of the squares. -/
def sumI : Nat → Nat
  | 0 => 0
  | n + 1 => sumI n + n
def sumQ : Nat → Nat
  | 0 => 0
  | n + 1 => sumQ n + n * n
theorem sums_small : ∀ n, n ≤ 100 → sumI n ≤ 10000 ∧ sumQ n ≤ 1000000 := by decide +kernel
theorem spread : ∀ n, n ≤ 100 → 2 ≤ n → sumI n * sumI n + 1 ≤ n * sumQ n ∧ n * sumQ n ≤ 100000000 := by decide +kernel

theorem gcd1 : ∀ (m n : Nat), Ev (fun k => spec_l11Gcd.l0 k (m : Int) (n : Int)) ((Nat.gcd n m : Nat) : Int) := by
  intro m n
  induction n using Nat.strongRecOn generalizing m with
  | _ n ih =>
    by_cases h : n = 0
    · subst h
      refine Ev.step (f := fun _ => some (m : Int)) (fun k => ?_) ?_
      · simp only [spec_l11Gcd.l0]
        rw [if_pos (by omega)]
      · simpa using Ev.now (m : Int)
    · have e : Nat.gcd n m = Nat.gcd (m % n) n := Nat.gcd_rec n m
      rw [e]
      refine Ev.step (fun k => ?_) (ih (m % n) (Nat.mod_lt _ (by omega)) n)
      simp only [spec_l11Gcd.l0]
      rw [if_neg (by omega), ← Int.ofNat_tmod]

theorem gcd2 : ∀ (N : Nat) (a b : Int), b.natAbs = N → a.natAbs ≤ 9223372036854775807 → b.natAbs ≤ 9223372036854775807 → Ev (fun k => impl_gcd.l0 k a b) ((Nat.gcd b.natAbs a.natAbs : Nat) : Int) := by
  intro N
  induction N using Nat.strongRecOn with
  | _ N ih =>
    intro a b hb ha hb'
    by_cases h : b = 0
    · subst h
      refine Ev.step (f := fun _ => some ((a.natAbs : Nat) : Int)) (fun k => ?_) ?_
      · simp only [impl_gcd.l0]
        rw [if_pos trivial, w_id (by omega) (by omega)]
        congr 1
        unfold mx
        omega
      · simpa using Ev.now ((a.natAbs : Nat) : Int)
    · have e : Nat.gcd b.natAbs a.natAbs = Nat.gcd (Int.tmod a b).natAbs b.natAbs := by
        rw [Int.natAbs_tmod]
        exact Nat.gcd_rec _ _
      have hlt : (Int.tmod a b).natAbs < b.natAbs := by
        rw [Int.natAbs_tmod]
        exact Nat.mod_lt _ (by omega)
      rw [e]
      refine Ev.step (fun k => ?_) (ih (Int.tmod a b).natAbs (by omega) b (Int.tmod a b) rfl hb' (by omega))
      simp only [impl_gcd.l0]
      rw [if_neg h]

theorem gcd_same (a : Int) (n : Nat) (ha : a.natAbs ≤ 9223372036854775807) (hn : n ≤ 9223372036854775807) (h0 : n ≠ 0) :
    ∃ g : Int, g ≠ 0 ∧ Ev (fun k => spec_l11Gcd.f k a (n : Int)) g ∧ Ev (fun k => impl_gcd.f k a (n : Int)) g := by
  refine ⟨((Nat.gcd n a.natAbs : Nat) : Int), ?_, ?_, ?_⟩
  · have := Nat.gcd_pos_of_pos_left a.natAbs (by omega : 0 < n)
    omega
  · by_cases h : a < 0
    · refine Ev.congr (fun k => if_pos h) (Ev.step (f := fun k => spec_l11Gcd.l0 k ((a.natAbs : Nat) : Int) (n : Int)) (fun k => ?_) (gcd1 a.natAbs n))
      simp only [spec_l11Gcd.j0]
      rw [w_id (by omega) (by omega)]
      congr 1
      omega
    · refine Ev.congr (fun k => if_neg h) (Ev.step (f := fun k => spec_l11Gcd.l0 k ((a.natAbs : Nat) : Int) (n : Int)) (fun k => ?_) (gcd1 a.natAbs n))
      simp only [spec_l11Gcd.j0]
      congr 1
      omega
  · have := gcd2 n a (n : Int) (by omega) ha (by omega)
    simpa [impl_gcd.f] using this

theorem slope_bad (l : List Int) (hl : l.length ≤ 100) : ∀ (d n : Nat) (x y xx xy : Int), n + d = l.length → sized (l.drop n) = false →
    Ev (fun k => impl_SlopeOf.l0 k (l.length : Int) x y xx xy l (l.length : Int) (n : Int)) (0, 1, false)
  | 0, n, x, y, xx, xy, h, hs => by
    rw [drop_end l n (by omega)] at hs
    exact absurd hs (by simp [sized])
  | d + 1, n, x, y, xx, xy, h, hs => by
    have e : sized (l.drop n) = ((decide (0 ≤ rd l (n : Int)) && decide (rd l (n : Int) ≤ 1000000000)) && sized (l.drop (n + 1))) := by
      rw [drop_cons l 0 n (by omega)]
      rfl
    rw [e] at hs
    cases hb : (decide (0 ≤ rd l (n : Int)) && decide (rd l (n : Int) ≤ 1000000000)) with
    | false =>
      refine Ev.step (f := fun _ => some (0, 1, false)) (fun k => ?_) (Ev.now _)
      simp only [impl_SlopeOf.l0]
      rw [if_pos (by omega), if_pos (by omega), if_pos (by omega), isSize, hb]
      rfl
    | true =>
      rw [hb, Bool.true_and] at hs
      refine Ev.step (fun k => ?_) (slope_bad l hl d (n + 1) (wrap64 (x + n)) (wrap64 (y + rd l n)) (wrap64 (xx + wrap64 ((n : Int) * n))) (wrap64 (xy + wrap64 (n * rd l n))) (by omega) hs)
      simp only [impl_SlopeOf.l0]
      rw [if_pos (by omega), if_pos (by omega), if_pos (by omega), isSize, hb]
      simp only [Option.bind_some]
      rw [if_pos trivial, w_succ n (by omega)]

theorem mul_small (n : Nat) (v : Int) (hn : n ≤ 100) (h0 : 0 ≤ v) (h1 : v ≤ 1000000000) : 0 ≤ (n : Int) * v ∧ (n : Int) * v ≤ 100000000000 := by
  have a := Int.mul_nonneg (by omega : 0 ≤ (n : Int)) h0
  have b : (n : Int) * v ≤ 100 * 1000000000 := Int.mul_le_mul (by omega) h1 h0 (by omega)
  omega

theorem den_ok (a b : Nat) (h : b + 1 ≤ a) (ha : a ≤ 100000000) : wrap64 (wrap64 (a : Int) - wrap64 (b : Int)) = ((a - b : Nat) : Int) := by
  rw [w_id (x := (a : Int)) (by omega) (by omega), w_id (x := (b : Int)) (by omega) (by omega), w_id (by omega) (by omega)]
  omega
theorem den_le (a b : Nat) (ha : a ≤ 100000000) : a - b ≤ 9223372036854775807 := by omega
theorem den_pos (a b : Nat) (h : b + 1 ≤ a) : a - b ≠ 0 := by omega
theorem up_ok (a b : Int) (h1 : 0 ≤ a ∧ a ≤ 100 * 10000000000000) (h2 : 0 ≤ b ∧ b ≤ 10000 * 100000000000) : (a - b).natAbs ≤ 9223372036854775807 := by omega

theorem slope_good (l : List Int) (hl : l.length ≤ 100) (h2 : 2 ≤ l.length) (hs : sized l = true) : ∀ (d n : Nat) (y xy : Int), n + d = l.length → 0 ≤ y → y ≤ n * 1000000000 → 0 ≤ xy → xy ≤ n * 100000000000 →
    ∃ a b c, Ev (fun k => spec_SlopeOf.l0 k l (l.length : Int) xy ((sumI n : Nat) : Int) y ((sumQ n : Nat) : Int) (n : Int)) (a, b, c) ∧
      Ev (fun k => impl_SlopeOf.l0 k (l.length : Int) ((sumI n : Nat) : Int) y ((sumQ n : Nat) : Int) xy l (l.length : Int) (n : Int)) (a, b, c) := by
  intro d
  induction d with
  | zero =>
    intro n y xy h y0 y1 z0 z1
    have hn : n = l.length := by omega
    have sm := sums_small n (by omega)
    have sp := spread n (by omega) (by omega)
    have m1 : 0 ≤ (n : Int) * xy ∧ (n : Int) * xy ≤ 100 * 10000000000000 := ⟨Int.mul_nonneg (by omega) z0, Int.mul_le_mul (by omega) (by omega) z0 (by omega)⟩
    have m2 : 0 ≤ ((sumI n : Nat) : Int) * y ∧ ((sumI n : Nat) : Int) * y ≤ 10000 * 100000000000 := ⟨Int.mul_nonneg (by omega) y0, Int.mul_le_mul (by omega) (by omega) y0 (by omega)⟩
    have m3 : (n : Int) * ((sumQ n : Nat) : Int) = ((n * sumQ n : Nat) : Int) := by simp
    have m4 : ((sumI n : Nat) : Int) * ((sumI n : Nat) : Int) = ((sumI n * sumI n : Nat) : Int) := by simp
    have e1 : wrap64 ((n : Int) * xy) = (n : Int) * xy := w_id (by omega) (by omega)
    have e2 : wrap64 (((sumI n : Nat) : Int) * y) = ((sumI n : Nat) : Int) * y := w_id (by omega) (by omega)
    have e3 : wrap64 ((n : Int) * xy - ((sumI n : Nat) : Int) * y) = (n : Int) * xy - ((sumI n : Nat) : Int) * y := w_id (by omega) (by omega)
    have e4 := den_ok _ _ sp.1 sp.2
    obtain ⟨g, g0, g1, g2⟩ := gcd_same ((n : Int) * xy - ((sumI n : Nat) : Int) * y) (n * sumQ n - sumI n * sumI n) (up_ok _ _ m1 m2) (den_le _ _ sp.2) (den_pos _ _ sp.1)
    refine ⟨wrap64 (Int.tdiv ((n : Int) * xy - ((sumI n : Nat) : Int) * y) g), wrap64 (Int.tdiv ((n * sumQ n - sumI n * sumI n : Nat) : Int) g), true, ?_, ?_⟩
    · refine Ev.step (fun k => ?_) (Ev.bind (f := fun _ t => if t = 0 then none else some (wrap64 (Int.tdiv ((n : Int) * xy - ((sumI n : Nat) : Int) * y) t), wrap64 (Int.tdiv ((n * sumQ n - sumI n * sumI n : Nat) : Int) t), true)) g1 (Ev.congr (fun k => if_neg g0) (Ev.now _)))
      simp only [spec_SlopeOf.l0]
      rw [if_neg (by omega), ← hn, e1, e2, e3, m3, m4, e4]
    · refine Ev.step (fun k => ?_) (Ev.bind (f := fun _ t => if t = 0 then none else some (wrap64 (Int.tdiv ((n : Int) * xy - ((sumI n : Nat) : Int) * y) t), wrap64 (Int.tdiv ((n * sumQ n - sumI n * sumI n : Nat) : Int) t), true)) g2 (Ev.congr (fun k => if_neg g0) (Ev.now _)))
      simp only [impl_SlopeOf.l0]
      rw [if_neg (by omega), ← hn, e1, e2, e3, m3, m4, e4]
  | succ d ih =>
    intro n y xy h y0 y1 z0 z1
    have b1 := sized_at l hs n (by omega)
    have sm := sums_small n (by omega)
    have sm' := sums_small (n + 1) (by omega)
    obtain ⟨p0, p1⟩ := mul_small n _ (by omega) b1.1 b1.2
    have e1 : wrap64 ((n : Int) * rd l (n : Int)) = (n : Int) * rd l (n : Int) := w_id (by omega) (by omega)
    have e2 : wrap64 (xy + (n : Int) * rd l (n : Int)) = xy + (n : Int) * rd l (n : Int) := w_id (by omega) (by omega)
    have e3 : wrap64 (((sumI n : Nat) : Int) + (n : Int)) = ((sumI (n + 1) : Nat) : Int) := by
      have : sumI (n + 1) = sumI n + n := rfl
      rw [w_id (by omega) (by omega), this]
      simp
    have e4 : wrap64 (y + rd l (n : Int)) = y + rd l (n : Int) := w_id (by omega) (by omega)
    have q1 : (n : Int) * (n : Int) = ((n * n : Nat) : Int) := by simp
    have q2 : sumQ (n + 1) = sumQ n + n * n := rfl
    have e5 : wrap64 ((n : Int) * (n : Int)) = ((n * n : Nat) : Int) := by
      rw [q1]
      exact w_id (by omega) (by omega)
    have e6 : wrap64 (((sumQ n : Nat) : Int) + ((n * n : Nat) : Int)) = ((sumQ (n + 1) : Nat) : Int) := by
      rw [w_id (by omega) (by omega), q2]
      simp
    obtain ⟨a, b, c, h1, h2⟩ := ih (n + 1) (y + rd l (n : Int)) (xy + (n : Int) * rd l (n : Int)) (by omega) (by omega) (by omega) (by omega) (by omega)
    have hz := isSize (rd l (n : Int))
    rw [decide_eq_true b1.1, decide_eq_true b1.2] at hz
    refine ⟨a, b, c, Ev.step (fun k => ?_) h1, Ev.step (fun k => ?_) h2⟩
    · simp only [spec_SlopeOf.l0]
      rw [if_pos (by omega), if_pos (by omega), if_pos (by omega), e1, e2, e3, e4, e5, e6, w_succ n (by omega)]
    · simp only [impl_SlopeOf.l0]
      rw [if_pos (by omega), if_pos (by omega), if_pos (by omega), hz]
      simp only [Option.bind_some]
      rw [if_pos (by rfl), e1, e2, e3, e4, e5, e6, w_succ n (by omega)]

theorem slope_same (l : List Int) (hl : l.length ≤ 1048576) : ∃ a b c, Ev (fun k => spec_SlopeOf.f k l) (a, b, c) ∧ Ev (fun k => impl_SlopeOf.f k l) (a, b, c) ∧ (c = true → 2 ≤ l.length ∧ sized l = true) := by
  by_cases h1 : 2 ≤ l.length ∧ l.length ≤ 100
  rotate_left
  · have e1 : spec_l01In.f (l.length : Int) 2 100 = some false := by
      rw [in1]
      simp
      omega
    have e2 : impl_in.f (l.length : Int) 2 100 = some false := by
      rw [in2]
      simp
      omega
    refine ⟨0, 1, false, Ev.congr (f := fun k => spec_SlopeOf.j0 k l (l.length : Int) true) (fun k => ?_) (Ev.step (fun k => (spec_SlopeOf.j0.eq_2 ..).trans (if_pos rfl)) (Ev.now _)), Ev.congr (fun k => ?_) (Ev.now _), by simp⟩
    · unfold spec_SlopeOf.f
      rw [e1]
      rfl
    · unfold impl_SlopeOf.f
      rw [e2]
      rfl
  have e1 : spec_l01In.f (l.length : Int) 2 100 = some true := by
    rw [in1]
    simp
    omega
  have e2 : impl_in.f (l.length : Int) 2 100 = some true := by
    rw [in2]
    simp
    omega
  have gS : ∀ {r}, Ev (fun k => spec_SlopeOf.j0 k l (l.length : Int) (!sized l)) r → Ev (fun k => spec_SlopeOf.f k l) r := by
    intro r h
    refine Ev.congr (f := fun k => (spec_l11Sizes.f k l).bind fun t => spec_SlopeOf.j0 k l (l.length : Int) (!t)) (fun k => ?_) (Ev.bind (sizes_ev l hl) h)
    unfold spec_SlopeOf.f
    rw [e1]
    rfl
  have gI : ∀ {r}, Ev (fun k => impl_SlopeOf.l0 k (l.length : Int) 0 0 0 0 l (l.length : Int) 0) r → Ev (fun k => impl_SlopeOf.f k l) r := by
    intro r h
    refine Ev.congr (fun k => ?_) h
    unfold impl_SlopeOf.f
    rw [e2]
    rfl
  cases hs : sized l with
  | false => exact ⟨0, 1, false, gS (Ev.step (fun k => (spec_SlopeOf.j0.eq_2 ..).trans (if_pos (by simp [hs]))) (Ev.now _)), gI (slope_bad l (by omega) l.length 0 0 0 0 0 (by omega) hs), by simp⟩
  | true =>
    obtain ⟨a, b, c, p, q⟩ := slope_good l (by omega) (by omega) hs l.length 0 0 0 (by omega) (by omega) (by omega) (by omega) (by omega)
    exact ⟨a, b, c, gS (Ev.step (fun k => (spec_SlopeOf.j0.eq_2 ..).trans (if_neg (by simp [hs]))) p), gI q, fun _ => ⟨h1.1, rfl⟩⟩


theorem fd_same (a b : Int) : spec_FloorDiv.f a b = impl_FloorDiv.f a b := rfl
theorem fd_some (a b : Int) : ∃ c, impl_FloorDiv.f a b = some c := by
  unfold impl_FloorDiv.f
  by_cases h : b < 1
  · exact ⟨_, if_pos h⟩
  · rw [if_neg h, if_neg (by omega)]
    split <;> exact ⟨_, rfl⟩
theorem cut_same (a : Int) : spec_l06Cut.f a 0 1000000000 = some (mn (mx a 0) 1000000000) := by
  unfold spec_l06Cut.f mn mx
  by_cases h1 : a < 0
  · rw [if_pos h1, if_pos h1, if_neg (by omega)]
  · rw [if_neg h1, if_neg h1]
    by_cases h2 : a > 1000000000
    · rw [if_pos h2, if_pos (by omega)]
    · rw [if_neg h2, if_neg (by omega)]

theorem fd_zero (b : Int) : impl_FloorDiv.f 0 b = some 0 := by
  unfold impl_FloorDiv.f
  by_cases h : b < 1
  · exact if_pos h
  · rw [if_neg h, if_neg (by omega)]
    simp [w_id]

theorem fc_same (l : List Int) (t : Int) (ht : t = 0) (hl : l.length ≤ 1048576) : ∃ v b, (b = true → 2 ≤ l.length ∧ v = rd l ((l.length - 1 : Nat) : Int)) ∧ Ev (fun k => spec_ForecastOf.f k l t) (v, b) ∧ Ev (fun k => impl_ForecastOf.f k l t) (v, b) := by
  obtain ⟨a, b, c, hs, hi, hc⟩ := slope_same l hl
  by_cases ok : c = true ∧ (0 ≤ t ∧ t ≤ 1000)
  rotate_left
  · refine ⟨0, false, by simp, Ev.bind hs ?_, Ev.bind hi ?_⟩
    · cases c with
      | false => exact Ev.congr (fun k => if_neg (by simp)) (Ev.step (fun k => (spec_ForecastOf.j0.eq_2 ..).trans (if_pos rfl)) (Ev.now _))
      | true =>
        have e : spec_l01In.f t 0 1000 = some false := by
          rw [in1]
          simp at ok ⊢
          omega
        refine Ev.congr (f := fun k => spec_ForecastOf.j0 k l t a b true) (fun k => ?_) (Ev.step (fun k => (spec_ForecastOf.j0.eq_2 ..).trans (if_pos rfl)) (Ev.now _))
        simp only [if_true]
        rw [e]
        rfl
    · cases c with
      | false => exact Ev.congr (fun k => if_neg (by simp)) (Ev.now _)
      | true =>
        have e : impl_in.f t 0 1000 = some false := by
          rw [in2]
          simp at ok ⊢
          omega
        refine Ev.congr (fun k => ?_) (Ev.now (0, false))
        simp only [if_true]
        rw [e]
        rfl
  obtain ⟨rfl, h0, h1⟩ := ok
  have h2 := (hc rfl).1
  have hz := sized_at l (hc rfl).2 (l.length - 1) (by omega)
  have e1 : spec_l01In.f t 0 1000 = some true := by
    rw [in1]
    simp
    omega
  have e2 : impl_in.f t 0 1000 = some true := by
    rw [in2]
    simp
    omega
  have el : wrap64 ((l.length : Int) - 1) = ((l.length - 1 : Nat) : Int) := by
    rw [w_id (by omega) (by omega)]
    omega
  obtain ⟨y, hy⟩ := fd_some (wrap64 (a * t)) b
  have y0 : y = 0 := by
    subst ht
    have e0 : wrap64 (a * 0) = 0 := by rw [Int.mul_zero]; exact w_id (by omega) (by omega)
    rw [e0, fd_zero] at hy
    exact (Option.some.inj hy).symm
  refine ⟨mn (mx (wrap64 (rd l ((l.length - 1 : Nat) : Int) + y)) 0) 1000000000, true, fun _ => ⟨h2, ?_⟩, Ev.bind hs ?_, Ev.bind hi ?_⟩
  · subst y0
    rw [Int.add_zero, w_id (by omega) (by omega)]
    unfold mn mx
    split <;> split <;> omega
  · refine Ev.congr (f := fun k => spec_ForecastOf.j0 k l t a b false) (fun k => ?_) (Ev.step (f := fun _ => some (mn (mx (wrap64 (rd l ((l.length - 1 : Nat) : Int) + y)) 0) 1000000000, true)) (fun k => ?_) (Ev.now _))
    · simp only [if_true]
      rw [e1]
      rfl
    · rw [spec_ForecastOf.j0.eq_2, if_neg (by simp), el, if_pos (by omega), if_pos (by omega), fd_same, hy]
      simp only [Option.bind_some]
      rw [cut_same]
      rfl
  · refine Ev.congr (fun k => ?_) (Ev.now (mn (mx (wrap64 (rd l ((l.length - 1 : Nat) : Int) + y)) 0) 1000000000, true))
    simp only [if_true]
    rw [e2]
    simp only [Option.bind_some]
    rw [if_pos trivial, el, if_pos (by omega), if_pos (by omega), hy]
    rfl


theorem runs_l0 (l : List Int) (hl : l.length ≤ 1048576) : ∀ (d n : Nat) (m r : Int), n + 1 + d = l.length → 0 ≤ r → r ≤ n + 1 → m ≤ n + 1 →
    ∃ v, v ≤ (l.length : Int) ∧ Ev (fun k => spec_RunsUp.l0 k l m r ((n + 1 : Nat) : Int)) v ∧ Ev (fun k => impl_RunsUp.l0 k l m r ((n + 1 : Nat) : Int)) v
  | 0, n, m, r, h, q0, q1, q2 => by
    refine ⟨m, by omega, Ev.step (f := fun _ => some m) (fun k => ?_) (Ev.now _), Ev.step (f := fun _ => some m) (fun k => ?_) (Ev.now _)⟩
    · simp only [spec_RunsUp.l0]
      rw [if_neg (by omega)]
    · simp only [impl_RunsUp.l0]
      rw [if_neg (by omega)]
  | d + 1, n, m, r, h, q0, q1, q2 => by
    have ew : wrap64 (r + 1) = r + 1 := w_id (by omega) (by omega)
    by_cases c : rd l ((n + 1 : Nat) : Int) > rd l (n : Int)
    · obtain ⟨v, hv, h1, h2⟩ := runs_l0 l hl d (n + 1) (mx m (wrap64 (r + 1))) (wrap64 (r + 1)) (by omega) (by omega) (by omega) (by rw [ew]; unfold mx; split <;> omega)
      refine ⟨v, hv, Ev.step (f := fun k => spec_RunsUp.j1 k l m r ((n + 1 : Nat) : Int) true) (fun k => ?_) (Ev.step (fun k => ?_) h1), Ev.step (fun k => ?_) h2⟩
      · simp only [spec_RunsUp.l0]
        rw [if_pos (by omega), if_neg (by omega), if_pos (by omega), w_pred n (by omega), if_pos (by omega), if_pos (by omega), decide_eq_true c]
      · simp only [spec_RunsUp.j1]
        rw [if_pos trivial, w_succ (n + 1) (by omega)]
        unfold mx
        simp only [gt_iff_lt]
        split <;> rfl
      · simp only [impl_RunsUp.l0]
        rw [if_pos (by omega), if_pos (by omega), w_pred n (by omega), if_pos (by omega), if_pos (by omega), if_neg (by omega), w_succ (n + 1) (by omega)]
    · obtain ⟨v, hv, h1, h2⟩ := runs_l0 l hl d (n + 1) (mx m 1) 1 (by omega) (by omega) (by omega) (by unfold mx; split <;> omega)
      refine ⟨v, hv, Ev.step (f := fun k => spec_RunsUp.j1 k l m r ((n + 1 : Nat) : Int) false) (fun k => ?_) (Ev.step (fun k => ?_) h1), Ev.step (fun k => ?_) h2⟩
      · simp only [spec_RunsUp.l0]
        rw [if_pos (by omega), if_neg (by omega), if_pos (by omega), w_pred n (by omega), if_pos (by omega), if_pos (by omega), decide_eq_false c]
      · simp only [spec_RunsUp.j1]
        rw [if_neg (by simp), w_succ (n + 1) (by omega)]
        unfold mx
        simp only [gt_iff_lt]
        split <;> rfl
      · simp only [impl_RunsUp.l0]
        rw [if_pos (by omega), if_pos (by omega), w_pred n (by omega), if_pos (by omega), if_pos (by omega), if_pos (by omega), w_succ (n + 1) (by omega)]

theorem runs_same (l : List Int) (hl : l.length ≤ 1048576) : ∃ v, v ≤ (l.length : Int) ∧ Ev (fun k => spec_RunsUp.f k l) v ∧ Ev (fun k => impl_RunsUp.f k l) v := by
  by_cases h0 : (l.length : Int) > 300
  · refine ⟨0, by omega, Ev.congr (fun k => ?_) (Ev.now 0), Ev.congr (fun k => ?_) (Ev.now 0)⟩
    · simp only [spec_RunsUp.f]
      rw [if_pos h0]
    · simp only [impl_RunsUp.f, impl_in.f]
      rw [if_pos (by omega), decide_eq_false (by omega)]
      rfl
  by_cases h1 : l.length = 0
  · refine ⟨0, by omega, Ev.congr (f := fun k => spec_RunsUp.l0 k l 0 0 0) (fun k => ?_) (Ev.step (f := fun _ => some 0) (fun k => ?_) (Ev.now 0)), Ev.congr (fun k => ?_) (Ev.now 0)⟩
    · simp only [spec_RunsUp.f]
      rw [if_neg h0]
    · simp only [spec_RunsUp.l0]
      rw [if_neg (by omega)]
    · simp only [impl_RunsUp.f, impl_in.f]
      rw [if_neg (by omega)]
      rfl
  obtain ⟨v, hv, h2, h3⟩ := runs_l0 l hl (l.length - 1) 0 1 1 (by omega) (by omega) (by omega) (by omega)
  refine ⟨v, hv, Ev.congr (f := fun k => spec_RunsUp.l0 k l 0 0 0) (fun k => ?_) (Ev.step (f := fun k => spec_RunsUp.j1 k l 0 0 0 true) (fun k => ?_) (Ev.step (fun k => ?_) h2)), Ev.congr (fun k => ?_) h3⟩
  · simp only [spec_RunsUp.f]
    rw [if_neg h0]
  · simp only [spec_RunsUp.l0]
    rw [if_pos (by omega), if_pos trivial]
  · simp only [spec_RunsUp.j1]
    rw [if_pos trivial, w_one, if_pos (by decide)]
    rfl
  · simp only [impl_RunsUp.f, impl_in.f]
    rw [if_pos (by omega), decide_eq_true (by omega)]
    rfl


/-! The draws. -/
theorem and255 (x : Int) : 0 ≤ Go.bits .and .i64 x 255 ∧ Go.bits .and .i64 x 255 ≤ 255 := by
  have h : (BitVec.ofInt 64 x &&& BitVec.ofInt 64 255).toNat ≤ 255 := by
    rw [BitVec.toNat_and]
    exact Nat.and_le_right
  have e : Go.bits .and .i64 x 255 = IntKind.i64.wrap ((BitVec.ofInt 64 x &&& BitVec.ofInt 64 255).toNat : Int) := rfl
  rw [e, IntKind.wrap_i64]
  omega

/-- A cursor's place. -/
def At (l : List Int) (i : Int) : Prop := 0 ≤ i ∧ i ≤ (l.length : Int)

theorem byte_ok (l : List Int) (hl : l.length ≤ 1048576) (i h : Int) (hi : At l i) : ∃ x i' h', spec_l01Byte.f l i h = some (x, i', h') ∧ 0 ≤ x ∧ x ≤ 255 ∧ At l i' := by
  unfold At at *
  unfold spec_l01Byte.f
  by_cases c : i < (l.length : Int)
  · rw [if_pos c, if_pos hi.1]
    refine ⟨_, _, _, rfl, (and255 _).1, (and255 _).2, ?_⟩
    rw [w_id (by omega) (by omega)]
    omega
  · rw [if_neg c]
    exact ⟨_, _, _, rfl, (and255 _).1, (and255 _).2, hi⟩

theorem below_ok (l : List Int) (hl : l.length ≤ 1048576) (i h : Int) (hi : At l i) (a : Int) : ∃ x i' h', spec_l01Below.f l i h a = some (x, i', h') ∧ 0 ≤ x ∧ (0 < a → x < a) ∧ (a ≤ 0 → x = 0) ∧ At l i' := by
  unfold spec_l01Below.f
  by_cases c : a ≤ 0
  · rw [if_pos c]
    exact ⟨_, _, _, rfl, by omega, by omega, by omega, hi⟩
  rw [if_neg c]
  by_cases c2 : a ≤ 256
  · obtain ⟨x, i', h', e, x0, x1, hi'⟩ := byte_ok l hl i h hi
    rw [if_pos c2, e]
    simp only [Option.bind_some]
    rw [if_neg (by omega)]
    exact ⟨_, _, _, rfl, Int.tmod_nonneg _ x0, fun h2 => Int.tmod_lt_of_pos _ h2, by omega, hi'⟩
  · obtain ⟨x, i1, h1, e, x0, x1, hi1⟩ := byte_ok l hl i h hi
    obtain ⟨y, i2, h2, e2, y0, y1, hi2⟩ := byte_ok l hl i1 h1 hi1
    obtain ⟨z, i3, h3, e3, z0, z1, hi3⟩ := byte_ok l hl i2 h2 hi2
    rw [if_neg c2, e]
    simp only [Option.bind_some]
    rw [e2]
    simp only [Option.bind_some]
    rw [e3]
    simp only [Option.bind_some]
    rw [if_neg (by omega)]
    have ew : wrap64 (wrap64 (wrap64 (x * 65536) + wrap64 (y * 256)) + z) = x * 65536 + y * 256 + z := by
      rw [w_id (x := x * 65536) (by omega) (by omega), w_id (x := y * 256) (by omega) (by omega), w_id (x := x * 65536 + y * 256) (by omega) (by omega), w_id (by omega) (by omega)]
    refine ⟨_, _, _, rfl, Int.tmod_nonneg _ ?_, fun h2 => Int.tmod_lt_of_pos _ h2, by omega, hi3⟩
    rw [ew]
    omega

theorem pick_ok (l : List Int) (hl : l.length ≤ 1048576) (i h : Int) (hi : At l i) (xs : List Int) (hx : xs ≠ []) : ∃ x i' h', spec_l01PickInt.f l i h xs = some (x, i', h') ∧ x ∈ xs ∧ At l i' := by
  have hp : 0 < xs.length := List.length_pos_iff.2 hx
  obtain ⟨n, i', h', e, n0, n1, _, hi'⟩ := below_ok l hl i h hi (xs.length : Int)
  have n2 := n1 (by omega)
  unfold spec_l01PickInt.f
  rw [e]
  simp only [Option.bind_some]
  rw [if_pos n0, if_pos n2]
  obtain ⟨m, rfl⟩ := Int.eq_ofNat_of_zero_le n0
  refine ⟨_, _, _, rfl, ?_, hi'⟩
  have hm : m < xs.length := by omega
  rw [show rd xs ((m : Nat) : Int) = xs.getD m 0 from rfl]
  simp [List.getD, List.getElem?_eq_getElem hm]

theorem once_ok (l : List Int) (hl : l.length ≤ 1048576) (i h : Int) (hi : At l i) (a : Int) : ∃ b i' h', spec_l01Once.f l i h a = some (b, i', h') ∧ At l i' := by
  obtain ⟨n, i', h', e, _, _, _, hi'⟩ := below_ok l hl i h hi a
  unfold spec_l01Once.f
  rw [e]
  exact ⟨_, _, _, rfl, hi'⟩

theorem drawSize_ok (l : List Int) (hl : l.length ≤ 1048576) (i h : Int) (hi : At l i) : ∃ x i' h', spec_l01DrawSize.f l i h = some (x, i', h') ∧ At l i' := by
  obtain ⟨a, i1, h1, e1, _, _, _, hi1⟩ := below_ok l hl i h hi 100
  obtain ⟨b, i2, h2, e2, _, _, _, hi2⟩ := below_ok l hl i1 h1 hi1 100
  obtain ⟨c, i3, h3, e3, _, _, _, hi3⟩ := below_ok l hl i2 h2 hi2 16777216
  obtain ⟨d, i4, h4, e4, _, hi4⟩ := pick_ok l hl i3 h3 hi3 [0, 1, a, wrap64 (b * 1000), c, 1000000000, 999999999, 1000000001, (-1)] (by simp)
  unfold spec_l01DrawSize.f
  rw [e1]
  simp only [Option.bind_some]
  rw [e2]
  simp only [Option.bind_some]
  rw [e3]
  simp only [Option.bind_some]
  rw [e4]
  exact ⟨_, _, _, rfl, hi4⟩

theorem drawValue_ok (l : List Int) (hl : l.length ≤ 1048576) (i h : Int) (hi : At l i) : ∃ x i' h', spec_l01DrawValue.f l i h = some (x, i', h') ∧ At l i' := by
  obtain ⟨a, i1, h1, e1, hi1⟩ := drawSize_ok l hl i h hi
  obtain ⟨b, i2, h2, e2, hi2⟩ := once_ok l hl i1 h1 hi1 3
  unfold spec_l01DrawValue.f
  rw [e1]
  simp only [Option.bind_some]
  rw [e2]
  simp only [Option.bind_some]
  split <;> exact ⟨_, _, _, rfl, hi2⟩

theorem new_l0 (l : List Int) (hl : l.length ≤ 1048576) : ∀ (d n : Nat) (x : Int), n + d = l.length → ∃ h, Ev (fun k => spec_l01New.l0 k l x (n : Int)) (l, 0, h)
  | 0, n, x, e => ⟨x, Ev.step (f := fun _ => some (l, 0, x)) (fun k => by rw [spec_l01New.l0, if_neg (by omega)]) (Ev.now _)⟩
  | d + 1, n, x, e => by
    by_cases c : (n : Int) < 4000
    · obtain ⟨h, hh⟩ := new_l0 l hl d (n + 1) (Go.bits .and .i64 (wrap64 ((wrap64 ((wrap64 (x * 149)) + (wrap64 (rd l (n : Int))))) + 11)) 1073741823) (by omega)
      refine ⟨h, Ev.step (fun k => ?_) hh⟩
      rw [spec_l01New.l0, if_pos (by omega), if_pos c, if_pos (by omega), w_succ n (by omega)]
    · exact ⟨x, Ev.step (f := fun _ => some (l, 0, x)) (fun k => by rw [spec_l01New.l0, if_pos (by omega), if_neg c]) (Ev.now _)⟩
theorem new_ev (l : List Int) (hl : l.length ≤ 1048576) : ∃ h, Ev (fun k => spec_l01New.f k l) (l, 0, h) := new_l0 l hl l.length 0 _ (by omega)

theorem list_l0 (l : List Int) (hl : l.length ≤ 1048576) (m : Int) (hm : m ≤ 301) (p q : Int) : ∀ (d n : Nat) (out : List Int) (i h : Int), m.toNat = n + d → out.length = n → At l i →
    ∃ ys i' h', Ev (fun k => spec_l11DrawList.l0 k out m p q (n : Int) l i h) (ys, i', h') ∧ ys.length ≤ 301 ∧ At l i'
  | 0, n, out, i, h, e, ho, hi => by
    refine ⟨out, i, h, Ev.step (f := fun _ => some (out, i, h)) (fun k => ?_) (Ev.now _), by omega, hi⟩
    rw [spec_l11DrawList.l0.eq_2, if_neg (by omega)]
  | d + 1, n, out, i, h, e, ho, hi => by
    obtain ⟨a, i1, h1, e1, _, _, _, hi1⟩ := below_ok l hl i h hi 100
    obtain ⟨b, i2, h2, e2, hi2⟩ := once_ok l hl i1 h1 hi1 30
    cases b with
    | true =>
      obtain ⟨c, i3, h3, e3, hi3⟩ := drawValue_ok l hl i2 h2 hi2
      obtain ⟨ys, i', h', H, hy, hi'⟩ := list_l0 l hl m hm p q d (n + 1) (out ++ [c]) i3 h3 (by omega) (by simp [ho]) hi3
      refine ⟨ys, i', h', Ev.step (fun k => ?_) H, hy, hi'⟩
      rw [spec_l11DrawList.l0.eq_2, if_pos (by omega), e1]
      simp only [Option.bind_some]
      rw [e2]
      simp only [Option.bind_some]
      rw [if_pos trivial, e3]
      simp only [Option.bind_some]
      rw [if_pos (by omega), w_succ n (by omega)]
    | false =>
      obtain ⟨ys, i', h', H, hy, hi'⟩ := list_l0 l hl m hm p q d (n + 1) (out ++ [wrap64 ((wrap64 (p + (wrap64 ((n : Int) * q)))) + a)]) i2 h2 (by omega) (by simp [ho]) hi2
      refine ⟨ys, i', h', Ev.step (fun k => ?_) H, hy, hi'⟩
      rw [spec_l11DrawList.l0.eq_2, if_pos (by omega), e1]
      simp only [Option.bind_some]
      rw [e2]
      simp only [Option.bind_some]
      rw [if_neg (by simp), if_pos (by omega), w_succ n (by omega)]

theorem list_j0 (l : List Int) (hl : l.length ≤ 1048576) (m : Int) (hm : m ≤ 301) (i h : Int) (hi : At l i) :
    ∃ ys i' h', Ev (fun k => spec_l11DrawList.j0 k [] m l i h) (ys, i', h') ∧ ys.length ≤ 301 ∧ At l i' := by
  obtain ⟨a, i1, h1, e1, _, _, _, hi1⟩ := below_ok l hl i h hi 1000
  obtain ⟨b, i2, h2, e2, _, _, _, hi2⟩ := below_ok l hl i1 h1 hi1 40
  obtain ⟨ys, i', h', H, hy, hi'⟩ := list_l0 l hl m hm a b m.toNat 0 [] i2 h2 (by omega) rfl hi2
  refine ⟨ys, i', h', Ev.step (fun k => ?_) H, hy, hi'⟩
  rw [spec_l11DrawList.j0.eq_2, e1]
  simp only [Option.bind_some]
  rw [e2]
  rfl

theorem size_ok (l : List Int) : ∃ v, spec_l01Size.f l 20 = some v ∧ v ≤ 20 := by
  unfold spec_l01Size.f
  by_cases c : wrap64 (2 + wrap64 ((l.length : Int) / 16)) > 20
  · rw [if_pos c]
    exact ⟨20, rfl, by omega⟩
  · rw [if_neg c]
    exact ⟨_, rfl, by omega⟩

theorem list_ev (l : List Int) (hl : l.length ≤ 1048576) (i h : Int) (hi : At l i) : ∃ ys i' h', Ev (fun k => spec_l11DrawList.f k l i h l) (ys, i', h') ∧ ys.length ≤ 301 ∧ At l i' := by
  obtain ⟨z, ez, hz⟩ := size_ok l
  obtain ⟨a, i1, h1, e1, a0, a1, a2, hi1⟩ := below_ok l hl i h hi z
  obtain ⟨b, i2, h2, e2, hi2⟩ := once_ok l hl i1 h1 hi1 30
  have Z : Ev (fun _ => spec_l01Size.f l 20) z := Ev.congr (fun _ => ez) (Ev.now z)
  have A1 : Ev (fun _ => spec_l01Below.f l i h z) (a, i1, h1) := Ev.congr (fun _ => e1) (Ev.now _)
  have A2 : Ev (fun _ => spec_l01Once.f l i1 h1 30) (b, i2, h2) := Ev.congr (fun _ => e2) (Ev.now _)
  cases b with
  | true =>
    obtain ⟨c, i3, h3, e3, hc, hi3⟩ := pick_ok l hl i2 h2 hi2 [100, 101, 300, 301] (by simp)
    have hc' : c ≤ 301 := by
      simp only [List.mem_cons, List.not_mem_nil, or_false] at hc
      rcases hc with hc | hc | hc | hc <;> rw [hc] <;> decide
    have A3 : Ev (fun _ => spec_l01PickInt.f l i2 h2 [100, 101, 300, 301]) (c, i3, h3) := Ev.congr (fun _ => e3) (Ev.now _)
    obtain ⟨ys, i', h', H, hy, hi'⟩ := list_j0 l hl c hc' i3 h3 hi3
    exact ⟨ys, i', h', Ev.bind (Ev.now ([] : List Int)) (Ev.bind Z (Ev.bind A1 (Ev.bind A2 (Ev.congr (fun k => if_pos rfl) (Ev.bind A3 H))))), hy, hi'⟩
  | false =>
    obtain ⟨ys, i', h', H, hy, hi'⟩ := list_j0 l hl a (by by_cases c : 0 < z <;> omega) i2 h2 hi2
    exact ⟨ys, i', h', Ev.bind (Ev.now ([] : List Int)) (Ev.bind Z (Ev.bind A1 (Ev.bind A2 (Ev.congr (fun k => if_neg (by simp)) H)))), hy, hi'⟩

theorem draw_ev (l : List Int) (hl : l.length ≤ 1048576) : ∃ ys w, Ev (fun k => spec_DrawWindowMax.f k l) (ys, w) ∧ ys.length ≤ 301 := by
  obtain ⟨h, H1⟩ := new_ev l hl
  obtain ⟨ys, i2, h2, H2, hy, hi2⟩ := list_ev l hl 0 h ⟨by omega, by omega⟩
  obtain ⟨w, i3, h3, e3, _, hi3⟩ := pick_ok l hl i2 h2 hi2 [1, 2, 3, 5, 300, 301, 0] (by simp)
  refine ⟨ys, w, ?_, hy⟩
  unfold spec_DrawWindowMax.f
  refine Ev.bind H1 (Ev.bind H2 (Ev.congr (fun k => ?_) (Ev.now _)))
  rw [e3]
  rfl

/-! The law. -/
theorem range_ev (l : List Int) (hl : l.length ≤ 1048576) : ∃ a b c, Ev (fun k => impl_RangeOf.f k l) (a, b, c) := by
  by_cases h0 : l = []
  · subst h0
    exact ⟨0, 0, false, Ev.congr (fun k => if_pos rfl) (Ev.step (fun k => (impl_RangeOf.j0.eq_2 ..).trans (if_pos rfl)) (Ev.now _))⟩
  have hp : 0 < l.length := List.length_pos_iff.2 h0
  have hne : ¬ (l.length : Int) = 0 := by omega
  cases ha : areB l with
  | false =>
    refine ⟨0, 0, false, Ev.congr (f := fun k => impl_RangeOf.j0 k l true) (fun k => ?_) (Ev.step (fun k => (impl_RangeOf.j0.eq_2 ..).trans (if_pos rfl)) (Ev.now _))⟩
    simp only [impl_RangeOf.f, impl_areValues.f, ha]
    rw [if_neg hne]
    rfl
  | true =>
    obtain ⟨a, a1, a2, a3⟩ := min_ev l hl h0
    obtain ⟨b, b1, b2, b3⟩ := max_ev l hl h0
    refine ⟨a, b, true, Ev.congr (f := fun k => impl_RangeOf.j0 k l false) (fun k => ?_) (Ev.step (fun k => (impl_RangeOf.j0.eq_2 ..).trans (if_neg (by simp))) (Ev.bind a3 (Ev.bind b3 (Ev.now _))))⟩
    simp only [impl_RangeOf.f, impl_areValues.f, ha]
    rw [if_neg hne]
    rfl

theorem flat_ev (l : List Int) (hl : l.length ≤ 1048576) (t : Int) (ht : 0 ≤ t) (ht' : t ≤ 255) : ∃ u v, Ev (fun k => impl_FlatWithin.f k l t) u ∧ Ev (fun k => impl_FlatWithin.f k l (wrap64 (t + 1))) v ∧ (u = true → v = true) := by
  obtain ⟨a, b, c, hi⟩ := range_ev l hl
  have e : wrap64 (t + 1) = t + 1 := w_id (by omega) (by omega)
  cases c with
  | true =>
    refine ⟨decide (wrap64 (b - a) ≤ t), decide (wrap64 (b - a) ≤ wrap64 (t + 1)), Ev.bind hi (Ev.congr (fun k => if_pos rfl) (Ev.now _)), Ev.bind hi (Ev.congr (fun k => if_pos rfl) (Ev.now _)), fun h => ?_⟩
    rw [e]
    simp only [decide_eq_true_eq] at h ⊢
    omega
  | false => exact ⟨false, false, Ev.bind hi (Ev.congr (fun k => if_neg (by simp)) (Ev.now _)), Ev.bind hi (Ev.congr (fun k => if_neg (by simp)) (Ev.now _)), fun h => h⟩

theorem at_ok (l : List Int) (hl : l.length ≤ 1048576) (hb : ∀ x ∈ l, (Lit.int .u8 x).wf = true) : ∃ t, laws_at.f l 0 = some t ∧ 0 ≤ t ∧ t ≤ 255 := by
  unfold laws_at.f
  by_cases c : (0 : Int) < (l.length : Int)
  · rw [if_pos c, if_pos (by omega)]
    have hm : rd l 0 ∈ l := head_mem l (by intro e; rw [e] at c; simp at c)
    have hx := hb _ hm
    have h1 : 0 ≤ rd l 0 ∧ rd l 0 ≤ 255 := by
      have m1 : IntKind.u8.min = 0 := rfl
      have m2 : IntKind.u8.max = 255 := rfl
      simp [Lit.wf] at hx
      omega
    refine ⟨_, rfl, ?_⟩
    rw [w_id (by omega) (by omega)]
    exact h1
  · rw [if_neg c]
    have h0 : l.length = 0 := by omega
    have e : wrap64 (wrap64 (0 * 13) + wrap64 ((l.length : Int) * 5)) = 0 := by
      rw [h0]
      rw [w_id (x := 0 * 13) (by omega) (by omega), w_id (x := ((0 : Nat) : Int) * 5) (by omega) (by omega), w_id (by omega) (by omega)]
      rfl
    rw [e]
    exact ⟨_, rfl, by decide, by decide⟩

theorem same_l0 (ys : List Int) (hl : ys.length ≤ 1048576) : ∀ (d n : Nat), n + d = ys.length → Ev (fun k => laws_same.l0 k ys ys (n : Int)) true
  | 0, n, h => Ev.step (f := fun _ => some true) (fun k => by rw [laws_same.l0, if_neg (by omega)]) (Ev.now _)
  | d + 1, n, h => by
    refine Ev.step (fun k => ?_) (same_l0 ys hl d (n + 1) (by omega))
    rw [laws_same.l0, if_pos (by omega), if_pos (by omega), if_pos (by omega), if_pos rfl, w_succ n (by omega)]
theorem same_ev (ys : List Int) (hl : ys.length ≤ 1048576) : Ev (fun k => laws_same.f k ys ys) true := Ev.congr (fun k => if_pos rfl) (same_l0 ys hl ys.length 0 (by omega))

theorem end_ev (code l : List Int) (hc : code.length ≤ 1048576) (hb : ∀ x ∈ code, (Lit.int .u8 x).wf = true) (hl : l.length ≤ 1048576) (ys : List Int) (hy : ys.length ≤ l.length) (hg : ∀ i : Nat, i < ys.length → rd l (i : Int) ≤ rd ys (i : Int)) :
    ∀ (d n : Nat), n + d = ys.length → Ev (fun k => laws_FnWindows.l0 k code l ys (n : Int)) true
  | d + 1, n, h => by
    refine Ev.step (fun k => ?_) (end_ev code l hc hb hl ys hy hg d (n + 1) (by omega))
    have := hg n (by omega)
    rw [laws_FnWindows.l0.eq_2, if_pos (by omega), if_pos (by omega), if_pos (by omega), if_neg (by omega), w_succ n (by omega)]
  | 0, n, h => by
    obtain ⟨v, hv, r1, r2⟩ := runs_same l hl
    obtain ⟨t, et, t0, t1⟩ := at_ok code hc hb
    obtain ⟨x, b, hx, f1, f2⟩ := fc_same l 0 rfl hl
    obtain ⟨p, q, g1, g2, hpq⟩ := flat_ev l hl t t0 t1
    have fin : Ev (fun k => if (b != b) = true then some false else if x = x then (if b = true then (if 0 ≤ (wrap64 ((l.length : Int) - 1)) then (if (wrap64 ((l.length : Int) - 1)) < (l.length : Int) then (some (x == (rd l (wrap64 ((l.length : Int) - 1))))) else (none)) else (none)) else (some true)) else (some false)) true := by
      refine Ev.congr (fun k => ?_) (Ev.now true)
      rw [if_neg (by simp), if_pos rfl]
      cases b with
      | false => rfl
      | true =>
        obtain ⟨h2, h3⟩ := hx rfl
        have el : wrap64 ((l.length : Int) - 1) = ((l.length - 1 : Nat) : Int) := by
          rw [w_id (by omega) (by omega)]
          omega
        rw [if_pos rfl, el, if_pos (by omega), if_pos (by omega), h3]
        simp
    refine Ev.step (fun k => (laws_FnWindows.l0.eq_2 ..).trans (if_neg (by omega))) ?_
    have A : Ev (fun _ => laws_at.f code 0) t := Ev.congr (fun _ => et) (Ev.now t)
    have nv : ¬ v > (l.length : Int) := by omega
    refine Ev.bind r2 (Ev.bind A (Ev.bind f2 (Ev.bind f1 (Ev.bind r1 ?_))))
    refine Ev.congr (fun k => (if_pos rfl).trans (if_neg nv)) ?_
    refine Ev.bind g1 ?_
    cases p with
    | false => exact Ev.congr (fun k => if_neg (by simp)) fin
    | true =>
      have hq := hpq rfl
      subst hq
      exact Ev.congr (fun k => if_pos rfl) (Ev.bind g2 (Ev.congr (fun k => if_pos rfl) fin))
end Windows
open Windows

theorem FnWindows (l : List Int) (g : l.length ≤ maxLen ∧ ∀ x ∈ l, (Lit.int .u8 x).wf = true) : ∃ k, laws_FnWindows.f k l = some true := by
  have hb := g.2
  refine Ev.rounds ?_
  have B : Ev (fun _ => laws_big.f l) (decide ((l.length : Int) > 1048576)) := Ev.now _
  refine Ev.bind B ?_
  by_cases hl : (l.length : Int) > 1048576
  · exact Ev.congr (fun k => if_pos (decide_eq_true hl)) (Ev.now true)
  refine Ev.congr (fun k => if_neg (by simpa using hl)) ?_
  obtain ⟨ds, w, H, hd⟩ := draw_ev l (by omega)
  obtain ⟨ys, b, hy, hg, hs, hi⟩ := win_same ds w (by omega)
  have E := end_ev l ds (by omega) hb (by omega) ys hy hg ys.length 0 (by omega)
  refine Ev.bind H (Ev.bind hs (Ev.bind hi ?_))
  refine Ev.congr (fun k => if_neg (by simp)) (Ev.bind (same_ev ys (by omega)) ?_)
  exact Ev.step (fun k => (laws_FnWindows.j0.eq_2 ..).trans (if_neg (by simp))) E

end Go.Proofs.Ytlkglpnccddeeaa.Pure
