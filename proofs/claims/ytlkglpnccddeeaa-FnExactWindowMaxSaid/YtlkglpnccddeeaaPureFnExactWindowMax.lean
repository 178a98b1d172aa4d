/-
  Pure statement of FnExactWindowMax: the reference's and the program's WindowMax, as printed, answer the same for every list and every window; nothing is shared.
  No condition.
-/
import Derived.Test.YtlkglpnccddeeaaPFnExactWindowMaxx3
import Derived.Test.YtlkglpnccddeeaaAid
namespace Go.Proofs.Ytlkglpnccddeeaa.Pure
open Go.RowKit Go.Proofs.Ytlkglpnccddeeaa.PFnExactWindowMax Go.Proofs.YtlkglpnccddeeaaW.PrintWords Go.Proofs.YtlkglpnccddeeaaW.PrintLast Go.Proofs.YtlkglpnccddeeaaW.PrintMore Go.Proofs.Ytlkglpnccddeeaa.Aid
namespace WindowMax
theorem toIntS_l0 (l : List Int) (hl : l.length ≤ 1048576) : ∀ (d n : Nat), n + d = l.length →
    Ev (fun k => laws_toIntS.l0 k l (l.take n ++ List.replicate (l.length - n) 0) (n : Int)) l
  | 0, n, h => by
    refine Ev.step (f := fun _ => some l) (fun k => ?_) (Ev.now _)
    obtain rfl : n = l.length := by omega
    simp only [laws_toIntS.l0]
    rw [if_neg (by omega)]
    simp
  | d + 1, n, h => by
    refine Ev.step (fun k => ?_) (toIntS_l0 l hl d (n + 1) (by omega))
    simp only [laws_toIntS.l0]
    rw [if_pos (by omega), if_pos (by omega), if_pos (by simp; omega), w_succ n (by omega), Int.toNat_natCast, rd_nat, set_step l 0 0 n (by omega)]

theorem toIntS_ev (l : List Int) (hl : l.length ≤ 1048576) : Ev (fun k => laws_toIntS.f k l) l := by
  refine Ev.congr (fun k => ?_) (toIntS_l0 l hl l.length 0 (by omega))
  simp only [laws_toIntS.f]
  rw [if_pos (by omega), if_pos (by omega)]
  simp

theorem eqIntS_l0 (l : List Int) (hl : l.length ≤ 1048576) : ∀ (d n : Nat), n + d = l.length →
    Ev (fun k => laws_eqIntS.l0 k l l (n : Int)) true
  | 0, n, h => by
    refine Ev.step (f := fun _ => some true) (fun k => ?_) (Ev.now _)
    simp only [laws_eqIntS.l0]
    rw [if_neg (by omega)]
  | d + 1, n, h => by
    refine Ev.step (fun k => ?_) (eqIntS_l0 l hl d (n + 1) (by omega))
    simp only [laws_eqIntS.l0]
    rw [if_pos (by omega), if_pos (by omega), if_pos (by omega), if_pos trivial, w_succ n (by omega)]

theorem eqIntS_ev (l : List Int) (hl : l.length ≤ 1048576) : Ev (fun k => laws_eqIntS.f k l l) true := by
  refine Ev.congr (fun k => ?_) (eqIntS_l0 l hl l.length 0 (by omega))
  simp only [laws_eqIntS.f]
  rw [if_pos trivial]
  rfl

/-- What markIntS leaves: 1, 2, 3, .. -/
def marked (n : Nat) : List Int := (List.range n).map fun i => ((i + 1 : Nat) : Int)
theorem marked_length (n : Nat) : (marked n).length = n := by simp [marked]
theorem marked_getD (n i : Nat) (h : i < n) : (marked n).getD i 0 = ((i + 1 : Nat) : Int) := by simp [marked, List.getD, h]

theorem marked_step (xs : List Int) (n : Nat) (h : n < xs.length) : (marked n ++ xs.drop n).set n ((n + 1 : Nat) : Int) = marked (n + 1) ++ xs.drop (n + 1) := by
  rw [List.drop_eq_getElem_cons h, List.set_append_right _ _ (by rw [marked_length]; omega), marked_length]
  have e : n - n = 0 := by omega
  rw [e, List.set_cons_zero]
  simp [marked, List.range_succ]

theorem markIntS_l0 (xs : List Int) (hl : xs.length ≤ 1048576) : ∀ (d n : Nat), n + d = xs.length →
    Ev (fun k => laws_markIntS.l0 k (marked n ++ xs.drop n) ((n + 1 : Nat) : Int) (n : Int)) (((xs.length + 1 : Nat) : Int), marked xs.length)
  | 0, n, h => by
    refine Ev.step (f := fun _ => some (((xs.length + 1 : Nat) : Int), marked xs.length)) (fun k => ?_) (Ev.now _)
    obtain rfl : n = xs.length := by omega
    simp only [laws_markIntS.l0]
    rw [if_neg (by simp [marked_length])]
    simp
  | d + 1, n, h => by
    refine Ev.step (fun k => ?_) (markIntS_l0 xs hl d (n + 1) (by omega))
    simp only [laws_markIntS.l0]
    rw [if_pos (by simp [marked_length]; omega), if_pos (by omega), Int.toNat_natCast, marked_step xs n (by omega), w_succ n (by omega), w_succ (n + 1) (by omega)]

theorem markIntS_ev (xs : List Int) (hl : xs.length ≤ 1048576) : Ev (fun k => laws_markIntS.f k xs 1) (((xs.length + 1 : Nat) : Int), marked xs.length) := by
  refine Ev.congr (fun k => ?_) (markIntS_l0 xs hl xs.length 0 (by omega))
  simp only [laws_markIntS.f]
  rfl

theorem heldIntS_l0 (m : Nat) (hl : m ≤ 1048576) : ∀ (d n : Nat), n + d = m →
    Ev (fun k => laws_heldIntS.l0 k (marked m) ((n + 1 : Nat) : Int) (n : Int)) ((m + 1 : Nat) : Int)
  | 0, n, h => by
    refine Ev.step (f := fun _ => some ((m + 1 : Nat) : Int)) (fun k => ?_) (Ev.now _)
    obtain rfl : n = m := by omega
    simp only [laws_heldIntS.l0]
    rw [if_neg (by rw [marked_length]; omega)]
  | d + 1, n, h => by
    refine Ev.step (fun k => ?_) (heldIntS_l0 m hl d (n + 1) (by omega))
    simp only [laws_heldIntS.l0]
    rw [if_pos (by rw [marked_length]; omega), if_pos (by omega), if_pos (by rw [rd_nat, marked_getD m n (by omega)]), w_succ n (by omega), w_succ (n + 1) (by omega)]

theorem heldIntS_ev (m : Nat) (hl : m ≤ 1048576) : Ev (fun k => laws_heldIntS.f k (marked m) 1) ((m + 1 : Nat) : Int) := by
  refine Ev.congr (fun k => ?_) (heldIntS_l0 m hl m 0 (by omega))
  simp only [laws_heldIntS.f]
  rfl

theorem value_ok (a : Int) : spec_l01Value.f a = some (!bad a) := by
  unfold spec_l01Value.f spec_l01In.f bad
  by_cases h : -1000000000 ≤ a <;> simp [h]

theorem values_l0 (l : List Int) (hl : l.length ≤ 1048576) : ∀ (d n : Nat), n + d = l.length → Ev (fun k => spec_l11Values.l0 k l (n : Int)) (!(l.drop n).any bad && decide ((l.length : Int) ≤ 300))
  | 0, n, h => by
    rw [drop_end l n (by omega)]
    refine Ev.step (f := fun _ => some (decide ((l.length : Int) ≤ 300))) (fun k => ?_) (Ev.now _)
    simp only [spec_l11Values.l0]
    rw [if_neg (by omega)]
  | d + 1, n, h => by
    rw [drop_cons l 0 n (by omega), List.any_cons]
    cases hb : bad (l.getD n 0) with
    | true =>
      refine Ev.step (f := fun _ => some false) (fun k => ?_) (Ev.now _)
      simp only [spec_l11Values.l0]
      rw [if_pos (by omega), if_pos (by omega), value_ok, rd_nat, hb]
      rfl
    | false =>
      rw [Bool.false_or]
      refine Ev.step (fun k => ?_) (values_l0 l hl d (n + 1) (by omega))
      simp only [spec_l11Values.l0]
      rw [if_pos (by omega), if_pos (by omega), value_ok, rd_nat, hb, w_succ n (by omega)]
      rfl

theorem values_ev (l : List Int) (hl : l.length ≤ 1048576) : Ev (fun k => spec_l11Values.f k l) (areB l) := by
  have h := values_l0 l hl l.length 0 (by omega)
  rw [List.drop_zero] at h
  have e : (!l.any bad && decide ((l.length : Int) ≤ 300)) = areB l := by
    unfold areB
    rw [Bool.and_comm]
    congr 1
    exact decide_eq_decide.2 (by omega)
  rw [e] at h
  exact h
theorem are_len (l : List Int) (h : areB l = true) : l.length ≤ 300 := by
  unfold areB at h
  simp only [Bool.and_eq_true, decide_eq_true_eq] at h
  exact h.1

theorem max_l0 (l : List Int) (hl : l.length ≤ 1048576) : ∀ (d n : Nat) (m : Int), n + d = l.length → ∃ v, (v = m ∨ v ∈ l) ∧ m ≤ v ∧ (∀ x ∈ l.drop n, x ≤ v) ∧ Ev (fun k => slices_Max_int_int.l0 k l m (n : Int)) v
  | 0, n, m, h => by
    refine ⟨m, Or.inl rfl, Int.le_refl _, by simp [drop_end l n (by omega)], Ev.step (f := fun _ => some m) (fun k => ?_) (Ev.now _)⟩
    simp only [slices_Max_int_int.l0]
    rw [if_neg (by omega)]
  | d + 1, n, m, h => by
    obtain ⟨v, h1, h2, h3, h4⟩ := max_l0 l hl d (n + 1) (mx m (rd l (n : Int))) (by omega)
    have hm : rd l (n : Int) ∈ l := getD_mem l 0 n (by omega)
    have b : m ≤ mx m (rd l (n : Int)) ∧ rd l (n : Int) ≤ mx m (rd l (n : Int)) ∧ (mx m (rd l (n : Int)) = m ∨ mx m (rd l (n : Int)) = rd l (n : Int)) := by
      unfold mx
      split <;> omega
    refine ⟨v, ?_, by omega, ?_, Ev.step (fun k => ?_) h4⟩
    · rcases h1 with rfl | h1
      · rcases b.2.2 with b3 | b3
        · exact Or.inl b3
        · exact Or.inr (by rw [b3]; exact hm)
      · exact Or.inr h1
    · rw [drop_cons l 0 n (by omega)]
      intro x hx
      rcases List.mem_cons.1 hx with rfl | hx
      · have : rd l (n : Int) ≤ v := by omega
        exact this
      · exact h3 x hx
    · simp only [slices_Max_int_int.l0]
      rw [if_pos (by omega), if_pos (by omega), w_succ n (by omega)]

theorem head_mem (l : List Int) (h : l ≠ []) : rd l 0 ∈ l := by
  cases l with
  | nil => exact absurd rfl h
  | cons x t => exact List.mem_cons_self
theorem max_ev (l : List Int) (hl : l.length ≤ 1048576) (h : l ≠ []) : ∃ v, v ∈ l ∧ (∀ x ∈ l, x ≤ v) ∧ Ev (fun k => slices_Max_int_int.f k l) v := by
  have hp : 0 < l.length := List.length_pos_iff.2 h
  obtain ⟨v, h1, h2, h3, h4⟩ := max_l0 l hl (l.length - 1) 1 (rd l 0) (by omega)
  refine ⟨v, ?_, ?_, Ev.congr (fun k => ?_) h4⟩
  · rcases h1 with rfl | h1
    · exact head_mem l h
    · exact h1
  · intro x hx
    have e : l = l.drop 0 := rfl
    rw [e, drop_cons l 0 0 hp] at hx
    rcases List.mem_cons.1 hx with rfl | hx
    · exact h2
    · exact h3 x hx
  · unfold slices_Max_int_int.f
    rw [if_neg (by omega), if_pos (by omega)]
    rfl

theorem in1 (a b c : Int) : spec_l01In.f a b c = some (decide (b ≤ a) && decide (a ≤ c)) := by
  unfold spec_l01In.f
  by_cases h : b ≤ a <;> simp [h]
theorem in2 (a b c : Int) : impl_in.f a b c = some (decide (b ≤ a) && decide (a ≤ c)) := by
  unfold impl_in.f
  by_cases h : a ≥ b <;> simp [h]
theorem win_j3f (l : List Int) (w : Int) (out : List Int) (n : Nat) (hn : n < 1048576) (ho : out.length ≤ 1048576) (m x : Int) {r : List Int × Bool} (h : Ev (fun k => spec_WindowMax.l0 k l w (out ++ [m]) ((n + 1 : Nat) : Int)) r) :
    Ev (fun k => spec_WindowMax.j3 k l w out (n : Int) m x false) r := by
  refine Ev.step (fun k => ?_) h
  rw [spec_WindowMax.j3.eq_2, if_neg (by simp), if_pos (by omega), w_succ n (by omega)]

theorem win_l1 (l : List Int) (hl : l.length ≤ 1048576) (w : Int) (hw : 1 ≤ w ∧ w ≤ 300) (out : List Int) (ho : out.length ≤ 1048576) (n : Nat) (hn : n < l.length) (lo : Nat) (hlo : (lo : Int) = mx 0 ((n : Int) - w + 1)) :
    ∀ (d : Nat) (j m : Int), j + 1 = (lo : Int) + (d : Int) → j ≤ (n : Int) → ∃ v, (v = m ∨ ∃ t : Int, (lo : Int) ≤ t ∧ t ≤ j ∧ v = rd l t) ∧ m ≤ v ∧ (∀ t : Int, (lo : Int) ≤ t → t ≤ j → rd l t ≤ v) ∧
      ∀ r, Ev (fun k => spec_WindowMax.l0 k l w (out ++ [v]) ((n + 1 : Nat) : Int)) r → Ev (fun k => spec_WindowMax.l1 k l w out (n : Int) m j) r
  | 0, j, m, h, hj => by
    unfold mx at hlo
    refine ⟨m, Or.inl rfl, Int.le_refl _, fun t h1 h2 => by omega, fun r hr => ?_⟩
    refine Ev.step (fun k => ?_) (win_j3f l w out n (by omega) ho m j hr)
    rw [spec_WindowMax.l1.eq_2]
    by_cases c : j ≥ 0
    · rw [if_pos c, w_id (by omega) (by omega), decide_eq_false]
      split at hlo <;> omega
    · rw [if_neg c]
  | d + 1, j, m, h, hj => by
    have hlo' := hlo
    unfold mx at hlo'
    have step : ∀ {m' : Int} {r : List Int × Bool}, (m' = if rd l j > m then rd l j else m) → Ev (fun k => spec_WindowMax.l1 k l w out (n : Int) m' (j - 1)) r → Ev (fun k => spec_WindowMax.l1 k l w out (n : Int) m j) r := by
      intro m' r hm hr
      refine Ev.step (f := fun k => spec_WindowMax.j3 k l w out (n : Int) m j true) (fun k => ?_) (Ev.step (fun k => ?_) hr)
      · rw [spec_WindowMax.l1.eq_2, if_pos (by omega), w_id (by omega) (by omega), decide_eq_true]
        split at hlo' <;> omega
      · rw [spec_WindowMax.j3.eq_2, if_pos rfl, if_pos (by omega), if_pos (by omega), w_id (by omega) (by omega), hm]
        split <;> rfl
    by_cases c : rd l j > m
    · obtain ⟨v, h1, h2, h3, h4⟩ := win_l1 l hl w hw out ho n hn lo hlo d (j - 1) (rd l j) (by omega) (by omega)
      refine ⟨v, Or.inr ?_, by omega, fun t t1 t2 => ?_, fun r hr => step (by rw [if_pos c]) (h4 r hr)⟩
      · rcases h1 with h1 | ⟨t, t1, t2, t3⟩
        · exact ⟨j, by omega, by omega, h1⟩
        · exact ⟨t, t1, by omega, t3⟩
      · by_cases e : t = j
        · subst e
          exact h2
        · exact h3 t t1 (by omega)
    · obtain ⟨v, h1, h2, h3, h4⟩ := win_l1 l hl w hw out ho n hn lo hlo d (j - 1) m (by omega) (by omega)
      refine ⟨v, ?_, h2, fun t t1 t2 => ?_, fun r hr => step (by rw [if_neg c]) (h4 r hr)⟩
      · rcases h1 with h1 | ⟨t, t1, t2, t3⟩
        · exact Or.inl h1
        · exact Or.inr ⟨t, t1, by omega, t3⟩
      · by_cases e : t = j
        · subst e
          omega
        · exact h3 t t1 (by omega)

theorem slice_mem (l : List Int) (lo n : Nat) (hn : n < l.length) (x : Int) : x ∈ (l.take (n + 1)).drop lo ↔ ∃ t : Int, (lo : Int) ≤ t ∧ t ≤ (n : Int) ∧ x = rd l t := by
  constructor
  · intro h
    obtain ⟨i, hi, rfl⟩ := List.mem_iff_getElem.1 h
    rw [List.length_drop, List.length_take] at hi
    refine ⟨((lo + i : Nat) : Int), by omega, by omega, ?_⟩
    rw [List.getElem_drop, List.getElem_take, rd_nat]
    simp [List.getD, List.getElem?_eq_getElem (show lo + i < l.length by omega)]
  · rintro ⟨t, h1, h2, rfl⟩
    obtain ⟨s, rfl⟩ := Int.eq_ofNat_of_zero_le (by omega : 0 ≤ t)
    refine List.mem_iff_getElem.2 ⟨s - lo, by rw [List.length_drop, List.length_take]; omega, ?_⟩
    rw [List.getElem_drop, List.getElem_take, rd_nat]
    have e : lo + (s - lo) = s := by omega
    simp [List.getD, e, List.getElem?_eq_getElem (show s < l.length by omega)]

theorem win_l0 (l : List Int) (hl : l.length ≤ 1048576) (w : Int) (hw : 1 ≤ w ∧ w ≤ 300) : ∀ (d n : Nat) (out : List Int), n + d = l.length → out.length = n →
    ∃ ys : List Int, ys.length = l.length ∧ Ev (fun k => spec_WindowMax.l0 k l w out (n : Int)) (ys, true) ∧ Ev (fun k => impl_WindowMax.l0 k l w out (l.length : Int) (n : Int)) (ys, true)
  | 0, n, out, h, ho => by
    refine ⟨out, by omega, Ev.step (f := fun _ => some (out, true)) (fun k => ?_) (Ev.now _), Ev.step (f := fun _ => some (out, true)) (fun k => ?_) (Ev.now _)⟩
    · rw [spec_WindowMax.l0.eq_2, if_neg (by omega)]
    · rw [impl_WindowMax.l0.eq_2, if_neg (by omega)]
  | d + 1, n, out, h, ho => by
    obtain ⟨lo, hlo⟩ : ∃ lo : Nat, (lo : Int) = mx 0 ((n : Int) - w + 1) := ⟨(mx 0 ((n : Int) - w + 1)).toNat, by unfold mx; split <;> omega⟩
    have hle : lo ≤ n := by
      have h2 := hlo
      unfold mx at h2
      split at h2 <;> omega
    obtain ⟨v, v1, v2, v3, v4⟩ := win_l1 l hl w hw out (by omega) n (by omega) lo hlo (n + 1 - lo) (n : Int) (rd l (n : Int)) (by omega) (by omega)
    have hS : (l.take (n + 1)).drop lo ≠ [] := by
      intro e
      have := congrArg List.length e
      rw [List.length_drop, List.length_take] at this
      simp at this
      omega
    obtain ⟨u, u1, u2, u3⟩ := max_ev ((l.take (n + 1)).drop lo) (by rw [List.length_drop, List.length_take]; omega) hS
    have huv : u = v := by
      have hv : v ∈ (l.take (n + 1)).drop lo := by
        rw [slice_mem l lo n (by omega)]
        rcases v1 with v1 | v1
        · exact ⟨(n : Int), by omega, by omega, v1⟩
        · exact v1
      obtain ⟨t, t1, t2, t3⟩ := (slice_mem l lo n (by omega) u).1 u1
      have a := u2 v hv
      have b := v3 t t1 t2
      omega
    subst huv
    obtain ⟨ys, hy, h1, h2⟩ := win_l0 l hl w hw d (n + 1) (out ++ [u]) (by omega) (by simp [ho])
    refine ⟨ys, hy, Ev.step (fun k => ?_) (v4 _ h1), Ev.step (fun k => ?_) (Ev.bind (f := fun k t => if out.length < 17592186044416 then impl_WindowMax.l0 k l w (out ++ [t]) (l.length : Int) (wrap64 ((n : Int) + 1)) else none) u3 (Ev.congr (fun k => ?_) h2))⟩
    · rw [spec_WindowMax.l0.eq_2, if_pos (by omega), if_pos (by omega)]
    · have e1 : wrap64 ((n : Int) - w) = (n : Int) - w := w_id (by omega) (by omega)
      have e2 : wrap64 ((n : Int) - w + 1) = (n : Int) - w + 1 := w_id (by omega) (by omega)
      rw [impl_WindowMax.l0.eq_2, if_pos (by omega), e1, e2, ← hlo, if_pos (by omega), w_succ n (by omega), if_pos (by omega), if_pos (by omega), Int.toNat_natCast, Int.toNat_natCast]
    · rw [if_pos (by omega), w_succ n (by omega)]

theorem win_same (l : List Int) (w : Int) (hl : l.length ≤ 1048576) : ∃ ys b, ys.length ≤ l.length ∧ Ev (fun k => spec_WindowMax.f k l w) (ys, b) ∧ Ev (fun k => impl_WindowMax.f k l w) (ys, b) := by
  have s0 : Ev (fun k => spec_WindowMax.j0 k l w [] true) ([], false) := Ev.step (fun k => (spec_WindowMax.j0.eq_2 ..).trans (if_pos rfl)) (Ev.now _)
  have i0 : Ev (fun k => impl_WindowMax.j0 k l w true) ([], false) := Ev.step (fun k => (impl_WindowMax.j0.eq_2 ..).trans (if_pos rfl)) (Ev.now _)
  by_cases h0 : l.length = 0
  · exact ⟨[], false, by simp, Ev.congr (fun k => if_pos (by omega)) s0, Ev.congr (fun k => if_pos (by omega)) i0⟩
  have hne : ¬ (l.length : Int) = 0 := by omega
  cases ha : areB l with
  | false =>
    refine ⟨[], false, by simp, Ev.congr (fun k => if_neg hne) (Ev.bind (values_ev l hl) (Ev.congr (fun k => if_neg (by simp [ha])) s0)), Ev.congr (fun k => ?_) i0⟩
    simp only [impl_WindowMax.f, impl_areValues.f, ha]
    rw [if_neg hne]
    rfl
  | true =>
    by_cases hw : 1 ≤ w ∧ w ≤ 300
    rotate_left
    · have e1 : spec_l01In.f w 1 300 = some false := by
        rw [in1]
        simp
        omega
      have e2 : impl_in.f w 1 300 = some false := by
        rw [in2]
        simp
        omega
      refine ⟨[], false, by simp, Ev.congr (fun k => if_neg hne) (Ev.bind (values_ev l hl) (Ev.congr (fun k => ?_) s0)), Ev.congr (fun k => ?_) i0⟩
      · rw [if_pos ha, e1]
        rfl
      · simp only [impl_WindowMax.f, impl_areValues.f, ha]
        rw [if_neg hne, e2]
        rfl
    have e1 : spec_l01In.f w 1 300 = some true := by
      rw [in1]
      simp
      omega
    have e2 : impl_in.f w 1 300 = some true := by
      rw [in2]
      simp
      omega
    obtain ⟨ys, hy, h1, h2⟩ := win_l0 l hl w hw l.length 0 [] (by omega) rfl
    refine ⟨ys, true, by omega, Ev.congr (fun k => if_neg hne) (Ev.bind (values_ev l hl) (Ev.congr (f := fun k => spec_WindowMax.j0 k l w [] false) (fun k => ?_) (Ev.step (fun k => (spec_WindowMax.j0.eq_2 ..).trans (if_neg (by simp))) h1))),
      Ev.congr (f := fun k => impl_WindowMax.j0 k l w false) (fun k => ?_) (Ev.step (fun k => (impl_WindowMax.j0.eq_2 ..).trans (if_neg (by simp))) h2)⟩
    · rw [if_pos ha, e1]
      rfl
    · simp only [impl_WindowMax.f, impl_areValues.f, ha]
      rw [if_neg hne, e2]
      rfl

theorem law (l : List Int) (a1 : Int) (hl : l.length ≤ 1048576) (ys : List Int) (b : Bool) (hy : ys.length ≤ 1048576) (hs : Ev (fun k => spec_WindowMax.f k l a1) (ys, b)) (hi : Ev (fun k => impl_WindowMax.f k l a1) (ys, b)) :
    Ev (fun k => laws_FnExactWindowMax.f k l a1) true := by
  have T := toIntS_ev l hl
  have E := eqIntS_ev l hl
  have Y := eqIntS_ev ys hy
  have M := markIntS_ev l hl
  have M' := markIntS_ev ys hy
  have H := heldIntS_ev ys.length hy
  refine Ev.congr (fun k => if_neg (by omega)) ?_
  refine Ev.bind T (Ev.bind hs (Ev.bind T (Ev.bind hi (Ev.bind Y ?_))))
  refine Ev.congr (fun k => if_pos rfl) ?_
  refine Ev.step (fun k => (laws_FnExactWindowMax.j0.eq_2 ..).trans (if_neg (by simp))) ?_
  refine Ev.bind T (Ev.bind E ?_)
  refine Ev.congr (fun k => if_pos rfl) ?_
  refine Ev.bind M ?_
  refine Ev.congr (fun k => if_neg (by simp; omega)) ?_
  refine Ev.bind Y ?_
  refine Ev.congr (fun k => if_pos rfl) ?_
  refine Ev.step (fun k => (laws_FnExactWindowMax.j1.eq_2 ..).trans (if_neg (by simp))) ?_
  refine Ev.bind M' (Ev.bind H ?_)
  refine Ev.congr (fun k => if_neg (by omega)) ?_
  refine Ev.congr (fun k => if_pos rfl) ?_
  refine Ev.bind T (Ev.bind hi (Ev.bind Y ?_))
  refine Ev.congr (fun k => if_pos rfl) ?_
  refine Ev.step (fun k => (laws_FnExactWindowMax.j2.eq_2 ..).trans (if_neg (by simp))) ?_
  refine Ev.bind H ?_
  refine Ev.congr (fun k => if_neg (by omega)) ?_
  refine Ev.congr (fun k => if_pos rfl) ?_
  exact Ev.now true
end WindowMax

theorem FnExactWindowMax (l : List Int) (a1 : Int) (_ : l.length ≤ maxLen ∧ ∀ x ∈ l, (Lit.int .i64 x).wf = true) (_ : (Lit.int .i64 a1).wf = true) : ∃ k, laws_FnExactWindowMax.f k l a1 = some true := by
  refine Ev.rounds ?_
  by_cases hl : (l.length : Int) > 1048576
  · exact Ev.congr (fun k => if_pos hl) (Ev.now true)
  obtain ⟨ys, b, hy, hs, hi⟩ := WindowMax.win_same l a1 (by omega)
  exact WindowMax.law l a1 (by omega) ys b (by omega) hs hi

end Go.Proofs.Ytlkglpnccddeeaa.Pure
