/-
  Pure statement of FnExactFlatWithin: the reference's and the program's FlatWithin, as printed, answer the same for every list and every band.
  No condition.
-/
import Derived.Test.YtlkglpnccddeeaaPFnExactFlatWithinx2
import Derived.Test.YtlkglpnccddeeaaAid
namespace Go.Proofs.Ytlkglpnccddeeaa.Pure
open Go.RowKit Go.Proofs.Ytlkglpnccddeeaa.PFnExactFlatWithin Go.Proofs.YtlkglpnccddeeaaW.PrintWords Go.Proofs.YtlkglpnccddeeaaW.PrintLast Go.Proofs.YtlkglpnccddeeaaW.PrintMore Go.Proofs.Ytlkglpnccddeeaa.Aid
namespace FlatWithin
theorem toIntS_l0 (l : List Int) (hl : l.length ≤ 1048576) : ∀ (d n : Nat), n + d = l.length →
    Ev (fun k => laws_toIntS.l0 k l (l.take n ++ List.replicate (l.length - n) 0) (n : Int)) l
  | 0, n, h => by
    refine Ev.step (f := fun _ => some l) (fun k => ?_) (Ev.now _)
    obtain rfl : n = l.length := by omega
    simp only [laws_toIntS.l0]
    rw [if_neg (by omega)]
    simp
  | d + 1, n, h => by
    refine Ev.step (fun k => ?_) (toIntS_l0 l hl d (n + 1) (by omega))
    simp only [laws_toIntS.l0]
    rw [if_pos (by omega), if_pos (by omega), if_pos (by simp; omega), w_succ n (by omega), Int.toNat_natCast, rd_nat, set_step l 0 0 n (by omega)]

theorem toIntS_ev (l : List Int) (hl : l.length ≤ 1048576) : Ev (fun k => laws_toIntS.f k l) l := by
  refine Ev.congr (fun k => ?_) (toIntS_l0 l hl l.length 0 (by omega))
  simp only [laws_toIntS.f]
  rw [if_pos (by omega), if_pos (by omega)]
  simp

theorem eqIntS_l0 (l : List Int) (hl : l.length ≤ 1048576) : ∀ (d n : Nat), n + d = l.length →
    Ev (fun k => laws_eqIntS.l0 k l l (n : Int)) true
  | 0, n, h => by
    refine Ev.step (f := fun _ => some true) (fun k => ?_) (Ev.now _)
    simp only [laws_eqIntS.l0]
    rw [if_neg (by omega)]
  | d + 1, n, h => by
    refine Ev.step (fun k => ?_) (eqIntS_l0 l hl d (n + 1) (by omega))
    simp only [laws_eqIntS.l0]
    rw [if_pos (by omega), if_pos (by omega), if_pos (by omega), if_pos trivial, w_succ n (by omega)]

theorem eqIntS_ev (l : List Int) (hl : l.length ≤ 1048576) : Ev (fun k => laws_eqIntS.f k l l) true := by
  refine Ev.congr (fun k => ?_) (eqIntS_l0 l hl l.length 0 (by omega))
  simp only [laws_eqIntS.f]
  rw [if_pos trivial]
  rfl

theorem value_ok (a : Int) : spec_l01Value.f a = some (!bad a) := by
  unfold spec_l01Value.f spec_l01In.f bad
  by_cases h : -1000000000 ≤ a <;> simp [h]

theorem values_l0 (l : List Int) (hl : l.length ≤ 1048576) : ∀ (d n : Nat), n + d = l.length → Ev (fun k => spec_l11Values.l0 k l (n : Int)) (!(l.drop n).any bad && decide ((l.length : Int) ≤ 300))
  | 0, n, h => by
    rw [drop_end l n (by omega)]
    refine Ev.step (f := fun _ => some (decide ((l.length : Int) ≤ 300))) (fun k => ?_) (Ev.now _)
    simp only [spec_l11Values.l0]
    rw [if_neg (by omega)]
  | d + 1, n, h => by
    rw [drop_cons l 0 n (by omega), List.any_cons]
    cases hb : bad (l.getD n 0) with
    | true =>
      refine Ev.step (f := fun _ => some false) (fun k => ?_) (Ev.now _)
      simp only [spec_l11Values.l0]
      rw [if_pos (by omega), if_pos (by omega), value_ok, rd_nat, hb]
      rfl
    | false =>
      rw [Bool.false_or]
      refine Ev.step (fun k => ?_) (values_l0 l hl d (n + 1) (by omega))
      simp only [spec_l11Values.l0]
      rw [if_pos (by omega), if_pos (by omega), value_ok, rd_nat, hb, w_succ n (by omega)]
      rfl

theorem values_ev (l : List Int) (hl : l.length ≤ 1048576) : Ev (fun k => spec_l11Values.f k l) (areB l) := by
  have h := values_l0 l hl l.length 0 (by omega)
  rw [List.drop_zero] at h
  have e : (!l.any bad && decide ((l.length : Int) ≤ 300)) = areB l := by
    unfold areB
    rw [Bool.and_comm]
    congr 1
    exact decide_eq_decide.2 (by omega)
  rw [e] at h
  exact h
theorem are_len (l : List Int) (h : areB l = true) : l.length ≤ 300 := by
  unfold areB at h
  simp only [Bool.and_eq_true, decide_eq_true_eq] at h
  exact h.1

/-- Insertion behind equal ones; insertion of one element after the other. -/
def ins (x : Int) : List Int → List Int
  | [] => [x]
  | y :: t => if x < y then x :: y :: t else y :: ins x t
def sortFrom : List Int → List Int → List Int
  | out, [] => out
  | out, x :: t => sortFrom (ins x out) t
theorem ins_length (x : Int) : ∀ l : List Int, (ins x l).length = l.length + 1
  | [] => rfl
  | y :: t => by
    unfold ins
    split
    · rfl
    · simp [ins_length x t]
theorem ins_perm (x : Int) : ∀ l : List Int, (ins x l).Perm (x :: l)
  | [] => List.Perm.refl _
  | y :: t => by
    unfold ins
    split
    · exact List.Perm.refl _
    · exact ((ins_perm x t).cons y).trans (List.Perm.swap x y t)
theorem ins_mem {x z : Int} {l : List Int} : z ∈ ins x l ↔ z = x ∨ z ∈ l := by
  rw [(ins_perm x l).mem_iff]
  simp
theorem ins_sorted (x : Int) : ∀ l : List Int, l.Pairwise (· ≤ ·) → (ins x l).Pairwise (· ≤ ·)
  | [], _ => by simp [ins]
  | y :: t, h => by
    have h1 : ∀ {z : Int}, z ∈ t → y ≤ z := fun hz => List.rel_of_pairwise_cons h hz
    have h2 := h.of_cons
    unfold ins
    split
    · rename_i hlt
      refine List.Pairwise.cons ?_ h
      intro z hz
      rcases List.mem_cons.1 hz with rfl | hz
      · omega
      · have := h1 hz
        omega
    · rename_i hge
      refine List.Pairwise.cons ?_ (ins_sorted x t h2)
      intro z hz
      rcases ins_mem.1 hz with rfl | hz
      · omega
      · exact h1 hz
theorem sortFrom_length : ∀ (l out : List Int), (sortFrom out l).length = out.length + l.length
  | [], out => rfl
  | x :: t, out => by
    rw [sortFrom, sortFrom_length t, ins_length, List.length_cons]
    omega
theorem sortFrom_perm : ∀ (l out : List Int), (sortFrom out l).Perm (out ++ l)
  | [], out => by simp [sortFrom]
  | x :: t, out => by
    rw [sortFrom]
    refine (sortFrom_perm t _).trans (((ins_perm x out).append_right t).trans ?_)
    rw [List.cons_append]
    exact List.perm_middle.symm
theorem sortFrom_sorted : ∀ (l out : List Int), out.Pairwise (· ≤ ·) → (sortFrom out l).Pairwise (· ≤ ·)
  | [], out, h => h
  | x :: t, out, h => by
    rw [sortFrom]
    exact sortFrom_sorted t _ (ins_sorted x out h)
/-- The list, sorted. -/
def sorted (l : List Int) : List Int := sortFrom [] l
theorem sorted_length (l : List Int) : (sorted l).length = l.length := by rw [sorted, sortFrom_length]; simp
theorem sorted_perm (l : List Int) : (sorted l).Perm l := sortFrom_perm l []
theorem sorted_sorted (l : List Int) : (sorted l).Pairwise (· ≤ ·) := sortFrom_sorted l [] List.Pairwise.nil

theorem sort_l1t (l out : List Int) (n : Nat) (hl : l.length ≤ 1048576) (ho : out.length ≤ 1048576) (hn : n < l.length) {r : List Int} : ∀ (d m : Nat) (next : List Int), m + d = out.length → next.length ≤ m + 1 →
    Ev (fun k => spec_l11Sorted.l0 k l (next ++ out.drop m) ((n + 1 : Nat) : Int)) r → Ev (fun k => spec_l11Sorted.l1 k l out (n : Int) next true (m : Int)) r
  | 0, m, next, h, hx, hr => by
    rw [drop_end out m (by omega), List.append_nil] at hr
    refine Ev.step (fun k => ?_) hr
    rw [spec_l11Sorted.l1.eq_2, if_neg (by omega), if_pos rfl, w_succ n (by omega)]
  | d + 1, m, next, h, hx, hr => by
    have e : next ++ out.drop m = (next ++ [rd out (m : Int)]) ++ out.drop (m + 1) := by
      rw [drop_cons out 0 m (by omega), List.append_assoc]
      rfl
    rw [e] at hr
    refine Ev.step (fun k => ?_) (sort_l1t l out n hl ho hn d (m + 1) (next ++ [rd out (m : Int)]) (by omega) (by simp; omega) hr)
    rw [spec_l11Sorted.l1.eq_2, if_pos (by omega), if_pos rfl, if_pos (by omega), if_pos (by omega), w_succ m (by omega)]

theorem sort_l1f (l out : List Int) (n : Nat) (hl : l.length ≤ 1048576) (ho : out.length ≤ 1048576) (hn : n < l.length) {r : List Int} : ∀ (d m : Nat) (next : List Int), m + d = out.length → next.length ≤ m →
    Ev (fun k => spec_l11Sorted.l0 k l (next ++ ins (rd l (n : Int)) (out.drop m)) ((n + 1 : Nat) : Int)) r → Ev (fun k => spec_l11Sorted.l1 k l out (n : Int) next false (m : Int)) r
  | 0, m, next, h, hx, hr => by
    rw [drop_end out m (by omega)] at hr
    refine Ev.step (fun k => ?_) hr
    rw [spec_l11Sorted.l1.eq_2, if_neg (by omega), if_neg (by simp), if_pos (by omega), if_pos (by omega), if_pos (by omega), w_succ n (by omega)]
    rfl
  | d + 1, m, next, h, hx, hr => by
    rw [drop_cons out 0 m (by omega)] at hr
    unfold ins at hr
    by_cases c : rd l (n : Int) < rd out (m : Int)
    · have c' : rd l (n : Int) < out.getD m 0 := c
      rw [if_pos c'] at hr
      have e : next ++ rd l (n : Int) :: out.getD m 0 :: out.drop (m + 1) = ((next ++ [rd l (n : Int)]) ++ [rd out (m : Int)]) ++ out.drop (m + 1) := by
        rw [List.append_assoc, List.append_assoc]
        rfl
      rw [e] at hr
      refine Ev.step (fun k => ?_) (sort_l1t l out n hl ho hn d (m + 1) ((next ++ [rd l (n : Int)]) ++ [rd out (m : Int)]) (by omega) (by simp; omega) hr)
      rw [spec_l11Sorted.l1.eq_2, if_pos (by omega), if_neg (by simp), if_pos (by omega), if_pos (by omega), if_pos (by omega), if_pos c, if_pos (by omega)]
      simp only [Option.bind_some]
      rw [if_pos (by simp; omega), w_succ m (by omega)]
    · have c' : ¬ rd l (n : Int) < out.getD m 0 := c
      rw [if_neg c'] at hr
      have e : next ++ out.getD m 0 :: ins (rd l (n : Int)) (out.drop (m + 1)) = (next ++ [rd out (m : Int)]) ++ ins (rd l (n : Int)) (out.drop (m + 1)) := by
        rw [List.append_assoc]
        rfl
      rw [e] at hr
      refine Ev.step (fun k => ?_) (sort_l1f l out n hl ho hn d (m + 1) (next ++ [rd out (m : Int)]) (by omega) (by simp; omega) hr)
      rw [spec_l11Sorted.l1.eq_2, if_pos (by omega), if_neg (by simp), if_pos (by omega), if_pos (by omega), if_pos (by omega), if_neg c, if_pos (by omega), w_succ m (by omega)]

theorem sort_l0 (l : List Int) (hl : l.length ≤ 1048576) : ∀ (d n : Nat) (out : List Int), n + d = l.length → out.length = n → Ev (fun k => spec_l11Sorted.l0 k l out (n : Int)) (sortFrom out (l.drop n))
  | 0, n, out, h, ho => by
    rw [drop_end l n (by omega)]
    refine Ev.step (f := fun _ => some out) (fun k => ?_) (Ev.now _)
    rw [spec_l11Sorted.l0.eq_2, if_neg (by omega)]
  | d + 1, n, out, h, ho => by
    have ih := sort_l0 l hl d (n + 1) (ins (rd l (n : Int)) out) (by omega) (by rw [ins_length, ho])
    have e : sortFrom out (l.drop n) = sortFrom (ins (rd l (n : Int)) out) (l.drop (n + 1)) := by
      rw [drop_cons l 0 n (by omega), sortFrom]
      rfl
    rw [e]
    refine Ev.step (fun k => ?_) (sort_l1f l out n hl (by omega) (by omega) out.length 0 [] (by omega) (by simp) ih)
    rw [spec_l11Sorted.l0.eq_2, if_pos (by omega)]
    rfl

theorem sorted_ev (l : List Int) (hl : l.length ≤ 1048576) : Ev (fun k => spec_l11Sorted.f k l) (sorted l) := sort_l0 l hl l.length 0 [] (by omega) rfl

theorem max_l0 (l : List Int) (hl : l.length ≤ 1048576) : ∀ (d n : Nat) (m : Int), n + d = l.length → ∃ v, (v = m ∨ v ∈ l) ∧ m ≤ v ∧ (∀ x ∈ l.drop n, x ≤ v) ∧ Ev (fun k => slices_Max_int_int.l0 k l m (n : Int)) v
  | 0, n, m, h => by
    refine ⟨m, Or.inl rfl, Int.le_refl _, by simp [drop_end l n (by omega)], Ev.step (f := fun _ => some m) (fun k => ?_) (Ev.now _)⟩
    simp only [slices_Max_int_int.l0]
    rw [if_neg (by omega)]
  | d + 1, n, m, h => by
    obtain ⟨v, h1, h2, h3, h4⟩ := max_l0 l hl d (n + 1) (mx m (rd l (n : Int))) (by omega)
    have hm : rd l (n : Int) ∈ l := getD_mem l 0 n (by omega)
    have b : m ≤ mx m (rd l (n : Int)) ∧ rd l (n : Int) ≤ mx m (rd l (n : Int)) ∧ (mx m (rd l (n : Int)) = m ∨ mx m (rd l (n : Int)) = rd l (n : Int)) := by
      unfold mx
      split <;> omega
    refine ⟨v, ?_, by omega, ?_, Ev.step (fun k => ?_) h4⟩
    · rcases h1 with rfl | h1
      · rcases b.2.2 with b3 | b3
        · exact Or.inl b3
        · exact Or.inr (by rw [b3]; exact hm)
      · exact Or.inr h1
    · rw [drop_cons l 0 n (by omega)]
      intro x hx
      rcases List.mem_cons.1 hx with rfl | hx
      · have : rd l (n : Int) ≤ v := by omega
        exact this
      · exact h3 x hx
    · simp only [slices_Max_int_int.l0]
      rw [if_pos (by omega), if_pos (by omega), w_succ n (by omega)]

theorem head_mem (l : List Int) (h : l ≠ []) : rd l 0 ∈ l := by
  cases l with
  | nil => exact absurd rfl h
  | cons x t => exact List.mem_cons_self
theorem max_ev (l : List Int) (hl : l.length ≤ 1048576) (h : l ≠ []) : ∃ v, v ∈ l ∧ (∀ x ∈ l, x ≤ v) ∧ Ev (fun k => slices_Max_int_int.f k l) v := by
  have hp : 0 < l.length := List.length_pos_iff.2 h
  obtain ⟨v, h1, h2, h3, h4⟩ := max_l0 l hl (l.length - 1) 1 (rd l 0) (by omega)
  refine ⟨v, ?_, ?_, Ev.congr (fun k => ?_) h4⟩
  · rcases h1 with rfl | h1
    · exact head_mem l h
    · exact h1
  · intro x hx
    have e : l = l.drop 0 := rfl
    rw [e, drop_cons l 0 0 hp] at hx
    rcases List.mem_cons.1 hx with rfl | hx
    · exact h2
    · exact h3 x hx
  · unfold slices_Max_int_int.f
    rw [if_neg (by omega), if_pos (by omega)]
    rfl

theorem min_l0 (l : List Int) (hl : l.length ≤ 1048576) : ∀ (d n : Nat) (m : Int), n + d = l.length → ∃ v, (v = m ∨ v ∈ l) ∧ v ≤ m ∧ (∀ x ∈ l.drop n, v ≤ x) ∧ Ev (fun k => slices_Min_int_int.l0 k l m (n : Int)) v
  | 0, n, m, h => by
    refine ⟨m, Or.inl rfl, Int.le_refl _, by simp [drop_end l n (by omega)], Ev.step (f := fun _ => some m) (fun k => ?_) (Ev.now _)⟩
    simp only [slices_Min_int_int.l0]
    rw [if_neg (by omega)]
  | d + 1, n, m, h => by
    obtain ⟨v, h1, h2, h3, h4⟩ := min_l0 l hl d (n + 1) (mn m (rd l (n : Int))) (by omega)
    have hm : rd l (n : Int) ∈ l := getD_mem l 0 n (by omega)
    have b : mn m (rd l (n : Int)) ≤ m ∧ mn m (rd l (n : Int)) ≤ rd l (n : Int) ∧ (mn m (rd l (n : Int)) = m ∨ mn m (rd l (n : Int)) = rd l (n : Int)) := by
      unfold mn
      split <;> omega
    refine ⟨v, ?_, by omega, ?_, Ev.step (fun k => ?_) h4⟩
    · rcases h1 with rfl | h1
      · rcases b.2.2 with b3 | b3
        · exact Or.inl b3
        · exact Or.inr (by rw [b3]; exact hm)
      · exact Or.inr h1
    · rw [drop_cons l 0 n (by omega)]
      intro x hx
      rcases List.mem_cons.1 hx with rfl | hx
      · have : v ≤ rd l (n : Int) := by omega
        exact this
      · exact h3 x hx
    · simp only [slices_Min_int_int.l0]
      rw [if_pos (by omega), if_pos (by omega), w_succ n (by omega)]
theorem min_ev (l : List Int) (hl : l.length ≤ 1048576) (h : l ≠ []) : ∃ v, v ∈ l ∧ (∀ x ∈ l, v ≤ x) ∧ Ev (fun k => slices_Min_int_int.f k l) v := by
  have hp : 0 < l.length := List.length_pos_iff.2 h
  obtain ⟨v, h1, h2, h3, h4⟩ := min_l0 l hl (l.length - 1) 1 (rd l 0) (by omega)
  refine ⟨v, ?_, ?_, Ev.congr (fun k => ?_) h4⟩
  · rcases h1 with rfl | h1
    · exact head_mem l h
    · exact h1
  · intro x hx
    have e : l = l.drop 0 := rfl
    rw [e, drop_cons l 0 0 hp] at hx
    rcases List.mem_cons.1 hx with rfl | hx
    · exact h2
    · exact h3 x hx
  · unfold slices_Min_int_int.f
    rw [if_neg (by omega), if_pos (by omega)]
    rfl

theorem sorted_first (l : List Int) (h : l ≠ []) (v : Int) (hv : v ∈ l) (hle : ∀ x ∈ l, v ≤ x) : rd (sorted l) 0 = v := by
  have hp := sorted_perm l
  have hs := sorted_sorted l
  cases hq : sorted l with
  | nil =>
    have := sorted_length l
    rw [hq] at this
    exact absurd (List.eq_nil_of_length_eq_zero this.symm) h
  | cons a t =>
    rw [hq] at hp hs
    have ha : a ∈ l := hp.mem_iff.1 List.mem_cons_self
    have h1 := hle a ha
    have h2 : a ≤ v := by
      rcases List.mem_cons.1 (hp.mem_iff.2 hv) with rfl | hm
      · exact Int.le_refl _
      · exact List.rel_of_pairwise_cons hs hm
    have : a = v := by omega
    exact this
theorem sorted_last (l : List Int) (h : l ≠ []) (v : Int) (hv : v ∈ l) (hle : ∀ x ∈ l, x ≤ v) : rd (sorted l) ((l.length - 1 : Nat) : Int) = v := by
  have hp := sorted_perm l
  have hs := sorted_sorted l
  have hlen := sorted_length l
  have hl0 : 0 < l.length := List.length_pos_iff.2 h
  have e : rd (sorted l) ((l.length - 1 : Nat) : Int) = (sorted l)[l.length - 1]'(by omega) := by
    rw [rd_nat]
    simp [List.getD, List.getElem?_eq_getElem (show l.length - 1 < (sorted l).length by omega)]
  rw [e]
  have h1 := hle _ (hp.mem_iff.1 (List.getElem_mem (by omega : l.length - 1 < (sorted l).length)))
  obtain ⟨i, hi, hiv⟩ := List.mem_iff_getElem.1 (hp.mem_iff.2 hv)
  have h2 : (sorted l)[i] ≤ (sorted l)[l.length - 1]'(by omega) := by
    by_cases hc : i = l.length - 1
    · subst hc
      exact Int.le_refl _
    · exact List.pairwise_iff_getElem.1 hs i (l.length - 1) hi (by omega) (by omega)
  rw [hiv] at h2
  exact Int.le_antisymm h1 h2

theorem range_same (l : List Int) (hl : l.length ≤ 1048576) : ∃ a b c, Ev (fun k => spec_RangeOf.f k l) (a, b, c) ∧ Ev (fun k => impl_RangeOf.f k l) (a, b, c) := by
  by_cases h0 : l = []
  · subst h0
    exact ⟨0, 0, false, Ev.congr (fun k => if_pos rfl) (Ev.now _), Ev.congr (fun k => if_pos rfl) (Ev.step (fun k => (impl_RangeOf.j0.eq_2 ..).trans (if_pos rfl)) (Ev.now _))⟩
  have hp : 0 < l.length := List.length_pos_iff.2 h0
  have hne : ¬ (l.length : Int) = 0 := by omega
  cases ha : areB l with
  | false =>
    refine ⟨0, 0, false, Ev.congr (fun k => if_neg hne) (Ev.bind (values_ev l hl) (Ev.congr (fun k => if_neg (by simp [ha])) (Ev.now _))), Ev.congr (f := fun k => impl_RangeOf.j0 k l true) (fun k => ?_) (Ev.step (fun k => (impl_RangeOf.j0.eq_2 ..).trans (if_pos rfl)) (Ev.now _))⟩
    simp only [impl_RangeOf.f, impl_areValues.f, ha]
    rw [if_neg hne]
    rfl
  | true =>
    obtain ⟨a, a1, a2, a3⟩ := min_ev l hl h0
    obtain ⟨b, b1, b2, b3⟩ := max_ev l hl h0
    have f1 := sorted_first l h0 a a1 a2
    have f2 := sorted_last l h0 b b1 b2
    have hlen := sorted_length l
    have el : wrap64 (((sorted l).length : Int) - 1) = ((l.length - 1 : Nat) : Int) := by
      rw [hlen, w_id (by omega) (by omega)]
      omega
    refine ⟨a, b, true, ?_, ?_⟩
    · refine Ev.congr (fun k => if_neg hne) (Ev.bind (values_ev l hl) (Ev.congr (fun k => if_pos ha) (Ev.bind (sorted_ev l hl) (Ev.congr (fun k => ?_) (Ev.now _)))))
      rw [if_pos (by omega), el, if_pos (by omega), if_pos (by omega), f1, f2]
    · refine Ev.congr (f := fun k => impl_RangeOf.j0 k l false) (fun k => ?_) (Ev.step (fun k => (impl_RangeOf.j0.eq_2 ..).trans (if_neg (by simp))) (Ev.bind a3 (Ev.bind b3 (Ev.now _))))
      simp only [impl_RangeOf.f, impl_areValues.f, ha]
      rw [if_neg hne]
      rfl

theorem same (l : List Int) (t : Int) (hl : l.length ≤ 1048576) : ∃ v, Ev (fun k => spec_FlatWithin.f k l t) v ∧ Ev (fun k => impl_FlatWithin.f k l t) v := by
  obtain ⟨a, b, c, hs, hi⟩ := range_same l hl
  cases c with
  | true => exact ⟨decide (wrap64 (b - a) ≤ t), Ev.bind hs (Ev.congr (fun k => if_pos rfl) (Ev.now _)), Ev.bind hi (Ev.congr (fun k => if_pos rfl) (Ev.now _))⟩
  | false => exact ⟨false, Ev.bind hs (Ev.congr (fun k => if_neg (by simp)) (Ev.now _)), Ev.bind hi (Ev.congr (fun k => if_neg (by simp)) (Ev.now _))⟩
end FlatWithin

theorem FnExactFlatWithin (l : List Int) (t : Int) (_ : l.length ≤ maxLen ∧ ∀ x ∈ l, (Lit.int .i64 x).wf = true) (_ : (Lit.int .i64 t).wf = true) : ∃ k, laws_FnExactFlatWithin.f k l t = some true := by
  refine Ev.rounds ?_
  by_cases hl : (l.length : Int) > 1048576
  · exact Ev.congr (fun k => if_pos hl) (Ev.now true)
  have hn : l.length ≤ 1048576 := by omega
  have T := FlatWithin.toIntS_ev l hn
  have E := FlatWithin.eqIntS_ev l hn
  obtain ⟨v, hs, hi⟩ := FlatWithin.same l t hn
  refine Ev.congr (fun k => if_neg hl) ?_
  refine Ev.bind T (Ev.bind hs (Ev.bind T (Ev.bind hi ?_)))
  refine Ev.congr (fun k => if_neg (by simp)) ?_
  refine Ev.bind T (Ev.bind E ?_)
  exact Ev.congr (fun k => if_pos rfl) (Ev.now true)

end Go.Proofs.Ytlkglpnccddeeaa.Pure
