/-
  Pure statement of FnExactMedianOf: the reference's and the program's MedianOf answer the same for every list.
  No condition.
-/
import Derived.Test.YtlkglpnccddeeaaPFnExactMedianOfx2
import Derived.Test.YtlkglpnccddeeaaAid
namespace Go.Proofs.Ytlkglpnccddeeaa.Pure
open Go.RowKit Go.Proofs.Ytlkglpnccddeeaa.PFnExactMedianOf Go.Proofs.YtlkglpnccddeeaaW.PrintWords Go.Proofs.YtlkglpnccddeeaaW.PrintLast Go.Proofs.YtlkglpnccddeeaaW.PrintMore Go.Proofs.Ytlkglpnccddeeaa.Aid
namespace MedianOf
open Go.Proofs.Ytlkglpnccddeeaa.Pct
theorem toIntS_l0 (l : List Int) (hl : l.length ≤ 1048576) : ∀ (d n : Nat), n + d = l.length →
    Ev (fun k => laws_toIntS.l0 k l (l.take n ++ List.replicate (l.length - n) 0) (n : Int)) l
  | 0, n, h => by
    refine Ev.step (f := fun _ => some l) (fun k => ?_) (Ev.now _)
    obtain rfl : n = l.length := by omega
    simp only [laws_toIntS.l0]
    rw [if_neg (by omega)]
    simp
  | d + 1, n, h => by
    refine Ev.step (fun k => ?_) (toIntS_l0 l hl d (n + 1) (by omega))
    simp only [laws_toIntS.l0]
    rw [if_pos (by omega), if_pos (by omega), if_pos (by simp; omega), w_succ n (by omega), Int.toNat_natCast, rd_nat, set_step l 0 0 n (by omega)]

theorem toIntS_ev (l : List Int) (hl : l.length ≤ 1048576) : Ev (fun k => laws_toIntS.f k l) l := by
  refine Ev.congr (fun k => ?_) (toIntS_l0 l hl l.length 0 (by omega))
  simp only [laws_toIntS.f]
  rw [if_pos (by omega), if_pos (by omega)]
  simp

theorem eqIntS_l0 (l : List Int) (hl : l.length ≤ 1048576) : ∀ (d n : Nat), n + d = l.length →
    Ev (fun k => laws_eqIntS.l0 k l l (n : Int)) true
  | 0, n, h => by
    refine Ev.step (f := fun _ => some true) (fun k => ?_) (Ev.now _)
    simp only [laws_eqIntS.l0]
    rw [if_neg (by omega)]
  | d + 1, n, h => by
    refine Ev.step (fun k => ?_) (eqIntS_l0 l hl d (n + 1) (by omega))
    simp only [laws_eqIntS.l0]
    rw [if_pos (by omega), if_pos (by omega), if_pos (by omega), if_pos trivial, w_succ n (by omega)]

theorem eqIntS_ev (l : List Int) (hl : l.length ≤ 1048576) : Ev (fun k => laws_eqIntS.f k l l) true := by
  refine Ev.congr (fun k => ?_) (eqIntS_l0 l hl l.length 0 (by omega))
  simp only [laws_eqIntS.f]
  rw [if_pos trivial]
  rfl

theorem value_ok (a : Int) : spec_l01Value.f a = some (!bad a) := by
  unfold spec_l01Value.f spec_l01In.f bad
  by_cases h : -1000000000 ≤ a <;> simp [h]

theorem values_l0 (l : List Int) (hl : l.length ≤ 1048576) : ∀ (d n : Nat), n + d = l.length → Ev (fun k => spec_l11Values.l0 k l (n : Int)) (!(l.drop n).any bad && decide ((l.length : Int) ≤ 300))
  | 0, n, h => by
    rw [drop_end l n (by omega)]
    refine Ev.step (f := fun _ => some (decide ((l.length : Int) ≤ 300))) (fun k => ?_) (Ev.now _)
    simp only [spec_l11Values.l0]
    rw [if_neg (by omega)]
  | d + 1, n, h => by
    rw [drop_cons l 0 n (by omega), List.any_cons]
    cases hb : bad (l.getD n 0) with
    | true =>
      refine Ev.step (f := fun _ => some false) (fun k => ?_) (Ev.now _)
      simp only [spec_l11Values.l0]
      rw [if_pos (by omega), if_pos (by omega), value_ok, rd_nat, hb]
      rfl
    | false =>
      rw [Bool.false_or]
      refine Ev.step (fun k => ?_) (values_l0 l hl d (n + 1) (by omega))
      simp only [spec_l11Values.l0]
      rw [if_pos (by omega), if_pos (by omega), value_ok, rd_nat, hb, w_succ n (by omega)]
      rfl

theorem values_ev (l : List Int) (hl : l.length ≤ 1048576) : Ev (fun k => spec_l11Values.f k l) (areB l) := by
  have h := values_l0 l hl l.length 0 (by omega)
  rw [List.drop_zero] at h
  have e : (!l.any bad && decide ((l.length : Int) ≤ 300)) = areB l := by
    unfold areB
    rw [Bool.and_comm]
    congr 1
    exact decide_eq_decide.2 (by omega)
  rw [e] at h
  exact h
theorem are_len (l : List Int) (h : areB l = true) : l.length ≤ 300 := by
  unfold areB at h
  simp only [Bool.and_eq_true, decide_eq_true_eq] at h
  exact h.1

/-- Insertion behind equal ones; insertion of one element after the other. -/
def ins (x : Int) : List Int → List Int
  | [] => [x]
  | y :: t => if x < y then x :: y :: t else y :: ins x t
def sortFrom : List Int → List Int → List Int
  | out, [] => out
  | out, x :: t => sortFrom (ins x out) t
theorem ins_length (x : Int) : ∀ l : List Int, (ins x l).length = l.length + 1
  | [] => rfl
  | y :: t => by
    unfold ins
    split
    · rfl
    · simp [ins_length x t]
theorem ins_perm (x : Int) : ∀ l : List Int, (ins x l).Perm (x :: l)
  | [] => List.Perm.refl _
  | y :: t => by
    unfold ins
    split
    · exact List.Perm.refl _
    · exact ((ins_perm x t).cons y).trans (List.Perm.swap x y t)
theorem ins_mem {x z : Int} {l : List Int} : z ∈ ins x l ↔ z = x ∨ z ∈ l := by
  rw [(ins_perm x l).mem_iff]
  simp
theorem ins_sorted (x : Int) : ∀ l : List Int, l.Pairwise (· ≤ ·) → (ins x l).Pairwise (· ≤ ·)
  | [], _ => by simp [ins]
  | y :: t, h => by
    have h1 : ∀ {z : Int}, z ∈ t → y ≤ z := fun hz => List.rel_of_pairwise_cons h hz
    have h2 := h.of_cons
    unfold ins
    split
    · rename_i hlt
      refine List.Pairwise.cons ?_ h
      intro z hz
      rcases List.mem_cons.1 hz with rfl | hz
      · omega
      · have := h1 hz
        omega
    · rename_i hge
      refine List.Pairwise.cons ?_ (ins_sorted x t h2)
      intro z hz
      rcases ins_mem.1 hz with rfl | hz
      · omega
      · exact h1 hz
theorem sortFrom_length : ∀ (l out : List Int), (sortFrom out l).length = out.length + l.length
  | [], out => rfl
  | x :: t, out => by
    rw [sortFrom, sortFrom_length t, ins_length, List.length_cons]
    omega
theorem sortFrom_perm : ∀ (l out : List Int), (sortFrom out l).Perm (out ++ l)
  | [], out => by simp [sortFrom]
  | x :: t, out => by
    rw [sortFrom]
    refine (sortFrom_perm t _).trans (((ins_perm x out).append_right t).trans ?_)
    rw [List.cons_append]
    exact List.perm_middle.symm
theorem sortFrom_sorted : ∀ (l out : List Int), out.Pairwise (· ≤ ·) → (sortFrom out l).Pairwise (· ≤ ·)
  | [], out, h => h
  | x :: t, out, h => by
    rw [sortFrom]
    exact sortFrom_sorted t _ (ins_sorted x out h)
/-- The list, sorted. -/
def sorted (l : List Int) : List Int := sortFrom [] l
theorem sorted_length (l : List Int) : (sorted l).length = l.length := by rw [sorted, sortFrom_length]; simp
theorem sorted_perm (l : List Int) : (sorted l).Perm l := sortFrom_perm l []
theorem sorted_sorted (l : List Int) : (sorted l).Pairwise (· ≤ ·) := sortFrom_sorted l [] List.Pairwise.nil

theorem sort_l1t (l out : List Int) (n : Nat) (hl : l.length ≤ 1048576) (ho : out.length ≤ 1048576) (hn : n < l.length) {r : List Int} : ∀ (d m : Nat) (next : List Int), m + d = out.length → next.length ≤ m + 1 →
    Ev (fun k => spec_l11Sorted.l0 k l (next ++ out.drop m) ((n + 1 : Nat) : Int)) r → Ev (fun k => spec_l11Sorted.l1 k l out (n : Int) next true (m : Int)) r
  | 0, m, next, h, hx, hr => by
    rw [drop_end out m (by omega), List.append_nil] at hr
    refine Ev.step (fun k => ?_) hr
    rw [spec_l11Sorted.l1.eq_2, if_neg (by omega), if_pos rfl, w_succ n (by omega)]
  | d + 1, m, next, h, hx, hr => by
    have e : next ++ out.drop m = (next ++ [rd out (m : Int)]) ++ out.drop (m + 1) := by
      rw [drop_cons out 0 m (by omega), List.append_assoc]
      rfl
    rw [e] at hr
    refine Ev.step (fun k => ?_) (sort_l1t l out n hl ho hn d (m + 1) (next ++ [rd out (m : Int)]) (by omega) (by simp; omega) hr)
    rw [spec_l11Sorted.l1.eq_2, if_pos (by omega), if_pos rfl, if_pos (by omega), if_pos (by omega), w_succ m (by omega)]

theorem sort_l1f (l out : List Int) (n : Nat) (hl : l.length ≤ 1048576) (ho : out.length ≤ 1048576) (hn : n < l.length) {r : List Int} : ∀ (d m : Nat) (next : List Int), m + d = out.length → next.length ≤ m →
    Ev (fun k => spec_l11Sorted.l0 k l (next ++ ins (rd l (n : Int)) (out.drop m)) ((n + 1 : Nat) : Int)) r → Ev (fun k => spec_l11Sorted.l1 k l out (n : Int) next false (m : Int)) r
  | 0, m, next, h, hx, hr => by
    rw [drop_end out m (by omega)] at hr
    refine Ev.step (fun k => ?_) hr
    rw [spec_l11Sorted.l1.eq_2, if_neg (by omega), if_neg (by simp), if_pos (by omega), if_pos (by omega), if_pos (by omega), w_succ n (by omega)]
    rfl
  | d + 1, m, next, h, hx, hr => by
    rw [drop_cons out 0 m (by omega)] at hr
    unfold ins at hr
    by_cases c : rd l (n : Int) < rd out (m : Int)
    · have c' : rd l (n : Int) < out.getD m 0 := c
      rw [if_pos c'] at hr
      have e : next ++ rd l (n : Int) :: out.getD m 0 :: out.drop (m + 1) = ((next ++ [rd l (n : Int)]) ++ [rd out (m : Int)]) ++ out.drop (m + 1) := by
        rw [List.append_assoc, List.append_assoc]
        rfl
      rw [e] at hr
      refine Ev.step (fun k => ?_) (sort_l1t l out n hl ho hn d (m + 1) ((next ++ [rd l (n : Int)]) ++ [rd out (m : Int)]) (by omega) (by simp; omega) hr)
      rw [spec_l11Sorted.l1.eq_2, if_pos (by omega), if_neg (by simp), if_pos (by omega), if_pos (by omega), if_pos (by omega), if_pos c, if_pos (by omega)]
      simp only [Option.bind_some]
      rw [if_pos (by simp; omega), w_succ m (by omega)]
    · have c' : ¬ rd l (n : Int) < out.getD m 0 := c
      rw [if_neg c'] at hr
      have e : next ++ out.getD m 0 :: ins (rd l (n : Int)) (out.drop (m + 1)) = (next ++ [rd out (m : Int)]) ++ ins (rd l (n : Int)) (out.drop (m + 1)) := by
        rw [List.append_assoc]
        rfl
      rw [e] at hr
      refine Ev.step (fun k => ?_) (sort_l1f l out n hl ho hn d (m + 1) (next ++ [rd out (m : Int)]) (by omega) (by simp; omega) hr)
      rw [spec_l11Sorted.l1.eq_2, if_pos (by omega), if_neg (by simp), if_pos (by omega), if_pos (by omega), if_pos (by omega), if_neg c, if_pos (by omega), w_succ m (by omega)]

theorem sort_l0 (l : List Int) (hl : l.length ≤ 1048576) : ∀ (d n : Nat) (out : List Int), n + d = l.length → out.length = n → Ev (fun k => spec_l11Sorted.l0 k l out (n : Int)) (sortFrom out (l.drop n))
  | 0, n, out, h, ho => by
    rw [drop_end l n (by omega)]
    refine Ev.step (f := fun _ => some out) (fun k => ?_) (Ev.now _)
    rw [spec_l11Sorted.l0.eq_2, if_neg (by omega)]
  | d + 1, n, out, h, ho => by
    have ih := sort_l0 l hl d (n + 1) (ins (rd l (n : Int)) out) (by omega) (by rw [ins_length, ho])
    have e : sortFrom out (l.drop n) = sortFrom (ins (rd l (n : Int)) out) (l.drop (n + 1)) := by
      rw [drop_cons l 0 n (by omega), sortFrom]
      rfl
    rw [e]
    refine Ev.step (fun k => ?_) (sort_l1f l out n hl (by omega) (by omega) out.length 0 [] (by omega) (by simp) ih)
    rw [spec_l11Sorted.l0.eq_2, if_pos (by omega)]
    rfl

theorem sorted_ev (l : List Int) (hl : l.length ≤ 1048576) : Ev (fun k => spec_l11Sorted.f k l) (sorted l) := sort_l0 l hl l.length 0 [] (by omega) rfl

theorem srt_sorted (l : List Int) : srt l = sorted l := by
  have hp : (srt l).Perm (sorted l) := (List.mergeSort_perm l _).trans (sorted_perm l).symm
  have h1 : (srt l).Pairwise (· ≤ ·) := by
    have h := List.pairwise_mergeSort (le := fun x y : Int => decide (x ≤ y)) (fun a b c => by simp; omega) (fun a b => by simp; omega) l
    exact h.imp (fun h => by simpa using h)
  exact List.Perm.eq_of_pairwise (fun a b _ _ h2 h3 => Int.le_antisymm h2 h3) h1 (sorted_sorted l) hp

theorem place_half (n : Nat) : place n 500 = (n - 1) / 2 := by
  unfold place
  have e : (500 : Int).toNat = 500 := rfl
  rw [e]
  omega

theorem median_same (l : List Int) (hl : l.length ≤ 1048576) : ∃ a b, Ev (fun _ => impl_MedianOf.f l) (a, b) ∧ Ev (fun k => spec_MedianOf.f k l) (a, b) := by
  have hi : ∀ {a b}, pctF l 500 = some (a, b) → Ev (fun _ : Nat => impl_MedianOf.f l) (a, b) := by
    intro a b h
    refine Ev.congr (fun _ => ?_) (Ev.now _)
    unfold impl_MedianOf.f impl_PercentileOf.f
    rw [h]
    rfl
  by_cases h0 : l.length = 0
  · have hf : fine l 500 = false := by cases l with | nil => rfl | cons x t => exact absurd h0 (by simp)
    exact ⟨0, false, hi (by unfold pctF; rw [hf]; rfl), Ev.congr (fun k => if_pos (by omega)) (Ev.now _)⟩
  have he : l.isEmpty = false := by cases l with | nil => exact absurd rfl h0 | cons x t => rfl
  cases ha : areB l with
  | false =>
    have hf : fine l 500 = false := by
      unfold fine
      rw [he, ha]
      rfl
    exact ⟨0, false, hi (by unfold pctF; rw [hf]; rfl), Ev.congr (fun k => if_neg (by omega)) (Ev.bind (values_ev l hl) (Ev.congr (fun k => if_neg (by simp [ha])) (Ev.now _)))⟩
  | true =>
    have hf : fine l 500 = true := by
      unfold fine
      rw [he, ha]
      rfl
    refine ⟨(srt l).getD (place l.length 500) 0, true, hi (by unfold pctF; rw [hf]; rfl), ?_⟩
    rw [srt_sorted, place_half l.length]
    have e1 : wrap64 (Int.tdiv (wrap64 ((l.length : Int) - 1)) 2) = (((l.length - 1) / 2 : Nat) : Int) := by
      rw [w_id (x := (l.length : Int) - 1) (by omega) (by omega), Int.tdiv_eq_ediv_of_nonneg (by omega), w_id (by omega) (by omega)]
      omega
    refine Ev.congr (fun k => if_neg (by omega)) (Ev.bind (values_ev l hl) (Ev.congr (fun k => if_pos ha) (Ev.bind (sorted_ev l hl) (Ev.congr (fun k => ?_) (Ev.now _)))))
    rw [e1, if_pos (by omega), if_pos (by rw [sorted_length]; omega)]
    rfl
end MedianOf

theorem FnExactMedianOf (l : List Int) (_ : l.length ≤ maxLen ∧ ∀ x ∈ l, (Lit.int .i64 x).wf = true) : ∃ k, laws_FnExactMedianOf.f k l = some true := by
  refine Ev.rounds ?_
  by_cases hl : (l.length : Int) > 1048576
  · exact Ev.congr (fun k => if_pos hl) (Ev.now true)
  have hn : l.length ≤ 1048576 := by omega
  have T := MedianOf.toIntS_ev l hn
  have E := MedianOf.eqIntS_ev l hn
  obtain ⟨a, b, hi, hs⟩ := MedianOf.median_same l hn
  refine Ev.congr (fun k => if_neg hl) ?_
  refine Ev.bind T (Ev.bind hs (Ev.bind T (Ev.bind hi ?_)))
  refine Ev.congr (fun k => if_pos rfl) ?_
  refine Ev.step (fun k => (laws_FnExactMedianOf.j0.eq_2 ..).trans (if_neg (by simp))) ?_
  refine Ev.bind T (Ev.bind E ?_)
  exact Ev.congr (fun k => if_pos rfl) (Ev.now true)

end Go.Proofs.Ytlkglpnccddeeaa.Pure
