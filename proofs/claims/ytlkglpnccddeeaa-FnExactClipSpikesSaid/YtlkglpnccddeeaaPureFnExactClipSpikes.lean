/-
  Pure statement of FnExactClipSpikes: the reference's and the program's ClipSpikes answer the same for every list and every percentile; nothing is shared.
  No condition.
-/
import Derived.Test.YtlkglpnccddeeaaPFnExactClipSpikesx3
import Derived.Test.YtlkglpnccddeeaaAid
namespace Go.Proofs.Ytlkglpnccddeeaa.Pure
open Go.RowKit Go.Proofs.Ytlkglpnccddeeaa.PFnExactClipSpikes Go.Proofs.YtlkglpnccddeeaaW.PrintWords Go.Proofs.YtlkglpnccddeeaaW.PrintLast Go.Proofs.YtlkglpnccddeeaaW.PrintMore Go.Proofs.Ytlkglpnccddeeaa.Aid
namespace ClipSpikes
open Go.Proofs.Ytlkglpnccddeeaa.Pct
theorem toIntS_l0 (l : List Int) (hl : l.length ≤ 1048576) : ∀ (d n : Nat), n + d = l.length →
    Ev (fun k => laws_toIntS.l0 k l (l.take n ++ List.replicate (l.length - n) 0) (n : Int)) l
  | 0, n, h => by
    refine Ev.step (f := fun _ => some l) (fun k => ?_) (Ev.now _)
    obtain rfl : n = l.length := by omega
    simp only [laws_toIntS.l0]
    rw [if_neg (by omega)]
    simp
  | d + 1, n, h => by
    refine Ev.step (fun k => ?_) (toIntS_l0 l hl d (n + 1) (by omega))
    simp only [laws_toIntS.l0]
    rw [if_pos (by omega), if_pos (by omega), if_pos (by simp; omega), w_succ n (by omega), Int.toNat_natCast, rd_nat, set_step l 0 0 n (by omega)]

theorem toIntS_ev (l : List Int) (hl : l.length ≤ 1048576) : Ev (fun k => laws_toIntS.f k l) l := by
  refine Ev.congr (fun k => ?_) (toIntS_l0 l hl l.length 0 (by omega))
  simp only [laws_toIntS.f]
  rw [if_pos (by omega), if_pos (by omega)]
  simp

theorem eqIntS_l0 (l : List Int) (hl : l.length ≤ 1048576) : ∀ (d n : Nat), n + d = l.length →
    Ev (fun k => laws_eqIntS.l0 k l l (n : Int)) true
  | 0, n, h => by
    refine Ev.step (f := fun _ => some true) (fun k => ?_) (Ev.now _)
    simp only [laws_eqIntS.l0]
    rw [if_neg (by omega)]
  | d + 1, n, h => by
    refine Ev.step (fun k => ?_) (eqIntS_l0 l hl d (n + 1) (by omega))
    simp only [laws_eqIntS.l0]
    rw [if_pos (by omega), if_pos (by omega), if_pos (by omega), if_pos trivial, w_succ n (by omega)]

theorem eqIntS_ev (l : List Int) (hl : l.length ≤ 1048576) : Ev (fun k => laws_eqIntS.f k l l) true := by
  refine Ev.congr (fun k => ?_) (eqIntS_l0 l hl l.length 0 (by omega))
  simp only [laws_eqIntS.f]
  rw [if_pos trivial]
  rfl

/-- What markIntS leaves: 1, 2, 3, .. -/
def marked (n : Nat) : List Int := (List.range n).map fun i => ((i + 1 : Nat) : Int)
theorem marked_length (n : Nat) : (marked n).length = n := by simp [marked]
theorem marked_getD (n i : Nat) (h : i < n) : (marked n).getD i 0 = ((i + 1 : Nat) : Int) := by simp [marked, List.getD, h]

theorem marked_step (xs : List Int) (n : Nat) (h : n < xs.length) : (marked n ++ xs.drop n).set n ((n + 1 : Nat) : Int) = marked (n + 1) ++ xs.drop (n + 1) := by
  rw [List.drop_eq_getElem_cons h, List.set_append_right _ _ (by rw [marked_length]; omega), marked_length]
  have e : n - n = 0 := by omega
  rw [e, List.set_cons_zero]
  simp [marked, List.range_succ]

theorem markIntS_l0 (xs : List Int) (hl : xs.length ≤ 1048576) : ∀ (d n : Nat), n + d = xs.length →
    Ev (fun k => laws_markIntS.l0 k (marked n ++ xs.drop n) ((n + 1 : Nat) : Int) (n : Int)) (((xs.length + 1 : Nat) : Int), marked xs.length)
  | 0, n, h => by
    refine Ev.step (f := fun _ => some (((xs.length + 1 : Nat) : Int), marked xs.length)) (fun k => ?_) (Ev.now _)
    obtain rfl : n = xs.length := by omega
    simp only [laws_markIntS.l0]
    rw [if_neg (by simp [marked_length])]
    simp
  | d + 1, n, h => by
    refine Ev.step (fun k => ?_) (markIntS_l0 xs hl d (n + 1) (by omega))
    simp only [laws_markIntS.l0]
    rw [if_pos (by simp [marked_length]; omega), if_pos (by omega), Int.toNat_natCast, marked_step xs n (by omega), w_succ n (by omega), w_succ (n + 1) (by omega)]

theorem markIntS_ev (xs : List Int) (hl : xs.length ≤ 1048576) : Ev (fun k => laws_markIntS.f k xs 1) (((xs.length + 1 : Nat) : Int), marked xs.length) := by
  refine Ev.congr (fun k => ?_) (markIntS_l0 xs hl xs.length 0 (by omega))
  simp only [laws_markIntS.f]
  rfl

theorem heldIntS_l0 (m : Nat) (hl : m ≤ 1048576) : ∀ (d n : Nat), n + d = m →
    Ev (fun k => laws_heldIntS.l0 k (marked m) ((n + 1 : Nat) : Int) (n : Int)) ((m + 1 : Nat) : Int)
  | 0, n, h => by
    refine Ev.step (f := fun _ => some ((m + 1 : Nat) : Int)) (fun k => ?_) (Ev.now _)
    obtain rfl : n = m := by omega
    simp only [laws_heldIntS.l0]
    rw [if_neg (by rw [marked_length]; omega)]
  | d + 1, n, h => by
    refine Ev.step (fun k => ?_) (heldIntS_l0 m hl d (n + 1) (by omega))
    simp only [laws_heldIntS.l0]
    rw [if_pos (by rw [marked_length]; omega), if_pos (by omega), if_pos (by rw [rd_nat, marked_getD m n (by omega)]), w_succ n (by omega), w_succ (n + 1) (by omega)]

theorem heldIntS_ev (m : Nat) (hl : m ≤ 1048576) : Ev (fun k => laws_heldIntS.f k (marked m) 1) ((m + 1 : Nat) : Int) := by
  refine Ev.congr (fun k => ?_) (heldIntS_l0 m hl m 0 (by omega))
  simp only [laws_heldIntS.f]
  rfl

theorem value_ok (a : Int) : spec_l01Value.f a = some (!bad a) := by
  unfold spec_l01Value.f spec_l01In.f bad
  by_cases h : -1000000000 ≤ a <;> simp [h]

theorem values_l0 (l : List Int) (hl : l.length ≤ 1048576) : ∀ (d n : Nat), n + d = l.length → Ev (fun k => spec_l11Values.l0 k l (n : Int)) (!(l.drop n).any bad && decide ((l.length : Int) ≤ 300))
  | 0, n, h => by
    rw [drop_end l n (by omega)]
    refine Ev.step (f := fun _ => some (decide ((l.length : Int) ≤ 300))) (fun k => ?_) (Ev.now _)
    simp only [spec_l11Values.l0]
    rw [if_neg (by omega)]
  | d + 1, n, h => by
    rw [drop_cons l 0 n (by omega), List.any_cons]
    cases hb : bad (l.getD n 0) with
    | true =>
      refine Ev.step (f := fun _ => some false) (fun k => ?_) (Ev.now _)
      simp only [spec_l11Values.l0]
      rw [if_pos (by omega), if_pos (by omega), value_ok, rd_nat, hb]
      rfl
    | false =>
      rw [Bool.false_or]
      refine Ev.step (fun k => ?_) (values_l0 l hl d (n + 1) (by omega))
      simp only [spec_l11Values.l0]
      rw [if_pos (by omega), if_pos (by omega), value_ok, rd_nat, hb, w_succ n (by omega)]
      rfl

theorem values_ev (l : List Int) (hl : l.length ≤ 1048576) : Ev (fun k => spec_l11Values.f k l) (areB l) := by
  have h := values_l0 l hl l.length 0 (by omega)
  rw [List.drop_zero] at h
  have e : (!l.any bad && decide ((l.length : Int) ≤ 300)) = areB l := by
    unfold areB
    rw [Bool.and_comm]
    congr 1
    exact decide_eq_decide.2 (by omega)
  rw [e] at h
  exact h
theorem are_len (l : List Int) (h : areB l = true) : l.length ≤ 300 := by
  unfold areB at h
  simp only [Bool.and_eq_true, decide_eq_true_eq] at h
  exact h.1

/-- Insertion behind equal ones; insertion of one element after the other. -/
def ins (x : Int) : List Int → List Int
  | [] => [x]
  | y :: t => if x < y then x :: y :: t else y :: ins x t
def sortFrom : List Int → List Int → List Int
  | out, [] => out
  | out, x :: t => sortFrom (ins x out) t
theorem ins_length (x : Int) : ∀ l : List Int, (ins x l).length = l.length + 1
  | [] => rfl
  | y :: t => by
    unfold ins
    split
    · rfl
    · simp [ins_length x t]
theorem ins_perm (x : Int) : ∀ l : List Int, (ins x l).Perm (x :: l)
  | [] => List.Perm.refl _
  | y :: t => by
    unfold ins
    split
    · exact List.Perm.refl _
    · exact ((ins_perm x t).cons y).trans (List.Perm.swap x y t)
theorem ins_mem {x z : Int} {l : List Int} : z ∈ ins x l ↔ z = x ∨ z ∈ l := by
  rw [(ins_perm x l).mem_iff]
  simp
theorem ins_sorted (x : Int) : ∀ l : List Int, l.Pairwise (· ≤ ·) → (ins x l).Pairwise (· ≤ ·)
  | [], _ => by simp [ins]
  | y :: t, h => by
    have h1 : ∀ {z : Int}, z ∈ t → y ≤ z := fun hz => List.rel_of_pairwise_cons h hz
    have h2 := h.of_cons
    unfold ins
    split
    · rename_i hlt
      refine List.Pairwise.cons ?_ h
      intro z hz
      rcases List.mem_cons.1 hz with rfl | hz
      · omega
      · have := h1 hz
        omega
    · rename_i hge
      refine List.Pairwise.cons ?_ (ins_sorted x t h2)
      intro z hz
      rcases ins_mem.1 hz with rfl | hz
      · omega
      · exact h1 hz
theorem sortFrom_length : ∀ (l out : List Int), (sortFrom out l).length = out.length + l.length
  | [], out => rfl
  | x :: t, out => by
    rw [sortFrom, sortFrom_length t, ins_length, List.length_cons]
    omega
theorem sortFrom_perm : ∀ (l out : List Int), (sortFrom out l).Perm (out ++ l)
  | [], out => by simp [sortFrom]
  | x :: t, out => by
    rw [sortFrom]
    refine (sortFrom_perm t _).trans (((ins_perm x out).append_right t).trans ?_)
    rw [List.cons_append]
    exact List.perm_middle.symm
theorem sortFrom_sorted : ∀ (l out : List Int), out.Pairwise (· ≤ ·) → (sortFrom out l).Pairwise (· ≤ ·)
  | [], out, h => h
  | x :: t, out, h => by
    rw [sortFrom]
    exact sortFrom_sorted t _ (ins_sorted x out h)
/-- The list, sorted. -/
def sorted (l : List Int) : List Int := sortFrom [] l
theorem sorted_length (l : List Int) : (sorted l).length = l.length := by rw [sorted, sortFrom_length]; simp
theorem sorted_perm (l : List Int) : (sorted l).Perm l := sortFrom_perm l []
theorem sorted_sorted (l : List Int) : (sorted l).Pairwise (· ≤ ·) := sortFrom_sorted l [] List.Pairwise.nil

theorem sort_l1t (l out : List Int) (n : Nat) (hl : l.length ≤ 1048576) (ho : out.length ≤ 1048576) (hn : n < l.length) {r : List Int} : ∀ (d m : Nat) (next : List Int), m + d = out.length → next.length ≤ m + 1 →
    Ev (fun k => spec_l11Sorted.l0 k l (next ++ out.drop m) ((n + 1 : Nat) : Int)) r → Ev (fun k => spec_l11Sorted.l1 k l out (n : Int) next true (m : Int)) r
  | 0, m, next, h, hx, hr => by
    rw [drop_end out m (by omega), List.append_nil] at hr
    refine Ev.step (fun k => ?_) hr
    rw [spec_l11Sorted.l1.eq_2, if_neg (by omega), if_pos rfl, w_succ n (by omega)]
  | d + 1, m, next, h, hx, hr => by
    have e : next ++ out.drop m = (next ++ [rd out (m : Int)]) ++ out.drop (m + 1) := by
      rw [drop_cons out 0 m (by omega), List.append_assoc]
      rfl
    rw [e] at hr
    refine Ev.step (fun k => ?_) (sort_l1t l out n hl ho hn d (m + 1) (next ++ [rd out (m : Int)]) (by omega) (by simp; omega) hr)
    rw [spec_l11Sorted.l1.eq_2, if_pos (by omega), if_pos rfl, if_pos (by omega), if_pos (by omega), w_succ m (by omega)]

theorem sort_l1f (l out : List Int) (n : Nat) (hl : l.length ≤ 1048576) (ho : out.length ≤ 1048576) (hn : n < l.length) {r : List Int} : ∀ (d m : Nat) (next : List Int), m + d = out.length → next.length ≤ m →
    Ev (fun k => spec_l11Sorted.l0 k l (next ++ ins (rd l (n : Int)) (out.drop m)) ((n + 1 : Nat) : Int)) r → Ev (fun k => spec_l11Sorted.l1 k l out (n : Int) next false (m : Int)) r
  | 0, m, next, h, hx, hr => by
    rw [drop_end out m (by omega)] at hr
    refine Ev.step (fun k => ?_) hr
    rw [spec_l11Sorted.l1.eq_2, if_neg (by omega), if_neg (by simp), if_pos (by omega), if_pos (by omega), if_pos (by omega), w_succ n (by omega)]
    rfl
  | d + 1, m, next, h, hx, hr => by
    rw [drop_cons out 0 m (by omega)] at hr
    unfold ins at hr
    by_cases c : rd l (n : Int) < rd out (m : Int)
    · have c' : rd l (n : Int) < out.getD m 0 := c
      rw [if_pos c'] at hr
      have e : next ++ rd l (n : Int) :: out.getD m 0 :: out.drop (m + 1) = ((next ++ [rd l (n : Int)]) ++ [rd out (m : Int)]) ++ out.drop (m + 1) := by
        rw [List.append_assoc, List.append_assoc]
        rfl
      rw [e] at hr
      refine Ev.step (fun k => ?_) (sort_l1t l out n hl ho hn d (m + 1) ((next ++ [rd l (n : Int)]) ++ [rd out (m : Int)]) (by omega) (by simp; omega) hr)
      rw [spec_l11Sorted.l1.eq_2, if_pos (by omega), if_neg (by simp), if_pos (by omega), if_pos (by omega), if_pos (by omega), if_pos c, if_pos (by omega)]
      simp only [Option.bind_some]
      rw [if_pos (by simp; omega), w_succ m (by omega)]
    · have c' : ¬ rd l (n : Int) < out.getD m 0 := c
      rw [if_neg c'] at hr
      have e : next ++ out.getD m 0 :: ins (rd l (n : Int)) (out.drop (m + 1)) = (next ++ [rd out (m : Int)]) ++ ins (rd l (n : Int)) (out.drop (m + 1)) := by
        rw [List.append_assoc]
        rfl
      rw [e] at hr
      refine Ev.step (fun k => ?_) (sort_l1f l out n hl ho hn d (m + 1) (next ++ [rd out (m : Int)]) (by omega) (by simp; omega) hr)
      rw [spec_l11Sorted.l1.eq_2, if_pos (by omega), if_neg (by simp), if_pos (by omega), if_pos (by omega), if_pos (by omega), if_neg c, if_pos (by omega), w_succ m (by omega)]

theorem sort_l0 (l : List Int) (hl : l.length ≤ 1048576) : ∀ (d n : Nat) (out : List Int), n + d = l.length → out.length = n → Ev (fun k => spec_l11Sorted.l0 k l out (n : Int)) (sortFrom out (l.drop n))
  | 0, n, out, h, ho => by
    rw [drop_end l n (by omega)]
    refine Ev.step (f := fun _ => some out) (fun k => ?_) (Ev.now _)
    rw [spec_l11Sorted.l0.eq_2, if_neg (by omega)]
  | d + 1, n, out, h, ho => by
    have ih := sort_l0 l hl d (n + 1) (ins (rd l (n : Int)) out) (by omega) (by rw [ins_length, ho])
    have e : sortFrom out (l.drop n) = sortFrom (ins (rd l (n : Int)) out) (l.drop (n + 1)) := by
      rw [drop_cons l 0 n (by omega), sortFrom]
      rfl
    rw [e]
    refine Ev.step (fun k => ?_) (sort_l1f l out n hl (by omega) (by omega) out.length 0 [] (by omega) (by simp) ih)
    rw [spec_l11Sorted.l0.eq_2, if_pos (by omega)]
    rfl

theorem sorted_ev (l : List Int) (hl : l.length ≤ 1048576) : Ev (fun k => spec_l11Sorted.f k l) (sorted l) := sort_l0 l hl l.length 0 [] (by omega) rfl

theorem in1 (a b c : Int) : spec_l01In.f a b c = some (decide (b ≤ a) && decide (a ≤ c)) := by
  unfold spec_l01In.f
  by_cases h : b ≤ a <;> simp [h]
theorem srt_sorted (l : List Int) : srt l = sorted l := by
  have hp : (srt l).Perm (sorted l) := (List.mergeSort_perm l _).trans (sorted_perm l).symm
  have h1 : (srt l).Pairwise (· ≤ ·) := by
    have h := List.pairwise_mergeSort (le := fun x y : Int => decide (x ≤ y)) (fun a b c => by simp; omega) (fun a b => by simp; omega) l
    exact h.imp (fun h => by simpa using h)
  exact List.Perm.eq_of_pairwise (fun a b _ _ h2 h3 => Int.le_antisymm h2 h3) h1 (sorted_sorted l) hp

theorem percentile_same (l : List Int) (p : Int) (hl : l.length ≤ 1048576) : ∃ a b, pctF l p = some (a, b) ∧ Ev (fun k => spec_PercentileOf.f k l p) (a, b) := by
  cases hf : fine l p with
  | false =>
    refine ⟨0, false, by unfold pctF; rw [hf]; rfl, ?_⟩
    unfold fine at hf
    by_cases h0 : l.length = 0
    · exact Ev.congr (fun k => if_pos (by omega)) (Ev.now _)
    have he : l.isEmpty = false := by cases l with | nil => exact absurd rfl h0 | cons x t => rfl
    refine Ev.congr (fun k => if_neg (by omega)) (Ev.bind (values_ev l hl) ?_)
    cases ha : areB l with
    | false => exact Ev.congr (fun k => if_neg (by simp)) (Ev.now _)
    | true =>
      have hi : spec_l01In.f p 0 1000 = some false := by
        rw [in1]
        rw [he, ha] at hf
        simpa using hf
      refine Ev.congr (fun k => ?_) (Ev.now (0, false))
      rw [if_pos rfl, hi]
      rfl
  | true =>
    have hF := hf
    unfold fine at hF
    simp only [Bool.and_eq_true, Bool.not_eq_true', decide_eq_true_eq] at hF
    obtain ⟨he, ha, hp0, hp1⟩ := hF
    have hpos : 0 < l.length := by
      cases l with
      | nil => exact absurd he (by decide)
      | cons x t => simp
    have hlen := are_len l ha
    refine ⟨(srt l).getD (place l.length p) 0, true, by unfold pctF; rw [hf]; rfl, ?_⟩
    have hi : spec_l01In.f p 0 1000 = some true := by
      rw [in1, decide_eq_true hp0, decide_eq_true hp1]
      rfl
    have e0 : wrap64 ((l.length : Int) - 1) = (l.length : Int) - 1 := w_id (by omega) (by omega)
    have e1 := place_eq l.length p hpos hlen hp0 hp1
    have e2 := place_lt l.length p hpos hp1
    refine Ev.congr (fun k => if_neg (by omega)) (Ev.bind (values_ev l hl) (Ev.congr (fun k => if_pos ha) ?_))
    refine Ev.congr (f := fun k => (spec_l11Sorted.f k l).bind fun t => some (rd t ((place l.length p : Nat) : Int), true)) (fun k => ?_) (Ev.bind (sorted_ev l hl) ?_)
    · rw [hi]
      simp only [Option.bind_some]
      rw [if_pos trivial, e0, e1]
      cases hs : spec_l11Sorted.f k l with
      | none => rfl
      | some t =>
        have ht : t = sorted l := by
          obtain ⟨K, hK⟩ := sorted_ev l hl
          have h1 := at_rounds (fun k => spec_l11Sorted.mono l k) (Nat.le_max_left k K) hs
          have h2 : spec_l11Sorted.f (max k K) l = some (sorted l) := hK (max k K) (Nat.le_max_right _ _)
          rw [h1] at h2
          exact Option.some.inj h2
        simp only [Option.bind_some]
        rw [ht, if_pos (by omega), if_pos (by rw [sorted_length]; omega)]
    · rw [srt_sorted]
      exact Ev.now _

theorem clip_l0 (l : List Int) (m : Int) (hl : l.length ≤ 1048576) : ∀ (d n : Nat) (out : List Int), n + d = l.length → out.length = n →
    ∃ ys : List Int, ys.length = l.length ∧ Ev (fun k => spec_ClipSpikes.l0 k l m out (n : Int)) (ys, true) ∧ Ev (fun k => impl_ClipSpikes.l0 k m out l (l.length : Int) (n : Int)) (ys, true)
  | 0, n, out, h, ho => by
    refine ⟨out, by omega, Ev.step (f := fun _ => some (out, true)) (fun k => ?_) (Ev.now _), Ev.step (f := fun _ => some (out, true)) (fun k => ?_) (Ev.now _)⟩
    · simp only [spec_ClipSpikes.l0]
      rw [if_neg (by omega)]
    · simp only [impl_ClipSpikes.l0]
      rw [if_neg (by omega)]
  | d + 1, n, out, h, ho => by
    obtain ⟨ys, hy, h1, h2⟩ := clip_l0 l m hl d (n + 1) (out ++ [mn (rd l (n : Int)) m]) (by omega) (by simp [ho])
    refine ⟨ys, hy, Ev.step (fun k => ?_) h1, Ev.step (fun k => ?_) h2⟩
    · simp only [spec_ClipSpikes.l0]
      rw [if_pos (by omega), if_pos (by omega), w_succ n (by omega)]
      unfold mn
      by_cases c : rd l (n : Int) > m
      · rw [if_pos c, if_pos c, if_pos (by omega)]
      · rw [if_neg c, if_neg c, if_pos (by omega)]
    · simp only [impl_ClipSpikes.l0]
      rw [if_pos (by omega), if_pos (by omega), if_pos (by omega), if_pos (by omega), w_succ n (by omega)]

theorem same (l : List Int) (p : Int) (hl : l.length ≤ 1048576) : ∃ ys b, ys.length ≤ 1048576 ∧ Ev (fun k => spec_ClipSpikes.f k l p) (ys, b) ∧ Ev (fun k => impl_ClipSpikes.f k l p) (ys, b) := by
  obtain ⟨a, b, hi, hs⟩ := percentile_same l p hl
  have hi' : Ev (fun _ => impl_PercentileOf.f l p) (a, b) := Ev.congr (fun _ => hi) (Ev.now _)
  cases b with
  | false => exact ⟨[], false, by simp, Ev.bind hs (Ev.congr (fun k => if_neg (by simp)) (Ev.now _)), Ev.bind hi' (Ev.congr (fun k => if_neg (by simp)) (Ev.now _))⟩
  | true =>
    obtain ⟨ys, hy, h1, h2⟩ := clip_l0 l a hl l.length 0 [] (by omega) rfl
    exact ⟨ys, true, by omega, Ev.bind hs (Ev.congr (fun k => if_pos rfl) h1), Ev.bind hi' (Ev.congr (fun k => if_pos rfl) h2)⟩

theorem law (l : List Int) (a1 : Int) (hl : l.length ≤ 1048576) (ys : List Int) (b : Bool) (hy : ys.length ≤ 1048576) (hs : Ev (fun k => spec_ClipSpikes.f k l a1) (ys, b)) (hi : Ev (fun k => impl_ClipSpikes.f k l a1) (ys, b)) :
    Ev (fun k => laws_FnExactClipSpikes.f k l a1) true := by
  have T := toIntS_ev l hl
  have E := eqIntS_ev l hl
  have Y := eqIntS_ev ys hy
  have M := markIntS_ev l hl
  have M' := markIntS_ev ys hy
  have H := heldIntS_ev ys.length hy
  refine Ev.congr (fun k => if_neg (by omega)) ?_
  refine Ev.bind T (Ev.bind hs (Ev.bind T (Ev.bind hi (Ev.bind Y ?_))))
  refine Ev.congr (fun k => if_pos rfl) ?_
  refine Ev.step (fun k => (laws_FnExactClipSpikes.j0.eq_2 ..).trans (if_neg (by simp))) ?_
  refine Ev.bind T (Ev.bind E ?_)
  refine Ev.congr (fun k => if_pos rfl) ?_
  refine Ev.bind M ?_
  refine Ev.congr (fun k => if_neg (by simp; omega)) ?_
  refine Ev.bind Y ?_
  refine Ev.congr (fun k => if_pos rfl) ?_
  refine Ev.step (fun k => (laws_FnExactClipSpikes.j1.eq_2 ..).trans (if_neg (by simp))) ?_
  refine Ev.bind M' (Ev.bind H ?_)
  refine Ev.congr (fun k => if_neg (by omega)) ?_
  refine Ev.congr (fun k => if_pos rfl) ?_
  refine Ev.bind T (Ev.bind hi (Ev.bind Y ?_))
  refine Ev.congr (fun k => if_pos rfl) ?_
  refine Ev.step (fun k => (laws_FnExactClipSpikes.j2.eq_2 ..).trans (if_neg (by simp))) ?_
  refine Ev.bind H ?_
  refine Ev.congr (fun k => if_neg (by omega)) ?_
  refine Ev.congr (fun k => if_pos rfl) ?_
  exact Ev.now true
end ClipSpikes

theorem FnExactClipSpikes (l : List Int) (a1 : Int) (_ : l.length ≤ maxLen ∧ ∀ x ∈ l, (Lit.int .i64 x).wf = true) (_ : (Lit.int .i64 a1).wf = true) : ∃ k, laws_FnExactClipSpikes.f k l a1 = some true := by
  refine Ev.rounds ?_
  by_cases hl : (l.length : Int) > 1048576
  · exact Ev.congr (fun k => if_pos hl) (Ev.now true)
  obtain ⟨ys, b, hy, hs, hi⟩ := ClipSpikes.same l a1 (by omega)
  exact ClipSpikes.law l a1 (by omega) ys b hy hs hi

end Go.Proofs.Ytlkglpnccddeeaa.Pure
