/-
  Pure statement of FnExactDiffsOf: the reference's and the program's DiffsOf, as printed, answer the same for every list; nothing is shared.
  No condition.
-/
import Derived.Test.YtfcoaecfcoijlaaPFnExactDiffsOfx3
import Derived.Test.YtfcoaecfcoijlaaAid
namespace Go.Proofs.Ytfcoaecfcoijlaa.Pure
open Go.RowKit Go.Proofs.Ytfcoaecfcoijlaa.PFnExactDiffsOf Go.Proofs.YtfcoaecfcoijlaaW.PrintWords Go.Proofs.YtfcoaecfcoijlaaW.PrintLast Go.Proofs.YtfcoaecfcoijlaaW.PrintMore Go.Proofs.Ytfcoaecfcoijlaa.Aid
namespace DiffsOf
theorem toIntS_l0 (l : List Int) (hl : l.length ≤ 1048576) : ∀ (d n : Nat), n + d = l.length →
    Ev (fun k => laws_toIntS.l0 k l (l.take n ++ List.replicate (l.length - n) 0) (n : Int)) l
  | 0, n, h => by
    refine Ev.step (f := fun _ => some l) (fun k => ?_) (Ev.now _)
    obtain rfl : n = l.length := by omega
    simp only [laws_toIntS.l0]
    rw [if_neg (by omega)]
    simp
  | d + 1, n, h => by
    refine Ev.step (fun k => ?_) (toIntS_l0 l hl d (n + 1) (by omega))
    simp only [laws_toIntS.l0]
    rw [if_pos (by omega), if_pos (by omega), if_pos (by simp; omega), w_succ n (by omega), Int.toNat_natCast, rd_nat, set_step l 0 0 n (by omega)]

theorem toIntS_ev (l : List Int) (hl : l.length ≤ 1048576) : Ev (fun k => laws_toIntS.f k l) l := by
  refine Ev.congr (fun k => ?_) (toIntS_l0 l hl l.length 0 (by omega))
  simp only [laws_toIntS.f]
  rw [if_pos (by omega), if_pos (by omega)]
  simp

theorem eqIntS_l0 (l : List Int) (hl : l.length ≤ 1048576) : ∀ (d n : Nat), n + d = l.length →
    Ev (fun k => laws_eqIntS.l0 k l l (n : Int)) true
  | 0, n, h => by
    refine Ev.step (f := fun _ => some true) (fun k => ?_) (Ev.now _)
    simp only [laws_eqIntS.l0]
    rw [if_neg (by omega)]
  | d + 1, n, h => by
    refine Ev.step (fun k => ?_) (eqIntS_l0 l hl d (n + 1) (by omega))
    simp only [laws_eqIntS.l0]
    rw [if_pos (by omega), if_pos (by omega), if_pos (by omega), if_pos trivial, w_succ n (by omega)]

theorem eqIntS_ev (l : List Int) (hl : l.length ≤ 1048576) : Ev (fun k => laws_eqIntS.f k l l) true := by
  refine Ev.congr (fun k => ?_) (eqIntS_l0 l hl l.length 0 (by omega))
  simp only [laws_eqIntS.f]
  rw [if_pos trivial]
  rfl

/-- What markIntS leaves: 1, 2, 3, .. -/
def marked (n : Nat) : List Int := (List.range n).map fun i => ((i + 1 : Nat) : Int)
theorem marked_length (n : Nat) : (marked n).length = n := by simp [marked]
theorem marked_getD (n i : Nat) (h : i < n) : (marked n).getD i 0 = ((i + 1 : Nat) : Int) := by simp [marked, List.getD, h]

theorem marked_step (xs : List Int) (n : Nat) (h : n < xs.length) : (marked n ++ xs.drop n).set n ((n + 1 : Nat) : Int) = marked (n + 1) ++ xs.drop (n + 1) := by
  rw [List.drop_eq_getElem_cons h, List.set_append_right _ _ (by rw [marked_length]; omega), marked_length]
  have e : n - n = 0 := by omega
  rw [e, List.set_cons_zero]
  simp [marked, List.range_succ]

theorem markIntS_l0 (xs : List Int) (hl : xs.length ≤ 1048576) : ∀ (d n : Nat), n + d = xs.length →
    Ev (fun k => laws_markIntS.l0 k (marked n ++ xs.drop n) ((n + 1 : Nat) : Int) (n : Int)) (((xs.length + 1 : Nat) : Int), marked xs.length)
  | 0, n, h => by
    refine Ev.step (f := fun _ => some (((xs.length + 1 : Nat) : Int), marked xs.length)) (fun k => ?_) (Ev.now _)
    obtain rfl : n = xs.length := by omega
    simp only [laws_markIntS.l0]
    rw [if_neg (by simp [marked_length])]
    simp
  | d + 1, n, h => by
    refine Ev.step (fun k => ?_) (markIntS_l0 xs hl d (n + 1) (by omega))
    simp only [laws_markIntS.l0]
    rw [if_pos (by simp [marked_length]; omega), if_pos (by omega), Int.toNat_natCast, marked_step xs n (by omega), w_succ n (by omega), w_succ (n + 1) (by omega)]

theorem markIntS_ev (xs : List Int) (hl : xs.length ≤ 1048576) : Ev (fun k => laws_markIntS.f k xs 1) (((xs.length + 1 : Nat) : Int), marked xs.length) := by
  refine Ev.congr (fun k => ?_) (markIntS_l0 xs hl xs.length 0 (by omega))
  simp only [laws_markIntS.f]
  rfl

theorem heldIntS_l0 (m : Nat) (hl : m ≤ 1048576) : ∀ (d n : Nat), n + d = m →
    Ev (fun k => laws_heldIntS.l0 k (marked m) ((n + 1 : Nat) : Int) (n : Int)) ((m + 1 : Nat) : Int)
  | 0, n, h => by
    refine Ev.step (f := fun _ => some ((m + 1 : Nat) : Int)) (fun k => ?_) (Ev.now _)
    obtain rfl : n = m := by omega
    simp only [laws_heldIntS.l0]
    rw [if_neg (by rw [marked_length]; omega)]
  | d + 1, n, h => by
    refine Ev.step (fun k => ?_) (heldIntS_l0 m hl d (n + 1) (by omega))
    simp only [laws_heldIntS.l0]
    rw [if_pos (by rw [marked_length]; omega), if_pos (by omega), if_pos (by rw [rd_nat, marked_getD m n (by omega)]), w_succ n (by omega), w_succ (n + 1) (by omega)]

theorem heldIntS_ev (m : Nat) (hl : m ≤ 1048576) : Ev (fun k => laws_heldIntS.f k (marked m) 1) ((m + 1 : Nat) : Int) := by
  refine Ev.congr (fun k => ?_) (heldIntS_l0 m hl m 0 (by omega))
  simp only [laws_heldIntS.f]
  rfl

theorem value_ok (a : Int) : spec_l01Value.f a = some (!bad a) := by
  unfold spec_l01Value.f spec_l01In.f bad
  by_cases h : -1000000000 ≤ a <;> simp [h]

theorem values_l0 (l : List Int) (hl : l.length ≤ 1048576) : ∀ (d n : Nat), n + d = l.length → Ev (fun k => spec_l11Values.l0 k l (n : Int)) (!(l.drop n).any bad && decide ((l.length : Int) ≤ 300))
  | 0, n, h => by
    rw [drop_end l n (by omega)]
    refine Ev.step (f := fun _ => some (decide ((l.length : Int) ≤ 300))) (fun k => ?_) (Ev.now _)
    simp only [spec_l11Values.l0]
    rw [if_neg (by omega)]
  | d + 1, n, h => by
    rw [drop_cons l 0 n (by omega), List.any_cons]
    cases hb : bad (l.getD n 0) with
    | true =>
      refine Ev.step (f := fun _ => some false) (fun k => ?_) (Ev.now _)
      simp only [spec_l11Values.l0]
      rw [if_pos (by omega), if_pos (by omega), value_ok, rd_nat, hb]
      rfl
    | false =>
      rw [Bool.false_or]
      refine Ev.step (fun k => ?_) (values_l0 l hl d (n + 1) (by omega))
      simp only [spec_l11Values.l0]
      rw [if_pos (by omega), if_pos (by omega), value_ok, rd_nat, hb, w_succ n (by omega)]
      rfl

theorem values_ev (l : List Int) (hl : l.length ≤ 1048576) : Ev (fun k => spec_l11Values.f k l) (areB l) := by
  have h := values_l0 l hl l.length 0 (by omega)
  rw [List.drop_zero] at h
  have e : (!l.any bad && decide ((l.length : Int) ≤ 300)) = areB l := by
    unfold areB
    rw [Bool.and_comm]
    congr 1
    exact decide_eq_decide.2 (by omega)
  rw [e] at h
  exact h
theorem are_len (l : List Int) (h : areB l = true) : l.length ≤ 300 := by
  unfold areB at h
  simp only [Bool.and_eq_true, decide_eq_true_eq] at h
  exact h.1

theorem l0_same (l : List Int) (hl : l.length ≤ 1048576) : ∀ (d n : Nat) (acc : List Int), n + 1 + d = l.length → acc.length ≤ n →
    ∃ ys : List Int, ys.length ≤ l.length ∧ Ev (fun k => spec_DiffsOf.l0 k l acc ((n + 1 : Nat) : Int)) ys ∧ Ev (fun k => impl_DiffsOf.l0 k l acc ((n + 1 : Nat) : Int)) ys
  | 0, n, acc, h, ha => by
    refine ⟨acc, by omega, Ev.step (f := fun _ => some acc) (fun k => ?_) (Ev.now _), Ev.step (f := fun _ => some acc) (fun k => ?_) (Ev.now _)⟩
    · simp only [spec_DiffsOf.l0]
      rw [if_neg (by omega)]
    · simp only [impl_DiffsOf.l0]
      rw [if_neg (by omega)]
  | d + 1, n, acc, h, ha => by
    obtain ⟨ys, hy, h1, h2⟩ := l0_same l hl d (n + 1) (acc ++ [wrap64 (rd l ((n + 1 : Nat) : Int) - rd l (n : Int))]) (by omega) (by simp; omega)
    refine ⟨ys, hy, Ev.step (fun k => ?_) h1, Ev.step (fun k => ?_) h2⟩
    · simp only [spec_DiffsOf.l0]
      rw [if_pos (by omega), if_pos (by omega), w_pred n (by omega), if_pos (by omega), if_pos (by omega), if_pos (by omega), w_succ (n + 1) (by omega)]
    · simp only [impl_DiffsOf.l0]
      rw [if_pos (by omega), if_pos (by omega), w_pred n (by omega), if_pos (by omega), if_pos (by omega), if_pos (by omega), w_succ (n + 1) (by omega)]

theorem same (l : List Int) (hl : l.length ≤ 1048576) : ∃ ys : List Int, ys.length ≤ 1048576 ∧ Ev (fun k => spec_DiffsOf.f k l) ys ∧ Ev (fun k => impl_DiffsOf.f k l) ys := by
  cases ha : areB l with
  | false =>
    refine ⟨[], by simp, Ev.bind (values_ev l hl) (Ev.congr (fun k => if_neg (by simp [ha])) (Ev.now _)), Ev.congr (fun k => ?_) (Ev.now [])⟩
    simp only [impl_DiffsOf.f, impl_areValues.f, ha]
    rfl
  | true =>
    have g : ∀ {r}, Ev (fun k => impl_DiffsOf.l0 k l [] 1) r → Ev (fun k => impl_DiffsOf.f k l) r := by
      intro r h
      refine Ev.congr (fun k => ?_) h
      simp only [impl_DiffsOf.f, impl_areValues.f, ha]
      rfl
    by_cases h0 : l.length = 0
    · refine ⟨[], by simp, Ev.bind (values_ev l hl) (Ev.congr (fun k => if_pos ha) (Ev.step (f := fun _ => some []) (fun k => ?_) (Ev.now _))), g (Ev.step (f := fun _ => some []) (fun k => ?_) (Ev.now _))⟩
      · simp only [spec_DiffsOf.l0]
        rw [if_neg (by omega)]
      · simp only [impl_DiffsOf.l0]
        rw [if_neg (by omega)]
    · obtain ⟨ys, hy, h1, h2⟩ := l0_same l hl (l.length - 1) 0 [] (by omega) (by simp)
      exact ⟨ys, by omega, Ev.bind (values_ev l hl) (Ev.congr (fun k => if_pos ha) h1), g h2⟩

theorem law (l : List Int) (hl : l.length ≤ 1048576) (ys : List Int) (hy : ys.length ≤ 1048576) (hs : Ev (fun k => spec_DiffsOf.f k l) ys) (hi : Ev (fun k => impl_DiffsOf.f k l) ys) :
    Ev (fun k => laws_FnExactDiffsOf.f k l) true := by
  have T := toIntS_ev l hl
  have E := eqIntS_ev l hl
  have Y := eqIntS_ev ys hy
  have M := markIntS_ev l hl
  have M' := markIntS_ev ys hy
  have H := heldIntS_ev ys.length hy
  refine Ev.congr (fun k => if_neg (by omega)) ?_
  refine Ev.bind T (Ev.bind hs (Ev.bind T (Ev.bind hi (Ev.bind Y ?_))))
  refine Ev.congr (fun k => if_pos rfl) ?_
  refine Ev.bind T (Ev.bind E ?_)
  refine Ev.congr (fun k => if_pos rfl) ?_
  refine Ev.bind M ?_
  refine Ev.congr (fun k => if_neg (by simp; omega)) ?_
  refine Ev.bind Y ?_
  refine Ev.step (fun k => (laws_FnExactDiffsOf.j0.eq_2 ..).trans (if_neg (by simp))) ?_
  refine Ev.bind M' (Ev.bind H ?_)
  refine Ev.congr (fun k => if_neg (by omega)) ?_
  refine Ev.congr (fun k => if_pos rfl) ?_
  refine Ev.bind T (Ev.bind hi (Ev.bind Y ?_))
  refine Ev.congr (fun k => if_pos rfl) ?_
  refine Ev.bind H ?_
  refine Ev.congr (fun k => if_neg (by omega)) ?_
  refine Ev.congr (fun k => if_pos rfl) ?_
  exact Ev.now true
end DiffsOf

theorem FnExactDiffsOf (l : List Int) (_ : l.length ≤ maxLen ∧ ∀ x ∈ l, (Lit.int .i64 x).wf = true) : ∃ k, laws_FnExactDiffsOf.f k l = some true := by
  refine Ev.rounds ?_
  by_cases hl : (l.length : Int) > 1048576
  · exact Ev.congr (fun k => if_pos hl) (Ev.now true)
  obtain ⟨ys, hy, hs, hi⟩ := DiffsOf.same l (by omega)
  exact DiffsOf.law l (by omega) ys hy hs hi

end Go.Proofs.Ytfcoaecfcoijlaa.Pure
