/-
  Pure statement of FnExactRunsUp: the reference's and the program's RunsUp, as printed, answer the same for every list.
  No condition.
-/
import Derived.Test.YtfcoaecfcoijlaaPFnExactRunsUpx1
import Derived.Test.YtfcoaecfcoijlaaAid
namespace Go.Proofs.Ytfcoaecfcoijlaa.Pure
open Go.RowKit Go.Proofs.Ytfcoaecfcoijlaa.PFnExactRunsUp Go.Proofs.YtfcoaecfcoijlaaW.PrintWords Go.Proofs.YtfcoaecfcoijlaaW.PrintLast Go.Proofs.YtfcoaecfcoijlaaW.PrintMore Go.Proofs.Ytfcoaecfcoijlaa.Aid
namespace RunsUp
theorem toIntS_l0 (l : List Int) (hl : l.length ≤ 1048576) : ∀ (d n : Nat), n + d = l.length →
    Ev (fun k => laws_toIntS.l0 k l (l.take n ++ List.replicate (l.length - n) 0) (n : Int)) l
  | 0, n, h => by
    refine Ev.step (f := fun _ => some l) (fun k => ?_) (Ev.now _)
    obtain rfl : n = l.length := by omega
    simp only [laws_toIntS.l0]
    rw [if_neg (by omega)]
    simp
  | d + 1, n, h => by
    refine Ev.step (fun k => ?_) (toIntS_l0 l hl d (n + 1) (by omega))
    simp only [laws_toIntS.l0]
    rw [if_pos (by omega), if_pos (by omega), if_pos (by simp; omega), w_succ n (by omega), Int.toNat_natCast, rd_nat, set_step l 0 0 n (by omega)]

theorem toIntS_ev (l : List Int) (hl : l.length ≤ 1048576) : Ev (fun k => laws_toIntS.f k l) l := by
  refine Ev.congr (fun k => ?_) (toIntS_l0 l hl l.length 0 (by omega))
  simp only [laws_toIntS.f]
  rw [if_pos (by omega), if_pos (by omega)]
  simp

theorem eqIntS_l0 (l : List Int) (hl : l.length ≤ 1048576) : ∀ (d n : Nat), n + d = l.length →
    Ev (fun k => laws_eqIntS.l0 k l l (n : Int)) true
  | 0, n, h => by
    refine Ev.step (f := fun _ => some true) (fun k => ?_) (Ev.now _)
    simp only [laws_eqIntS.l0]
    rw [if_neg (by omega)]
  | d + 1, n, h => by
    refine Ev.step (fun k => ?_) (eqIntS_l0 l hl d (n + 1) (by omega))
    simp only [laws_eqIntS.l0]
    rw [if_pos (by omega), if_pos (by omega), if_pos (by omega), if_pos trivial, w_succ n (by omega)]

theorem eqIntS_ev (l : List Int) (hl : l.length ≤ 1048576) : Ev (fun k => laws_eqIntS.f k l l) true := by
  refine Ev.congr (fun k => ?_) (eqIntS_l0 l hl l.length 0 (by omega))
  simp only [laws_eqIntS.f]
  rw [if_pos trivial]
  rfl
theorem l0_same (l : List Int) (hl : l.length ≤ 1048576) : ∀ (d n : Nat) (m r : Int), n + 1 + d = l.length →
    ∃ v, Ev (fun k => spec_RunsUp.l0 k l m r ((n + 1 : Nat) : Int)) v ∧ Ev (fun k => impl_RunsUp.l0 k l m r ((n + 1 : Nat) : Int)) v
  | 0, n, m, r, h => by
    refine ⟨m, Ev.step (f := fun _ => some m) (fun k => ?_) (Ev.now _), Ev.step (f := fun _ => some m) (fun k => ?_) (Ev.now _)⟩
    · simp only [spec_RunsUp.l0]
      rw [if_neg (by omega)]
    · simp only [impl_RunsUp.l0]
      rw [if_neg (by omega)]
  | d + 1, n, m, r, h => by
    by_cases c : rd l ((n + 1 : Nat) : Int) > rd l (n : Int)
    · obtain ⟨v, h1, h2⟩ := l0_same l hl d (n + 1) (mx m (wrap64 (r + 1))) (wrap64 (r + 1)) (by omega)
      refine ⟨v, Ev.step (f := fun k => spec_RunsUp.j1 k l m r ((n + 1 : Nat) : Int) true) (fun k => ?_) (Ev.step (fun k => ?_) h1), Ev.step (fun k => ?_) h2⟩
      · simp only [spec_RunsUp.l0]
        rw [if_pos (by omega), if_neg (by omega), if_pos (by omega), w_pred n (by omega), if_pos (by omega), if_pos (by omega), decide_eq_true c]
      · simp only [spec_RunsUp.j1]
        rw [if_pos trivial, w_succ (n + 1) (by omega)]
        unfold mx
        simp only [gt_iff_lt]
        split <;> rfl
      · simp only [impl_RunsUp.l0]
        rw [if_pos (by omega), if_pos (by omega), w_pred n (by omega), if_pos (by omega), if_pos (by omega), if_neg (by omega), w_succ (n + 1) (by omega)]
    · obtain ⟨v, h1, h2⟩ := l0_same l hl d (n + 1) (mx m 1) 1 (by omega)
      refine ⟨v, Ev.step (f := fun k => spec_RunsUp.j1 k l m r ((n + 1 : Nat) : Int) false) (fun k => ?_) (Ev.step (fun k => ?_) h1), Ev.step (fun k => ?_) h2⟩
      · simp only [spec_RunsUp.l0]
        rw [if_pos (by omega), if_neg (by omega), if_pos (by omega), w_pred n (by omega), if_pos (by omega), if_pos (by omega), decide_eq_false c]
      · simp only [spec_RunsUp.j1]
        rw [if_neg (by simp), w_succ (n + 1) (by omega)]
        unfold mx
        simp only [gt_iff_lt]
        split <;> rfl
      · simp only [impl_RunsUp.l0]
        rw [if_pos (by omega), if_pos (by omega), w_pred n (by omega), if_pos (by omega), if_pos (by omega), if_pos (by omega), w_succ (n + 1) (by omega)]

theorem same (l : List Int) (hl : l.length ≤ 1048576) : ∃ v, Ev (fun k => spec_RunsUp.f k l) v ∧ Ev (fun k => impl_RunsUp.f k l) v := by
  by_cases h0 : (l.length : Int) > 300
  · refine ⟨0, Ev.congr (fun k => ?_) (Ev.now 0), Ev.congr (fun k => ?_) (Ev.now 0)⟩
    · simp only [spec_RunsUp.f]
      rw [if_pos h0]
    · simp only [impl_RunsUp.f, impl_in.f]
      rw [if_pos (by omega), decide_eq_false (by omega)]
      rfl
  by_cases h1 : l.length = 0
  · refine ⟨0, Ev.congr (f := fun k => spec_RunsUp.l0 k l 0 0 0) (fun k => ?_) (Ev.step (f := fun _ => some 0) (fun k => ?_) (Ev.now 0)), Ev.congr (fun k => ?_) (Ev.now 0)⟩
    · simp only [spec_RunsUp.f]
      rw [if_neg h0]
    · simp only [spec_RunsUp.l0]
      rw [if_neg (by omega)]
    · simp only [impl_RunsUp.f, impl_in.f]
      rw [if_neg (by omega)]
      rfl
  obtain ⟨v, h2, h3⟩ := l0_same l hl (l.length - 1) 0 1 1 (by omega)
  refine ⟨v, Ev.congr (f := fun k => spec_RunsUp.l0 k l 0 0 0) (fun k => ?_) (Ev.step (f := fun k => spec_RunsUp.j1 k l 0 0 0 true) (fun k => ?_) (Ev.step (fun k => ?_) h2)), Ev.congr (fun k => ?_) h3⟩
  · simp only [spec_RunsUp.f]
    rw [if_neg h0]
  · simp only [spec_RunsUp.l0]
    rw [if_pos (by omega), if_pos trivial]
  · simp only [spec_RunsUp.j1]
    rw [if_pos trivial, w_one, if_pos (by decide)]
    rfl
  · simp only [impl_RunsUp.f, impl_in.f]
    rw [if_pos (by omega), decide_eq_true (by omega)]
    rfl
end RunsUp

theorem FnExactRunsUp (l : List Int) (_ : l.length ≤ maxLen ∧ ∀ x ∈ l, (Lit.int .i64 x).wf = true) : ∃ k, laws_FnExactRunsUp.f k l = some true := by
  refine Ev.rounds ?_
  by_cases hl : (l.length : Int) > 1048576
  · refine Ev.congr (fun k => ?_) (Ev.now true)
    simp only [laws_FnExactRunsUp.f]
    rw [if_pos hl]
  have hn : l.length ≤ 1048576 := by omega
  obtain ⟨v, h1, h2⟩ := RunsUp.same l hn
  refine Ev.congr (fun k => (if_neg hl)) ?_
  refine Ev.bind (RunsUp.toIntS_ev l hn) (Ev.bind h1 (Ev.bind (RunsUp.toIntS_ev l hn) (Ev.bind h2 ?_)))
  refine Ev.congr (fun k => (if_pos rfl)) ?_
  refine Ev.bind (RunsUp.toIntS_ev l hn) (Ev.bind (RunsUp.eqIntS_ev l hn) ?_)
  exact Ev.now true

end Go.Proofs.Ytfcoaecfcoijlaa.Pure
