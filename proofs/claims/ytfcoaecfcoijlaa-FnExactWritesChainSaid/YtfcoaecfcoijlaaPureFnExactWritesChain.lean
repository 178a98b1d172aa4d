/-
  Pure statement of FnExactWritesChain: the reference's and the program's WritesChain, as printed, answer the same for every list of events.
  No condition.
-/
import Derived.Test.YtfcoaecfcoijlaaPFnExactWritesChainx3
import Derived.Test.YtfcoaecfcoijlaaAid
namespace Go.Proofs.Ytfcoaecfcoijlaa.Pure
open Go.RowKit Go.Proofs.Ytfcoaecfcoijlaa.PFnExactWritesChain Go.Proofs.YtfcoaecfcoijlaaW.PrintWords Go.Proofs.YtfcoaecfcoijlaaW.PrintLast Go.Proofs.YtfcoaecfcoijlaaW.PrintMore Go.Proofs.Ytfcoaecfcoijlaa.Aid
namespace WritesChain
/-- An event of the law's, as one of the program's. -/
def cv (e : S52) : S50 := ⟨e.f0, e.f1, e.f2, e.f3⟩
theorem cv_get (l : List S52) (n : Nat) (h : n < l.length) : (l.map cv).getD n z50 = cv (l.getD n z52) := by simp [List.getD, h]
theorem rd50 (xs : List S50) (n : Nat) : rd_T50 xs (n : Int) = xs.getD n z50 := rfl
theorem rd52 (xs : List S52) (n : Nat) : rd_T52 xs (n : Int) = xs.getD n z52 := rfl

theorem sz_small (l : List S52) (h : l.length ≤ 1048576) : laws_szEventS.f l 1048576 = some (1048576 - (l.length : Int)) := by
  unfold laws_szEventS.f
  rw [w_id (by omega) (by omega), if_neg (by omega)]
theorem sz_big (l : List S52) (hm : l.length ≤ maxLen) (h : 1048576 < l.length) : laws_szEventS.f l 1048576 = some (-1) := by
  unfold maxLen at hm
  unfold laws_szEventS.f
  rw [w_id (by omega) (by omega), if_pos (by omega)]

theorem toEventS_l0 (l : List S52) (hl : l.length ≤ 1048576) : ∀ (d n : Nat), n + d = l.length →
    Ev (fun k => laws_toEventS.l0 k l ((l.map cv).take n ++ List.replicate ((l.map cv).length - n) z50) (n : Int)) (l.map cv)
  | 0, n, h => by
    refine Ev.step (f := fun _ => some (l.map cv)) (fun k => ?_) (Ev.now _)
    obtain rfl : n = l.length := by omega
    simp only [laws_toEventS.l0]
    rw [if_neg (by omega), List.take_of_length_le (by simp)]
    simp
  | d + 1, n, h => by
    refine Ev.step (fun k => ?_) (toEventS_l0 l hl d (n + 1) (by omega))
    have e : (⟨(rd_T52 l (n : Int)).f0, (rd_T52 l (n : Int)).f1, (rd_T52 l (n : Int)).f2, (rd_T52 l (n : Int)).f3⟩ : S50) = (l.map cv).getD n z50 := by
      rw [cv_get l n (by omega)]
      rfl
    simp only [laws_toEventS.l0, laws_toEvent.f, Option.bind_some]
    rw [if_pos (by omega), if_pos (by omega), if_pos (by simp; omega), w_succ n (by omega), Int.toNat_natCast, e, set_step (l.map cv) z50 z50 n (by simp; omega)]

theorem toEventS_ev (l : List S52) (hl : l.length ≤ 1048576) : Ev (fun k => laws_toEventS.f k l) (l.map cv) := by
  refine Ev.congr (fun k => ?_) (toEventS_l0 l hl l.length 0 (by omega))
  simp only [laws_toEventS.f]
  rw [if_pos (by omega), if_pos (by omega)]
  simp

theorem eqEventS_l0 (l : List S50) (hl : l.length ≤ 1048576) : ∀ (d n : Nat), n + d = l.length → Ev (fun k => laws_eqEventS.l0 k l l (n : Int)) true
  | 0, n, h => by
    refine Ev.step (f := fun _ => some true) (fun k => ?_) (Ev.now _)
    simp only [laws_eqEventS.l0]
    rw [if_neg (by omega)]
  | d + 1, n, h => by
    refine Ev.step (fun k => ?_) (eqEventS_l0 l hl d (n + 1) (by omega))
    simp only [laws_eqEventS.l0, laws_eqEvent.f, if_true, Option.bind_some]
    rw [if_pos (by omega), if_pos (by omega), if_pos (by omega), w_succ n (by omega)]

theorem eqEventS_ev (l : List S50) (hl : l.length ≤ 1048576) : Ev (fun k => laws_eqEventS.f k l l) true := by
  refine Ev.congr (fun k => ?_) (eqEventS_l0 l hl l.length 0 (by omega))
  simp only [laws_eqEventS.f, if_true]
  rfl

theorem w1 (a b c d : Int) : spec_l09Write.f a b c d = impl_Event_isWrite.f a b c d := rfl
theorem w2 (a b c d : Int) : impl_Event_isWrite.f a b c d = some (decide (a = 1) || decide (a = 4)) := by
  unfold impl_Event_isWrite.f
  by_cases h : a = 1
  · simp [h]
  · simp [h]
    rfl

theorem l0_same (l : List S50) (hl : l.length ≤ 1048576) : ∀ (d n : Nat) (c : Int), n + d = l.length → ∃ v, Ev (fun k => spec_WritesChain.l0 k c l (n : Int)) v ∧ Ev (fun k => impl_WritesChain.l0 k c l l (l.length : Int) (n : Int)) v
  | 0, n, c, h => by
    refine ⟨true, Ev.step (f := fun _ => some true) (fun k => ?_) (Ev.now _), Ev.step (f := fun _ => some true) (fun k => ?_) (Ev.now _)⟩
    · simp only [spec_WritesChain.l0]
      rw [if_neg (by omega)]
    · simp only [impl_WritesChain.l0]
      rw [if_neg (by omega)]
  | d + 1, n, c, h => by
    have key : ∀ b x0 x1 x2 x3, ∃ v, Ev (fun k => spec_WritesChain.j1 k c l (n : Int) b x0 x1 x2 x3) v ∧ Ev (fun k => impl_WritesChain.j1 k c l l (l.length : Int) (n : Int) b x0 x1 x2 x3) v := by
      intro b x0 x1 x2 x3
      cases b with
      | true => exact ⟨false, Ev.step (fun k => (spec_WritesChain.j1.eq_2 ..).trans (if_pos rfl)) (Ev.now _), Ev.step (fun k => (impl_WritesChain.j1.eq_2 ..).trans (if_pos rfl)) (Ev.now _)⟩
      | false =>
        obtain ⟨v1, a1, b1⟩ := l0_same l hl d (n + 1) c (by omega)
        obtain ⟨v2, a2, b2⟩ := l0_same l hl d (n + 1) x3 (by omega)
        cases hw : (decide (x0 = 1) || decide (x0 = 4)) with
        | false =>
          refine ⟨v1, Ev.step (fun k => ?_) a1, Ev.step (fun k => ?_) b1⟩
          · rw [spec_WritesChain.j1.eq_2, if_neg (by simp), w1, w2, hw, w_succ n (by omega)]
            rfl
          · rw [impl_WritesChain.j1.eq_2, if_neg (by simp), w2, hw, w_succ n (by omega)]
            rfl
        | true =>
          by_cases g1 : x2 = c
          · by_cases g2 : x0 = 1 ∧ x2 = x3
            · refine ⟨false, Ev.step (f := fun _ => some false) (fun k => ?_) (Ev.now _), Ev.step (f := fun _ => some false) (fun k => ?_) (Ev.now _)⟩
              · rw [spec_WritesChain.j1.eq_2, if_neg (by simp), w1, w2, hw]
                simp only [Option.bind_some]
                rw [if_pos trivial, if_pos g1, if_pos g2.1, if_pos g2.2]
              · rw [impl_WritesChain.j1.eq_2, if_neg (by simp), w2, hw]
                simp only [Option.bind_some]
                rw [if_pos trivial, if_pos g1, if_pos g2.1, if_pos g2.2]
            · refine ⟨v2, Ev.step (fun k => ?_) a2, Ev.step (fun k => ?_) b2⟩
              · rw [spec_WritesChain.j1.eq_2, if_neg (by simp), w1, w2, hw]
                simp only [Option.bind_some]
                rw [if_pos trivial, if_pos g1, w_succ n (by omega)]
                by_cases g3 : x0 = 1
                · rw [if_pos g3, if_neg (fun g4 => g2 ⟨g3, g4⟩)]
                · rw [if_neg g3]
              · rw [impl_WritesChain.j1.eq_2, if_neg (by simp), w2, hw]
                simp only [Option.bind_some]
                rw [if_pos trivial, if_pos g1, w_succ n (by omega)]
                by_cases g3 : x0 = 1
                · rw [if_pos g3, if_neg (fun g4 => g2 ⟨g3, g4⟩)]
                · rw [if_neg g3]
          · refine ⟨false, Ev.step (f := fun _ => some false) (fun k => ?_) (Ev.now _), Ev.step (f := fun _ => some false) (fun k => ?_) (Ev.now _)⟩
            · rw [spec_WritesChain.j1.eq_2, if_neg (by simp), w1, w2, hw]
              simp only [Option.bind_some]
              rw [if_pos trivial, if_neg g1]
            · rw [impl_WritesChain.j1.eq_2, if_neg (by simp), w2, hw]
              simp only [Option.bind_some]
              rw [if_pos trivial, if_neg g1]
    by_cases h0 : n = 0
    · subst h0
      obtain ⟨v, a, b⟩ := key false (rd_T50 l ((0 : Nat) : Int)).f0 (rd_T50 l ((0 : Nat) : Int)).f1 (rd_T50 l ((0 : Nat) : Int)).f2 (rd_T50 l ((0 : Nat) : Int)).f3
      refine ⟨v, Ev.step (fun k => ?_) a, Ev.step (fun k => ?_) b⟩
      · simp only [spec_WritesChain.l0]
        rw [if_pos (by omega), if_pos (by omega), if_neg (by omega)]
      · simp only [impl_WritesChain.l0]
        rw [if_pos (by omega), if_pos (by omega), if_pos (by omega), if_neg (by omega)]
    · obtain ⟨m, rfl⟩ : ∃ m, n = m + 1 := ⟨n - 1, by omega⟩
      obtain ⟨v, a, b⟩ := key (decide ((rd_T50 l (m : Int)).f1 > (rd_T50 l ((m + 1 : Nat) : Int)).f1)) (rd_T50 l ((m + 1 : Nat) : Int)).f0 (rd_T50 l ((m + 1 : Nat) : Int)).f1 (rd_T50 l ((m + 1 : Nat) : Int)).f2 (rd_T50 l ((m + 1 : Nat) : Int)).f3
      refine ⟨v, Ev.step (fun k => ?_) a, Ev.step (fun k => ?_) b⟩
      · simp only [spec_WritesChain.l0]
        rw [if_pos (by omega), if_pos (by omega), if_pos (by omega), w_pred m (by omega), if_pos (by omega), if_pos (by omega)]
      · simp only [impl_WritesChain.l0]
        rw [if_pos (by omega), if_pos (by omega), if_pos (by omega), if_pos (by omega), w_pred m (by omega), if_pos (by omega), if_pos (by omega)]

theorem same (l : List S50) (c : Int) (hl : l.length ≤ 1048576) : ∃ v, Ev (fun k => spec_WritesChain.f k c l) v ∧ Ev (fun k => impl_WritesChain.f k c l) v := l0_same l hl l.length 0 c (by omega)

end WritesChain
open WritesChain

theorem FnExactWritesChain (c : Int) (l : List S52) (_ : (Lit.int .i64 c).wf = true) (g : l.length ≤ maxLen ∧ ∀ x ∈ l, (Lit.int .i64 x.f0).wf = true ∧ (Lit.int .i64 x.f1).wf = true ∧ (Lit.int .i64 x.f2).wf = true ∧ (Lit.int .i64 x.f3).wf = true) : ∃ k, laws_FnExactWritesChain.f k c l = some true := by
  refine Ev.rounds ?_
  by_cases hl : l.length ≤ 1048576
  rotate_left
  · refine Ev.congr (fun k => ?_) (Ev.now true)
    unfold laws_FnExactWritesChain.f
    rw [sz_big l g.1 (by omega)]
    rfl
  have hn : (l.map cv).length ≤ 1048576 := by simpa using hl
  have T := toEventS_ev l hl
  have E := eqEventS_ev (l.map cv) hn
  obtain ⟨v, hs, hi⟩ := same (l.map cv) c hn
  refine Ev.congr (f := fun k => (laws_toEventS.f k l).bind fun a => (spec_WritesChain.f k c a).bind fun b => (laws_toEventS.f k l).bind fun b2 => (impl_WritesChain.f k c b2).bind fun d => if (d != b) = true then some false else ((laws_toEventS.f k l).bind fun e => (laws_eqEventS.f k b2 e).bind fun r => if r = true then some true else some false)) (fun k => ?_) ?_
  · unfold laws_FnExactWritesChain.f
    rw [sz_small l hl]
    simp only [Option.bind_some]
    rw [if_neg (by omega)]
  refine Ev.bind T (Ev.bind hs (Ev.bind T (Ev.bind hi ?_)))
  refine Ev.congr (fun k => if_neg (by simp)) ?_
  refine Ev.bind T (Ev.bind E ?_)
  exact Ev.congr (fun k => if_pos rfl) (Ev.now true)

end Go.Proofs.Ytfcoaecfcoijlaa.Pure
