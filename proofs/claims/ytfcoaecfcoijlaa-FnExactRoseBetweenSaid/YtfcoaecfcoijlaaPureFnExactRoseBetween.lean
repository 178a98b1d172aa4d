/-
  Pure statement of FnExactRoseBetween: the reference's and the program's RoseBetween, as printed, answer the same for every list of events.
  No condition.
-/
import Derived.Test.YtfcoaecfcoijlaaPFnExactRoseBetweenx2
import Derived.Test.YtfcoaecfcoijlaaAid
namespace Go.Proofs.Ytfcoaecfcoijlaa.Pure
open Go.RowKit Go.Proofs.Ytfcoaecfcoijlaa.PFnExactRoseBetween Go.Proofs.YtfcoaecfcoijlaaW.PrintWords Go.Proofs.YtfcoaecfcoijlaaW.PrintLast Go.Proofs.YtfcoaecfcoijlaaW.PrintMore Go.Proofs.Ytfcoaecfcoijlaa.Aid
namespace RoseBetween
/-- An event of the law's, as one of the program's. -/
def cv (e : S52) : S50 := ⟨e.f0, e.f1, e.f2, e.f3⟩
theorem cv_get (l : List S52) (n : Nat) (h : n < l.length) : (l.map cv).getD n z50 = cv (l.getD n z52) := by simp [List.getD, h]
theorem rd50 (xs : List S50) (n : Nat) : rd_T50 xs (n : Int) = xs.getD n z50 := rfl
theorem rd52 (xs : List S52) (n : Nat) : rd_T52 xs (n : Int) = xs.getD n z52 := rfl

theorem sz_small (l : List S52) (h : l.length ≤ 1048576) : laws_szEventS.f l 1048576 = some (1048576 - (l.length : Int)) := by
  unfold laws_szEventS.f
  rw [w_id (by omega) (by omega), if_neg (by omega)]
theorem sz_big (l : List S52) (hm : l.length ≤ maxLen) (h : 1048576 < l.length) : laws_szEventS.f l 1048576 = some (-1) := by
  unfold maxLen at hm
  unfold laws_szEventS.f
  rw [w_id (by omega) (by omega), if_pos (by omega)]

theorem toEventS_l0 (l : List S52) (hl : l.length ≤ 1048576) : ∀ (d n : Nat), n + d = l.length →
    Ev (fun k => laws_toEventS.l0 k l ((l.map cv).take n ++ List.replicate ((l.map cv).length - n) z50) (n : Int)) (l.map cv)
  | 0, n, h => by
    refine Ev.step (f := fun _ => some (l.map cv)) (fun k => ?_) (Ev.now _)
    obtain rfl : n = l.length := by omega
    simp only [laws_toEventS.l0]
    rw [if_neg (by omega), List.take_of_length_le (by simp)]
    simp
  | d + 1, n, h => by
    refine Ev.step (fun k => ?_) (toEventS_l0 l hl d (n + 1) (by omega))
    have e : (⟨(rd_T52 l (n : Int)).f0, (rd_T52 l (n : Int)).f1, (rd_T52 l (n : Int)).f2, (rd_T52 l (n : Int)).f3⟩ : S50) = (l.map cv).getD n z50 := by
      rw [cv_get l n (by omega)]
      rfl
    simp only [laws_toEventS.l0, laws_toEvent.f, Option.bind_some]
    rw [if_pos (by omega), if_pos (by omega), if_pos (by simp; omega), w_succ n (by omega), Int.toNat_natCast, e, set_step (l.map cv) z50 z50 n (by simp; omega)]

theorem toEventS_ev (l : List S52) (hl : l.length ≤ 1048576) : Ev (fun k => laws_toEventS.f k l) (l.map cv) := by
  refine Ev.congr (fun k => ?_) (toEventS_l0 l hl l.length 0 (by omega))
  simp only [laws_toEventS.f]
  rw [if_pos (by omega), if_pos (by omega)]
  simp

theorem eqEventS_l0 (l : List S50) (hl : l.length ≤ 1048576) : ∀ (d n : Nat), n + d = l.length → Ev (fun k => laws_eqEventS.l0 k l l (n : Int)) true
  | 0, n, h => by
    refine Ev.step (f := fun _ => some true) (fun k => ?_) (Ev.now _)
    simp only [laws_eqEventS.l0]
    rw [if_neg (by omega)]
  | d + 1, n, h => by
    refine Ev.step (fun k => ?_) (eqEventS_l0 l hl d (n + 1) (by omega))
    simp only [laws_eqEventS.l0, laws_eqEvent.f, if_true, Option.bind_some]
    rw [if_pos (by omega), if_pos (by omega), if_pos (by omega), w_succ n (by omega)]

theorem eqEventS_ev (l : List S50) (hl : l.length ≤ 1048576) : Ev (fun k => laws_eqEventS.f k l l) true := by
  refine Ev.congr (fun k => ?_) (eqEventS_l0 l hl l.length 0 (by omega))
  simp only [laws_eqEventS.f, if_true]
  rfl

/-- Is it a move? -/
def mv (e : S50) : Bool := decide (e.f0 = 1)
theorem mv_yes (l : List S50) (n : Nat) (h : n < l.length) (c : (rd_T50 l (n : Int)).f0 = 1) : (l.drop n).filter mv = rd_T50 l (n : Int) :: (l.drop (n + 1)).filter mv := by
  rw [drop_cons l z50 n h, List.filter_cons_of_pos]
  · rfl
  · exact decide_eq_true c
theorem mv_no (l : List S50) (n : Nat) (h : n < l.length) (c : ¬ (rd_T50 l (n : Int)).f0 = 1) : (l.drop n).filter mv = (l.drop (n + 1)).filter mv := by
  rw [drop_cons l z50 n h, List.filter_cons_of_neg]
  exact fun z => c (of_decide_eq_true z)
theorem mv_end (l : List S50) (n : Nat) (h : l.length ≤ n) : (l.drop n).filter mv = [] := by
  rw [drop_end l n h]
  rfl

theorem movesOf_l0 (l : List S50) (hl : l.length ≤ 1048576) : ∀ (d n : Nat) (acc : List S50), n + d = l.length → acc.length ≤ n →
    Ev (fun k => impl_movesOf.l0 k acc l (l.length : Int) (n : Int)) (acc ++ (l.drop n).filter mv)
  | 0, n, acc, h, ha => by
    rw [mv_end l n (by omega), List.append_nil]
    refine Ev.step (f := fun _ => some acc) (fun k => ?_) (Ev.now _)
    simp only [impl_movesOf.l0]
    rw [if_neg (by omega)]
  | d + 1, n, acc, h, ha => by
    by_cases c : (rd_T50 l (n : Int)).f0 = 1
    · have ih := movesOf_l0 l hl d (n + 1) (acc ++ [rd_T50 l (n : Int)]) (by omega) (by simp; omega)
      rw [List.append_assoc, List.singleton_append, ← mv_yes l n (by omega) c] at ih
      refine Ev.step (fun k => ?_) ih
      simp only [impl_movesOf.l0]
      rw [if_pos (by omega), if_pos (by omega), if_pos (by omega), if_pos c, if_pos (by omega), w_succ n (by omega)]
    · have ih := movesOf_l0 l hl d (n + 1) acc (by omega) (by omega)
      rw [← mv_no l n (by omega) c] at ih
      refine Ev.step (fun k => ?_) ih
      simp only [impl_movesOf.l0]
      rw [if_pos (by omega), if_pos (by omega), if_pos (by omega), if_neg c, w_succ n (by omega)]

theorem movesOf_ev (l : List S50) (hl : l.length ≤ 1048576) : Ev (fun k => impl_movesOf.f k l) (l.filter mv) := by
  have h := movesOf_l0 l hl l.length 0 [] (by omega) (by simp)
  rw [List.nil_append, List.drop_zero] at h
  exact h
theorem moves_le (l : List S50) (hl : l.length ≤ 1048576) : (l.filter mv).length ≤ 1048576 := Nat.le_trans (List.length_filter_le _ _) hl

/-- What they add up to: the rises, the falls. -/
def chg (p q : Int) : Int → Int → List S50 → Int × Int
  | r, f, [] => (r, f)
  | r, f, e :: t => if e.f1 ≤ p ∨ e.f1 > q then chg p q r f t else if e.f3 > e.f2 then chg p q (wrap64 (r + wrap64 (e.f3 - e.f2))) f t else chg p q r (wrap64 (f + wrap64 (e.f2 - e.f3))) t
theorem w_order (a b c : Int) : wrap64 (wrap64 (a + b) - c) = wrap64 (a + wrap64 (b - c)) := by
  unfold wrap64
  omega

theorem spec_l0 (l : List S50) (p q : Int) (hl : l.length ≤ 1048576) : ∀ (d n : Nat) (r f : Int), n + d = l.length → Ev (fun k => spec_l09Moved.l0 k l p q r f (n : Int)) (chg p q r f ((l.drop n).filter mv))
  | 0, n, r, f, h => by
    rw [mv_end l n (by omega)]
    refine Ev.step (f := fun _ => some (r, f)) (fun k => ?_) (Ev.now _)
    simp only [spec_l09Moved.l0]
    rw [if_neg (by omega)]
  | d + 1, n, r, f, h => by
    have skip : ∀ a b c e, Ev (fun k => spec_l09Moved.j1 k l p q r f (n : Int) true a b c e) (chg p q r f ((l.drop (n + 1)).filter mv)) := by
      intro a b c e
      refine Ev.step (fun k => (spec_l09Moved.j1.eq_2 ..).trans ((if_pos rfl).trans ?_)) (spec_l0 l p q hl d (n + 1) r f (by omega))
      rw [w_succ n (by omega)]
    by_cases c : (rd_T50 l (n : Int)).f0 = 1
    · rw [mv_yes l n (by omega) c]
      by_cases g1 : (rd_T50 l (n : Int)).f1 ≤ p
      · unfold chg
        rw [if_pos (Or.inl g1)]
        refine Ev.step (fun k => ?_) (skip (rd_T50 l (n : Int)).f0 (rd_T50 l (n : Int)).f1 (rd_T50 l (n : Int)).f2 (rd_T50 l (n : Int)).f3)
        simp only [spec_l09Moved.l0]
        rw [if_pos (by omega), if_pos (by omega), if_pos c, if_pos g1]
      · by_cases g2 : (rd_T50 l (n : Int)).f1 > q
        · unfold chg
          rw [if_pos (Or.inr g2)]
          refine Ev.step (fun k => ?_) (skip (rd_T50 l (n : Int)).f0 (rd_T50 l (n : Int)).f1 (rd_T50 l (n : Int)).f2 (rd_T50 l (n : Int)).f3)
          simp only [spec_l09Moved.l0]
          rw [if_pos (by omega), if_pos (by omega), if_pos c, if_neg g1, decide_eq_true g2]
        · unfold chg
          rw [if_neg (by omega)]
          refine Ev.step (f := fun k => spec_l09Moved.j1 k l p q r f (n : Int) false (rd_T50 l (n : Int)).f0 (rd_T50 l (n : Int)).f1 (rd_T50 l (n : Int)).f2 (rd_T50 l (n : Int)).f3) (fun k => ?_) ?_
          · simp only [spec_l09Moved.l0]
            rw [if_pos (by omega), if_pos (by omega), if_pos c, if_neg g1, decide_eq_false g2]
          by_cases g3 : (rd_T50 l (n : Int)).f3 > (rd_T50 l (n : Int)).f2
          · rw [if_pos g3]
            refine Ev.step (fun k => (spec_l09Moved.j1.eq_2 ..).trans ((if_neg (by simp)).trans ((if_pos g3).trans ?_))) (spec_l0 l p q hl d (n + 1) _ f (by omega))
            rw [w_succ n (by omega), w_order]
          · rw [if_neg g3]
            refine Ev.step (fun k => (spec_l09Moved.j1.eq_2 ..).trans ((if_neg (by simp)).trans ((if_neg g3).trans ?_))) (spec_l0 l p q hl d (n + 1) r _ (by omega))
            rw [w_succ n (by omega), w_order]
    · rw [mv_no l n (by omega) c]
      refine Ev.step (fun k => ?_) (skip (rd_T50 l (n : Int)).f0 (rd_T50 l (n : Int)).f1 (rd_T50 l (n : Int)).f2 (rd_T50 l (n : Int)).f3)
      simp only [spec_l09Moved.l0]
      rw [if_pos (by omega), if_pos (by omega), if_neg c]

theorem impl_l0 (l : List S50) (p q : Int) (hl : l.length ≤ 1048576) : ∀ (d n : Nat) (r f : Int), n + d = l.length → Ev (fun k => impl_changes.l0 k p q r f l (l.length : Int) (n : Int)) (chg p q r f (l.drop n))
  | 0, n, r, f, h => by
    rw [drop_end l n (by omega)]
    refine Ev.step (f := fun _ => some (r, f)) (fun k => ?_) (Ev.now _)
    simp only [impl_changes.l0]
    rw [if_neg (by omega)]
  | d + 1, n, r, f, h => by
    have skip : ∀ a b c e, Ev (fun k => impl_changes.j1 k p q r f l (l.length : Int) (n : Int) true a b c e) (chg p q r f (l.drop (n + 1))) := by
      intro a b c e
      refine Ev.step (fun k => (impl_changes.j1.eq_2 ..).trans ((if_pos rfl).trans ?_)) (impl_l0 l p q hl d (n + 1) r f (by omega))
      rw [w_succ n (by omega)]
    rw [drop_cons l z50 n (by omega), ← rd50]
    by_cases g1 : (rd_T50 l (n : Int)).f1 ≤ p
    · unfold chg
      rw [if_pos (Or.inl g1)]
      refine Ev.step (fun k => ?_) (skip (rd_T50 l (n : Int)).f0 (rd_T50 l (n : Int)).f1 (rd_T50 l (n : Int)).f2 (rd_T50 l (n : Int)).f3)
      simp only [impl_changes.l0]
      rw [if_pos (by omega), if_pos (by omega), if_pos (by omega), if_pos g1]
    · by_cases g2 : (rd_T50 l (n : Int)).f1 > q
      · unfold chg
        rw [if_pos (Or.inr g2)]
        refine Ev.step (fun k => ?_) (skip (rd_T50 l (n : Int)).f0 (rd_T50 l (n : Int)).f1 (rd_T50 l (n : Int)).f2 (rd_T50 l (n : Int)).f3)
        simp only [impl_changes.l0]
        rw [if_pos (by omega), if_pos (by omega), if_pos (by omega), if_neg g1, decide_eq_true g2]
      · unfold chg
        rw [if_neg (by omega)]
        refine Ev.step (f := fun k => impl_changes.j1 k p q r f l (l.length : Int) (n : Int) false (rd_T50 l (n : Int)).f0 (rd_T50 l (n : Int)).f1 (rd_T50 l (n : Int)).f2 (rd_T50 l (n : Int)).f3) (fun k => ?_) ?_
        · simp only [impl_changes.l0]
          rw [if_pos (by omega), if_pos (by omega), if_pos (by omega), if_neg g1, decide_eq_false g2]
        by_cases g3 : (rd_T50 l (n : Int)).f3 > (rd_T50 l (n : Int)).f2
        · rw [if_pos g3]
          refine Ev.step (fun k => (impl_changes.j1.eq_2 ..).trans ((if_neg (by simp)).trans ((if_pos g3).trans ?_))) (impl_l0 l p q hl d (n + 1) _ f (by omega))
          rw [w_succ n (by omega)]
        · rw [if_neg g3]
          refine Ev.step (fun k => (impl_changes.j1.eq_2 ..).trans ((if_neg (by simp)).trans ((if_neg g3).trans ?_))) (impl_l0 l p q hl d (n + 1) r _ (by omega))
          rw [w_succ n (by omega)]

theorem same (l : List S50) (p q : Int) (hl : l.length ≤ 1048576) : ∃ v, Ev (fun k => spec_RoseBetween.f k l p q) v ∧ Ev (fun k => impl_RoseBetween.f k l p q) v := by
  have h1 := spec_l0 l p q hl l.length 0 0 0 (by omega)
  have h2 := impl_l0 _ p q (moves_le l hl) _ 0 0 0 (Nat.zero_add _)
  exact ⟨(chg p q 0 0 (l.filter mv)).1, Ev.bind h1 (Ev.now _), Ev.bind (Ev.bind (movesOf_ev l hl) h2) (Ev.now _)⟩

end RoseBetween
open RoseBetween

theorem FnExactRoseBetween (l : List S52) (p : Int) (q : Int) (g : l.length ≤ maxLen ∧ ∀ x ∈ l, (Lit.int .i64 x.f0).wf = true ∧ (Lit.int .i64 x.f1).wf = true ∧ (Lit.int .i64 x.f2).wf = true ∧ (Lit.int .i64 x.f3).wf = true) (_ : (Lit.int .i64 p).wf = true) (_ : (Lit.int .i64 q).wf = true) : ∃ k, laws_FnExactRoseBetween.f k l p q = some true := by
  refine Ev.rounds ?_
  by_cases hl : l.length ≤ 1048576
  rotate_left
  · refine Ev.congr (fun k => ?_) (Ev.now true)
    unfold laws_FnExactRoseBetween.f
    rw [sz_big l g.1 (by omega)]
    rfl
  have hn : (l.map cv).length ≤ 1048576 := by simpa using hl
  have T := toEventS_ev l hl
  have E := eqEventS_ev (l.map cv) hn
  obtain ⟨v, hs, hi⟩ := same (l.map cv) p q hn
  refine Ev.congr (f := fun k => (laws_toEventS.f k l).bind fun a => (spec_RoseBetween.f k a p q).bind fun b => (laws_toEventS.f k l).bind fun c => (impl_RoseBetween.f k c p q).bind fun d => if d = b then ((laws_toEventS.f k l).bind fun e => (laws_eqEventS.f k c e).bind fun r => if r = true then some true else some false) else some false) (fun k => ?_) ?_
  · unfold laws_FnExactRoseBetween.f
    rw [sz_small l hl]
    simp only [Option.bind_some]
    rw [if_neg (by omega)]
  refine Ev.bind T (Ev.bind hs (Ev.bind T (Ev.bind hi ?_)))
  refine Ev.congr (fun k => if_pos rfl) ?_
  refine Ev.bind T (Ev.bind E ?_)
  exact Ev.congr (fun k => if_pos rfl) (Ev.now true)

end Go.Proofs.Ytfcoaecfcoijlaa.Pure
