/-
  Pure statement of FnExactFlapsIn: the reference's and the program's FlapsIn, as printed, answer the same for every list of events.
  No condition.
-/
import Derived.Test.YtfcoaecfcoijlaaPFnExactFlapsInx4
import Derived.Test.YtfcoaecfcoijlaaAid
namespace Go.Proofs.Ytfcoaecfcoijlaa.Pure
open Go.RowKit Go.Proofs.Ytfcoaecfcoijlaa.PFnExactFlapsIn Go.Proofs.YtfcoaecfcoijlaaW.PrintWords Go.Proofs.YtfcoaecfcoijlaaW.PrintLast Go.Proofs.YtfcoaecfcoijlaaW.PrintMore Go.Proofs.Ytfcoaecfcoijlaa.Aid
namespace FlapsIn
/-- An event of the law's, as one of the program's. -/
def cv (e : S52) : S50 := ⟨e.f0, e.f1, e.f2, e.f3⟩
theorem cv_get (l : List S52) (n : Nat) (h : n < l.length) : (l.map cv).getD n z50 = cv (l.getD n z52) := by simp [List.getD, h]
theorem rd50 (xs : List S50) (n : Nat) : rd_T50 xs (n : Int) = xs.getD n z50 := rfl
theorem rd52 (xs : List S52) (n : Nat) : rd_T52 xs (n : Int) = xs.getD n z52 := rfl

theorem sz_small (l : List S52) (h : l.length ≤ 1048576) : laws_szEventS.f l 1048576 = some (1048576 - (l.length : Int)) := by
  unfold laws_szEventS.f
  rw [w_id (by omega) (by omega), if_neg (by omega)]
theorem sz_big (l : List S52) (hm : l.length ≤ maxLen) (h : 1048576 < l.length) : laws_szEventS.f l 1048576 = some (-1) := by
  unfold maxLen at hm
  unfold laws_szEventS.f
  rw [w_id (by omega) (by omega), if_pos (by omega)]

theorem toEventS_l0 (l : List S52) (hl : l.length ≤ 1048576) : ∀ (d n : Nat), n + d = l.length →
    Ev (fun k => laws_toEventS.l0 k l ((l.map cv).take n ++ List.replicate ((l.map cv).length - n) z50) (n : Int)) (l.map cv)
  | 0, n, h => by
    refine Ev.step (f := fun _ => some (l.map cv)) (fun k => ?_) (Ev.now _)
    obtain rfl : n = l.length := by omega
    simp only [laws_toEventS.l0]
    rw [if_neg (by omega), List.take_of_length_le (by simp)]
    simp
  | d + 1, n, h => by
    refine Ev.step (fun k => ?_) (toEventS_l0 l hl d (n + 1) (by omega))
    have e : (⟨(rd_T52 l (n : Int)).f0, (rd_T52 l (n : Int)).f1, (rd_T52 l (n : Int)).f2, (rd_T52 l (n : Int)).f3⟩ : S50) = (l.map cv).getD n z50 := by
      rw [cv_get l n (by omega)]
      rfl
    simp only [laws_toEventS.l0, laws_toEvent.f, Option.bind_some]
    rw [if_pos (by omega), if_pos (by omega), if_pos (by simp; omega), w_succ n (by omega), Int.toNat_natCast, e, set_step (l.map cv) z50 z50 n (by simp; omega)]

theorem toEventS_ev (l : List S52) (hl : l.length ≤ 1048576) : Ev (fun k => laws_toEventS.f k l) (l.map cv) := by
  refine Ev.congr (fun k => ?_) (toEventS_l0 l hl l.length 0 (by omega))
  simp only [laws_toEventS.f]
  rw [if_pos (by omega), if_pos (by omega)]
  simp

theorem eqEventS_l0 (l : List S50) (hl : l.length ≤ 1048576) : ∀ (d n : Nat), n + d = l.length → Ev (fun k => laws_eqEventS.l0 k l l (n : Int)) true
  | 0, n, h => by
    refine Ev.step (f := fun _ => some true) (fun k => ?_) (Ev.now _)
    simp only [laws_eqEventS.l0]
    rw [if_neg (by omega)]
  | d + 1, n, h => by
    refine Ev.step (fun k => ?_) (eqEventS_l0 l hl d (n + 1) (by omega))
    simp only [laws_eqEventS.l0, laws_eqEvent.f, if_true, Option.bind_some]
    rw [if_pos (by omega), if_pos (by omega), if_pos (by omega), w_succ n (by omega)]

theorem eqEventS_ev (l : List S50) (hl : l.length ≤ 1048576) : Ev (fun k => laws_eqEventS.f k l l) true := by
  refine Ev.congr (fun k => ?_) (eqEventS_l0 l hl l.length 0 (by omega))
  simp only [laws_eqEventS.f, if_true]
  rfl

/-- Is it a move? -/
def mv (e : S50) : Bool := decide (e.f0 = 1)
theorem mv_yes (l : List S50) (n : Nat) (h : n < l.length) (c : (rd_T50 l (n : Int)).f0 = 1) : (l.drop n).filter mv = rd_T50 l (n : Int) :: (l.drop (n + 1)).filter mv := by
  rw [drop_cons l z50 n h, List.filter_cons_of_pos]
  · rfl
  · exact decide_eq_true c
theorem mv_no (l : List S50) (n : Nat) (h : n < l.length) (c : ¬ (rd_T50 l (n : Int)).f0 = 1) : (l.drop n).filter mv = (l.drop (n + 1)).filter mv := by
  rw [drop_cons l z50 n h, List.filter_cons_of_neg]
  exact fun z => c (of_decide_eq_true z)
theorem mv_end (l : List S50) (n : Nat) (h : l.length ≤ n) : (l.drop n).filter mv = [] := by
  rw [drop_end l n h]
  rfl

theorem movesOf_l0 (l : List S50) (hl : l.length ≤ 1048576) : ∀ (d n : Nat) (acc : List S50), n + d = l.length → acc.length ≤ n →
    Ev (fun k => impl_movesOf.l0 k acc l (l.length : Int) (n : Int)) (acc ++ (l.drop n).filter mv)
  | 0, n, acc, h, ha => by
    rw [mv_end l n (by omega), List.append_nil]
    refine Ev.step (f := fun _ => some acc) (fun k => ?_) (Ev.now _)
    simp only [impl_movesOf.l0]
    rw [if_neg (by omega)]
  | d + 1, n, acc, h, ha => by
    by_cases c : (rd_T50 l (n : Int)).f0 = 1
    · have ih := movesOf_l0 l hl d (n + 1) (acc ++ [rd_T50 l (n : Int)]) (by omega) (by simp; omega)
      rw [List.append_assoc, List.singleton_append, ← mv_yes l n (by omega) c] at ih
      refine Ev.step (fun k => ?_) ih
      simp only [impl_movesOf.l0]
      rw [if_pos (by omega), if_pos (by omega), if_pos (by omega), if_pos c, if_pos (by omega), w_succ n (by omega)]
    · have ih := movesOf_l0 l hl d (n + 1) acc (by omega) (by omega)
      rw [← mv_no l n (by omega) c] at ih
      refine Ev.step (fun k => ?_) ih
      simp only [impl_movesOf.l0]
      rw [if_pos (by omega), if_pos (by omega), if_pos (by omega), if_neg c, w_succ n (by omega)]

theorem movesOf_ev (l : List S50) (hl : l.length ≤ 1048576) : Ev (fun k => impl_movesOf.f k l) (l.filter mv) := by
  have h := movesOf_l0 l hl l.length 0 [] (by omega) (by simp)
  rw [List.nil_append, List.drop_zero] at h
  exact h
theorem moves_le (l : List S50) (hl : l.length ≤ 1048576) : (l.filter mv).length ≤ 1048576 := Nat.le_trans (List.length_filter_le _ _) hl

/-- How often they turn within w of each other; the one before; what has been counted. -/
def flap (w : Int) : Option S50 → Int → List S50 → Int
  | _, c, [] => c
  | none, c, e :: t => flap w (some e) c t
  | some p, c, e :: t => if (decide (p.f3 > p.f2) != decide (e.f3 > e.f2)) = true ∧ wrap64 (e.f1 - p.f1) ≤ w then flap w (some e) (wrap64 (c + 1)) t else flap w (some e) c t
theorem bne_swap (a b : Bool) : (a != b) = (b != a) := by cases a <;> cases b <;> rfl

theorem spec_l0 (l : List S50) (w : Int) (hl : l.length ≤ 1048576) : ∀ (d n : Nat) (c : Int), n + d = l.length →
    (Ev (fun k => spec_FlapsIn.l0 k l w c (-1) (n : Int)) (flap w none c ((l.drop n).filter mv))) ∧
    (∀ m : Nat, m < l.length → Ev (fun k => spec_FlapsIn.l0 k l w c (m : Int) (n : Int)) (flap w (some (rd_T50 l (m : Int))) c ((l.drop n).filter mv)))
  | 0, n, c, h => by
    rw [mv_end l n (by omega)]
    refine ⟨Ev.step (f := fun _ => some c) (fun k => ?_) (Ev.now _), fun m hm => Ev.step (f := fun _ => some c) (fun k => ?_) (Ev.now _)⟩
    · simp only [spec_FlapsIn.l0]
      rw [if_neg (by omega)]
    · simp only [spec_FlapsIn.l0]
      rw [if_neg (by omega)]
  | d + 1, n, c, h => by
    obtain ⟨i1, i2⟩ := spec_l0 l w hl d (n + 1) c (by omega)
    by_cases g : (rd_T50 l (n : Int)).f0 = 1
    · rw [mv_yes l n (by omega) g]
      refine ⟨Ev.step (fun k => ?_) (i2 n (by omega)), fun m hm => ?_⟩
      · simp only [spec_FlapsIn.l0]
        rw [if_pos (by omega), if_pos (by omega), if_pos g, if_neg (by omega), w_succ n (by omega)]
      · unfold flap
        by_cases g1 : (decide ((rd_T50 l (m : Int)).f3 > (rd_T50 l (m : Int)).f2) != decide ((rd_T50 l (n : Int)).f3 > (rd_T50 l (n : Int)).f2)) = true
        · have g1' := g1
          rw [bne_swap] at g1'
          by_cases g2 : wrap64 ((rd_T50 l (n : Int)).f1 - (rd_T50 l (m : Int)).f1) ≤ w
          · rw [if_pos ⟨g1, g2⟩]
            obtain ⟨_, i3⟩ := spec_l0 l w hl d (n + 1) (wrap64 (c + 1)) (by omega)
            refine Ev.step (fun k => ?_) (i3 n (by omega))
            simp only [spec_FlapsIn.l0]
            rw [if_pos (by omega), if_pos (by omega), if_pos g, if_pos (by omega), if_pos (by omega), if_pos (by omega), if_pos g1', if_pos g2, w_succ n (by omega)]
          · rw [if_neg (fun z => g2 z.2)]
            refine Ev.step (fun k => ?_) (i2 n (by omega))
            simp only [spec_FlapsIn.l0]
            rw [if_pos (by omega), if_pos (by omega), if_pos g, if_pos (by omega), if_pos (by omega), if_pos (by omega), if_pos g1', if_neg g2, w_succ n (by omega)]
        · have g1' := g1
          rw [bne_swap] at g1'
          rw [if_neg (fun z => g1 z.1)]
          refine Ev.step (fun k => ?_) (i2 n (by omega))
          simp only [spec_FlapsIn.l0]
          rw [if_pos (by omega), if_pos (by omega), if_pos g, if_pos (by omega), if_pos (by omega), if_pos (by omega), if_neg g1', w_succ n (by omega)]
    · rw [mv_no l n (by omega) g]
      refine ⟨Ev.step (fun k => ?_) i1, fun m hm => Ev.step (fun k => ?_) (i2 m hm)⟩
      · simp only [spec_FlapsIn.l0]
        rw [if_pos (by omega), if_pos (by omega), if_neg g, w_succ n (by omega)]
      · simp only [spec_FlapsIn.l0]
        rw [if_pos (by omega), if_pos (by omega), if_neg g, w_succ n (by omega)]

theorem impl_l0 (l : List S50) (w : Int) (hl : l.length ≤ 1048576) : ∀ (d n : Nat) (c : Int), n + 1 + d = l.length → Ev (fun k => impl_FlapsIn.l0 k w c l ((n + 1 : Nat) : Int)) (flap w (some (rd_T50 l (n : Int))) c (l.drop (n + 1)))
  | 0, n, c, h => by
    rw [drop_end l (n + 1) (by omega)]
    refine Ev.step (f := fun _ => some c) (fun k => ?_) (Ev.now _)
    simp only [impl_FlapsIn.l0]
    rw [if_neg (by omega)]
  | d + 1, n, c, h => by
    rw [drop_cons l z50 (n + 1) (by omega), ← rd50]
    unfold flap
    by_cases g1 : (decide ((rd_T50 l (n : Int)).f3 > (rd_T50 l (n : Int)).f2) != decide ((rd_T50 l ((n + 1 : Nat) : Int)).f3 > (rd_T50 l ((n + 1 : Nat) : Int)).f2)) = true
    · by_cases g2 : wrap64 ((rd_T50 l ((n + 1 : Nat) : Int)).f1 - (rd_T50 l (n : Int)).f1) ≤ w
      · rw [if_pos ⟨g1, g2⟩]
        refine Ev.step (fun k => ?_) (impl_l0 l w hl d (n + 1) (wrap64 (c + 1)) (by omega))
        simp only [impl_FlapsIn.l0]
        rw [if_pos (by omega), w_pred n (by omega), if_pos (by omega), if_pos (by omega), if_pos (by omega), if_pos g1, if_pos g2, w_succ (n + 1) (by omega)]
      · rw [if_neg (fun z => g2 z.2)]
        refine Ev.step (fun k => ?_) (impl_l0 l w hl d (n + 1) c (by omega))
        simp only [impl_FlapsIn.l0]
        rw [if_pos (by omega), w_pred n (by omega), if_pos (by omega), if_pos (by omega), if_pos (by omega), if_pos g1, if_neg g2, w_succ (n + 1) (by omega)]
    · rw [if_neg (fun z => g1 z.1)]
      refine Ev.step (fun k => ?_) (impl_l0 l w hl d (n + 1) c (by omega))
      simp only [impl_FlapsIn.l0]
      rw [if_pos (by omega), w_pred n (by omega), if_pos (by omega), if_pos (by omega), if_pos (by omega), if_neg g1, w_succ (n + 1) (by omega)]

theorem impl_all (l : List S50) (w : Int) (hl : l.length ≤ 1048576) : Ev (fun k => impl_FlapsIn.l0 k w 0 l 1) (flap w none 0 l) := by
  cases l with
  | nil => exact Ev.step (f := fun _ => some 0) (fun k => by simp [impl_FlapsIn.l0]) (Ev.now _)
  | cons e t => exact impl_l0 (e :: t) w hl t.length 0 0 (by simp; omega)

theorem same (l : List S50) (w : Int) (hl : l.length ≤ 1048576) : ∃ v, Ev (fun k => spec_FlapsIn.f k l w) v ∧ Ev (fun k => impl_FlapsIn.f k l w) v :=
  ⟨_, (spec_l0 l w hl l.length 0 0 (by omega)).1, Ev.bind (movesOf_ev l hl) (impl_all _ w (moves_le l hl))⟩

end FlapsIn
open FlapsIn

theorem FnExactFlapsIn (l : List S52) (w : Int) (g : l.length ≤ maxLen ∧ ∀ x ∈ l, (Lit.int .i64 x.f0).wf = true ∧ (Lit.int .i64 x.f1).wf = true ∧ (Lit.int .i64 x.f2).wf = true ∧ (Lit.int .i64 x.f3).wf = true) (_ : (Lit.int .i64 w).wf = true) : ∃ k, laws_FnExactFlapsIn.f k l w = some true := by
  refine Ev.rounds ?_
  by_cases hl : l.length ≤ 1048576
  rotate_left
  · refine Ev.congr (fun k => ?_) (Ev.now true)
    unfold laws_FnExactFlapsIn.f
    rw [sz_big l g.1 (by omega)]
    rfl
  have hn : (l.map cv).length ≤ 1048576 := by simpa using hl
  have T := toEventS_ev l hl
  have E := eqEventS_ev (l.map cv) hn
  obtain ⟨v, hs, hi⟩ := same (l.map cv) w hn
  refine Ev.congr (f := fun k => (laws_toEventS.f k l).bind fun a => (spec_FlapsIn.f k a w).bind fun b => (laws_toEventS.f k l).bind fun c => (impl_FlapsIn.f k c w).bind fun d => if d = b then ((laws_toEventS.f k l).bind fun e => (laws_eqEventS.f k c e).bind fun r => if r = true then some true else some false) else some false) (fun k => ?_) ?_
  · unfold laws_FnExactFlapsIn.f
    rw [sz_small l hl]
    simp only [Option.bind_some]
    rw [if_neg (by omega)]
  refine Ev.bind T (Ev.bind hs (Ev.bind T (Ev.bind hi ?_)))
  refine Ev.congr (fun k => if_pos rfl) ?_
  refine Ev.bind T (Ev.bind E ?_)
  exact Ev.congr (fun k => if_pos rfl) (Ev.now true)

end Go.Proofs.Ytfcoaecfcoijlaa.Pure
