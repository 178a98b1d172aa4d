/-
  The laws' own functions over operations (size, copy, comparison), as printed: what they answer, in plain words.
-/
import Derived.Test.YtcjeblikejoogaaGreatDoorQSz
import Derived.Test.YtcjeblikejoogaaGreatDoorQTo
import Derived.Test.YtcjeblikejoogaaGreatDoorQEq
import Derived.Test.YtcjeblikejoogaaGreatDoorAid
namespace Go.Proofs.YtcjeblikejoogaaGreatDoor.Pure
open Go.RowKit Go.Proofs.YtcjeblikejoogaaGreatDoor.PFnExactOpLine Go.Proofs.YtcjeblikejoogaaGreatDoorW.PrintWords Go.Proofs.YtcjeblikejoogaaGreatDoorW.PrintLast Go.Proofs.YtcjeblikejoogaaGreatDoorW.PrintMore Go.Proofs.YtcjeblikejoogaaGreatDoor.Aid
namespace OpsOf
def cvPod (e : S83) : S95 := ⟨e.f0, e.f1, e.f2, e.f3⟩
theorem cvPod_get (l : List S83) (n : Nat) (h : n < l.length) : (l.map cvPod).getD n z95 = cvPod (l.getD n z83) := by simp [List.getD, h]
theorem toPodS_l0 (l : List S83) (hl : l.length ≤ 1048576) : ∀ (d n : Nat), n + d = l.length →
    Ev (fun k => laws_toPodS.l0 k l ((l.map cvPod).take n ++ List.replicate ((l.map cvPod).length - n) z95) (n : Int)) (l.map cvPod)
  | 0, n, h => by
    refine Ev.step (f := fun _ => some (l.map cvPod)) (fun k => ?_) (Ev.now _)
    obtain rfl : n = l.length := by omega
    simp only [laws_toPodS.l0]
    rw [if_neg (by omega), List.take_of_length_le (by simp)]
    simp
  | d + 1, n, h => by
    refine Ev.step (fun k => ?_) (toPodS_l0 l hl d (n + 1) (by omega))
    have e : (⟨(rd_T83 l (n : Int)).f0, (rd_T83 l (n : Int)).f1, (rd_T83 l (n : Int)).f2, (rd_T83 l (n : Int)).f3⟩ : S95) = (l.map cvPod).getD n z95 := by
      rw [cvPod_get l n (by omega)]
      rfl
    simp only [laws_toPodS.l0, laws_toPod.f, Option.bind_some]
    rw [if_pos (by omega), if_pos (by omega), if_pos (by simp; omega), w_succ n (by omega), Int.toNat_natCast, e, set_step (l.map cvPod) z95 z95 n (by simp; omega)]
theorem toPodS_ev (l : List S83) (hl : l.length ≤ 1048576) : Ev (fun k => laws_toPodS.f k l) (l.map cvPod) := by
  refine Ev.congr (fun k => ?_) (toPodS_l0 l hl l.length 0 (by omega))
  simp only [laws_toPodS.f]
  rw [if_pos (by omega), if_pos (by omega)]
  simp
theorem eqPodS_l0 (l : List S95) (hl : l.length ≤ 1048576) : ∀ (d n : Nat), n + d = l.length → Ev (fun k => laws_eqPodS.l0 k l l (n : Int)) true
  | 0, n, h => by
    refine Ev.step (f := fun _ => some true) (fun k => ?_) (Ev.now _)
    simp only [laws_eqPodS.l0]
    rw [if_neg (by omega)]
  | d + 1, n, h => by
    refine Ev.step (fun k => ?_) (eqPodS_l0 l hl d (n + 1) (by omega))
    have e : laws_eqPod.f (rd_T95 l (n : Int)).f0 (rd_T95 l (n : Int)).f1 (rd_T95 l (n : Int)).f2 (rd_T95 l (n : Int)).f3 (rd_T95 l (n : Int)).f0 (rd_T95 l (n : Int)).f1 (rd_T95 l (n : Int)).f2 (rd_T95 l (n : Int)).f3 = some true := by simp [laws_eqPod.f]
    simp only [laws_eqPodS.l0, e, if_true, Option.bind_some]
    rw [if_pos (by omega), if_pos (by omega), if_pos (by omega), w_succ n (by omega)]
theorem eqPodS_ev (l : List S95) (hl : l.length ≤ 1048576) : Ev (fun k => laws_eqPodS.f k l l) true := by
  refine Ev.congr (fun k => ?_) (eqPodS_l0 l hl l.length 0 (by omega))
  simp only [laws_eqPodS.f, if_true]
  rfl
def cvGoal (e : S111) : S90 := ⟨e.f0, e.f1, e.f2⟩
theorem cvGoal_get (l : List S111) (n : Nat) (h : n < l.length) : (l.map cvGoal).getD n z90 = cvGoal (l.getD n z111) := by simp [List.getD, h]
theorem toGoalS_l0 (l : List S111) (hl : l.length ≤ 1048576) : ∀ (d n : Nat), n + d = l.length →
    Ev (fun k => laws_toGoalS.l0 k l ((l.map cvGoal).take n ++ List.replicate ((l.map cvGoal).length - n) z90) (n : Int)) (l.map cvGoal)
  | 0, n, h => by
    refine Ev.step (f := fun _ => some (l.map cvGoal)) (fun k => ?_) (Ev.now _)
    obtain rfl : n = l.length := by omega
    simp only [laws_toGoalS.l0]
    rw [if_neg (by omega), List.take_of_length_le (by simp)]
    simp
  | d + 1, n, h => by
    refine Ev.step (fun k => ?_) (toGoalS_l0 l hl d (n + 1) (by omega))
    have e : (⟨(rd_T111 l (n : Int)).f0, (rd_T111 l (n : Int)).f1, (rd_T111 l (n : Int)).f2⟩ : S90) = (l.map cvGoal).getD n z90 := by
      rw [cvGoal_get l n (by omega)]
      rfl
    simp only [laws_toGoalS.l0, laws_toGoal.f, Option.bind_some]
    rw [if_pos (by omega), if_pos (by omega), if_pos (by simp; omega), w_succ n (by omega), Int.toNat_natCast, e, set_step (l.map cvGoal) z90 z90 n (by simp; omega)]
theorem toGoalS_ev (l : List S111) (hl : l.length ≤ 1048576) : Ev (fun k => laws_toGoalS.f k l) (l.map cvGoal) := by
  refine Ev.congr (fun k => ?_) (toGoalS_l0 l hl l.length 0 (by omega))
  simp only [laws_toGoalS.f]
  rw [if_pos (by omega), if_pos (by omega)]
  simp
theorem eqGoalS_l0 (l : List S90) (hl : l.length ≤ 1048576) : ∀ (d n : Nat), n + d = l.length → Ev (fun k => laws_eqGoalS.l0 k l l (n : Int)) true
  | 0, n, h => by
    refine Ev.step (f := fun _ => some true) (fun k => ?_) (Ev.now _)
    simp only [laws_eqGoalS.l0]
    rw [if_neg (by omega)]
  | d + 1, n, h => by
    refine Ev.step (fun k => ?_) (eqGoalS_l0 l hl d (n + 1) (by omega))
    have e : laws_eqGoal.f (rd_T90 l (n : Int)).f0 (rd_T90 l (n : Int)).f1 (rd_T90 l (n : Int)).f2 (rd_T90 l (n : Int)).f0 (rd_T90 l (n : Int)).f1 (rd_T90 l (n : Int)).f2 = some true := by simp [laws_eqGoal.f]
    simp only [laws_eqGoalS.l0, e, if_true, Option.bind_some]
    rw [if_pos (by omega), if_pos (by omega), if_pos (by omega), w_succ n (by omega)]
theorem eqGoalS_ev (l : List S90) (hl : l.length ≤ 1048576) : Ev (fun k => laws_eqGoalS.f k l l) true := by
  refine Ev.congr (fun k => ?_) (eqGoalS_l0 l hl l.length 0 (by omega))
  simp only [laws_eqGoalS.f, if_true]
  rfl
def cvPolicy (e : S155) : S118 := ⟨e.f0, e.f1, e.f2⟩
theorem cvPolicy_get (l : List S155) (n : Nat) (h : n < l.length) : (l.map cvPolicy).getD n z118 = cvPolicy (l.getD n z155) := by simp [List.getD, h]
theorem toPolicyS_l0 (l : List S155) (hl : l.length ≤ 1048576) : ∀ (d n : Nat), n + d = l.length →
    Ev (fun k => laws_toPolicyS.l0 k l ((l.map cvPolicy).take n ++ List.replicate ((l.map cvPolicy).length - n) z118) (n : Int)) (l.map cvPolicy)
  | 0, n, h => by
    refine Ev.step (f := fun _ => some (l.map cvPolicy)) (fun k => ?_) (Ev.now _)
    obtain rfl : n = l.length := by omega
    simp only [laws_toPolicyS.l0]
    rw [if_neg (by omega), List.take_of_length_le (by simp)]
    simp
  | d + 1, n, h => by
    refine Ev.step (fun k => ?_) (toPolicyS_l0 l hl d (n + 1) (by omega))
    have e : (⟨(rd_T155 l (n : Int)).f0, (rd_T155 l (n : Int)).f1, (rd_T155 l (n : Int)).f2⟩ : S118) = (l.map cvPolicy).getD n z118 := by
      rw [cvPolicy_get l n (by omega)]
      rfl
    simp only [laws_toPolicyS.l0, laws_toPolicy.f, Option.bind_some]
    rw [if_pos (by omega), if_pos (by omega), if_pos (by simp; omega), w_succ n (by omega), Int.toNat_natCast, e, set_step (l.map cvPolicy) z118 z118 n (by simp; omega)]
theorem toPolicyS_ev (l : List S155) (hl : l.length ≤ 1048576) : Ev (fun k => laws_toPolicyS.f k l) (l.map cvPolicy) := by
  refine Ev.congr (fun k => ?_) (toPolicyS_l0 l hl l.length 0 (by omega))
  simp only [laws_toPolicyS.f]
  rw [if_pos (by omega), if_pos (by omega)]
  simp
theorem eqPolicyS_l0 (l : List S118) (hl : l.length ≤ 1048576) : ∀ (d n : Nat), n + d = l.length → Ev (fun k => laws_eqPolicyS.l0 k l l (n : Int)) true
  | 0, n, h => by
    refine Ev.step (f := fun _ => some true) (fun k => ?_) (Ev.now _)
    simp only [laws_eqPolicyS.l0]
    rw [if_neg (by omega)]
  | d + 1, n, h => by
    refine Ev.step (fun k => ?_) (eqPolicyS_l0 l hl d (n + 1) (by omega))
    have e : laws_eqPolicy.f (rd_T118 l (n : Int)).f0 (rd_T118 l (n : Int)).f1 (rd_T118 l (n : Int)).f2 (rd_T118 l (n : Int)).f0 (rd_T118 l (n : Int)).f1 (rd_T118 l (n : Int)).f2 = some true := by simp [laws_eqPolicy.f]
    simp only [laws_eqPolicyS.l0, e, if_true, Option.bind_some]
    rw [if_pos (by omega), if_pos (by omega), if_pos (by omega), w_succ n (by omega)]
theorem eqPolicyS_ev (l : List S118) (hl : l.length ≤ 1048576) : Ev (fun k => laws_eqPolicyS.f k l l) true := by
  refine Ev.congr (fun k => ?_) (eqPolicyS_l0 l hl l.length 0 (by omega))
  simp only [laws_eqPolicyS.f, if_true]
  rfl
theorem szPod_ok (s : ByteArray) (b1 : Int) (b2 : Int) (b3 : Bool) (a : Int) (ha : 0 ≤ a ∧ a ≤ 1048576) (hs : s.size ≤ maxLen) : ∃ t, laws_szPod.f s b1 b2 b3 a = some t ∧ (0 ≤ t → t ≤ a ∧ s.size ≤ 1048576) := by
  unfold maxLen at hs
  unfold laws_szPod.f
  rw [w_id (by omega) (by omega)]
  by_cases h : a - (s.size : Int) < 0
  · rw [if_pos h]
    exact ⟨_, rfl, fun h => by omega⟩
  · rw [if_neg h]
    exact ⟨_, rfl, fun _ => by omega⟩
theorem szPodS_l0 (l : List S83) (hl : l.length ≤ 1048576) (hz : ∀ x ∈ l, x.f0.size ≤ maxLen) : ∀ (d n : Nat) (a : Int), n + d = l.length → 0 ≤ a ∧ a ≤ 1048576 →
    ∃ t, Ev (fun k => laws_szPodS.l0 k l a (n : Int)) t ∧ (0 ≤ t → t ≤ a ∧ ∀ x ∈ l.drop n, x.f0.size ≤ 1048576)
  | 0, n, a, h, ha => by
    refine ⟨a, Ev.step (f := fun _ => some a) (fun k => ?_) (Ev.now _), fun _ => ⟨Int.le_refl _, by simp [drop_end l n (by omega)]⟩⟩
    simp only [laws_szPodS.l0]
    rw [if_neg (by omega)]
  | d + 1, n, a, h, ha => by
    have hm := hz _ (getD_mem l z83 n (by omega))
    obtain ⟨t, ht, h2⟩ := szPod_ok (rd_T83 l (n : Int)).f0 (rd_T83 l (n : Int)).f1 (rd_T83 l (n : Int)).f2 (rd_T83 l (n : Int)).f3 a ha hm
    by_cases h3 : t < 0
    · refine ⟨-1, Ev.step (f := fun _ => some (-1)) (fun k => ?_) (Ev.now _), fun h => by omega⟩
      simp only [laws_szPodS.l0]
      rw [if_pos (by omega), if_pos (by omega), ht]
      simp only [Option.bind_some]
      rw [if_pos h3]
    · have h4 := h2 (by omega)
      obtain ⟨u, hu, h5⟩ := szPodS_l0 l hl hz d (n + 1) t (by omega) (by omega)
      refine ⟨u, Ev.step (fun k => ?_) hu, fun h6 => ⟨by have := (h5 h6).1; omega, ?_⟩⟩
      · simp only [laws_szPodS.l0]
        rw [if_pos (by omega), if_pos (by omega), ht]
        simp only [Option.bind_some]
        rw [if_neg h3, w_succ n (by omega)]
      · rw [drop_cons l z83 n (by omega)]
        intro x hx
        rcases List.mem_cons.1 hx with rfl | hx
        · exact h4.2
        · exact (h5 h6).2 x hx
theorem szPodS_ev (l : List S83) (hm : l.length ≤ maxLen) (hz : ∀ x ∈ l, x.f0.size ≤ maxLen) (a : Int) (ha : 0 ≤ a ∧ a ≤ 1048576) :
    ∃ t, Ev (fun k => laws_szPodS.f k l a) t ∧ (0 ≤ t → t ≤ a ∧ l.length ≤ 1048576 ∧ ∀ x ∈ l, x.f0.size ≤ 1048576) := by
  unfold maxLen at hm
  have e : wrap64 (a - (l.length : Int)) = a - (l.length : Int) := w_id (by omega) (by omega)
  by_cases h : a - (l.length : Int) < 0
  · refine ⟨-1, Ev.congr (fun k => ?_) (Ev.now _), fun h => by omega⟩
    simp only [laws_szPodS.f]
    rw [e, if_pos h]
  · obtain ⟨t, ht, h2⟩ := szPodS_l0 l (by omega) hz l.length 0 (a - (l.length : Int)) (by omega) (by omega)
    refine ⟨t, Ev.congr (fun k => ?_) ht, fun h3 => ⟨by have := (h2 h3).1; omega, by omega, (h2 h3).2⟩⟩
    simp only [laws_szPodS.f]
    rw [e, if_neg h]
    rfl
theorem szGoal_ok (s : ByteArray) (b1 : Int) (b2 : Int) (a : Int) (ha : 0 ≤ a ∧ a ≤ 1048576) (hs : s.size ≤ maxLen) : ∃ t, laws_szGoal.f s b1 b2 a = some t ∧ (0 ≤ t → t ≤ a ∧ s.size ≤ 1048576) := by
  unfold maxLen at hs
  unfold laws_szGoal.f
  rw [w_id (by omega) (by omega)]
  by_cases h : a - (s.size : Int) < 0
  · rw [if_pos h]
    exact ⟨_, rfl, fun h => by omega⟩
  · rw [if_neg h]
    exact ⟨_, rfl, fun _ => by omega⟩
theorem szGoalS_l0 (l : List S111) (hl : l.length ≤ 1048576) (hz : ∀ x ∈ l, x.f0.size ≤ maxLen) : ∀ (d n : Nat) (a : Int), n + d = l.length → 0 ≤ a ∧ a ≤ 1048576 →
    ∃ t, Ev (fun k => laws_szGoalS.l0 k l a (n : Int)) t ∧ (0 ≤ t → t ≤ a ∧ ∀ x ∈ l.drop n, x.f0.size ≤ 1048576)
  | 0, n, a, h, ha => by
    refine ⟨a, Ev.step (f := fun _ => some a) (fun k => ?_) (Ev.now _), fun _ => ⟨Int.le_refl _, by simp [drop_end l n (by omega)]⟩⟩
    simp only [laws_szGoalS.l0]
    rw [if_neg (by omega)]
  | d + 1, n, a, h, ha => by
    have hm := hz _ (getD_mem l z111 n (by omega))
    obtain ⟨t, ht, h2⟩ := szGoal_ok (rd_T111 l (n : Int)).f0 (rd_T111 l (n : Int)).f1 (rd_T111 l (n : Int)).f2 a ha hm
    by_cases h3 : t < 0
    · refine ⟨-1, Ev.step (f := fun _ => some (-1)) (fun k => ?_) (Ev.now _), fun h => by omega⟩
      simp only [laws_szGoalS.l0]
      rw [if_pos (by omega), if_pos (by omega), ht]
      simp only [Option.bind_some]
      rw [if_pos h3]
    · have h4 := h2 (by omega)
      obtain ⟨u, hu, h5⟩ := szGoalS_l0 l hl hz d (n + 1) t (by omega) (by omega)
      refine ⟨u, Ev.step (fun k => ?_) hu, fun h6 => ⟨by have := (h5 h6).1; omega, ?_⟩⟩
      · simp only [laws_szGoalS.l0]
        rw [if_pos (by omega), if_pos (by omega), ht]
        simp only [Option.bind_some]
        rw [if_neg h3, w_succ n (by omega)]
      · rw [drop_cons l z111 n (by omega)]
        intro x hx
        rcases List.mem_cons.1 hx with rfl | hx
        · exact h4.2
        · exact (h5 h6).2 x hx
theorem szGoalS_ev (l : List S111) (hm : l.length ≤ maxLen) (hz : ∀ x ∈ l, x.f0.size ≤ maxLen) (a : Int) (ha : 0 ≤ a ∧ a ≤ 1048576) :
    ∃ t, Ev (fun k => laws_szGoalS.f k l a) t ∧ (0 ≤ t → t ≤ a ∧ l.length ≤ 1048576 ∧ ∀ x ∈ l, x.f0.size ≤ 1048576) := by
  unfold maxLen at hm
  have e : wrap64 (a - (l.length : Int)) = a - (l.length : Int) := w_id (by omega) (by omega)
  by_cases h : a - (l.length : Int) < 0
  · refine ⟨-1, Ev.congr (fun k => ?_) (Ev.now _), fun h => by omega⟩
    simp only [laws_szGoalS.f]
    rw [e, if_pos h]
  · obtain ⟨t, ht, h2⟩ := szGoalS_l0 l (by omega) hz l.length 0 (a - (l.length : Int)) (by omega) (by omega)
    refine ⟨t, Ev.congr (fun k => ?_) ht, fun h3 => ⟨by have := (h2 h3).1; omega, by omega, (h2 h3).2⟩⟩
    simp only [laws_szGoalS.f]
    rw [e, if_neg h]
    rfl
theorem szPolicyS_ok (l : List S155) (hm : l.length ≤ maxLen) (a : Int) (ha : 0 ≤ a ∧ a ≤ 1048576) : ∃ t, laws_szPolicyS.f l a = some t ∧ (0 ≤ t → t ≤ a ∧ l.length ≤ 1048576) := by
  unfold maxLen at hm
  unfold laws_szPolicyS.f
  rw [w_id (by omega) (by omega)]
  by_cases h : a - (l.length : Int) < 0
  · rw [if_pos h]
    exact ⟨_, rfl, fun h => by omega⟩
  · rw [if_neg h]
    exact ⟨_, rfl, fun _ => by omega⟩
theorem szSide_ok (l : List S155) (hm : l.length ≤ maxLen) (b c a : Int) (ha : 0 ≤ a ∧ a ≤ 1048576) : ∃ t, laws_szSide.f l b c a = some t ∧ (0 ≤ t → t ≤ a ∧ l.length ≤ 1048576) := by
  obtain ⟨t, ht, h2⟩ := szPolicyS_ok l hm a ha
  unfold laws_szSide.f
  rw [ht]
  simp only [Option.bind_some]
  by_cases h : t < 0
  · rw [if_pos h]
    exact ⟨_, rfl, fun h => by omega⟩
  · rw [if_neg h]
    exact ⟨_, rfl, h2⟩
theorem szBehave_ok (l m : List S155) (hm : l.length ≤ maxLen) (hm' : m.length ≤ maxLen) (b c b' c' d e a : Int) (ha : 0 ≤ a ∧ a ≤ 1048576) :
    ∃ t, laws_szBehave.f l b c m b' c' d e a = some t ∧ (0 ≤ t → t ≤ a ∧ l.length ≤ 1048576 ∧ m.length ≤ 1048576) := by
  obtain ⟨t, ht, h2⟩ := szSide_ok l hm b c a ha
  unfold laws_szBehave.f
  rw [ht]
  simp only [Option.bind_some]
  by_cases h : t < 0
  · rw [if_pos h]
    exact ⟨_, rfl, fun h => by omega⟩
  · rw [if_neg h]
    have h3 := h2 (by omega)
    obtain ⟨u, hu, h4⟩ := szSide_ok m hm' b' c' t (by omega)
    rw [hu]
    simp only [Option.bind_some]
    by_cases h5 : u < 0
    · rw [if_pos h5]
      exact ⟨_, rfl, fun h => by omega⟩
    · rw [if_neg h5]
      exact ⟨_, rfl, fun h6 => ⟨by have := (h4 h6).1; omega, h3.2, (h4 h6).2⟩⟩
theorem szSetup_ev (g : List S111) (l m : List S155) (hg : g.length ≤ maxLen) (hz : ∀ x ∈ g, x.f0.size ≤ maxLen) (hm : l.length ≤ maxLen) (hm' : m.length ≤ maxLen) (r0 r1 r2 b c b' c' d e a : Int) (ha : 0 ≤ a ∧ a ≤ 1048576) :
    ∃ t, Ev (fun k => laws_szSetup.f k r0 r1 r2 g l b c m b' c' d e a) t ∧ (0 ≤ t → t ≤ a ∧ g.length ≤ 1048576 ∧ (∀ x ∈ g, x.f0.size ≤ 1048576) ∧ l.length ≤ 1048576 ∧ m.length ≤ 1048576) := by
  obtain ⟨t, ht, h2⟩ := szGoalS_ev g hg hz a ha
  by_cases h : t < 0
  · exact ⟨-1, Ev.bind ht (Ev.congr (fun k => if_pos h) (Ev.now _)), fun h => by omega⟩
  · have h3 := h2 (by omega)
    obtain ⟨u, hu, h4⟩ := szBehave_ok l m hm hm' b c b' c' d e t (by omega)
    by_cases h5 : u < 0
    · refine ⟨-1, Ev.bind ht (Ev.congr (fun k => (if_neg h).trans ?_) (Ev.now _)), fun h => by omega⟩
      rw [hu]
      simp only [Option.bind_some]
      rw [if_pos h5]
    · refine ⟨u, Ev.bind ht (Ev.congr (fun k => (if_neg h).trans ?_) (Ev.now _)), fun h6 => ?_⟩
      · rw [hu]
        simp only [Option.bind_some]
        rw [if_neg h5]
      · have h7 := h4 h6
        exact ⟨by omega, h3.2.1, h3.2.2, h7.2.1, h7.2.2⟩
def OkOp (x : S34) : Prop :=
  (Lit.int .i64 x.f0).wf = true ∧ (Lit.int .i64 x.f1).wf = true ∧ x.f2.size ≤ maxLen ∧
  (x.f3.length ≤ maxLen ∧ ∀ y ∈ x.f3, y.f0.size ≤ maxLen ∧ (Lit.int .i64 y.f1).wf = true ∧ (Lit.int .i64 y.f2).wf = true ∧ True) ∧
  ((Lit.int .i64 x.f4.f0.f0).wf = true ∧ (Lit.int .i64 x.f4.f0.f1).wf = true ∧ (Lit.int .i64 x.f4.f0.f2).wf = true) ∧
  (x.f4.f1.length ≤ maxLen ∧ ∀ y ∈ x.f4.f1, y.f0.size ≤ maxLen ∧ (Lit.int .i64 y.f1).wf = true ∧ (Lit.int .i64 y.f2).wf = true) ∧
  ((x.f4.f2.f0.f0.length ≤ maxLen ∧ ∀ y ∈ x.f4.f2.f0.f0, (Lit.int .i64 y.f0).wf = true ∧ (Lit.int .i64 y.f1).wf = true ∧ (Lit.int .i64 y.f2).wf = true) ∧ (Lit.int .i64 x.f4.f2.f0.f1).wf = true ∧ (Lit.int .i64 x.f4.f2.f0.f2).wf = true) ∧
  ((x.f4.f2.f1.f0.length ≤ maxLen ∧ ∀ y ∈ x.f4.f2.f1.f0, (Lit.int .i64 y.f0).wf = true ∧ (Lit.int .i64 y.f1).wf = true ∧ (Lit.int .i64 y.f2).wf = true) ∧ (Lit.int .i64 x.f4.f2.f1.f1).wf = true ∧ (Lit.int .i64 x.f4.f2.f1.f2).wf = true) ∧
  (Lit.int .i64 x.f4.f2.f2).wf = true ∧ (Lit.int .i64 x.f4.f2.f3).wf = true
def SmallOp (x : S34) : Prop :=
  x.f2.size ≤ 1048576 ∧ x.f3.length ≤ 1048576 ∧ x.f4.f1.length ≤ 1048576 ∧ (∀ y ∈ x.f4.f1, y.f0.size ≤ 1048576) ∧ x.f4.f2.f0.f0.length ≤ 1048576 ∧ x.f4.f2.f1.f0.length ≤ 1048576
theorem szOp_ev (x : S34) (hx : OkOp x) (a : Int) (ha : 0 ≤ a ∧ a ≤ 1048576) :
    ∃ t, Ev (fun k => laws_szOp.f k x.f0 x.f1 x.f2 x.f3 x.f4.f0.f0 x.f4.f0.f1 x.f4.f0.f2 x.f4.f1 x.f4.f2.f0.f0 x.f4.f2.f0.f1 x.f4.f2.f0.f2 x.f4.f2.f1.f0 x.f4.f2.f1.f1 x.f4.f2.f1.f2 x.f4.f2.f2 x.f4.f2.f3 a) t ∧ (0 ≤ t → t ≤ a ∧ SmallOp x) := by
  obtain ⟨_, _, hs, ⟨hp, hpz⟩, _, ⟨hg, hgz⟩, ⟨⟨hl, _⟩, _⟩, ⟨⟨hm, _⟩, _⟩, _⟩ := hx
  have hs' := hs
  unfold maxLen at hs'
  have e : wrap64 (a - (x.f2.size : Int)) = a - (x.f2.size : Int) := w_id (by omega) (by omega)
  by_cases h : a - (x.f2.size : Int) < 0
  · refine ⟨-1, Ev.congr (fun k => ?_) (Ev.now _), fun h => by omega⟩
    unfold laws_szOp.f
    rw [e, if_pos h]
  · obtain ⟨t, ht, h2⟩ := szPodS_ev x.f3 hp (fun y hy => (hpz y hy).1) (a - (x.f2.size : Int)) (by omega)
    have gt : ∀ {r}, Ev (fun k => if t < 0 then some (-1) else ((laws_szSetup.f k x.f4.f0.f0 x.f4.f0.f1 x.f4.f0.f2 x.f4.f1 x.f4.f2.f0.f0 x.f4.f2.f0.f1 x.f4.f2.f0.f2 x.f4.f2.f1.f0 x.f4.f2.f1.f1 x.f4.f2.f1.f2 x.f4.f2.f2 x.f4.f2.f3 t).bind fun u => if u < 0 then some (-1) else some u)) r →
        Ev (fun k => laws_szOp.f k x.f0 x.f1 x.f2 x.f3 x.f4.f0.f0 x.f4.f0.f1 x.f4.f0.f2 x.f4.f1 x.f4.f2.f0.f0 x.f4.f2.f0.f1 x.f4.f2.f0.f2 x.f4.f2.f1.f0 x.f4.f2.f1.f1 x.f4.f2.f1.f2 x.f4.f2.f2 x.f4.f2.f3 a) r := by
      intro r hr
      refine Ev.congr (fun k => ?_) (Ev.bind (f := (fun k t => if t < 0 then some (-1) else ((laws_szSetup.f k x.f4.f0.f0 x.f4.f0.f1 x.f4.f0.f2 x.f4.f1 x.f4.f2.f0.f0 x.f4.f2.f0.f1 x.f4.f2.f0.f2 x.f4.f2.f1.f0 x.f4.f2.f1.f1 x.f4.f2.f1.f2 x.f4.f2.f2 x.f4.f2.f3 t).bind fun u => if u < 0 then some (-1) else some u))) ht hr)
      unfold laws_szOp.f
      rw [e, if_neg h]
    by_cases h3 : t < 0
    · exact ⟨-1, gt (Ev.congr (fun k => if_pos h3) (Ev.now _)), fun h => by omega⟩
    · have h4 := h2 (by omega)
      obtain ⟨u, hu, h5⟩ := szSetup_ev x.f4.f1 x.f4.f2.f0.f0 x.f4.f2.f1.f0 hg (fun y hy => (hgz y hy).1) hl hm x.f4.f0.f0 x.f4.f0.f1 x.f4.f0.f2 x.f4.f2.f0.f1 x.f4.f2.f0.f2 x.f4.f2.f1.f1 x.f4.f2.f1.f2 x.f4.f2.f2 x.f4.f2.f3 t (by omega)
      by_cases h6 : u < 0
      · exact ⟨-1, gt (Ev.congr (fun k => if_neg h3) (Ev.bind hu (Ev.congr (fun k => if_pos h6) (Ev.now _)))), fun h => by omega⟩
      · refine ⟨u, gt (Ev.congr (fun k => if_neg h3) (Ev.bind hu (Ev.congr (fun k => if_neg h6) (Ev.now _)))), fun h7 => ?_⟩
        obtain ⟨a1, a2, a3, a4, a5⟩ := h5 h7
        exact ⟨by omega, by omega, h4.2.1, a2, a3, a4, a5⟩
def cvOp (x : S34) : S49 :=
  ⟨x.f0, x.f1, x.f2, x.f3.map cvPod, ⟨⟨x.f4.f0.f0, x.f4.f0.f1, x.f4.f0.f2⟩, x.f4.f1.map cvGoal, ⟨⟨x.f4.f2.f0.f0.map cvPolicy, x.f4.f2.f0.f1, x.f4.f2.f0.f2⟩, ⟨x.f4.f2.f1.f0.map cvPolicy, x.f4.f2.f1.f1, x.f4.f2.f1.f2⟩, x.f4.f2.f2, x.f4.f2.f3⟩⟩⟩
theorem toOp_ev (x : S34) (hx : SmallOp x) :
    Ev (fun k => laws_toOp.f k x.f0 x.f1 x.f2 x.f3 x.f4.f0.f0 x.f4.f0.f1 x.f4.f0.f2 x.f4.f1 x.f4.f2.f0.f0 x.f4.f2.f0.f1 x.f4.f2.f0.f2 x.f4.f2.f1.f0 x.f4.f2.f1.f1 x.f4.f2.f1.f2 x.f4.f2.f2 x.f4.f2.f3)
      (x.f0, x.f1, x.f2, x.f3.map cvPod, x.f4.f0.f0, x.f4.f0.f1, x.f4.f0.f2, x.f4.f1.map cvGoal, x.f4.f2.f0.f0.map cvPolicy, x.f4.f2.f0.f1, x.f4.f2.f0.f2, x.f4.f2.f1.f0.map cvPolicy, x.f4.f2.f1.f1, x.f4.f2.f1.f2, x.f4.f2.f2, x.f4.f2.f3) := by
  obtain ⟨_, hp, hg, _, hl, hm⟩ := hx
  refine Ev.bind (toPodS_ev x.f3 hp) ?_
  refine Ev.bind (a := (x.f4.f0.f0, x.f4.f0.f1, x.f4.f0.f2, x.f4.f1.map cvGoal, x.f4.f2.f0.f0.map cvPolicy, x.f4.f2.f0.f1, x.f4.f2.f0.f2, x.f4.f2.f1.f0.map cvPolicy, x.f4.f2.f1.f1, x.f4.f2.f1.f2, x.f4.f2.f2, x.f4.f2.f3)) ?_ (Ev.now _)
  refine Ev.bind (a := (x.f4.f0.f0, x.f4.f0.f1, x.f4.f0.f2)) (Ev.now _) ?_
  refine Ev.bind (toGoalS_ev x.f4.f1 hg) ?_
  refine Ev.bind (a := (x.f4.f2.f0.f0.map cvPolicy, x.f4.f2.f0.f1, x.f4.f2.f0.f2, x.f4.f2.f1.f0.map cvPolicy, x.f4.f2.f1.f1, x.f4.f2.f1.f2, x.f4.f2.f2, x.f4.f2.f3)) ?_ (Ev.now _)
  refine Ev.bind (a := (x.f4.f2.f0.f0.map cvPolicy, x.f4.f2.f0.f1, x.f4.f2.f0.f2)) (Ev.bind (toPolicyS_ev x.f4.f2.f0.f0 hl) (Ev.now _)) ?_
  exact Ev.bind (a := (x.f4.f2.f1.f0.map cvPolicy, x.f4.f2.f1.f1, x.f4.f2.f1.f2)) (Ev.bind (toPolicyS_ev x.f4.f2.f1.f0 hm) (Ev.now _)) (Ev.now _)
def ShortOp (y : S49) : Prop := y.f3.length ≤ 1048576 ∧ y.f4.f1.length ≤ 1048576 ∧ y.f4.f2.f0.f0.length ≤ 1048576 ∧ y.f4.f2.f1.f0.length ≤ 1048576
theorem cvOp_short (x : S34) (hx : SmallOp x) : ShortOp (cvOp x) := by
  obtain ⟨_, hp, hg, _, hl, hm⟩ := hx
  unfold ShortOp cvOp
  simpa using ⟨hp, hg, hl, hm⟩
theorem eqSide_ev (l : List S118) (a b : Int) (hl : l.length ≤ 1048576) : Ev (fun k => laws_eqSide.f k l a b l a b) true :=
  Ev.bind (eqPolicyS_ev l hl) (Ev.congr (fun _ => (if_pos rfl).trans ((if_pos rfl).trans (if_pos rfl))) (Ev.now _))
theorem eqOp_ev (y : S49) (hy : ShortOp y) :
    Ev (fun k => laws_eqOp.f k y.f0 y.f1 y.f2 y.f3 y.f4.f0.f0 y.f4.f0.f1 y.f4.f0.f2 y.f4.f1 y.f4.f2.f0.f0 y.f4.f2.f0.f1 y.f4.f2.f0.f2 y.f4.f2.f1.f0 y.f4.f2.f1.f1 y.f4.f2.f1.f2 y.f4.f2.f2 y.f4.f2.f3 y.f0 y.f1 y.f2 y.f3 y.f4.f0.f0 y.f4.f0.f1 y.f4.f0.f2 y.f4.f1 y.f4.f2.f0.f0 y.f4.f2.f0.f1 y.f4.f2.f0.f2 y.f4.f2.f1.f0 y.f4.f2.f1.f1 y.f4.f2.f1.f2 y.f4.f2.f2 y.f4.f2.f3) true := by
  obtain ⟨hp, hg, hl, hm⟩ := hy
  refine Ev.congr (fun k => (if_pos rfl).trans ((if_pos rfl).trans (if_pos rfl))) ?_
  refine Ev.bind (eqPodS_ev y.f3 hp) (Ev.congr (fun k => if_pos rfl) ?_)
  refine Ev.bind (a := true) ?_ (Ev.congr (fun k => if_pos rfl) (Ev.now _))
  refine Ev.bind (a := true) (Ev.congr (fun k => (if_pos rfl).trans ((if_pos rfl).trans (if_pos rfl))) (Ev.now _)) (Ev.congr (fun k => if_pos rfl) ?_)
  refine Ev.bind (eqGoalS_ev y.f4.f1 hg) (Ev.congr (fun k => if_pos rfl) ?_)
  refine Ev.bind (a := true) ?_ (Ev.congr (fun k => if_pos rfl) (Ev.now _))
  refine Ev.bind (eqSide_ev _ _ _ hl) (Ev.congr (fun k => if_pos rfl) ?_)
  refine Ev.bind (eqSide_ev _ _ _ hm) (Ev.congr (fun k => if_pos rfl) ?_)
  exact Ev.congr (fun k => (if_pos rfl).trans (if_pos rfl)) (Ev.now _)
end OpsOf
end Go.Proofs.YtcjeblikejoogaaGreatDoor.Pure
