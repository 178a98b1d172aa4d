/-
  Plain laws: a line of the reference and what it parses to.
  Conditions: the hypotheses of each theorem; none beside.
-/
import Derived.Test.YtcjeblikejoogaaGreatDoorHW5
namespace Go.Proofs.YtcjeblikejoogaaGreatDoor.PFnExactOpLine
open Go.RowKit Go.Proofs.YtcjeblikejoogaaGreatDoorW.PrintWords Go.Proofs.YtcjeblikejoogaaGreatDoorW.PrintLast Go.Proofs.YtcjeblikejoogaaGreatDoorW.PrintMore
set_option linter.unusedVariables false
set_option linter.unusedSimpArgs false
attribute [local go_sem high] eqA39 eqA90 eqA118
def preB (o : OP) : Bool := ((decide (o.k = 1) || decide (o.t.size = 0)) && (decide (o.p.length = 0) && (decide (o.k = 3) || emptyB o.s)))
theorem restB_pre (o : OP) : restB o = ((decide (o.k = 0 ∨ o.k = 4 ∨ o.k = 5) || o.a == 0) && preB o) := rfl
def LineIs (o : OP) (ln : ByteArray) : Prop :=
  ((o.k = 0 ∨ o.k = 4 ∨ o.k = 5) ∧ ln = mkB (verbL o.k ++ 32 :: Go.Lib.itoa o.a)) ∨
  (o.k = 1 ∧ o.t.data.toList.contains 59 = false ∧ ln = mkB ([115, 99, 114, 97, 112, 101, 32] ++ swb 10 59 o.t.data.toList)) ∨
  (o.k = 3 ∧ setB o.s = true ∧ ln = mkB ([115, 101, 116, 117, 112, 32] ++ swb 10 59 (stl o.s))) ∨
  (o.k = 6 ∧ ln = mkB [114, 101, 115, 116, 97, 114, 116]) ∨
  (o.k = 7 ∧ ln = mkB [108, 111, 111, 107])
def Parsed (ln : ByteArray) (x : Int) (fine : Bool) : Prop := ∀ w : World, Calls Tryz.prog 23 #[.string ln] w fun e w' => ∃ (o : OP) (P G U D : Option Addr) (cp cg cu cd : Nat), e = .returned (.tuple #[o.agg P G U D cp cg cu cd, .bool fine]) ∧ (fine = true → o.a = x) ∧ Below w.heap.size w w'
theorem parsed_zero {ln : ByteArray} (h : ∀ w : World, Calls Tryz.prog 23 #[.string ln] w fun e w' => ∃ (o : OP) (P G U D : Option Addr) (cp cg cu cd : Nat), e = .returned (.tuple #[o.agg P G U D cp cg cu cd, .bool true]) ∧ o.a = 0 ∧ Below w.heap.size w w') : Parsed ln 0 true := fun w => (h w).mono fun e w' ⟨o, P, G, U, D, cp, cg, cu, cd, he, ha, hb⟩ => ⟨o, P, G, U, D, cp, cg, cu, cd, he, fun _ => ha, hb⟩
theorem mkB_size (l : List UInt8) : (mkB l).size = l.length := by show l.toArray.size = _; simp
theorem line_parsed (o : OP) (ho : o.Small) (ln : ByteArray) (h : LineIs o ln) (hp : preB o = true) (hs : ln.size ≤ 200) : ∃ x fine, Parsed ln x fine ∧ opLine o = if fine = true ∧ x = o.a then some ln else none := by
  obtain ⟨⟨k1, k2⟩, ⟨a1, a2⟩, ht, hpp, hsm⟩ := ho
  have hop : ∀ l, lineOf o = some l → ln = mkB l → opLine o = if (true = true ∧ ((0 : Int) = o.a ∨ (o.k = 0 ∨ o.k = 4 ∨ o.k = 5))) then some ln else none := by
    intro l hl e
    have e2 : l.length ≤ 200 := by rw [e, mkB_size] at hs; exact hs
    rw [opLine, hl, restB_pre, hp, Bool.and_true]
    subst e
    simp only [e2, if_true, true_and]
    by_cases hk : o.k = 0 ∨ o.k = 4 ∨ o.k = 5
    · rw [if_pos (Or.inr hk), decide_eq_true hk]; rfl
    · by_cases h0 : (0 : Int) = o.a
      · rw [if_pos (Or.inl h0), ← h0]; simp
      · rw [decide_eq_false hk, show (o.a == 0) = false from beq_eq_false_iff_ne.mpr (fun e => h0 e.symm), Bool.false_or, if_neg Bool.false_ne_true, if_neg (fun hc => Or.elim hc h0 hk)]
  rcases h with ⟨hk, e⟩ | ⟨hk, hc, e⟩ | ⟨hk, hset, e⟩ | ⟨hk, e⟩ | ⟨hk, e⟩
  · have hi := itoa_le o.a a1 a2
    have hr := l01Read_f o.a a1 a2 200 (by omega) (by omega)
    have fin : ∀ fine x, (some (x, fine) : Option (Int × Bool)) = some (if dlen o.a ≤ 10 then (o.a, true) else (0, false)) → opLine o = if fine = true ∧ x = o.a then some ln else none := by
      intro fine x hx
      by_cases hd : dlen o.a ≤ 10
      · rw [if_pos hd] at hx
        obtain ⟨rfl, rfl⟩ : x = o.a ∧ fine = true := by simpa using hx
        rw [hop _ (by rw [lineOf, if_pos hk, if_pos hd]) e, if_pos ⟨rfl, Or.inr hk⟩, if_pos ⟨rfl, rfl⟩]
      · rw [if_neg hd] at hx
        obtain ⟨rfl, rfl⟩ : x = 0 ∧ fine = false := by simpa using hx
        rw [opLine, lineOf, if_pos hk, if_neg hd, if_neg (by simp)]
    obtain ⟨x, fine, hx⟩ : ∃ x fine, (some (x, fine) : Option (Int × Bool)) = some (if dlen o.a ≤ 10 then (o.a, true) else (0, false)) := by
      by_cases hd : dlen o.a ≤ 10
      · exact ⟨o.a, true, by rw [if_pos hd]⟩
      · exact ⟨0, false, by rw [if_neg hd]⟩
    refine ⟨x, fine, ?_, fin fine x hx⟩
    rw [← hx] at hr
    intro w
    subst e
    rcases hk with hk | hk | hk
    · rw [hk]
      exact parse_num _ (mkB (Go.Lib.itoa o.a)) 0 (by omega) x fine (by rw [Go.Lib.toList_data]; rfl) (by rw [Go.Lib.toList_data]; rfl) (after_yes [116, 105, 99, 107] _ (by decide) (by omega)) (fun j hj => absurd hj (by omega)) hr w
    · rw [hk]
      exact parse_num _ (mkB (Go.Lib.itoa o.a)) 1 (by omega) x fine (by rw [Go.Lib.toList_data]; rfl) (by rw [Go.Lib.toList_data]; rfl) (after_yes [104, 97, 110, 100, 115] _ (by decide) (by omega)) (fun j hj => by
        obtain rfl : j = 0 := by omega
        exact after_no (verbL 4 ++ 32 :: Go.Lib.itoa o.a) [116, 105, 99, 107] (by decide) (by simp [verbL]; omega) (by simp [verbL])) hr w
    · rw [hk]
      exact parse_num _ (mkB (Go.Lib.itoa o.a)) 2 (by omega) x fine (by rw [Go.Lib.toList_data]; rfl) (by rw [Go.Lib.toList_data]; rfl) (after_yes [102, 97, 117, 108, 116, 115] _ (by decide) (by omega)) (fun j hj => by
        obtain rfl | rfl : j = 0 ∨ j = 1 := by omega
        · exact after_no (verbL 5 ++ 32 :: Go.Lib.itoa o.a) [116, 105, 99, 107] (by decide) (by simp [verbL]; omega) (by simp [verbL])
        · exact after_no (verbL 5 ++ 32 :: Go.Lib.itoa o.a) [104, 97, 110, 100, 115] (by decide) (by simp [verbL]; omega) (by simp [verbL])) hr w
  · have n0 : ¬ (o.k = 0 ∨ o.k = 4 ∨ o.k = 5) := by omega
    refine ⟨0, true, parsed_zero ?_, ?_⟩
    · have hl : ([115, 99, 114, 97, 112, 101, 32] ++ swb 10 59 o.t.data.toList).length ≤ 200 := by rw [e, mkB_size] at hs; exact hs
      have hno : ∀ v : List UInt8, v.length ≤ 10 → v.take 2 ≠ [115, 99] → 2 ≤ v.length → spec_l07After.f ln (mkB v) = some (⟨#[]⟩, false) := by
        intro v hv hv2 hv3
        rw [e]
        refine after_no _ v (by omega) (by omega) ?_
        intro hc
        have := congrArg (List.take 2) hc
        rw [List.take_take, List.take_append_of_le_length hv3] at this
        have h2 : min 2 (v.length + 1) = 2 := by omega
        rw [h2] at this
        exact hv2 (by rw [← this]; rfl)
      refine fun w => parse_txt ln (by rw [e, Go.Lib.toList_data]; rfl) (by rw [e, Go.Lib.toList_data]; rfl) (fun j hj => ?_) (Or.inl ⟨mkB (swb 10 59 o.t.data.toList), o.t, ?_, ?_⟩) w
      · obtain rfl | rfl | rfl : j = 0 ∨ j = 1 ∨ j = 2 := by omega
        · exact hno [116, 105, 99, 107] (by decide) (by decide) (by decide)
        · exact hno [104, 97, 110, 100, 115] (by decide) (by decide) (by decide)
        · exact hno [102, 97, 117, 108, 116, 115] (by decide) (by decide) (by decide)
      · rw [e]
        exact after_yes [115, 99, 114, 97, 112, 101] (swb 10 59 o.t.data.toList) (by decide) (by simp at hl; omega)
      · have hz := swap_f (mkB (swb 10 59 o.t.data.toList)) (by show (swb 10 59 o.t.data.toList).toArray.size ≤ _; rw [List.size_toArray, swb_len]; rw [data_length]; omega) 59 10
        refine hz.trans ?_
        congr 1
        apply ba_ext
        show swb 59 10 (swb 10 59 o.t.data.toList) = _
        exact swb_back 10 59 _ (by intro hm; rw [List.contains_iff_mem.mpr hm] at hc; exact absurd hc (by simp)) (by decide)
    · rw [hop _ (by rw [lineOf, if_neg n0, if_pos hk, if_neg (by rw [hc]; simp)]) e]
      simp [n0]
  · have n0 : ¬ (o.k = 0 ∨ o.k = 4 ∨ o.k = 5) := by omega
    refine ⟨0, true, parsed_zero ?_, ?_⟩
    · have hl : ([115, 101, 116, 117, 112, 32] ++ swb 10 59 (stl o.s)).length ≤ 200 := by rw [e, mkB_size] at hs; exact hs
      have hl2 : (stl o.s).length ≤ 194 := by simp [swb_len] at hl; omega
      have hno : ∀ v : List UInt8, v.length ≤ 10 → v.take 2 ≠ [115, 101] → 2 ≤ v.length → spec_l07After.f ln (mkB v) = some (⟨#[]⟩, false) := by
        intro v hv hv2 hv3
        rw [e]
        refine after_no _ v (by omega) (by omega) ?_
        intro hc
        have := congrArg (List.take 2) hc
        rw [List.take_take, List.take_append_of_le_length hv3] at this
        have h2 : min 2 (v.length + 1) = 2 := by omega
        rw [h2] at this
        exact hv2 (by rw [← this]; rfl)
      refine fun w => parse_txt ln (by rw [e, Go.Lib.toList_data]; rfl) (by rw [e, Go.Lib.toList_data]; rfl) (fun j hj => ?_) (Or.inr ⟨hno [115, 99, 114, 97, 112, 101] (by decide) (by decide) (by decide), mkB (swb 10 59 (stl o.s)), o.s, ?_, ?_, hsm, hset, ?_⟩) w
      · obtain rfl | rfl | rfl : j = 0 ∨ j = 1 ∨ j = 2 := by omega
        · exact hno [116, 105, 99, 107] (by decide) (by decide) (by decide)
        · exact hno [104, 97, 110, 100, 115] (by decide) (by decide) (by decide)
        · exact hno [102, 97, 117, 108, 116, 115] (by decide) (by decide) (by decide)
      · rw [e]
        exact after_yes [115, 101, 116, 117, 112] (swb 10 59 (stl o.s)) (by decide) (by rw [swb_len]; omega)
      · have hz := swap_f (mkB (swb 10 59 (stl o.s))) (by show (swb 10 59 (stl o.s)).toArray.size ≤ _; rw [List.size_toArray, swb_len]; omega) 59 10
        refine hz.trans ?_
        congr 1
        apply ba_ext
        show swb 59 10 (swb 10 59 (stl o.s)) = stl o.s
        exact swb_back 10 59 _ (stl_no o.s hset) (by decide)
      · show (stl o.s).toArray.size ≤ 200
        rw [List.size_toArray]
        omega
    · rw [hop _ (by rw [lineOf, if_neg n0, if_neg (by omega), if_pos hk, if_pos hset]) e]
      simp [n0]
  · have n0 : ¬ (o.k = 0 ∨ o.k = 4 ∨ o.k = 5) := by omega
    refine ⟨0, true, parsed_zero fun w => parse_word ln (Or.inl (by rw [e, Go.Lib.toList_data]; rfl)) w, ?_⟩
    rw [hop _ (by rw [lineOf, if_neg n0, if_neg (by omega), if_neg (by omega), if_pos hk]) e]
    simp [n0]
  · have n0 : ¬ (o.k = 0 ∨ o.k = 4 ∨ o.k = 5) := by omega
    refine ⟨0, true, parsed_zero fun w => parse_word ln (Or.inr ⟨by rw [e, Go.Lib.toList_data]; rfl, by rw [e, Go.Lib.toList_data]; rfl⟩) w, ?_⟩
    rw [hop _ (by rw [lineOf, if_neg n0, if_neg (by omega), if_neg (by omega), if_neg (by omega), if_pos hk]) e]
    simp [n0]
end Go.Proofs.YtcjeblikejoogaaGreatDoor.PFnExactOpLine
