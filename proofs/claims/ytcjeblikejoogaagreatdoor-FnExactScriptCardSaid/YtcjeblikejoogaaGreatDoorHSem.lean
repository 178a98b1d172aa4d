/-
  Plain words for numbers, texts, goals, sides and setups, and what the small printed functions answer in these words.
  Conditions: the hypotheses of each theorem; none beside.
-/
import Derived.Test.YtcjeblikejoogaaGreatDoorQSq
import Derived.Test.YtcjeblikejoogaaGreatDoorQIm
import Derived.Test.YtcjeblikejoogaaGreatDoorQIn
import Derived.Lib.ItoaLen
namespace Go.Proofs.YtcjeblikejoogaaGreatDoor.PFnExactOpLine
open Go.RowKit Go.Proofs.YtcjeblikejoogaaGreatDoorW.PrintWords Go.Proofs.YtcjeblikejoogaaGreatDoorW.PrintLast Go.Proofs.YtcjeblikejoogaaGreatDoorW.PrintMore
set_option linter.unusedVariables false
set_option linter.unusedSimpArgs false
attribute [local go_sem high] eqA39 eqA90 eqA118
def nb (n : Int) : ByteArray := ⟨(Go.Lib.itoa n).toArray⟩
theorem w64 {x : Int} (h : -9223372036854775808 ≤ x) (h' : x ≤ 9223372036854775807) : wrap64 x = x := by unfold wrap64; omega
theorem nb_size_le (n : Int) (h0 : -9223372036854775808 ≤ n) (h1 : n ≤ 9223372036854775807) : (nb n).size ≤ 21 := Go.Lib.itoa_length_le n h0 h1
theorem l01Num_loop (u : Nat) : ∀ (k : Nat) (acc : ByteArray) (s : Bool), 1 ≤ u → u ≤ 9223372036854775808 → (s = false → u ≤ 9223372036854775807) → Go.Lib.nDigits u < k → acc.size + k ≤ 1000 →
    spec_l01Num.l0 k (if s then -(u : Int) else u) acc s = spec_l01Num.l0 (k - Go.Lib.nDigits u) 0 (⟨(Go.Lib.decDigits u).toArray⟩ ++ acc) s := by
  induction u using Nat.strongRecOn with
  | _ u ih =>
    intro k acc s h1 h2 h3 hk ha
    obtain ⟨k, rfl⟩ : ∃ m, k = m + 1 := ⟨k - 1, by omega⟩
    have hx0 : ¬ ((if s then -(u : Int) else u) = 0) := by cases s <;> simp <;> omega
    have hdg : ∀ y : Int, y = ((u % 10 : Nat) : Int) → strOfNums [wrap64 (48 + y) % 256] = ⟨#[UInt8.ofNat (48 + u % 10)]⟩ := by
      intro y hy
      subst hy
      have e : wrap64 (48 + ((u % 10 : Nat) : Int)) % 256 = ((48 + u % 10 : Nat) : Int) := by unfold wrap64; omega
      rw [e]
      rfl
    have hstep : spec_l01Num.l0 (k + 1) (if s then -(u : Int) else u) acc s = spec_l01Num.l0 k (if s then -((u / 10 : Nat) : Int) else (u / 10 : Nat)) (⟨#[UInt8.ofNat (48 + u % 10)]⟩ ++ acc) s := by
      have hd : wrap64 (Int.tdiv (if s then -(u : Int) else u) 10) = (if s then -((u / 10 : Nat) : Int) else (u / 10 : Nat)) := by
        cases s
        · simp only [Bool.false_eq_true, if_false]
          rw [show Int.tdiv (u : Int) 10 = ((u / 10 : Nat) : Int) from (Int.tdiv_eq_ediv_of_nonneg (by omega)).trans (by omega)]
          exact w64 (by omega) (by omega)
        · simp only [if_true]
          rw [Int.neg_tdiv, show Int.tdiv (u : Int) 10 = ((u / 10 : Nat) : Int) from (Int.tdiv_eq_ediv_of_nonneg (by omega)).trans (by omega)]
          exact w64 (by omega) (by omega)
      have hsz : ∀ y : Int, (strOfNums [y]).size + acc.size ≤ 9223372036854775807 := by intro y; rw [strOfNums_size]; simp; omega
      rw [spec_l01Num.l0, if_neg hx0, hd]
      by_cases hm : Int.tmod (if s then -(u : Int) else u) 10 < 0
      · rw [if_pos hm, Option.bind_some, if_pos (hsz _), hdg]
        cases s
        · simp only [Bool.false_eq_true, if_false] at hm
          have := Int.tmod_nonneg 10 (a := (u : Int)) (by omega)
          omega
        · simp only [if_true] at hm ⊢
          rw [Int.neg_tmod, show Int.tmod (u : Int) 10 = ((u % 10 : Nat) : Int) from (Int.tmod_eq_emod_of_nonneg (by omega)).trans (by omega), w64 (by omega) (by omega)]
          omega
      · rw [if_neg hm, Option.bind_some, if_pos (hsz _), hdg]
        cases s
        · simp only [Bool.false_eq_true, if_false]
          exact (Int.tmod_eq_emod_of_nonneg (by omega)).trans (by omega)
        · simp only [if_true] at hm ⊢
          rw [Int.neg_tmod, show Int.tmod (u : Int) 10 = ((u % 10 : Nat) : Int) from (Int.tmod_eq_emod_of_nonneg (by omega)).trans (by omega)] at hm ⊢
          omega
    rw [hstep]
    by_cases h10 : u < 10
    · rw [Go.Lib.nDigits_small h10, Go.Lib.decDigits_one h10, show u / 10 = 0 by omega, show u % 10 = u by omega]
      simp
    · have hb := Go.Lib.nDigits_big h10
      rw [ih (u / 10) (by omega) k _ s (by omega) (by omega) (by intro; omega) (by omega) (by rw [ByteArray.size_append]; show 1 + acc.size + k ≤ 1000; omega)]
      rw [hb, show k + 1 - (Go.Lib.nDigits (u / 10) + 1) = k - Go.Lib.nDigits (u / 10) by omega, show Go.Lib.decDigits u = Go.Lib.decDigits (u / 10) ++ [UInt8.ofNat (48 + u % 10)] by rw [Go.Lib.decDigits, dif_neg h10]]
      rw [← ByteArray.append_assoc, show (⟨#[UInt8.ofNat (48 + u % 10)]⟩ : ByteArray) = ⟨[UInt8.ofNat (48 + u % 10)].toArray⟩ from rfl, ByteArray.mk_append_mk (Go.Lib.decDigits (u / 10)) [UInt8.ofNat (48 + u % 10)]]
theorem l01Num_f (n : Int) (h0 : -9223372036854775808 ≤ n) (h1 : n ≤ 9223372036854775807) (k : Nat) (hk : 30 ≤ k) (hk2 : k ≤ 900) : spec_l01Num.f k n = some (nb n) := by
  unfold spec_l01Num.f
  by_cases hz : n = 0
  · rw [if_pos hz, hz, show nb 0 = nb ((0 : Nat) : Int) from rfl]
    unfold nb
    rw [Go.Lib.itoa_nonneg, Go.Lib.decDigits_one (by omega)]
    rfl
  rw [if_neg hz]
  obtain ⟨s, u, hn, hu, hs⟩ : ∃ (s : Bool) (u : Nat), n = (if s then -(u : Int) else u) ∧ 1 ≤ u ∧ s = decide (n < 0) := by
    by_cases hneg : n < 0
    · exact ⟨true, n.natAbs, by simp; omega, by omega, by simp [hneg]⟩
    · exact ⟨false, n.toNat, by simp; omega, by omega, by simp [hneg]⟩
  have hd : Go.Lib.nDigits u ≤ 20 := Go.Lib.nDigits_le20 u (by cases s <;> simp at hn <;> omega)
  rw [← hs, hn, l01Num_loop u k ⟨#[]⟩ s hu (by cases s <;> simp at hn <;> omega) (by intro e; subst e; simp at hn; omega) (by omega) (by show 0 + k ≤ 1000; omega)]
  obtain ⟨m, hm⟩ : ∃ m, k - Go.Lib.nDigits u = m + 1 := ⟨k - Go.Lib.nDigits u - 1, by omega⟩
  rw [hm, spec_l01Num.l0, if_pos rfl]
  have hl := Go.Lib.decDigits_length u
  have e0 : (⟨(Go.Lib.decDigits u).toArray⟩ : ByteArray) ++ ⟨#[]⟩ = ⟨(Go.Lib.decDigits u).toArray⟩ := by rw [ByteArray.mk_append_mk]; simp
  rw [e0]
  cases s
  · simp only [Bool.false_eq_true, if_false]
    rw [show nb u = ⟨(Go.Lib.decDigits u).toArray⟩ by unfold nb; rw [Go.Lib.itoa_nonneg]]
  · simp only [if_true]
    rw [if_pos (by show 1 + (Go.Lib.decDigits u).toArray.size ≤ _; simp; omega), show nb (-(u : Int)) = ⟨(45 :: Go.Lib.decDigits u).toArray⟩ by unfold nb; rw [Go.Lib.itoa_neg u hu], ByteArray.mk_append_mk]
    simp
def inB (a lo hi : Int) : Bool := decide (lo ≤ a) && decide (a ≤ hi)
def nameC (b : UInt8) : Bool := (97 ≤ b.toNat && b.toNat ≤ 122) || (48 ≤ b.toNat && b.toNat ≤ 57)
def nameB (s : ByteArray) : Bool := inB s.size 1 12 && s.data.toList.all nameC
def goalB (g : S90) : Bool := nameB g.f0 && (inB g.f1 1 1000000 && inB g.f2 0 1000)
def polB (p : S118) : Bool := inB p.f0 0 1 && (inB p.f1 1 1000 && inB p.f2 1 1000)
def sideB (l : List S118) (s w : Int) : Bool := decide (l.length ≤ 3) && (inB s 0 2 && (inB w 0 1000 && l.all polB))
def rulesB (a b c : Int) : Bool := inB a 0 1000 && (inB b 0 1000 && inB c 0 1000)
theorem inB_iff {a lo hi : Int} : inB a lo hi = true ↔ lo ≤ a ∧ a ≤ hi := by simp [inB]
theorem inB_no {a lo hi : Int} : inB a lo hi = false ↔ ¬ (lo ≤ a ∧ a ≤ hi) := by rw [← inB_iff]; simp
theorem spec_in (a lo hi : Int) : spec_l01In.f a lo hi = some (inB a lo hi) := by
  unfold spec_l01In.f inB
  split <;> rename_i h <;> simp [h]
theorem impl_in_ (a lo hi : Int) : impl_in.f a lo hi = some (inB a lo hi) := by
  unfold impl_in.f inB
  split <;> rename_i h <;> simp only [ge_iff_le] at h <;> simp [h]
theorem ok_and (b : Bool) (x : Bool) : (if b = true then some x else some false) = some (b && x) := by cases b <;> rfl
theorem spec_rules (a b c : Int) : spec_RulesOk.f a b c = some (rulesB a b c) := by
  unfold spec_RulesOk.f rulesB
  simp only [spec_in, Option.bind_some, ok_and]
theorem impl_rules (a b c : Int) : impl_RulesOk.f a b c = some (rulesB a b c) := by
  unfold impl_RulesOk.f rulesB
  simp only [impl_in_, Option.bind_some, ok_and]
theorem drop_rd {α : Type} (l : List α) (z : α) (i : Nat) (h : i < l.length) : l.drop i = l.getD i z :: l.drop (i + 1) := by
  rw [List.drop_eq_getElem_cons h]
  simp [List.getD, h]
theorem w64n {i : Nat} (h : i + 1 ≤ 9223372036854775807) : wrap64 ((i : Int) + 1) = ((i + 1 : Nat) : Int) := by unfold wrap64; omega
theorem spec_side_l (l : List S118) (a b : Int) (hl : l.length ≤ 9223372036854775800) : ∀ (d i k : Nat), i + d = l.length → d < k → spec_SideOk.l0 k i l a b = some ((l.drop i).all polB)
  | 0, i, k, h, hk => by
    obtain ⟨k, rfl⟩ : ∃ m, k = m + 1 := ⟨k - 1, by omega⟩
    rw [spec_SideOk.l0, if_neg (by omega), List.drop_eq_nil_of_le (by omega)]
    rfl
  | d + 1, i, k, h, hk => by
    obtain ⟨k, rfl⟩ : ∃ m, k = m + 1 := ⟨k - 1, by omega⟩
    rw [spec_SideOk.l0, if_pos (by omega), if_pos (by omega), w64n (by omega), drop_rd l z118 i (by omega), List.all_cons, spec_side_l l a b hl d (i + 1) k (by omega) (by omega)]
    simp only [spec_in, Option.bind_some, ok_and, polB, rd_T118, Int.toNat_natCast, Bool.and_assoc]
theorem spec_side (l : List S118) (a b : Int) (hl : l.length ≤ 9223372036854775800) (k : Nat) (hk : l.length + 5 ≤ k) : spec_SideOk.f k l a b = some (sideB l a b) := by
  obtain ⟨k, rfl⟩ : ∃ m, k = m + 1 := ⟨k - 1, by omega⟩
  unfold spec_SideOk.f sideB
  by_cases h : (l.length : Int) > 3
  · rw [if_pos h, spec_SideOk.j0, if_pos rfl, show decide (l.length ≤ 3) = false by simp; omega]
    rfl
  · rw [if_neg h, show decide (l.length ≤ 3) = true by simp; omega, spec_in, Option.bind_some, spec_in, Option.bind_some]
    have e := spec_side_l l a b hl l.length 0 k (by omega) (by omega)
    cases h1 : inB a 0 2
    · rw [if_neg (by simp), spec_SideOk.j0, if_pos rfl]
      simp
    · rw [if_pos rfl]
      cases h2 : inB b 0 1000
      · rw [spec_SideOk.j0, if_pos (by rfl)]
        simp
      · rw [spec_SideOk.j0, if_neg (by simp)]
        simpa using e
theorem impl_side_l (l : List S118) (a b : Int) (hl : l.length ≤ 9223372036854775800) : ∀ (d i k : Nat), i + d = l.length → d < k → impl_SideOk.l0 k l l.length i l a b = some ((l.drop i).all polB && (decide (l.length ≤ 3) && (inB a 0 2 && inB b 0 1000)))
  | 0, i, k, h, hk => by
    obtain ⟨k, rfl⟩ : ∃ m, k = m + 1 := ⟨k - 1, by omega⟩
    rw [impl_SideOk.l0, if_neg (by omega), List.drop_eq_nil_of_le (by omega)]
    by_cases h3 : (l.length : Int) ≤ 3
    · rw [if_pos h3, show decide (l.length ≤ 3) = true by simp; omega]
      simp only [impl_in_, Option.bind_some, ok_and, List.all_nil, Bool.true_and]
    · rw [if_neg h3, show decide (l.length ≤ 3) = false by simp; omega]
      rfl
  | d + 1, i, k, h, hk => by
    obtain ⟨k, rfl⟩ : ∃ m, k = m + 1 := ⟨k - 1, by omega⟩
    rw [impl_SideOk.l0, if_pos (by omega), if_pos (by omega), if_pos (by omega), w64n (by omega), drop_rd l z118 i (by omega), List.all_cons, impl_side_l l a b hl d (i + 1) k (by omega) (by omega)]
    simp only [impl_in_, Option.bind_some, ok_and, polB, rd_T118, Int.toNat_natCast, Bool.and_assoc]
theorem impl_side (l : List S118) (a b : Int) (hl : l.length ≤ 9223372036854775800) (k : Nat) (hk : l.length + 5 ≤ k) : impl_SideOk.f k l a b = some (sideB l a b) := by
  unfold impl_SideOk.f sideB
  rw [show (0 : Int) = ((0 : Nat) : Int) from rfl, impl_side_l l a b hl l.length 0 k (by omega) (by omega), List.drop_zero]
  cases l.all polB <;> simp
def behB (u : List S118) (us uw : Int) (d : List S118) (ds dw mn mx : Int) : Bool := sideB u us uw && (sideB d ds dw && (inB mx 0 1000 && inB mn 0 mx))
theorem spec_beh (u : List S118) (us uw : Int) (d : List S118) (ds dw mn mx : Int) (hu : u.length ≤ 9223372036854775800) (hd : d.length ≤ 9223372036854775800) (k : Nat) (hk : u.length + 5 ≤ k) (hk' : d.length + 5 ≤ k) :
    spec_BehaveOk.f k u us uw d ds dw mn mx = some (behB u us uw d ds dw mn mx) := by
  unfold spec_BehaveOk.f behB
  rw [spec_side u us uw hu k hk, spec_side d ds dw hd k hk']
  simp only [spec_in, Option.bind_some, ok_and]
theorem impl_beh (u : List S118) (us uw : Int) (d : List S118) (ds dw mn mx : Int) (hu : u.length ≤ 9223372036854775800) (hd : d.length ≤ 9223372036854775800) (k : Nat) (hk : u.length + 5 ≤ k) (hk' : d.length + 5 ≤ k) :
    impl_BehaveOk.f k u us uw d ds dw mn mx = some (behB u us uw d ds dw mn mx) := by
  unfold impl_BehaveOk.f behB
  rw [impl_side u us uw hu k hk, impl_side d ds dw hd k hk']
  have e : (if mn ≥ 0 then (if mn ≤ mx then some (decide (mx ≤ 1000)) else some false) else some false) = some (inB mx 0 1000 && inB mn 0 mx) := by
    unfold inB
    by_cases h1 : mn ≥ 0
    · by_cases h2 : mn ≤ mx
      · rw [if_pos h1, if_pos h2]
        simp [h2, show 0 ≤ mn from h1, show 0 ≤ mx by omega]
      · rw [if_pos h1, if_neg h2]
        simp [h2]
    · rw [if_neg h1]
      simp [show ¬ 0 ≤ mn from h1]
  rw [Option.bind_some, Option.bind_some, e, ok_and, ok_and]
theorem bt_nat (s : ByteArray) (i : Nat) (h : i < s.size) : bt s i = ((s.data.toList.getD i 0).toNat : Int) := by
  have h' : i < s.data.toList.length := by rw [data_length]; exact h
  unfold bt
  rw [dif_pos (by simpa using h)]
  simp [List.getD, List.getElem?_eq_getElem h']
  rfl
theorem nameC_int (b : UInt8) : nameC b = ((!decide ((b.toNat : Int) < 97) && !decide ((b.toNat : Int) > 122)) || (!decide ((b.toNat : Int) < 48) && !decide ((b.toNat : Int) > 57))) := by
  unfold nameC
  rw [Bool.eq_iff_iff]
  simp
  omega
theorem name_if (c : Int) (r : Option Bool) (b : Bool) (hr : r = some b) : (if c < 97 then (if c < 48 then some false else (if c > 57 then some false else r)) else (if c > 122 then (if c < 48 then some false else (if c > 57 then some false else r)) else r)) =
    some (((!decide (c < 97) && !decide (c > 122)) || (!decide (c < 48) && !decide (c > 57))) && b) := by
  subst hr
  by_cases h1 : c < 97 <;> by_cases h2 : c < 48 <;> by_cases h3 : c > 57 <;> by_cases h4 : c > 122 <;> simp [h1, h2, h3, h4] <;> omega
theorem spec_name_l (s : ByteArray) (hl : s.size ≤ 9223372036854775800) : ∀ (d i k : Nat), i + d = s.size → d < k → spec_NameOk.l0 k s i = some ((s.data.toList.drop i).all nameC)
  | 0, i, k, h, hk => by
    obtain ⟨k, rfl⟩ : ∃ m, k = m + 1 := ⟨k - 1, by omega⟩
    rw [spec_NameOk.l0, if_neg (by omega), List.drop_eq_nil_of_le (by rw [data_length]; omega)]
    rfl
  | d + 1, i, k, h, hk => by
    obtain ⟨k, rfl⟩ : ∃ m, k = m + 1 := ⟨k - 1, by omega⟩
    rw [spec_NameOk.l0, if_pos (by omega), if_pos (by omega), w64n (by omega), drop_rd s.data.toList 0 i (by rw [data_length]; omega), List.all_cons, bt_nat s i (by omega), nameC_int]
    exact name_if _ _ _ (spec_name_l s hl d (i + 1) k (by omega) (by omega))
theorem spec_name (s : ByteArray) (hl : s.size ≤ 9223372036854775800) (k : Nat) (hk : s.size + 5 ≤ k) : spec_NameOk.f k s = some (nameB s) := by
  unfold spec_NameOk.f nameB
  rw [show (0 : Int) = ((0 : Nat) : Int) from rfl, spec_name_l s hl s.size 0 k (by omega) (by omega), spec_in, Option.bind_some, ok_and, List.drop_zero]
theorem impl_name_l (s : ByteArray) (hl : s.size ≤ 9223372036854775800) : ∀ (d i k : Nat), i + d = s.size → d < k → impl_NameOk.l0 k s s.size i = some ((s.data.toList.drop i).all nameC && inB s.size 1 12)
  | 0, i, k, h, hk => by
    obtain ⟨k, rfl⟩ : ∃ m, k = m + 1 := ⟨k - 1, by omega⟩
    rw [impl_NameOk.l0, if_neg (by omega), List.drop_eq_nil_of_le (by rw [data_length]; omega), impl_in_]
    rfl
  | d + 1, i, k, h, hk => by
    obtain ⟨k, rfl⟩ : ∃ m, k = m + 1 := ⟨k - 1, by omega⟩
    rw [impl_NameOk.l0, if_pos (by omega), if_pos (by omega), if_pos (by omega), w64n (by omega), drop_rd s.data.toList 0 i (by rw [data_length]; omega), List.all_cons, bt_nat s i (by omega), nameC_int, Bool.and_assoc]
    exact name_if _ _ _ (impl_name_l s hl d (i + 1) k (by omega) (by omega))
theorem impl_name (s : ByteArray) (hl : s.size ≤ 9223372036854775800) (k : Nat) (hk : s.size + 5 ≤ k) : impl_NameOk.f k s = some (nameB s) := by
  unfold impl_NameOk.f nameB
  rw [show (0 : Int) = ((0 : Nat) : Int) from rfl, impl_name_l s hl s.size 0 k (by omega) (by omega), List.drop_zero, Bool.and_comm]
theorem spec_goal (g : S90) (hl : g.f0.size ≤ 9223372036854775800) (k : Nat) (hk : g.f0.size + 5 ≤ k) : spec_GoalOk.f k g.f0 g.f1 g.f2 = some (goalB g) := by
  unfold spec_GoalOk.f goalB
  rw [spec_name g.f0 hl k hk]
  simp only [spec_in, Option.bind_some, ok_and]
theorem impl_goal (g : S90) (hl : g.f0.size ≤ 9223372036854775800) (k : Nat) (hk : g.f0.size + 5 ≤ k) : impl_GoalOk.f k g.f0 g.f1 g.f2 = some (goalB g) := by
  unfold impl_GoalOk.f goalB
  rw [impl_name g.f0 hl k hk]
  simp only [impl_in_, Option.bind_some, ok_and]
def dg3 (r : Nat) : List UInt8 := [UInt8.ofNat (48 + r / 100), UInt8.ofNat (48 + r / 10 % 10), UInt8.ofNat (48 + r % 10)]
def tz (r : Nat) : Nat := if r % 10 ≠ 0 then 3 else if r / 10 % 10 ≠ 0 then 2 else 1
def fr (r : Nat) : List UInt8 := if r = 0 then [] else 46 :: (dg3 r).take (tz r)
def mt (v : Int) : ByteArray := ⟨(Go.Lib.itoa (v / 1000) ++ fr (v % 1000).toNat).toArray⟩
theorem milli_l (x : ByteArray) (r : Nat) (hr : 1 ≤ r) (hr2 : r < 1000) (hx : x.size ≤ 100) (k : Nat) (hk : 3 ≤ k) :
    spec_MilliText.l0 k x [((48 + r / 100 : Nat) : Int), ((48 + r / 10 % 10 : Nat) : Int), ((48 + r % 10 : Nat) : Int)] 3 = some ((x ++ ⟨#[46]⟩) ++ ⟨((dg3 r).take (tz r)).toArray⟩) := by
  obtain ⟨k, rfl⟩ : ∃ m, k = m + 3 := ⟨k - 3, by omega⟩
  have hsz : ∀ ys : List Int, ys.length ≤ 3 → (x ++ (⟨#[46]⟩ : ByteArray)).size + (strOfNums ys).size ≤ 9223372036854775807 := by
    intro ys hy
    rw [ByteArray.size_append, strOfNums_size]
    show x.size + 1 + ys.length ≤ _
    omega
  have hx1 : x.size + 1 ≤ 9223372036854775807 := by omega
  have e2 : wrap64 (3 - 1) = 2 := by unfold wrap64; omega
  have e1 : wrap64 (2 - 1) = 1 := by unfold wrap64; omega
  have e0 : wrap64 (1 - 1) = 0 := by unfold wrap64; omega
  have hl : ∀ (a b c : Int), (([a, b, c] : List Int).length : Int) = 3 := fun _ _ _ => rfl
  rw [spec_MilliText.l0, e2, if_pos (by decide), if_pos (by rw [hl]; decide)]
  by_cases h2 : r % 10 = 0
  · rw [if_pos (show rd _ 2 = 48 by simp [rd, h2]), spec_MilliText.l0, e1, if_pos (by decide), if_pos (by rw [hl]; decide)]
    by_cases h1 : r / 10 % 10 = 0
    · rw [if_pos (show rd _ 1 = 48 by simp [rd, h1]), spec_MilliText.l0, e0, if_pos (by decide), if_pos (by rw [hl]; decide), if_neg (show ¬ rd _ 0 = 48 by simp [rd]; omega), if_pos hx1, if_pos (by decide), if_pos (by rw [hl]; decide), Option.bind_some,
        if_pos (hsz _ (by simp))]
      rw [show tz r = 1 by simp [tz, h2, h1]]
      rfl
    · rw [if_neg (show ¬ rd _ 1 = 48 by simp [rd]; omega), if_pos hx1, if_pos (by decide), if_pos (by rw [hl]; decide), Option.bind_some, if_pos (hsz _ (by simp))]
      rw [show tz r = 2 by simp [tz, h2, h1]]
      rfl
  · rw [if_neg (show ¬ rd _ 2 = 48 by simp [rd]; omega), if_pos hx1, if_pos (by decide), if_pos (by rw [hl]; decide), Option.bind_some, if_pos (hsz _ (by simp))]
    rw [show tz r = 3 by simp [tz, h2]]
    rfl
theorem bytes_one (a b : List UInt8) : (⟨a.toArray⟩ : ByteArray) ++ ⟨b.toArray⟩ = ⟨(a ++ b).toArray⟩ := ByteArray.mk_append_mk a b
theorem spec_milli (v : Int) (h0 : 0 ≤ v) (h1 : v ≤ 1000000) (k : Nat) (hk : 40 ≤ k) (hk2 : k ≤ 900) : spec_MilliText.f k v = some (mt v) := by
  obtain ⟨k, rfl⟩ : ∃ m, k = m + 1 := ⟨k - 1, by omega⟩
  have hv : spec_l01Value.f v = some true := by
    unfold spec_l01Value.f
    rw [spec_in, Option.bind_some, inB_iff.2 ⟨by omega, by omega⟩]
  have hq : wrap64 (Int.tdiv v 1000) = v / 1000 := by rw [Int.tdiv_eq_ediv_of_nonneg h0]; exact w64 (by omega) (by omega)
  have hm : Int.tmod v 1000 = v % 1000 := Int.tmod_eq_emod_of_nonneg h0
  unfold spec_MilliText.f
  rw [hv, Option.bind_some, if_pos rfl, if_neg (by omega), spec_MilliText.j0, hq, hm, l01Num_f (v / 1000) (by omega) (by omega) k (by omega) (by omega), Option.bind_some]
  have hs := nb_size_le (v / 1000) (by omega) (by omega)
  rw [if_pos (show (⟨#[]⟩ : ByteArray).size + _ ≤ _ by show 0 + _ ≤ _; omega)]
  have e0 : (⟨#[]⟩ : ByteArray) ++ nb (v / 1000) = nb (v / 1000) := by rw [show (⟨#[]⟩ : ByteArray) = ⟨([] : List UInt8).toArray⟩ from rfl, bytes_one]; rfl
  rw [e0]
  obtain ⟨r, hr⟩ : ∃ r : Nat, v % 1000 = r := ⟨(v % 1000).toNat, by omega⟩
  unfold mt
  rw [hr, Int.toNat_natCast]
  by_cases hz : (r : Int) = 0
  · rw [if_pos hz, show r = 0 by omega]
    simp [fr, nb]
  · have d0 : wrap64 (48 + wrap64 (Int.tdiv (r : Int) 100)) % 256 = ((48 + r / 100 : Nat) : Int) := by
      rw [Int.tdiv_eq_ediv_of_nonneg (by omega), w64 (x := (r : Int) / 100) (by omega) (by omega), w64 (by omega) (by omega)]
      omega
    have d1 : wrap64 (48 + wrap64 (Int.tdiv (Int.tmod v 100) 10)) % 256 = ((48 + r / 10 % 10 : Nat) : Int) := by
      rw [Int.tmod_eq_emod_of_nonneg h0, Int.tdiv_eq_ediv_of_nonneg (by omega), w64 (x := v % 100 / 10) (by omega) (by omega), w64 (by omega) (by omega)]
      omega
    have d2 : wrap64 (48 + Int.tmod v 10) % 256 = ((48 + r % 10 : Nat) : Int) := by
      rw [Int.tmod_eq_emod_of_nonneg h0, w64 (by omega) (by omega)]
      omega
    rw [if_neg hz, d0, d1, d2, milli_l _ r (by omega) (by omega) (by omega) k (by omega), show (⟨#[46]⟩ : ByteArray) = ⟨([46] : List UInt8).toArray⟩ from rfl, bytes_one, bytes_one, fr, if_neg (by omega)]
    simp [nb]
theorem dec4 (r : Nat) (hr : r < 1000) : Go.Lib.decDigits (1000 + r) = 49 :: dg3 r := by
  rw [Go.Lib.decDigits, dif_neg (by omega), Go.Lib.decDigits, dif_neg (by omega), Go.Lib.decDigits_two (by omega) (by omega)]
  rw [show (1000 + r) / 10 / 10 / 10 = 1 by omega, show (1000 + r) / 10 / 10 % 10 = r / 100 by omega, show (1000 + r) / 10 % 10 = r / 10 % 10 by omega, show (1000 + r) % 10 = r % 10 by omega]
  rfl
theorem dig0 (m : Nat) (h : m < 10) : (UInt8.ofNat (48 + m) == (48 : UInt8)) = decide (m = 0) := (by decide +kernel : ∀ m : Fin 10, (UInt8.ofNat (48 + m.val) == (48 : UInt8)) = decide (m.val = 0)) ⟨m, h⟩
theorem trim3 (r : Nat) (hr : 1 ≤ r) (hr2 : r < 1000) : Go.Lib.trimRightB (dg3 r) 48 = (dg3 r).take (tz r) := by
  have h0 := dig0 (r / 100) (by omega)
  have h1 := dig0 (r / 10 % 10) (by omega)
  have h2 := dig0 (r % 10) (by omega)
  unfold Go.Lib.trimRightB dg3 tz
  generalize UInt8.ofNat (48 + r / 100) = a at h0 ⊢
  generalize UInt8.ofNat (48 + r / 10 % 10) = b at h1 ⊢
  generalize UInt8.ofNat (48 + r % 10) = c at h2 ⊢
  by_cases c2 : r % 10 = 0
  · rw [decide_eq_true c2] at h2
    by_cases c1 : r / 10 % 10 = 0
    · rw [decide_eq_true c1] at h1
      rw [decide_eq_false (show ¬ r / 100 = 0 by omega)] at h0
      simp [List.dropWhile, h0, h1, h2, c1, c2]
    · rw [decide_eq_false c1] at h1
      simp [List.dropWhile, h1, h2, c1, c2]
  · rw [decide_eq_false c2] at h2
    simp [List.dropWhile, h2, c2]
theorem impl_milli (v : Int) (h0 : 0 ≤ v) (h1 : v ≤ 1000000) (k : Nat) (hk : 2 ≤ k) : impl_MilliText.f k v = some (mt v) := by
  obtain ⟨k, rfl⟩ : ∃ m, k = m + 1 := ⟨k - 1, by omega⟩
  have hv : impl_isValue.f v = some true := by
    unfold impl_isValue.f
    rw [impl_in_, Option.bind_some, inB_iff.2 ⟨by omega, by omega⟩]
  have hq : wrap64 (Int.tdiv v 1000) = v / 1000 := by rw [Int.tdiv_eq_ediv_of_nonneg h0]; exact w64 (by omega) (by omega)
  have hm : Int.tmod v 1000 = v % 1000 := Int.tmod_eq_emod_of_nonneg h0
  have hit : ∀ n : Int, -9223372036854775808 ≤ n → n ≤ 9223372036854775807 → strconv_Itoa.f n = some (nb n) := by
    intro n a b
    unfold strconv_Itoa.f
    rw [if_pos ⟨a, b⟩]
    rfl
  unfold impl_MilliText.f
  rw [hv, Option.bind_some, if_pos rfl, if_neg (by omega), impl_MilliText.j0, hq, hm, hit _ (by omega) (by omega), Option.bind_some]
  have hs := nb_size_le (v / 1000) (by omega) (by omega)
  rw [if_pos (show (⟨#[]⟩ : ByteArray).size + _ ≤ _ by show 0 + _ ≤ _; omega)]
  have e0 : (⟨#[]⟩ : ByteArray) ++ nb (v / 1000) = nb (v / 1000) := by rw [show (⟨#[]⟩ : ByteArray) = ⟨([] : List UInt8).toArray⟩ from rfl, bytes_one]; rfl
  rw [e0]
  obtain ⟨r, hr⟩ : ∃ r : Nat, v % 1000 = r := ⟨(v % 1000).toNat, by omega⟩
  unfold mt
  rw [hr, Int.toNat_natCast]
  by_cases hz : (r : Int) = 0
  · rw [if_pos hz, show r = 0 by omega]
    simp [fr, nb]
  · have e1 : nb (wrap64 (1000 + (r : Int))) = ⟨(49 :: dg3 r).toArray⟩ := by
      rw [w64 (by omega) (by omega), show (1000 + (r : Int)) = ((1000 + r : Nat) : Int) by omega]
      unfold nb
      rw [Go.Lib.itoa_nonneg, dec4 r (by omega)]
    have e2 : (⟨(49 :: dg3 r).toArray⟩ : ByteArray).extract 1 (⟨(49 :: dg3 r).toArray⟩ : ByteArray).size = ⟨(dg3 r).toArray⟩ := by
      unfold dg3
      apply ByteArray.ext
      rfl
    have e3 : strings_TrimRight.f ⟨(dg3 r).toArray⟩ ⟨#[48]⟩ = some ⟨((dg3 r).take (tz r)).toArray⟩ := by
      unfold strings_TrimRight.f
      rw [if_pos ⟨rfl, by show 3 ≤ 9223372036854775807; decide⟩, show (⟨(dg3 r).toArray⟩ : ByteArray).data.toList = dg3 r from rfl, trim3 r (by omega) (by omega)]
    have hlen : ((dg3 r).take (tz r)).length ≤ 3 := by rw [List.length_take]; exact Nat.min_le_right _ _
    rw [if_neg hz, if_pos (by omega), hit _ (by unfold wrap64; omega) (by unfold wrap64; omega), Option.bind_some, e1, if_pos (by show (1 : Int) ≤ ((4 : Nat) : Int); decide), e2, e3, Option.bind_some,
      if_pos (by rw [ByteArray.size_append]; show (nb (v / 1000)).size + 1 + ((dg3 r).take (tz r)).toArray.size ≤ _; rw [List.size_toArray]; omega), show (⟨#[46]⟩ : ByteArray) = ⟨([46] : List UInt8).toArray⟩ from rfl, bytes_one, bytes_one, fr, if_neg (by omega)]
    simp [nb]
theorem mt_size (v : Int) (h0 : 0 ≤ v) (h1 : v ≤ 1000000) : (mt v).size ≤ 25 := by
  have h := Go.Lib.itoa_length_le (v / 1000) (by omega) (by omega)
  have h2 : (fr (v % 1000).toNat).length ≤ 4 := by
    unfold fr
    split
    · simp
    · rw [List.length_cons, List.length_take]
      exact Nat.succ_le_succ (Nat.min_le_right _ _)
  show (Go.Lib.itoa (v / 1000) ++ fr (v % 1000).toNat).toArray.size ≤ 25
  rw [List.size_toArray, List.length_append]
  omega
theorem ba_ext {a b : ByteArray} (h : a.data.toList = b.data.toList) : a = b := by
  apply ByteArray.ext
  exact Array.ext' h
theorem ba_data_append (a b : ByteArray) : (a ++ b).data.toList = a.data.toList ++ b.data.toList := by simp [ByteArray.data_append]
def gl (g : S90) : List UInt8 := g.f0.data.toList ++ 32 :: ((mt g.f1).data.toList ++ 32 :: Go.Lib.itoa g.f2)
theorem goalB_out {g : S90} (h : goalB g = true) : (1 ≤ g.f0.size ∧ g.f0.size ≤ 12) ∧ (1 ≤ g.f1 ∧ g.f1 ≤ 1000000) ∧ 0 ≤ g.f2 ∧ g.f2 ≤ 1000 := by
  unfold goalB nameB at h
  simp only [Bool.and_eq_true, inB_iff] at h
  omega
theorem ret_s {a b : ByteArray} (h : a.data.toList = b.data.toList) : Ending.returned (.string a) = Ending.returned (.string b) := by rw [ba_ext h]
theorem C_lit (W : World) (t : TypeId) (l : List ByteArray) (hl : l.length ≤ 100) : Kd.C Kd.string (W.alloc (.cells (l.map Value.string).toArray t (0, 0))) (some ⟨W.heap.size, 0, none⟩) l.length l := by
  refine ⟨rfl, by omega, fun _ => ⟨_, rfl, fun j p hj => ⟨[.string p], rfl, rfl, fun i u hu => ?_⟩⟩⟩
  cases i with
  | succ i => simp at hu
  | zero =>
    obtain rfl : Value.string p = u := by simpa using hu
    rw [show Kd.string.sz = 1 from rfl, Nat.mul_one, Nat.add_zero, add_plain, cell_of_row _ W.heap.size j (l.map Value.string).toArray t (0, 0) (heap_alloc_new W _)]
    simp [hj]
def cat (x : UInt8) : List (List UInt8) → List UInt8
  | [] => []
  | [a] => a
  | a :: b :: r => a ++ x :: cat x (b :: r)
theorem join_cat (x : UInt8) : ∀ l, Go.Lib.join l [x] = cat x l
  | [] => rfl
  | [a] => by simp [Go.Lib.join, List.intercalate, cat]
  | a :: b :: r => by
    have h := join_cat x (b :: r)
    unfold Go.Lib.join List.intercalate at h ⊢
    rw [cat, ← h]
    simp
theorem words_f (l : List ByteArray) (hl : l.length ≤ 100) (hs : (cat 32 (l.map (·.data.toList))).length ≤ 140737488355328) : impl_words.f l = some ⟨(cat 32 (l.map (·.data.toList))).toArray⟩ := by
  unfold impl_words.f strings_Join.f
  rw [show ((⟨#[32]⟩ : ByteArray).data.toList) = [32] from rfl, join_cat, if_pos ⟨by omega, hs⟩]
  rfl
theorem num_f (n : Int) (h0 : -9223372036854775808 ≤ n) (h1 : n ≤ 9223372036854775807) : impl_number.f n = some (nb n) := by
  unfold impl_number.f strconv_Itoa.f
  rw [if_pos ⟨h0, h1⟩]
  rfl
theorem take_snoc_ {α : Type} (l : List α) (z : α) (n : Nat) (h : n < l.length) : l.take (n + 1) = l.take n ++ [l.getD n z] := by
  rw [List.take_add_one]
  simp [List.getD, h]
def pol (p : S118) : List UInt8 := 32 :: (Go.Lib.itoa p.f0 ++ 58 :: (Go.Lib.itoa p.f1 ++ 58 :: Go.Lib.itoa p.f2))
def sl (l : List S118) (s w : Int) : List UInt8 := Go.Lib.itoa s ++ 32 :: (Go.Lib.itoa w ++ (l.map pol).flatten)
theorem sl_step (l : List S118) (s w : Int) (n : Nat) (h : n < l.length) : sl (l.take (n + 1)) s w = sl (l.take n) s w ++ pol (rd_T118 l n) := by
  unfold sl rd_T118
  rw [take_snoc_ l z118 n h]
  simp only [Int.toNat_natCast, List.map_append, List.flatten_append, List.map_cons, List.map_nil, List.flatten_cons, List.flatten_nil, List.append_nil, List.append_assoc, List.cons_append]
theorem sideB_out {l : List S118} {s w : Int} (h : sideB l s w = true) : l.length ≤ 3 ∧ (0 ≤ s ∧ s ≤ 2) ∧ (0 ≤ w ∧ w ≤ 1000) ∧ ∀ n : Nat, n < l.length → (0 ≤ (rd_T118 l n).f0 ∧ (rd_T118 l n).f0 ≤ 1) ∧ (1 ≤ (rd_T118 l n).f1 ∧ (rd_T118 l n).f1 ≤ 1000) ∧ 1 ≤ (rd_T118 l n).f2 ∧ (rd_T118 l n).f2 ≤ 1000 := by
  unfold sideB at h
  simp only [Bool.and_eq_true, inB_iff, decide_eq_true_eq, List.all_eq_true] at h
  obtain ⟨h1, h2, h3, h4⟩ := h
  refine ⟨h1, h2, h3, fun n hn => ?_⟩
  have := h4 (rd_T118 l n) (by simp [rd_T118, List.getD, hn])
  simpa only [polB, Bool.and_eq_true, inB_iff] using this
def glb (g : S90) : ByteArray := ⟨(gl g).toArray⟩
def slb (l : List S118) (s w : Int) : ByteArray := ⟨(sl l s w).toArray⟩
theorem itoa_le (n : Int) (h0 : -9223372036854775808 ≤ n) (h1 : n ≤ 9223372036854775807) : (Go.Lib.itoa n).length ≤ 21 := Go.Lib.itoa_length_le n h0 h1
theorem glb_size (g : S90) (h : goalB g = true) : (glb g).size ≤ 80 := by
  obtain ⟨⟨hn1, hn2⟩, ⟨hv1, hv2⟩, hf1, hf2⟩ := goalB_out h
  have hm := mt_size g.f1 (by omega) hv2
  have hb := itoa_le g.f2 (by omega) (by omega)
  have h1 : g.f0.data.toList.length ≤ 12 := by rw [data_length]; exact hn2
  have h2 : (mt g.f1).data.toList.length ≤ 25 := by rw [data_length]; exact hm
  show (gl g).toArray.size ≤ 80
  rw [List.size_toArray, gl, List.length_append, List.length_cons, List.length_append, List.length_cons]
  omega
theorem pol_le (p : S118) (h0 : 0 ≤ p.f0 ∧ p.f0 ≤ 1) (h1 : 1 ≤ p.f1 ∧ p.f1 ≤ 1000) (h2 : 1 ≤ p.f2 ∧ p.f2 ≤ 1000) : (pol p).length ≤ 66 := by
  have a := itoa_le p.f0 (by omega) (by omega)
  have b := itoa_le p.f1 (by omega) (by omega)
  have c := itoa_le p.f2 (by omega) (by omega)
  rw [pol, List.length_cons, List.length_append, List.length_cons, List.length_append, List.length_cons]
  omega
theorem slb_size (l : List S118) (s w : Int) (h : sideB l s w = true) : (slb l s w).size ≤ 250 := by
  obtain ⟨hl, ⟨hs1, hs2⟩, ⟨hd1, hd2⟩, hp⟩ := sideB_out h
  have ha := itoa_le s (by omega) (by omega)
  have hb := itoa_le w (by omega) (by omega)
  have hk : ∀ n, n ≤ l.length → (sl (l.take n) s w).length ≤ 43 + 66 * n := by
    intro n
    induction n with
    | zero =>
      intro _
      rw [sl, List.length_append, List.length_cons]
      simp
      omega
    | succ n ih =>
      intro hn
      obtain ⟨p0, p1, p2⟩ := hp n (by omega)
      have := pol_le _ p0 p1 p2
      have := ih (by omega)
      rw [sl_step l s w n (by omega), List.length_append]
      omega
  have := hk l.length (Nat.le_refl _)
  rw [List.take_length] at this
  show (sl l s w).toArray.size ≤ 250
  rw [List.size_toArray]
  omega
structure SU where
  d : Int
  f : Int
  n : Int
  g : List S90
  ul : List S118
  us : Int
  uw : Int
  dl : List S118
  ds : Int
  dw : Int
  mn : Int
  mx : Int
def dup (g : List S90) (i : Nat) : Bool := (g.take i).any fun x => x.f0.toList == (rd_T90 g i).f0.toList
def okAt (g : List S90) (i : Nat) : Bool := goalB (rd_T90 g i) && !dup g i
def gok (g : List S90) : Bool := (List.range g.length).all (okAt g)
def setB (s : SU) : Bool := rulesB s.d s.f s.n && (behB s.ul s.us s.uw s.dl s.ds s.dw s.mn s.mx && (inB s.g.length 1 3 && gok s.g))
abbrev SU.agg (s : SU) (G U D : Option Addr) (cg cu cd : Nat) : Value := .agg #[.int .i64 s.d, .int .i64 s.f, .int .i64 s.n, .slice G s.g.length cg, .slice U s.ul.length cu, .int .i64 s.us, .int .i64 s.uw, .slice D s.dl.length cd, .int .i64 s.ds, .int .i64 s.dw, .int .i64 s.mn, .int .i64 s.mx]
structure SU.Rd (s : SU) (w : World) (G U D : Option Addr) (cg cu cd : Nat) : Prop where
  g : Kd.C k90 w G s.g.length s.g
  cg : s.g.length ≤ cg
  u : Kd.C k118 w U s.ul.length s.ul
  cu : s.ul.length ≤ cu
  d : Kd.C k118 w D s.dl.length s.dl
  cd : s.dl.length ≤ cd
theorem SU.Rd.below {s : SU} {w w' : World} {G U D : Option Addr} {cg cu cd : Nat} (h : s.Rd w G U D cg cu cd) (b : Below w.heap.size w w') : s.Rd w' G U D cg cu cd :=
  ⟨Kd.C_below h.g b, h.cg, Kd.C_below h.u b, h.cu, Kd.C_below h.d b, h.cd⟩
structure SU.Small (s : SU) : Prop where
  g : s.g.length ≤ 1048576
  u : s.ul.length ≤ 1048576
  d : s.dl.length ≤ 1048576
  m : ∀ i : Nat, i < s.g.length → (rd_T90 s.g i).f0.size ≤ 1048576
theorem gok_no (g : List S90) (i : Nat) (h : i < g.length) (hi : okAt g i = false) : gok g = false := by
  rw [gok, List.all_eq_false]
  exact ⟨i, List.mem_range.2 h, by rw [hi]; simp⟩
theorem gok_yes (g : List S90) (h : ∀ i, i < g.length → okAt g i = true) : gok g = true := by
  rw [gok, List.all_eq_true]
  exact fun i hi => h i (List.mem_range.1 hi)
theorem dup_yes (g : List S90) (i j : Nat) (hi : i ≤ g.length) (h : j < i) (e : ((rd_T90 g j).f0.toList == (rd_T90 g i).f0.toList) = true) : dup g i = true := by
  rw [dup, List.any_eq_true]
  refine ⟨rd_T90 g j, ?_, e⟩
  rw [List.mem_iff_getElem?]
  exact ⟨j, by simp [List.getElem?_take, h, rd_T90, List.getD, List.getElem?_eq_getElem (show j < g.length by omega)]⟩
theorem dup_no (g : List S90) (i : Nat) (hi : i ≤ g.length) (h : ∀ j, j < i → ((rd_T90 g j).f0.toList == (rd_T90 g i).f0.toList) = false) : dup g i = false := by
  rw [dup, List.any_eq_false]
  intro x hx
  obtain ⟨j, hj⟩ := List.mem_iff_getElem?.1 hx
  rw [List.getElem?_take] at hj
  by_cases hji : j < i
  · rw [if_pos hji] at hj
    have := h j hji
    rw [show rd_T90 g (j : Nat) = x by simp [rd_T90, List.getD, hj]] at this
    rw [this]
    simp
  · rw [if_neg hji] at hj
    cases hj
def rl (s : SU) : List UInt8 := [114, 117, 108, 101, 115, 32] ++ (Go.Lib.itoa s.d ++ 32 :: (Go.Lib.itoa s.f ++ 32 :: (Go.Lib.itoa s.n ++ [10])))
def gll (g : S90) : List UInt8 := [103, 111, 97, 108, 32] ++ (gl g ++ [10])
def cl (s : SU) : List UInt8 := [99, 111, 117, 110, 116, 32] ++ (Go.Lib.itoa s.mn ++ 32 :: (Go.Lib.itoa s.mx ++ [10]))
def stl (s : SU) : List UInt8 := rl s ++ ((s.g.map gll).flatten ++ (cl s ++ ([117, 112, 32] ++ (sl s.ul s.us s.uw ++ ([10, 100, 111, 119, 110, 32] ++ (sl s.dl s.ds s.dw ++ [10]))))))
def stb (s : SU) : ByteArray := ⟨(stl s).toArray⟩
theorem gll_step (g : List S90) (n : Nat) (h : n < g.length) : ((g.take (n + 1)).map gll).flatten = ((g.take n).map gll).flatten ++ ([103, 111, 97, 108, 32] ++ (gl (rd_T90 g n) ++ [10])) := by
  rw [take_snoc_ g z90 n h]
  simp only [List.map_append, List.flatten_append, List.map_cons, List.map_nil, List.flatten_cons, List.flatten_nil, List.append_nil]
  rfl
structure SU.Good (s : SU) : Prop where
  d : 0 ≤ s.d ∧ s.d ≤ 1000
  f : 0 ≤ s.f ∧ s.f ≤ 1000
  n : 0 ≤ s.n ∧ s.n ≤ 1000
  u : sideB s.ul s.us s.uw = true
  e : sideB s.dl s.ds s.dw = true
  x : 0 ≤ s.mx ∧ s.mx ≤ 1000
  m : 0 ≤ s.mn ∧ s.mn ≤ s.mx
  l : 1 ≤ s.g.length ∧ s.g.length ≤ 3
  g : ∀ i : Nat, i < s.g.length → goalB (rd_T90 s.g i) = true
theorem setB_out {s : SU} (h : setB s = true) : s.Good := by
  unfold setB rulesB behB gok okAt at h
  simp only [Bool.and_eq_true, inB_iff, List.all_eq_true, List.mem_range] at h
  obtain ⟨⟨h1, h2, h3⟩, ⟨h4, h5, h6, h7⟩, h8, h9⟩ := h
  exact ⟨h1, h2, h3, h4, h5, h6, h7, by omega, fun i hi => (h9 i hi).1⟩
end Go.Proofs.YtcjeblikejoogaaGreatDoor.PFnExactOpLine
