/-
  Plain laws: a number reads back, the swap of two bytes is undone, what the line of an operation is.
  Conditions: the hypotheses of each theorem; none beside.
-/
import Derived.Test.YtcjeblikejoogaaGreatDoorHW2
import Derived.Lib.IndexBytes
import Derived.Lib.Replace
import Derived.Lib.SplitLaws
import Derived.Lib.ConvBytes
namespace Go.Proofs.YtcjeblikejoogaaGreatDoor.PFnExactOpLine
open Go.RowKit Go.Proofs.YtcjeblikejoogaaGreatDoorW.PrintWords Go.Proofs.YtcjeblikejoogaaGreatDoorW.PrintLast Go.Proofs.YtcjeblikejoogaaGreatDoorW.PrintMore
set_option linter.unusedVariables false
set_option linter.unusedSimpArgs false
attribute [local go_sem high] eqA39 eqA90 eqA118
def dlen (n : Int) : Nat := Go.Lib.nDigits n.natAbs
theorem parse_app (l : List UInt8) (c : UInt8) : ∀ acc v, Go.Lib.parseUint10 acc l = .ok v → Go.Lib.parseUint10 acc (l ++ [c]) = Go.Lib.parseUint10 v [c] := by
  induction l with
  | nil =>
    intro acc v h
    simp only [Go.Lib.parseUint10] at h
    injection h with h
    rw [h]
    rfl
  | cons x l ih =>
    intro acc v h
    rw [List.cons_append, Go.Lib.parseUint10]
    rw [Go.Lib.parseUint10] at h
    by_cases h1 : 48 ≤ x.toNat ∧ x.toNat ≤ 57
    · rw [if_pos h1] at h ⊢
      by_cases h2 : 1844674407370955162 ≤ acc
      · rw [if_pos h2] at h; cases h
      · rw [if_neg h2] at h ⊢
        by_cases h3 : 18446744073709551616 ≤ acc * 10 + (x.toNat - 48)
        · rw [if_pos h3] at h; cases h
        · rw [if_neg h3] at h ⊢
          exact ih _ _ h
    · rw [if_neg h1] at h; cases h
theorem dig_nat (m : Nat) (h : m < 10) : (UInt8.ofNat (48 + m)).toNat = 48 + m := by
  simp
  omega
theorem parse_dec (u : Nat) : u < 18446744073709551616 → Go.Lib.parseUint10 0 (Go.Lib.decDigits u) = .ok u := by
  induction u using Nat.strongRecOn with
  | _ u ih =>
    intro hu
    by_cases h10 : u < 10
    · rw [Go.Lib.decDigits_one h10, Go.Lib.parseUint10, dig_nat u h10, if_pos (by omega), if_neg (by omega), if_neg (by omega), Go.Lib.parseUint10]
      congr 1
      omega
    · rw [Go.Lib.decDigits, dif_neg h10, parse_app _ _ 0 (u / 10) (ih (u / 10) (by omega) (by omega)), Go.Lib.parseUint10, dig_nat _ (by omega), if_pos (by omega), if_neg (by omega), if_neg (by omega), Go.Lib.parseUint10]
      congr 1
      omega
theorem dec_all (u : Nat) : ∀ c ∈ Go.Lib.decDigits u, 48 ≤ c.toNat ∧ c.toNat ≤ 57 := by
  induction u using Nat.strongRecOn with
  | _ u ih =>
    intro c hc
    by_cases h10 : u < 10
    · rw [Go.Lib.decDigits_one h10, List.mem_singleton] at hc
      rw [hc, dig_nat u h10]
      omega
    · rw [Go.Lib.decDigits, dif_neg h10, List.mem_append, List.mem_singleton] at hc
      rcases hc with hc | hc
      · exact ih (u / 10) (by omega) c hc
      · rw [hc, dig_nat _ (by omega)]
        omega
theorem dec_ne (u : Nat) : Go.Lib.decDigits u ≠ [] := by
  intro h
  have := Go.Lib.decDigits_length u
  have := Go.Lib.nDigits_pos u
  rw [h] at *
  simp at *
  omega
theorem atoi_itoa (n : Int) (h0 : -9223372036854775808 ≤ n) (h1 : n ≤ 9223372036854775807) : Go.Lib.atoiAll (Go.Lib.itoa n) = .ok n := by
  by_cases hneg : n < 0
  · obtain ⟨u, rfl⟩ : ∃ u : Nat, n = -(u : Int) := ⟨n.natAbs, by omega⟩
    rw [Go.Lib.itoa_neg u (by omega), Go.Lib.atoiAll]
    have e : (45 : UInt8).toNat = 45 := rfl
    simp only [e, or_true, if_true, Go.Lib.parseMag, if_neg (dec_ne u), parse_dec u (by omega)]
    rw [if_neg (by simp), if_neg (by omega)]
  · obtain ⟨u, rfl⟩ : ∃ u : Nat, n = u := ⟨n.toNat, by omega⟩
    rw [Go.Lib.itoa_nonneg]
    have hp := parse_dec u (by omega)
    have hd := dec_all u
    have hne := dec_ne u
    generalize Go.Lib.decDigits u = l at hp hd hne
    cases l with
    | nil => exact absurd rfl hne
    | cons c r =>
      have := hd c (List.mem_cons_self ..)
      rw [Go.Lib.atoiAll]
      have e1 : ¬ c.toNat = 43 := by omega
      have e2 : ¬ c.toNat = 45 := by omega
      simp only [e1, e2, or_self, if_false, Go.Lib.parseMag, if_neg hne, hp]
      rw [if_neg (by omega), if_neg (by simp)]
theorem trim_itoa (n : Int) (h0 : -9223372036854775808 ≤ n) (h1 : n ≤ 9223372036854775807) : Go.Lib.trimPrefix (Go.Lib.itoa n) [45] = Go.Lib.decDigits n.natAbs := by
  by_cases hneg : n < 0
  · obtain ⟨u, rfl⟩ : ∃ u : Nat, n = -(u : Int) := ⟨n.natAbs, by omega⟩
    rw [Go.Lib.itoa_neg u (by omega), show (-(u : Int)).natAbs = u by omega]
    simp [Go.Lib.trimPrefix, Go.Lib.hasPrefix]
  · obtain ⟨u, rfl⟩ : ∃ u : Nat, n = u := ⟨n.toNat, by omega⟩
    rw [Go.Lib.itoa_nonneg, show ((u : Int)).natAbs = u by omega]
    have hd := dec_all u
    have hne := dec_ne u
    generalize Go.Lib.decDigits u = l at hd hne
    cases l with
    | nil => exact absurd rfl hne
    | cons c r =>
      have := hd c (List.mem_cons_self ..)
      have e : ¬ c = 45 := by
        intro e
        rw [e] at this
        simp at this
      simp [Go.Lib.trimPrefix, Go.Lib.hasPrefix, e]
      exact fun h => e h.symm
theorem dlen_eq (n : Int) : (Go.Lib.decDigits n.natAbs).length = dlen n := Go.Lib.decDigits_length _
theorem readNumber_f (n : Int) (h0 : -9223372036854775808 ≤ n) (h1 : n ≤ 9223372036854775807) : impl_readNumber.f (nb n) = some (n, decide (dlen n ≤ 10)) := by
  unfold impl_readNumber.f
  have ht : strings_TrimPrefix.f (nb n) ⟨#[45]⟩ = some ⟨(Go.Lib.decDigits n.natAbs).toArray⟩ := by
    unfold strings_TrimPrefix.f nb
    rw [← trim_itoa n h0 h1]
  have ha : impl_atoi.f (nb n) = some n := by
    unfold impl_atoi.f
    rw [if_pos (by have := nb_size_le n h0 h1; omega), show (nb n).data.toList = Go.Lib.itoa n from rfl, atoi_itoa n h0 h1]
  rw [ht, ha, Option.bind_some, Option.bind_some]
  have hsz : (⟨(Go.Lib.decDigits n.natAbs).toArray⟩ : ByteArray).size = dlen n := by
    rw [← dlen_eq]
    exact List.size_toArray
  rw [hsz]
  by_cases h : dlen n ≤ 10
  · rw [if_pos (by omega), num_f n h0 h1, Option.bind_some, decide_eq_true h]
    simp
  · rw [if_neg (by omega), decide_eq_false h]
def valD (l : List UInt8) : Nat := l.foldl (fun a c => 10 * a + (c.toNat - 48)) 0
theorem valD_snoc (l : List UInt8) (c : UInt8) : valD (l ++ [c]) = 10 * valD l + (c.toNat - 48) := by
  unfold valD
  rw [List.foldl_append]
  rfl
theorem valD_dec (u : Nat) : valD (Go.Lib.decDigits u) = u := by
  induction u using Nat.strongRecOn with
  | _ u ih =>
    by_cases h10 : u < 10
    · rw [Go.Lib.decDigits_one h10]
      show 10 * 0 + ((UInt8.ofNat (48 + u)).toNat - 48) = u
      rw [dig_nat u h10]
      omega
    · rw [Go.Lib.decDigits, dif_neg h10, valD_snoc, ih (u / 10) (by omega), dig_nat _ (by omega)]
      omega
theorem valD_lt (l : List UInt8) (hd : ∀ c ∈ l, 48 ≤ c.toNat ∧ c.toNat ≤ 57) : ∀ i, i ≤ l.length → valD (l.take i) < 10 ^ i := by
  intro i
  induction i with
  | zero => intro _; simp [valD]
  | succ i ih =>
    intro hi
    have h1 := ih (by omega)
    rw [take_snoc_ l 0 i (by omega), valD_snoc, Nat.pow_succ]
    have := hd (l.getD i 0) (by simp [List.getD, List.getElem?_eq_getElem (show i < l.length by omega)])
    omega
theorem read_l (x0 x4 : ByteArray) (hd : ∀ c ∈ x4.data.toList, 48 ≤ c.toNat ∧ c.toNat ≤ 57) (hl : x4.size ≤ 10) : ∀ (d i k : Nat), i + d = x4.size → d < k →
    spec_l01Read.l0 k x0 x4 (valD (x4.data.toList.take i) : Nat) i = spec_l01Read.l0 (k - d) x0 x4 (valD x4.data.toList : Nat) x4.size
  | 0, i, k, h, hk => by
    rw [List.take_of_length_le (by rw [data_length]; omega), show i = x4.size by omega]
    rfl
  | d + 1, i, k, h, hk => by
    obtain ⟨k, rfl⟩ : ∃ m, k = m + 1 := ⟨k - 1, by omega⟩
    have hi : i < x4.data.toList.length := by rw [data_length]; omega
    have hc := hd (x4.data.toList.getD i 0) (by simp [List.getD, List.getElem?_eq_getElem hi])
    have hv := valD_lt x4.data.toList hd i (by omega)
    have hp : 10 ^ i ≤ 10 ^ 10 := Nat.pow_le_pow_right (by decide) (by omega)
    have hs := valD_snoc (x4.data.toList.take i) (x4.data.toList.getD i 0)
    rw [← take_snoc_ x4.data.toList 0 i hi] at hs
    rw [spec_l01Read.l0, if_pos (by omega), if_pos (by omega), bt_nat x4 i (by omega), if_neg (by omega), if_neg (by omega), w64n (by omega)]
    have e : wrap64 (wrap64 (wrap64 (10 * ((valD (x4.data.toList.take i) : Nat) : Int)) + wrap64 (((x4.data.toList.getD i 0).toNat : Nat) : Int)) - 48) = ((valD (x4.data.toList.take (i + 1)) : Nat) : Int) := by
      rw [w64 (x := 10 * _) (by omega) (by omega), w64 (x := (((x4.data.toList.getD i 0).toNat : Nat) : Int)) (by omega) (by omega), w64 (x := 10 * _ + _) (by omega) (by omega), w64 (by omega) (by omega)]
      omega
    rw [e, read_l x0 x4 hd hl d (i + 1) k (by omega) (by omega)]
    congr 1
    omega
theorem l01Read_f (n : Int) (h0 : -9223372036854775808 ≤ n) (h1 : n ≤ 9223372036854775807) (k : Nat) (hk : 100 ≤ k) (hk2 : k ≤ 900) : spec_l01Read.f k (nb n) = some (if dlen n ≤ 10 then (n, true) else (0, false)) := by
  obtain ⟨k, rfl⟩ : ∃ m, k = m + 2 := ⟨k - 2, by omega⟩
  have hlen : (nb n).data.toList = Go.Lib.itoa n := rfl
  have key : ∀ x4 : ByteArray, x4.data.toList = Go.Lib.decDigits n.natAbs → (x4.size < (nb n).size ↔ n < 0) → spec_l01Read.j1 (k + 1) (nb n) x4 = some (if dlen n ≤ 10 then (n, true) else (0, false)) := by
    intro x4 hx hs
    have hsz : x4.size = dlen n := by rw [← dlen_eq, ← hx, data_length]
    have hpos := Go.Lib.nDigits_pos n.natAbs
    rw [spec_l01Read.j1, spec_in, Option.bind_some, hsz]
    by_cases h : dlen n ≤ 10
    · have hin : inB (dlen n : Nat) 1 10 = true := inB_iff.2 ⟨by unfold dlen; omega, by omega⟩
      rw [hin, if_pos rfl, if_pos h]
      have hl := read_l (nb n) x4 (by rw [hx]; exact dec_all _) (by omega) x4.size 0 k (by omega) (by omega)
      rw [List.take_zero, show ((valD [] : Nat) : Int) = 0 from rfl, show ((0 : Nat) : Int) = 0 from rfl] at hl
      rw [hl, hx, valD_dec]
      obtain ⟨m, hm⟩ : ∃ m, k - x4.size = m + 1 := ⟨k - x4.size - 1, by omega⟩
      rw [hm, spec_l01Read.l0, if_neg (by omega)]
      by_cases hneg : n < 0
      · have := hs.2 hneg
        rw [if_pos (by omega), w64 (by omega) (by omega), show -((n.natAbs : Nat) : Int) = n by omega, l01Num_f n h0 h1 m (by omega) (by omega), Option.bind_some]
        simp
      · have : ¬ x4.size < (nb n).size := fun h => hneg (hs.1 h)
        rw [if_neg (by omega), show ((n.natAbs : Nat) : Int) = n by omega, l01Num_f n h0 h1 m (by omega) (by omega), Option.bind_some]
        simp
    · have hin : inB (dlen n : Nat) 1 10 = false := inB_no.2 (by omega)
      rw [hin, if_neg (by simp), if_neg h]
  unfold spec_l01Read.f
  by_cases hneg : n < 0
  · obtain ⟨u, hu⟩ : ∃ u : Nat, n = -(u : Int) := ⟨n.natAbs, by omega⟩
    have hi : Go.Lib.itoa n = 45 :: Go.Lib.decDigits n.natAbs := by
      rw [hu, Go.Lib.itoa_neg u (by omega), show (-(u : Int)).natAbs = u by omega]
    have hnl : (nb n).size = (Go.Lib.decDigits n.natAbs).length + 1 := by
      rw [← data_length, hlen, hi, List.length_cons]
    have hb : bt (nb n) 0 = 45 := by
      rw [show (0 : Int) = ((0 : Nat) : Int) from rfl, bt_nat (nb n) 0 (by omega), hlen, hi]
      rfl
    rw [if_pos (by omega), if_pos (by omega), hb, spec_l01Read.j0, if_pos (by rfl), if_pos (by omega)]
    have hx : ((nb n).extract 1 (nb n).size).data.toList = Go.Lib.decDigits n.natAbs := by
      rw [Go.Lib.extract_to_end, hlen, hi]
      rfl
    exact key _ hx ⟨fun _ => hneg, fun _ => by rw [← data_length, hx, hnl]; omega⟩
  · obtain ⟨u, hu⟩ : ∃ u : Nat, n = u := ⟨n.toNat, by omega⟩
    have hi : Go.Lib.itoa n = Go.Lib.decDigits n.natAbs := by
      rw [hu, Go.Lib.itoa_nonneg, show ((u : Int)).natAbs = u by omega]
    have hnl : (nb n).size = (Go.Lib.decDigits n.natAbs).length := by
      rw [← data_length, hlen, hi]
    have hpos := List.length_pos_iff.2 (dec_ne n.natAbs)
    have hb : (bt (nb n) 0 == 45) = false := by
      rw [show (0 : Int) = ((0 : Nat) : Int) from rfl, bt_nat (nb n) 0 (by omega), hlen, hi]
      have := dec_all n.natAbs ((Go.Lib.decDigits n.natAbs).getD 0 0) (by simp [List.getD, List.getElem?_eq_getElem hpos])
      rw [beq_eq_false_iff_ne]
      omega
    rw [if_pos (by omega), if_pos (by omega), hb, spec_l01Read.j0, if_neg (by simp)]
    exact key _ (by rw [hlen, hi]) ⟨fun h => absurd h (Nat.lt_irrefl _), fun h => absurd h hneg⟩
def swb (a b : UInt8) (l : List UInt8) : List UInt8 := l.map fun c => if c = a then b else c
theorem index_cons (a x : UInt8) (t : List UInt8) : Go.Lib.index (x :: t) [a] = if x = a then 0 else if Go.Lib.index t [a] = -1 then -1 else Go.Lib.index t [a] + 1 := by
  rw [Go.Lib.index_one, Go.Lib.indexByte, Go.Lib.index_one]
  by_cases h : x = a
  · rw [if_pos h, if_pos (by simp [h])]
  · rw [if_neg h, if_neg (by simp [h])]
    by_cases h2 : Go.Lib.indexByte t a = -1
    · rw [if_pos h2, if_pos (by simp [h2])]
    · rw [if_neg h2, if_neg (by simp [h2])]
theorem replace_one (a b : UInt8) : ∀ (s : List UInt8) (k : Nat), s.count a ≤ k → Go.Lib.replaceK [a] [b] k s = swb a b s
  | [], 0, _ => rfl
  | [], k + 1, _ => by
    rw [Go.Lib.replaceK, if_pos (by rfl)]
    rfl
  | x :: t, 0, h => by
    have hx : x ≠ a := by
      intro e
      rw [e] at h
      simp at h
    have ht : t.count a ≤ 0 := by
      rw [List.count_cons_of_ne (by simpa using hx)] at h
      exact h
    have ih := replace_one a b t 0 ht
    rw [Go.Lib.replaceK] at ih ⊢
    rw [swb, List.map_cons, if_neg hx, ← swb, ← ih]
  | x :: t, k + 1, h => by
    by_cases hx : x = a
    · have hi : Go.Lib.index (x :: t) [a] = ((0 : Nat) : Int) := by rw [index_cons, if_pos hx]; rfl
      rw [Go.Lib.replaceK_hit [a] [b] k _ 0 hi, swb, List.map_cons, if_pos hx, ← swb, ← replace_one a b t k (by rw [hx, List.count_cons_self] at h; omega)]
      rfl
    · have hc : t.count a ≤ k + 1 := by
        rw [List.count_cons_of_ne (by simpa using hx)] at h
        exact h
      have ih := replace_one a b t (k + 1) hc
      rw [swb, List.map_cons, if_neg hx, ← swb, ← ih]
      by_cases h2 : Go.Lib.index t [a] = -1
      · rw [Go.Lib.replaceK, if_pos (by rw [index_cons, if_neg hx, if_pos h2]; rfl), Go.Lib.replaceK, if_pos (by rw [h2]; rfl)]
      · have hge := Go.Lib.index_ge t [a]
        obtain ⟨i, hi⟩ : ∃ i : Nat, Go.Lib.index t [a] = i := ⟨(Go.Lib.index t [a]).toNat, by omega⟩
        have hi2 : Go.Lib.index (x :: t) [a] = ((i + 1 : Nat) : Int) := by rw [index_cons, if_neg hx, if_neg h2, hi]; rfl
        rw [Go.Lib.replaceK_hit [a] [b] k _ (i + 1) hi2, Go.Lib.replaceK_hit [a] [b] k _ i hi]
        simp
theorem replaceAll_one (a b : UInt8) (h : a ≠ b) (s : List UInt8) : Go.Lib.replaceAll s [a] [b] = swb a b s := by
  unfold Go.Lib.replaceAll Go.Lib.replace
  rw [if_neg (by simp [h]), Go.Lib.replaceNum, if_pos (Or.inl (by omega)), Go.Lib.count_one]
  exact replace_one a b s _ (Nat.le_refl _)
theorem swb_len (a b : UInt8) (l : List UInt8) : (swb a b l).length = l.length := by simp [swb]
theorem replaceAll_f (t : ByteArray) (h : t.size ≤ 4000000) : strings_ReplaceAll.f t ⟨#[10]⟩ ⟨#[59]⟩ = some ⟨(swb 10 59 t.data.toList).toArray⟩ := by
  unfold strings_ReplaceAll.f
  have hc := Go.Lib.countB_le ⟨#[10]⟩ (by decide) t.size t (Nat.le_refl _)
  rw [if_pos ⟨by omega, by decide, by rw [show (⟨#[59]⟩ : ByteArray).size = 1 from rfl]; omega⟩, show (⟨#[10]⟩ : ByteArray).data.toList = [10] from rfl, show (⟨#[59]⟩ : ByteArray).data.toList = [59] from rfl, replaceAll_one 10 59 (by decide)]
theorem swap_f (t : ByteArray) (h : t.size ≤ 4000000) (a b : UInt8) : spec_l10Swap.f t a.toNat b.toNat = some ⟨(swb a b t.data.toList).toArray⟩ := by
  unfold spec_l10Swap.f
  rw [if_pos (by omega)]
  congr 1
  apply ba_ext
  rw [strOfNums_data, bytesOf, swb, List.map_map, List.map_map]
  show List.map _ t.data.toList = List.map _ t.data.toList
  apply List.map_congr_left
  intro c _
  show UInt8.ofNat (if (c.toNat : Int) = (a.toNat : Int) then (b.toNat : Int) else (c.toNat : Int)).toNat = if c = a then b else c
  by_cases hca : c = a
  · rw [if_pos (by rw [hca]), if_pos hca, Int.toNat_natCast, UInt8.ofNat_toNat]
  · rw [if_neg (fun e => hca (UInt8.toNat_inj.1 (by omega))), if_neg hca, Int.toNat_natCast, UInt8.ofNat_toNat]
theorem contains_f (t : ByteArray) : strings_Contains.f t ⟨#[59]⟩ = some (t.data.toList.contains 59) := by
  unfold strings_Contains.f
  rw [if_pos rfl]
  congr 1
  generalize t.data.toList = l
  induction l with
  | nil => rfl
  | cons x l ih =>
    rw [Go.Lib.indexByte, List.contains_cons, ← ih]
    have hge := Go.Lib.indexByte_ge l 59
    by_cases hx : x = 59
    · rw [if_pos (by simp [hx]), show ((59 : UInt8) == x) = true by simp [hx]]
      simp
    · rw [if_neg (by simp [hx]), show ((59 : UInt8) == x) = false by simp; exact fun e => hx e.symm]
      by_cases h2 : Go.Lib.indexByte l 59 = -1
      · rw [if_pos (by simp [h2]), h2]
        simp
      · rw [if_neg (by simp [h2])]
        simp
        omega
theorem swb_back (a b : UInt8) (l : List UInt8) (h : b ∉ l) (hab : a ≠ b) : swb b a (swb a b l) = l := by
  unfold swb
  rw [List.map_map]
  conv => rhs; rw [← List.map_id l]
  apply List.map_congr_left
  intro c hc
  show (if (if c = a then b else c) = b then a else (if c = a then b else c)) = c
  by_cases h1 : c = a
  · rw [if_pos h1, if_pos rfl, h1]
  · rw [if_neg h1, if_neg (show ¬ c = b from fun e => h (by rw [← e]; exact hc))]
structure OP where
  k : Int
  a : Int
  t : ByteArray
  p : List S95
  s : SU
def verbL (k : Int) : List UInt8 := if k = 0 then [116, 105, 99, 107] else if k = 4 then [104, 97, 110, 100, 115] else [102, 97, 117, 108, 116, 115]
def lineOf (o : OP) : Option (List UInt8) :=
  if o.k = 0 ∨ o.k = 4 ∨ o.k = 5 then (if dlen o.a ≤ 10 then some (verbL o.k ++ 32 :: Go.Lib.itoa o.a) else none)
  else if o.k = 1 then (if o.t.data.toList.contains 59 then none else some ([115, 99, 114, 97, 112, 101, 32] ++ swb 10 59 o.t.data.toList))
  else if o.k = 3 then (if setB o.s = true then some ([115, 101, 116, 117, 112, 32] ++ swb 10 59 (stl o.s)) else none)
  else if o.k = 6 then some [114, 101, 115, 116, 97, 114, 116]
  else if o.k = 7 then some [108, 111, 111, 107]
  else none
def restB (o : OP) : Bool := (decide (o.k = 0 ∨ o.k = 4 ∨ o.k = 5) || o.a == 0) && ((decide (o.k = 1) || decide (o.t.size = 0)) && (decide (o.p.length = 0) && (decide (o.k = 3) || emptyB o.s)))
def opLine (o : OP) : Option ByteArray := match lineOf o with
  | none => none
  | some l => if restB o = true then (if l.length ≤ 200 then some ⟨l.toArray⟩ else none) else none
def ansV : Option ByteArray → Value
  | some b => .tuple #[.string b, .bool true]
  | none => .tuple #[.string ⟨#[]⟩, .bool false]
abbrev OP.agg (o : OP) (P G U D : Option Addr) (cp cg cu cd : Nat) : Value := .agg #[.int .i64 o.k, .int .i64 o.a, .string o.t, .slice P o.p.length cp, .int .i64 o.s.d, .int .i64 o.s.f, .int .i64 o.s.n, .slice G o.s.g.length cg, .slice U o.s.ul.length cu, .int .i64 o.s.us, .int .i64 o.s.uw, .slice D o.s.dl.length cd, .int .i64 o.s.ds, .int .i64 o.s.dw, .int .i64 o.s.mn, .int .i64 o.s.mx]
structure OP.Small (o : OP) : Prop where
  k : -9223372036854775808 ≤ o.k ∧ o.k ≤ 9223372036854775807
  a : -9223372036854775808 ≤ o.a ∧ o.a ≤ 9223372036854775807
  t : o.t.size ≤ 1048576
  p : o.p.length ≤ 1048576
  s : o.s.Small
def zeroSU : SU := ⟨0, 0, 0, [], [], 0, 0, [], 0, 0, 0, 0⟩
end Go.Proofs.YtcjeblikejoogaaGreatDoor.PFnExactOpLine
