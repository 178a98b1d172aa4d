/-
  Plain laws: the parts and the lines of a good setup read back.
  Conditions: the hypotheses of each theorem; none beside.
-/
import Derived.Test.YtcjeblikejoogaaGreatDoorHPure
import Derived.Test.YtcjeblikejoogaaGreatDoorQPa
import Derived.Test.YtcjeblikejoogaaGreatDoorQPb
import Derived.Test.YtcjeblikejoogaaGreatDoorQPc
namespace Go.Proofs.YtcjeblikejoogaaGreatDoor.PFnExactOpLine
open Go.RowKit Go.Proofs.YtcjeblikejoogaaGreatDoorW.PrintWords Go.Proofs.YtcjeblikejoogaaGreatDoorW.PrintLast Go.Proofs.YtcjeblikejoogaaGreatDoorW.PrintMore
set_option linter.unusedVariables false
set_option linter.unusedSimpArgs false
attribute [local go_sem high] eqA39 eqA90 eqA118
abbrev mkB (l : List UInt8) : ByteArray := ⟨l.toArray⟩
def splB (c : UInt8) : List UInt8 → List (List UInt8)
  | [] => [[]]
  | x :: xs => if x = c then [] :: splB c xs else match splB c xs with
    | [] => [[x]]
    | h :: t => (x :: h) :: t
theorem splB_ne (c : UInt8) : ∀ l, ∃ h t, splB c l = h :: t
  | [] => ⟨[], [], rfl⟩
  | x :: xs => by
    obtain ⟨h, t, e⟩ := splB_ne c xs
    rw [splB, e]
    by_cases hx : x = c
    · rw [if_pos hx]; exact ⟨_, _, rfl⟩
    · rw [if_neg hx]; exact ⟨_, _, rfl⟩
theorem splB_no (c : UInt8) : ∀ a, c ∉ a → splB c a = [a]
  | [], _ => rfl
  | x :: xs, h => by
    rw [splB, if_neg (fun e => h (by rw [e]; exact List.mem_cons_self ..)), splB_no c xs (fun e => h (List.mem_cons_of_mem _ e))]
theorem splB_at (c : UInt8) (r : List UInt8) : ∀ a, c ∉ a → splB c (a ++ c :: r) = a :: splB c r
  | [], _ => by rw [List.nil_append, splB, if_pos rfl]
  | x :: xs, h => by
    rw [List.cons_append, splB, if_neg (fun e => h (by rw [e]; exact List.mem_cons_self ..)), splB_at c r xs (fun e => h (List.mem_cons_of_mem _ e))]
theorem parts_l (x : ByteArray) (c : UInt8) (hx : x.size ≤ 100000) : ∀ (d i k at_ : Nat) (acc : List ByteArray), i + d = x.size → at_ ≤ i → d + 1 < k → acc.length + d ≤ 200000 →
    spec_l01Parts.l0 k x c.toNat acc at_ i = some (acc ++ (match splB c (x.data.toList.drop i) with | [] => [] | h :: t => mkB ((x.data.toList.drop at_).take (i - at_) ++ h) :: t.map mkB))
  | 0, i, k, at_, acc, h, ha, hk, hl => by
    obtain ⟨k, rfl⟩ : ∃ m, k = m + 2 := ⟨k - 2, by omega⟩
    have e1 : x.extract at_ i = mkB ((x.data.toList.drop at_).take (i - at_) ++ []) := ba_ext (by rw [Go.Lib.extract_data, List.append_nil])
    rw [spec_l01Parts.l0, if_pos (by omega), if_pos (by omega), if_pos (by omega), if_pos (by omega), if_pos (by omega), Int.toNat_natCast, Int.toNat_natCast, spec_l01Parts.l0, w64n (by omega), if_neg (by omega), List.drop_eq_nil_of_le (by rw [data_length]; omega), e1]
    rfl
  | d + 1, i, k, at_, acc, h, ha, hk, hl => by
    obtain ⟨k, rfl⟩ : ∃ m, k = m + 1 := ⟨k - 1, by omega⟩
    have hi : i < x.data.toList.length := by rw [data_length]; omega
    rw [spec_l01Parts.l0, if_pos (by omega), if_neg (by omega), if_pos (by omega), if_pos (by omega), bt_nat x i (by omega), drop_rd x.data.toList 0 i hi, splB]
    by_cases hc : x.data.toList.getD i 0 = c
    · have e1 : x.extract at_ i = mkB ((x.data.toList.drop at_).take (i - at_) ++ []) := ba_ext (by rw [Go.Lib.extract_data, List.append_nil])
      rw [if_pos (by rw [hc]), if_pos (by omega), if_pos (by omega), if_pos (by omega), Int.toNat_natCast, Int.toNat_natCast, w64n (by omega), parts_l x c hx d (i + 1) k (i + 1) _ (by omega) (Nat.le_refl _) (by omega) (by rw [List.length_append]; simp; omega), e1, if_pos hc]
      obtain ⟨h1, t1, e⟩ := splB_ne c (x.data.toList.drop (i + 1))
      rw [e, Nat.sub_self]
      simp
    · rw [if_neg (fun e => hc (UInt8.toNat_inj.1 (by omega))), w64n (by omega), parts_l x c hx d (i + 1) k at_ acc (by omega) (by omega) (by omega) (by omega), if_neg hc]
      obtain ⟨h1, t1, e⟩ := splB_ne c (x.data.toList.drop (i + 1))
      have e2 : (x.data.toList.drop at_).take (i + 1 - at_) = (x.data.toList.drop at_).take (i - at_) ++ [x.data.toList.getD i 0] := by
        rw [show i + 1 - at_ = (i - at_) + 1 by omega, take_snoc_ _ 0 (i - at_) (by rw [List.length_drop]; omega)]
        congr 2
        simp [List.getD, show at_ + (i - at_) = i by omega]
      rw [e, e2]
      simp
theorem parts_f (x : ByteArray) (c : UInt8) (hx : x.size ≤ 100000) (k : Nat) (hk : x.size + 2 ≤ k) : spec_l01Parts.f k x c.toNat = some ((splB c x.data.toList).map mkB) := by
  unfold spec_l01Parts.f
  rw [show (0 : Int) = ((0 : Nat) : Int) from rfl, parts_l x c hx x.size 0 k 0 [] (by omega) (Nat.le_refl _) (by omega) (by simp; omega), List.drop_zero]
  obtain ⟨h1, t1, e⟩ := splB_ne c x.data.toList
  rw [e]
  simp
theorem splB_lines (ls : List (List UInt8)) (h : ∀ l ∈ ls, (10 : UInt8) ∉ l) : splB 10 (ls.map (· ++ [10])).flatten = ls ++ [[]] := by
  induction ls with
  | nil => rfl
  | cons a r ih =>
    rw [List.map_cons, List.flatten_cons, List.append_assoc]
    show splB 10 (a ++ 10 :: (List.map (· ++ [10]) r).flatten) = _
    rw [splB_at 10 _ a (h a (List.mem_cons_self ..)), ih (fun l hl => h l (List.mem_cons_of_mem _ hl))]
    rfl
theorem lines_f (x : ByteArray) (ls : List (List UInt8)) (hx : x.size ≤ 100000) (e : x.data.toList = (ls.map (· ++ [10])).flatten) (h : ∀ l ∈ ls, (10 : UInt8) ∉ l) (k : Nat) (hk : x.size + 2 ≤ k) (hn : ls.length ≤ 1000) : spec_l02Lines.f k x = some (ls.map mkB) := by
  unfold spec_l02Lines.f
  have hp := parts_f x 10 hx k hk
  rw [e, splB_lines ls h] at hp
  rw [show (10 : Int) = (((10 : UInt8).toNat : Nat) : Int) from rfl, hp, Option.bind_some]
  have hl : ((ls ++ [[]]).map mkB).length = ls.length + 1 := by simp
  rw [hl, show wrap64 (((ls.length + 1 : Nat) : Int) - 1) = ((ls.length : Nat) : Int) by unfold wrap64; omega, if_pos (by omega), if_pos (by omega), Int.toNat_natCast]
  have hr : rdOf ByteArray.empty ((ls ++ [[]]).map mkB) ((ls.length : Nat) : Int) = mkB [] := by
    simp [rdOf, List.getD]
  rw [hr, if_pos (by rw [Go.Lib.toList_data]), if_pos (by omega)]
  simp
theorem after_yes (w r : List UInt8) (hw : w.length ≤ 100) (hr : r.length ≤ 100000) : spec_l07After.f (mkB (w ++ 32 :: r)) (mkB w) = some (mkB r, true) := by
  unfold spec_l07After.f
  have h1 : (mkB (w ++ 32 :: r)).size = w.length + (r.length + 1) := by show (w ++ 32 :: r).toArray.size = _; simp
  have h2 : (mkB w).size = w.length := by show w.toArray.size = _; simp
  rw [h1, h2, w64n (by omega), if_neg (by omega), if_pos (by omega), if_pos (by omega), if_pos (by omega), Int.toNat_natCast]
  have e1 : ((mkB (w ++ 32 :: r)).extract 0 (w.length + 1)).toList = (mkB w ++ (⟨#[32]⟩ : ByteArray)).toList := by
    rw [Go.Lib.toList_data, Go.Lib.toList_data, Go.Lib.extract_data, ba_data_append]
    show (List.drop 0 (w ++ 32 :: r)).take (w.length + 1 - 0) = w ++ [32]
    rw [List.drop_zero, show w ++ 32 :: r = (w ++ [32]) ++ r by simp]
    exact List.take_left' (by simp)
  have e2 : (mkB (w ++ 32 :: r)).extract (w.length + 1) (w.length + (r.length + 1)) = mkB r := by
    apply ba_ext
    rw [Go.Lib.extract_data]
    show (List.drop (w.length + 1) (w ++ 32 :: r)).take _ = r
    rw [show w ++ 32 :: r = (w ++ [32]) ++ r by simp, List.drop_left' (by simp)]
    exact List.take_of_length_le (by omega)
  rw [if_pos e1, e2]
theorem after_no (l w : List UInt8) (hw : w.length ≤ 100) (hl : l.length ≤ 100000) (h : l.take (w.length + 1) ≠ w ++ [32]) : spec_l07After.f (mkB l) (mkB w) = some (⟨#[]⟩, false) := by
  unfold spec_l07After.f
  have h1 : (mkB l).size = l.length := by show l.toArray.size = _; simp
  have h2 : (mkB w).size = w.length := by show w.toArray.size = _; simp
  rw [h1, h2, w64n (by omega)]
  by_cases hlt : (l.length : Int) < ((w.length + 1 : Nat) : Int)
  · rw [if_pos hlt]
  · rw [if_neg hlt, if_pos (by omega), if_pos (by omega), if_pos (by omega), Int.toNat_natCast, if_neg]
    rw [Go.Lib.toList_data, Go.Lib.toList_data, Go.Lib.extract_data, ba_data_append]
    show ¬ (List.drop 0 l).take (w.length + 1 - 0) = w ++ [32]
    simpa using h
theorem dec_no (u : Nat) (c : UInt8) (h : c.toNat < 48 ∨ 57 < c.toNat) : c ∉ Go.Lib.decDigits u := fun hc => by have := dec_all u c hc; omega
theorem itoa_no (n : Int) (h0 : 0 ≤ n) (c : UInt8) (h : c.toNat < 48 ∨ 57 < c.toNat) : c ∉ Go.Lib.itoa n := by
  obtain ⟨u, rfl⟩ : ∃ u : Nat, n = u := ⟨n.toNat, by omega⟩
  rw [Go.Lib.itoa_nonneg]
  exact dec_no u c h
theorem dlen_small (n : Int) (h0 : 0 ≤ n) (h1 : n ≤ 1000) : dlen n ≤ 4 := by
  unfold dlen
  have h2 : n.natAbs ≤ 1000 := by omega
  rw [Go.Lib.nDigits]
  split
  · omega
  · rw [Go.Lib.nDigits]
    split
    · omega
    · rw [Go.Lib.nDigits]
      split
      · omega
      · rw [Go.Lib.nDigits_small (by omega)]
        omega
theorem itoa_small (n : Int) (h0 : 0 ≤ n) (h1 : n ≤ 1000) : (Go.Lib.itoa n).length ≤ 4 := by
  have := dlen_small n h0 h1
  obtain ⟨u, rfl⟩ : ∃ u : Nat, n = u := ⟨n.toNat, by omega⟩
  rw [Go.Lib.itoa_nonneg]
  rw [← dlen_eq] at this
  simpa using this
theorem read_small (n : Int) (h0 : 0 ≤ n) (h1 : n ≤ 1000) (k : Nat) (hk : 100 ≤ k) (hk2 : k ≤ 900) : spec_l01Read.f k (nb n) = some (n, true) := by
  rw [l01Read_f n (by omega) (by omega) k hk hk2, if_pos (by have := dlen_small n h0 h1; omega)]
def valF (a : Int) (l : List UInt8) : Int := l.foldl (fun a c => 10 * a + (c.toNat : Int) - 48) a
theorem valF_snoc (a : Int) (l : List UInt8) (c : UInt8) : valF a (l ++ [c]) = 10 * valF a l + (c.toNat : Int) - 48 := by
  unfold valF
  rw [List.foldl_append]
  rfl
theorem valF_dec (u : Nat) : valF 0 (Go.Lib.decDigits u) = u := by
  induction u using Nat.strongRecOn with
  | _ u ih =>
    by_cases h10 : u < 10
    · rw [Go.Lib.decDigits_one h10]
      show 10 * (0 : Int) + ((UInt8.ofNat (48 + u)).toNat : Int) - 48 = u
      rw [dig_nat u h10]
      omega
    · rw [Go.Lib.decDigits, dif_neg h10, valF_snoc, ih (u / 10) (by omega), dig_nat _ (by omega)]
      omega
theorem milli_scan (x : ByteArray) (hx : x.size ≤ 13) (x5 : Int) : ∀ (seg : List UInt8) (i : Nat) (rest : List UInt8) (x4 : Int) (k : Nat), x.data.toList.drop i = seg ++ rest → (∀ c ∈ seg, 48 ≤ c.toNat ∧ c.toNat ≤ 57) → 0 ≤ x4 → x4 < 10 ^ i →
    spec_ParseMilli.l0 (k + 3 * seg.length) x x4 x5 i = spec_ParseMilli.l0 k x (valF x4 seg) x5 ((i + seg.length : Nat) : Int) ∧ 0 ≤ valF x4 seg ∧ valF x4 seg < 10 ^ (i + seg.length)
  | [], i, rest, x4, k, _, _, h0, h1 => ⟨rfl, h0, h1⟩
  | c :: seg, i, rest, x4, k, h, hd, h0, h1 => by
    have hc := hd c (List.mem_cons_self ..)
    have hlen := congrArg List.length h
    rw [List.length_drop, List.length_append, List.length_cons, data_length] at hlen
    have hi : i < x.size := by omega
    have hg : x.data.toList.getD i 0 = c := by
      have := congrArg (fun l => l.getD 0 0) h
      simpa [List.getD] using this
    have hb : bt x (i : Int) = (c.toNat : Int) := by rw [bt_nat x i hi, hg]
    have hp : (10 : Int) ^ i ≤ 10 ^ 13 := by
      have := Nat.pow_le_pow_right (n := 10) (by decide) (show i ≤ 13 by omega)
      exact_mod_cast this
    have hv : (10 : Int) ^ (i + 1) = 10 * 10 ^ i := by rw [Int.pow_succ, Int.mul_comm]
    have hd1 : x.data.toList.drop (i + 1) = seg ++ rest := by
      have := congrArg List.tail h
      rw [List.tail_drop] at this
      exact this
    obtain ⟨e, r1, r2⟩ := milli_scan x hx x5 seg (i + 1) rest (10 * x4 + (c.toNat : Int) - 48) k hd1 (fun y hy => hd y (List.mem_cons_of_mem _ hy)) (by omega) (by rw [hv]; omega)
    have en : i + (c :: seg).length = i + 1 + seg.length := by rw [List.length_cons]; omega
    refine ⟨?_, ?_, ?_⟩
    · rw [List.length_cons, show k + 3 * (seg.length + 1) = (k + 3 * seg.length) + 2 + 1 by omega, spec_ParseMilli.l0, if_pos (by omega), if_pos (by omega), hb, if_neg (by omega), spec_ParseMilli.j1, if_neg (by simp), if_pos (by omega), if_pos (by omega), hb, if_neg (by omega),
        spec_ParseMilli.j2, if_neg (by simp), if_pos (by omega), if_pos (by omega), hb, if_pos (by omega), if_pos (by omega), w64n (by omega),
        w64 (x := 10 * x4) (by omega) (by omega), w64 (x := (c.toNat : Int)) (by omega) (by omega), w64 (x := 10 * x4 + _) (by omega) (by omega), w64 (by omega) (by omega), e, ← List.length_cons (a := c), en]
      rfl
    · exact r1
    · rw [en]; exact r2
theorem milli_dot (x : ByteArray) (i : Nat) (hi : i < x.size) (hx : x.size ≤ 13) (hb : bt x (i : Int) = 46) (x4 : Int) (k : Nat) : spec_ParseMilli.l0 (k + 3) x x4 (-1) i = spec_ParseMilli.l0 k x x4 i ((i + 1 : Nat) : Int) := by
  rw [spec_ParseMilli.l0, if_pos (by omega), if_pos (by omega), hb, if_neg (by decide), spec_ParseMilli.j1, if_neg (by simp), if_pos (by omega), if_pos (by omega), hb, if_pos rfl, spec_ParseMilli.j2, if_pos (by decide), w64n (by omega)]
theorem milli_fill (x : ByteArray) (v : Int) (h0 : 1 ≤ v) (h1 : v ≤ 1000000) (hxv : x = mt v) (hne : x.data.toList ≠ []) (hb : bt x 0 ≠ 45) (k : Nat) (hk : 60 ≤ k) (hk2 : k ≤ 800) :
    ∀ (d : Nat) (x4 : Int) (x7 : Nat), x7 + d = 3 → x4 * 10 ^ d = v → 0 ≤ x4 → spec_ParseMilli.l1 (k + d) x x4 x7 = some (v, true)
  | 0, x4, x7, hd, hv, hp => by
    have hv' : x4 = v := by simpa using hv
    subst hv'
    obtain ⟨k, rfl⟩ : ∃ m, k = m + 2 := ⟨k - 2, by omega⟩
    have hsz : 0 < x.size := by
      rw [← data_length]
      exact List.length_pos_iff.2 hne
    rw [Nat.add_zero, spec_ParseMilli.l1, if_neg (by omega), if_pos (by omega), if_pos (by omega), show (bt x 0 == 45) = false from beq_eq_false_iff_ne.2 hb, spec_ParseMilli.j5, if_neg (by simp), spec_milli x4 (by omega) (by omega) k (by omega) (by omega), Option.bind_some, ← hxv, if_pos rfl,
      if_neg (by rw [Go.Lib.toList_data]; exact hne)]
  | d + 1, x4, x7, hd, hv, hp => by
    have hv2 : 10 * x4 * 10 ^ d = v := by rw [← hv, Int.pow_succ, Int.mul_comm 10 x4, Int.mul_assoc, Int.mul_comm 10]
    have hpow : (1 : Int) ≤ 10 ^ d := by
      have := Nat.one_le_pow d 10 (by decide)
      exact_mod_cast this
    have hx4 : 10 * x4 ≤ v := by
      have := Int.mul_le_mul_of_nonneg_left hpow (show 0 ≤ 10 * x4 by omega)
      rw [Int.mul_one, hv2] at this
      exact this
    rw [show k + (d + 1) = (k + d) + 1 by omega, spec_ParseMilli.l1, if_pos (by omega), w64n (by omega), w64 (by omega) (by omega)]
    exact milli_fill x v h0 h1 hxv hne hb k hk hk2 d (10 * x4) (x7 + 1) (by omega) hv2 (by omega)
theorem dg3_all (r : Nat) (hr : r < 1000) : ∀ c ∈ dg3 r, 48 ≤ c.toNat ∧ c.toNat ≤ 57 := by
  intro c hc
  simp only [dg3, List.mem_cons, List.mem_nil_iff, or_false] at hc
  rcases hc with rfl | rfl | rfl
  · rw [dig_nat _ (by omega)]; omega
  · rw [dig_nat _ (by omega)]; omega
  · rw [dig_nat _ (by omega)]; omega
theorem milliBack (v : Int) (h0 : 1 ≤ v) (h1 : v ≤ 1000000) (k : Nat) (hk : 200 ≤ k) (hk2 : k ≤ 700) : spec_ParseMilli.f k (mt v) = some (v, true) := by
  obtain ⟨q, r, hv, hr, hq⟩ : ∃ q r : Nat, v = 1000 * (q : Int) + r ∧ r < 1000 ∧ q ≤ 1000 := ⟨(v / 1000).toNat, (v % 1000).toNat, by omega, by omega, by omega⟩
  have hL : (mt v).data.toList = Go.Lib.decDigits q ++ fr r := by
    show Go.Lib.itoa (v / 1000) ++ fr (v % 1000).toNat = _
    rw [show v / 1000 = (q : Int) by omega, show v % 1000 = (r : Int) by omega, Int.toNat_natCast, Go.Lib.itoa_nonneg]
  have hql : (Go.Lib.decDigits q).length ≤ 4 := by
    have := itoa_small (q : Int) (by omega) (by omega)
    rwa [Go.Lib.itoa_nonneg] at this
  have hfl : (fr r).length ≤ 4 := by
    unfold fr
    split
    · simp
    · rw [List.length_cons, List.length_take]
      exact Nat.succ_le_succ (Nat.min_le_right _ _)
  have hsz : (mt v).size ≤ 13 := by rw [← data_length, hL, List.length_append]; omega
  have hne : (mt v).data.toList ≠ [] := by
    rw [hL]
    exact fun e => dec_ne q (List.append_eq_nil_iff.1 e).1
  have hqp := List.length_pos_iff.2 (dec_ne q)
  have hb0 : bt (mt v) 0 ≠ 45 := by
    rw [show (0 : Int) = ((0 : Nat) : Int) from rfl, bt_nat (mt v) 0 (by rw [← data_length, hL, List.length_append]; omega), hL]
    have e : (Go.Lib.decDigits q ++ fr r).getD 0 0 = (Go.Lib.decDigits q).getD 0 0 := by simp [List.getD, List.getElem?_append, hqp]
    have := dec_all q ((Go.Lib.decDigits q).getD 0 0) (by simp [List.getD, List.getElem?_eq_getElem hqp])
    rw [e]
    omega
  unfold spec_ParseMilli.f
  rw [if_neg (by omega), show (0 : Int) = ((0 : Nat) : Int) from rfl]
  obtain ⟨m, rfl⟩ : ∃ m, k = m + 3 * (Go.Lib.decDigits q).length := ⟨k - 3 * (Go.Lib.decDigits q).length, by omega⟩
  obtain ⟨e1, a1, a2⟩ := milli_scan (mt v) hsz (-1) (Go.Lib.decDigits q) 0 (fr r) 0 m (by rw [List.drop_zero, hL]) (dec_all q) (by omega) (by decide)
  rw [show ((0 : Nat) : Int) = 0 from rfl] at e1 ⊢
  rw [e1, valF_dec, Nat.zero_add]
  by_cases hz : r = 0
  · have hs : (mt v).size = (Go.Lib.decDigits q).length := by rw [← data_length, hL, fr, if_pos hz, List.append_nil]
    obtain ⟨m, rfl⟩ : ∃ m', m = m' + 5 := ⟨m - 5, by omega⟩
    rw [spec_ParseMilli.l0, if_neg (by omega), if_neg (by decide), spec_ParseMilli.j3, if_neg (by decide), show (0 : Int) = ((0 : Nat) : Int) from rfl]
    exact milli_fill (mt v) v h0 h1 rfl hne hb0 m (by omega) (by omega) 3 q 0 rfl (by rw [hv, hz]; show (q : Int) * 1000 = _; omega) (by omega)
  · have hF : fr r = 46 :: (dg3 r).take (tz r) := by rw [fr, if_neg hz]
    have ht : 1 ≤ tz r ∧ tz r ≤ 3 := by unfold tz; split <;> (try split) <;> omega
    have hs : (mt v).size = (Go.Lib.decDigits q).length + 1 + tz r := by
      rw [← data_length, hL, hF, List.length_append, List.length_cons, List.length_take]
      show _ + (min (tz r) 3 + 1) = _
      omega
    have hdot : bt (mt v) ((Go.Lib.decDigits q).length : Int) = 46 := by
      rw [bt_nat (mt v) _ (by omega), hL, hF]
      simp [List.getD]
    obtain ⟨m, rfl⟩ : ∃ m', m = m' + 3 := ⟨m - 3, by omega⟩
    rw [milli_dot (mt v) _ (by omega) hsz hdot]
    have hlen : ((dg3 r).take (tz r)).length = tz r := by
      rw [List.length_take]
      show min (tz r) 3 = _
      omega
    obtain ⟨m, rfl⟩ : ∃ m', m = m' + 3 * ((dg3 r).take (tz r)).length := ⟨m - 3 * ((dg3 r).take (tz r)).length, by omega⟩
    have hdr : (mt v).data.toList.drop ((Go.Lib.decDigits q).length + 1) = (dg3 r).take (tz r) ++ [] := by
      rw [hL, hF, show Go.Lib.decDigits q ++ 46 :: (dg3 r).take (tz r) = (Go.Lib.decDigits q ++ [46]) ++ (dg3 r).take (tz r) by simp, List.drop_left' (by simp), List.append_nil]
    have hqb : ((q : Int)) < 10 ^ ((Go.Lib.decDigits q).length + 1) := by
      rw [← valF_dec q]
      refine Int.lt_of_lt_of_le a2 ?_
      rw [Nat.zero_add, Int.pow_succ]
      have : (1 : Int) ≤ 10 ^ (Go.Lib.decDigits q).length := by
        have := Nat.one_le_pow (Go.Lib.decDigits q).length 10 (by decide)
        exact_mod_cast this
      omega
    obtain ⟨e2, _, _⟩ := milli_scan (mt v) hsz ((Go.Lib.decDigits q).length : Int) ((dg3 r).take (tz r)) ((Go.Lib.decDigits q).length + 1) [] q m hdr (fun c hc => dg3_all r hr c (List.mem_of_mem_take hc)) (by omega) hqb
    rw [e2, hlen]
    obtain ⟨m, rfl⟩ : ∃ m', m = m' + 2 + (3 - tz r) := ⟨m - 2 - (3 - tz r), by omega⟩
    rw [show m + 2 + (3 - tz r) = (m + (3 - tz r) + 1) + 1 by omega, spec_ParseMilli.l0, if_neg (by omega), if_pos (by omega), show wrap64 (wrap64 (((mt v).size : Int) - ((Go.Lib.decDigits q).length : Int)) - 1) = ((tz r : Nat) : Int) by
      rw [w64 (x := ((mt v).size : Int) - _) (by omega) (by omega), w64 (by omega) (by omega)]; omega, spec_ParseMilli.j3, if_neg (by omega)]
    refine milli_fill (mt v) v h0 h1 rfl hne hb0 m (by omega) (by omega) (3 - tz r) _ (tz r) (by omega) ?_ ?_
    · have t0 := dig_nat (r / 100) (by omega)
      have t1 := dig_nat (r / 10 % 10) (by omega)
      have t2 := dig_nat (r % 10) (by omega)
      by_cases c2 : r % 10 = 0
      · by_cases c1 : r / 10 % 10 = 0
        · rw [show tz r = 1 by simp [tz, c1, c2]]
          show (10 * (q : Int) + ((UInt8.ofNat (48 + r / 100)).toNat : Int) - 48) * 100 = v
          rw [t0]
          omega
        · rw [show tz r = 2 by simp [tz, c1, c2]]
          show (10 * (10 * (q : Int) + ((UInt8.ofNat (48 + r / 100)).toNat : Int) - 48) + ((UInt8.ofNat (48 + r / 10 % 10)).toNat : Int) - 48) * 10 = v
          rw [t0, t1]
          omega
      · rw [show tz r = 3 by simp [tz, c2]]
        show (10 * (10 * (10 * (q : Int) + ((UInt8.ofNat (48 + r / 100)).toNat : Int) - 48) + ((UInt8.ofNat (48 + r / 10 % 10)).toNat : Int) - 48) + ((UInt8.ofNat (48 + r % 10)).toNat : Int) - 48) * 1 = v
        rw [t0, t1, t2]
        omega
    · assumption
theorem mkB_data (x : ByteArray) : mkB x.data.toList = x := ba_ext rfl
theorem name_no (g : S90) (h : goalB g = true) (c : UInt8) (hc : nameC c = false) : c ∉ g.f0.data.toList := by
  unfold goalB nameB at h
  simp only [Bool.and_eq_true, List.all_eq_true] at h
  intro hm
  have := h.1.2 c hm
  rw [hc] at this
  cases this
theorem mt_no (v : Int) (h0 : 0 ≤ v) (h1 : v ≤ 1000000) (c : UInt8) (hc : (c.toNat < 48 ∨ 57 < c.toNat) ∧ c ≠ 46) : c ∉ (mt v).data.toList := by
  show c ∉ Go.Lib.itoa (v / 1000) ++ fr (v % 1000).toNat
  rw [List.mem_append]
  rintro (h | h)
  · exact itoa_no _ (by omega) c hc.1 h
  · unfold fr at h
    split at h
    · cases h
    · rw [List.mem_cons] at h
      rcases h with h | h
      · exact hc.2 h
      · have := dg3_all (v % 1000).toNat (by omega) c (List.mem_of_mem_take h)
        omega
theorem mt_len (v : Int) (h0 : 0 ≤ v) (h1 : v ≤ 1000000) : (mt v).data.toList.length ≤ 8 := by
  show (Go.Lib.itoa (v / 1000) ++ fr (v % 1000).toNat).length ≤ 8
  have := itoa_small (v / 1000) (by omega) (by omega)
  have h2 : (fr (v % 1000).toNat).length ≤ 4 := by
    unfold fr
    split
    · simp
    · rw [List.length_cons, List.length_take]
      exact Nat.succ_le_succ (Nat.min_le_right _ _)
  rw [List.length_append]
  omega
theorem gl_len (g : S90) (h : goalB g = true) : (gl g).length ≤ 26 := by
  obtain ⟨⟨hn1, hn2⟩, ⟨hv1, hv2⟩, hf1, hf2⟩ := goalB_out h
  have a := mt_len g.f1 (by omega) hv2
  have b := itoa_small g.f2 hf1 hf2
  rw [gl, List.length_append, List.length_cons, List.length_append, List.length_cons, data_length]
  omega
theorem goalBack (g : S90) (h : goalB g = true) (k : Nat) (hk : 300 ≤ k) (hk2 : k ≤ 600) : spec_ParseGoal.f k (glb g) = some (g.f0, g.f1, g.f2, true) := by
  obtain ⟨⟨hn1, hn2⟩, ⟨hv1, hv2⟩, hf1, hf2⟩ := goalB_out h
  have hlen := gl_len g h
  have hsz : (glb g).size = (gl g).length := by show (gl g).toArray.size = _; simp
  unfold spec_ParseGoal.f
  have hp := parts_f (glb g) 32 (by omega) k (by omega)
  rw [show (glb g).data.toList = gl g from rfl, gl, splB_at 32 _ _ (name_no g h 32 (by decide)), splB_at 32 _ _ (mt_no g.f1 (by omega) hv2 32 (by decide)), splB_no 32 _ (itoa_no g.f2 hf1 32 (by decide))] at hp
  rw [if_neg (by omega), show (32 : Int) = (((32 : UInt8).toNat : Nat) : Int) from rfl, hp, Option.bind_some]
  simp only [List.map_cons, List.map_nil, mkB_data]
  have hl : ([g.f0, mt g.f1, mkB (Go.Lib.itoa g.f2)].length : Int) = 3 := rfl
  have r0 : rdOf ByteArray.empty [g.f0, mt g.f1, mkB (Go.Lib.itoa g.f2)] 0 = g.f0 := rfl
  have r1 : rdOf ByteArray.empty [g.f0, mt g.f1, mkB (Go.Lib.itoa g.f2)] 1 = mt g.f1 := rfl
  have r2 : rdOf ByteArray.empty [g.f0, mt g.f1, mkB (Go.Lib.itoa g.f2)] 2 = nb g.f2 := rfl
  rw [hl, if_pos rfl, if_pos (by decide), r1, milliBack g.f1 hv1 hv2 k (by omega) (by omega), Option.bind_some, if_pos (by decide), r2, read_small g.f2 hf1 hf2 k (by omega) (by omega), Option.bind_some, if_pos (by decide), r0, if_pos rfl, if_pos rfl, spec_goal g (by omega) k (by omega), Option.bind_some, h, if_pos rfl]
def polW (p : S118) : List UInt8 := Go.Lib.itoa p.f0 ++ 58 :: (Go.Lib.itoa p.f1 ++ 58 :: Go.Lib.itoa p.f2)
theorem side_split (l : List S118) (s w : Int) (hs : 0 ≤ s) (hw : 0 ≤ w) (hl : ∀ p ∈ l, 0 ≤ p.f0 ∧ 0 ≤ p.f1 ∧ 0 ≤ p.f2) : splB 32 (sl l s w) = Go.Lib.itoa s :: Go.Lib.itoa w :: l.map polW := by
  have key : ∀ (a : List UInt8) (l : List S118), (32 : UInt8) ∉ a → (∀ p ∈ l, 0 ≤ p.f0 ∧ 0 ≤ p.f1 ∧ 0 ≤ p.f2) → splB 32 (a ++ (l.map pol).flatten) = a :: l.map polW := by
    intro a l
    induction l generalizing a with
    | nil =>
      intro ha _
      rw [List.map_nil, List.flatten_nil, List.append_nil]
      exact splB_no 32 a ha
    | cons p r ih =>
      intro ha hr
      obtain ⟨p0, p1, p2⟩ := hr p (List.mem_cons_self ..)
      have hno : (32 : UInt8) ∉ polW p := by
        unfold polW
        simp only [List.mem_append, List.mem_cons]
        rintro (h | h | h | h | h)
        · exact itoa_no _ p0 32 (by decide) h
        · cases h
        · exact itoa_no _ p1 32 (by decide) h
        · cases h
        · exact itoa_no _ p2 32 (by decide) h
      rw [List.map_cons, List.flatten_cons, show pol p = 32 :: polW p from rfl]
      show splB 32 (a ++ 32 :: (polW p ++ (r.map pol).flatten)) = _
      rw [splB_at 32 _ a ha, ih (polW p) hno (fun q hq => hr q (List.mem_cons_of_mem _ hq)), List.map_cons]
  unfold sl
  rw [splB_at 32 _ _ (itoa_no s hs 32 (by decide)), key _ l (itoa_no w hw 32 (by decide)) hl]
theorem polW_parts (p : S118) (h0 : 0 ≤ p.f0 ∧ p.f0 ≤ 1000) (h1 : 0 ≤ p.f1 ∧ p.f1 ≤ 1000) (h2 : 0 ≤ p.f2 ∧ p.f2 ≤ 1000) (k : Nat) (hk : 100 ≤ k) : spec_l01Parts.f k (mkB (polW p)) 58 = some [nb p.f0, nb p.f1, nb p.f2] := by
  have a := itoa_small p.f0 h0.1 h0.2
  have b := itoa_small p.f1 h1.1 h1.2
  have c := itoa_small p.f2 h2.1 h2.2
  have hsz : (mkB (polW p)).size ≤ 14 := by
    show (polW p).toArray.size ≤ 14
    rw [List.size_toArray, polW, List.length_append, List.length_cons, List.length_append, List.length_cons]
    omega
  have hp := parts_f (mkB (polW p)) 58 (by omega) k (by omega)
  rw [show (mkB (polW p)).data.toList = polW p from rfl, polW, splB_at 58 _ _ (itoa_no _ h0.1 58 (by decide)), splB_at 58 _ _ (itoa_no _ h1.1 58 (by decide)), splB_no 58 _ (itoa_no _ h2.1 58 (by decide))] at hp
  exact hp
theorem side_inner (x5 : List ByteArray) (x11 : Int) (p : S118) (h0 : 0 ≤ p.f0 ∧ p.f0 ≤ 1000) (h1 : 0 ≤ p.f1 ∧ p.f1 ≤ 1000) (h2 : 0 ≤ p.f2 ∧ p.f2 ≤ 1000) (acc : List S118) (ha : acc.length ≤ 10) (s w : Int) (k : Nat) (hk : 110 ≤ k) (hk2 : k ≤ 800) :
    spec_ParseSide.l1 (k + 4) x5 x11 [nb p.f0, nb p.f1, nb p.f2] [] 0 acc s w = spec_ParseSide.l0 k x5 (wrap64 (x11 + 1)) (acc ++ [p]) s w := by
  have e0 : wrap64 (0 + 1) = 1 := by unfold wrap64; omega
  have e1 : wrap64 (1 + 1) = 2 := by unfold wrap64; omega
  have e2 : wrap64 (2 + 1) = 3 := by unfold wrap64; omega
  have hl : ([nb p.f0, nb p.f1, nb p.f2].length : Int) = 3 := rfl
  have r0 : rdOf ByteArray.empty [nb p.f0, nb p.f1, nb p.f2] 0 = nb p.f0 := rfl
  have r1 : rdOf ByteArray.empty [nb p.f0, nb p.f1, nb p.f2] 1 = nb p.f1 := rfl
  have r2 : rdOf ByteArray.empty [nb p.f0, nb p.f1, nb p.f2] 2 = nb p.f2 := rfl
  rw [spec_ParseSide.l1, if_pos (by decide), if_pos (by decide), if_pos (by rw [hl]; decide), r0, read_small p.f0 h0.1 h0.2 _ (by omega) (by omega), Option.bind_some, if_pos rfl, if_pos (by decide), e0,
    spec_ParseSide.l1, if_pos (by decide), if_pos (by decide), if_pos (by rw [hl]; decide), r1, read_small p.f1 h1.1 h1.2 _ (by omega) (by omega), Option.bind_some, if_pos rfl, if_pos (by simp), e1,
    spec_ParseSide.l1, if_pos (by decide), if_pos (by decide), if_pos (by rw [hl]; decide), r2, read_small p.f2 h2.1 h2.2 _ (by omega) (by omega), Option.bind_some, if_pos rfl, if_pos (by simp), e2,
    spec_ParseSide.l1, if_neg (by decide), if_pos (by simp), if_pos (by simp), if_pos (by simp), if_pos (by omega)]
  rfl
theorem side_outer (l : List S118) (s w : Int) (h : sideB l s w = true) (x5 : List ByteArray) (hx : x5 = nb s :: nb w :: l.map fun p => mkB (polW p)) :
    ∀ (d i k : Nat), i + d = l.length → 5 * d + 200 ≤ k → k ≤ 700 → spec_ParseSide.l0 k x5 ((i + 2 : Nat) : Int) (l.take i) s w = some (l, s, w, true)
  | 0, i, k, hd, hk, hk2 => by
    obtain ⟨k, rfl⟩ : ∃ m, k = m + 1 := ⟨k - 1, by omega⟩
    have hl := (sideB_out h).1
    rw [spec_ParseSide.l0, if_neg (by rw [hx]; simp; omega), List.take_of_length_le (by omega), spec_side l s w (by omega) k (by omega), Option.bind_some, h, if_pos rfl]
  | d + 1, i, k, hd, hk, hk2 => by
    obtain ⟨k, rfl⟩ : ∃ m, k = m + 5 := ⟨k - 5, by omega⟩
    obtain ⟨hl, _, _, hp⟩ := sideB_out h
    obtain ⟨p0, p1, p2⟩ := hp i (by omega)
    have hr : rdOf ByteArray.empty x5 ((i + 2 : Nat) : Int) = mkB (polW (rd_T118 l i)) := by
      rw [hx, rdOf, Int.toNat_natCast]
      simp [rd_T118, List.getD, List.getElem?_eq_getElem (show i < l.length by omega)]
    rw [show k + 5 = (k + 4) + 1 by omega, spec_ParseSide.l0, if_pos (by rw [hx]; simp; omega), if_pos (by omega), hr, polW_parts _ (by omega) (by omega) (by omega) (k + 4) (by omega), Option.bind_some, if_pos (by rfl),
      side_inner x5 _ (rd_T118 l i) (by omega) (by omega) (by omega) (l.take i) (by rw [List.length_take]; omega) s w k (by omega) (by omega), w64n (by omega), show l.take i ++ [rd_T118 l i] = l.take (i + 1) from (take_snoc_ l z118 i (by omega)).symm]
    exact side_outer l s w h x5 hx d (i + 1) k (by omega) (by omega) (by omega)
theorem sl_len (l : List S118) (s w : Int) (h : sideB l s w = true) : (sl l s w).length ≤ 54 := by
  obtain ⟨hl, ⟨hs1, hs2⟩, ⟨hd1, hd2⟩, hp⟩ := sideB_out h
  have ha := itoa_small s (by omega) (by omega)
  have hb := itoa_small w (by omega) (by omega)
  have hk : ∀ n, n ≤ l.length → (sl (l.take n) s w).length ≤ 9 + 15 * n := by
    intro n
    induction n with
    | zero =>
      intro _
      rw [sl, List.length_append, List.length_cons]
      simp
      omega
    | succ n ih =>
      intro hn
      obtain ⟨p0, p1, p2⟩ := hp n (by omega)
      have a := itoa_small _ (show 0 ≤ (rd_T118 l n).f0 by omega) (by omega)
      have b := itoa_small _ (show 0 ≤ (rd_T118 l n).f1 by omega) (by omega)
      have c := itoa_small _ (show 0 ≤ (rd_T118 l n).f2 by omega) (by omega)
      have := ih (by omega)
      rw [sl_step l s w n (by omega), List.length_append, pol, List.length_cons, List.length_append, List.length_cons, List.length_append, List.length_cons]
      omega
  have := hk l.length (Nat.le_refl _)
  rw [List.take_length] at this
  omega
theorem sideBack (l : List S118) (s w : Int) (h : sideB l s w = true) (k : Nat) (hk : 400 ≤ k) (hk2 : k ≤ 600) : spec_ParseSide.f k (slb l s w) = some (l, s, w, true) := by
  obtain ⟨hl, ⟨hs1, hs2⟩, ⟨hd1, hd2⟩, hp⟩ := sideB_out h
  have hlen := sl_len l s w h
  have hsz : (slb l s w).size = (sl l s w).length := by show (sl l s w).toArray.size = _; simp
  have hpp : ∀ p ∈ l, 0 ≤ p.f0 ∧ 0 ≤ p.f1 ∧ 0 ≤ p.f2 := by
    intro p hm
    obtain ⟨i, hi⟩ := List.mem_iff_getElem?.1 hm
    have hil : i < l.length := (List.getElem?_eq_some_iff.1 hi).1
    have := hp i hil
    rw [show rd_T118 l (i : Nat) = p by simp [rd_T118, List.getD, hi]] at this
    omega
  have hpt := parts_f (slb l s w) 32 (by omega) k (by omega)
  rw [show (slb l s w).data.toList = sl l s w from rfl, side_split l s w hs1 hd1 hpp] at hpt
  have hx : (Go.Lib.itoa s :: Go.Lib.itoa w :: l.map polW).map mkB = nb s :: nb w :: l.map fun p => mkB (polW p) := by
    simp [nb]
  rw [hx] at hpt
  unfold spec_ParseSide.f
  rw [if_neg (by omega), show (32 : Int) = (((32 : UInt8).toNat : Nat) : Int) from rfl, hpt, Option.bind_some, if_neg (by simp; omega), show decide (((nb s :: nb w :: l.map fun p => mkB (polW p)).length : Int) > 5) = false by simp; omega]
  obtain ⟨k, rfl⟩ : ∃ m, k = m + 2 := ⟨k - 2, by omega⟩
  have r0 : rdOf ByteArray.empty (nb s :: nb w :: l.map fun p => mkB (polW p)) 0 = nb s := rfl
  have r1 : rdOf ByteArray.empty (nb s :: nb w :: l.map fun p => mkB (polW p)) 1 = nb w := rfl
  rw [spec_ParseSide.j0, if_neg (by simp), if_pos (by simp; omega), r0, read_small s (by omega) (by omega) _ (by omega) (by omega), Option.bind_some, if_pos (by simp; omega), r1, read_small w (by omega) (by omega) _ (by omega) (by omega), Option.bind_some, if_pos rfl, spec_ParseSide.j1, if_neg (by simp)]
  exact side_outer l s w h _ rfl l.length 0 k (by omega) (by omega) (by omega)
def rlw (s : SU) : List UInt8 := [114, 117, 108, 101, 115] ++ 32 :: (Go.Lib.itoa s.d ++ 32 :: (Go.Lib.itoa s.f ++ 32 :: Go.Lib.itoa s.n))
def glw (g : S90) : List UInt8 := [103, 111, 97, 108] ++ 32 :: gl g
def clw (s : SU) : List UInt8 := [99, 111, 117, 110, 116] ++ 32 :: (Go.Lib.itoa s.mn ++ 32 :: Go.Lib.itoa s.mx)
def upL (l : List S118) (s w : Int) : List UInt8 := [117, 112] ++ 32 :: sl l s w
def dnL (l : List S118) (s w : Int) : List UInt8 := [100, 111, 119, 110] ++ 32 :: sl l s w
def lsW (s : SU) : List (List UInt8) := rlw s :: (s.g.map glw ++ [clw s, upL s.ul s.us s.uw, dnL s.dl s.ds s.dw])
theorem stl_lines (s : SU) : stl s = ((lsW s).map (· ++ [10])).flatten := by
  have h : ∀ l : List S90, (l.map gll).flatten = ((l.map glw).map (· ++ [10])).flatten := by
    intro l
    induction l with
    | nil => rfl
    | cons a r ih =>
      rw [List.map_cons, List.flatten_cons, ih, List.map_cons, List.map_cons, List.flatten_cons]
      simp [gll, glw]
  unfold stl lsW
  rw [h]
  simp [rl, rlw, cl, clw, upL, dnL]
theorem pol_no (p : S118) (h : 0 ≤ p.f0 ∧ 0 ≤ p.f1 ∧ 0 ≤ p.f2) (c : UInt8) (hc : (c.toNat < 48 ∨ 57 < c.toNat) ∧ c ≠ 32 ∧ c ≠ 58) : c ∉ pol p := by
  unfold pol
  simp only [List.mem_append, List.mem_cons]
  rintro (e | e | e | e | e | e)
  · exact hc.2.1 e
  · exact itoa_no _ h.1 c hc.1 e
  · exact hc.2.2 e
  · exact itoa_no _ h.2.1 c hc.1 e
  · exact hc.2.2 e
  · exact itoa_no _ h.2.2 c hc.1 e
theorem sl_no (l : List S118) (s w : Int) (h : sideB l s w = true) (c : UInt8) (hc : (c.toNat < 48 ∨ 57 < c.toNat) ∧ c ≠ 32 ∧ c ≠ 58) : c ∉ sl l s w := by
  obtain ⟨hl, ⟨hs1, hs2⟩, ⟨hd1, hd2⟩, hp⟩ := sideB_out h
  unfold sl
  simp only [List.mem_append, List.mem_cons]
  rintro (e | e | e | e)
  · exact itoa_no _ hs1 c hc.1 e
  · exact hc.2.1 e
  · exact itoa_no _ hd1 c hc.1 e
  · rw [List.mem_flatten] at e
    obtain ⟨x, hx, hcx⟩ := e
    rw [List.mem_map] at hx
    obtain ⟨p, hpm, rfl⟩ := hx
    obtain ⟨i, hi⟩ := List.mem_iff_getElem?.1 hpm
    have hil : i < l.length := (List.getElem?_eq_some_iff.1 hi).1
    have := hp i hil
    rw [show rd_T118 l (i : Nat) = p by simp [rd_T118, List.getD, hi]] at this
    exact pol_no p (by omega) c hc hcx
theorem gl_no (g : S90) (h : goalB g = true) (c : UInt8) (hc : ((c.toNat < 48 ∨ 57 < c.toNat) ∧ c ≠ 46) ∧ c ≠ 32 ∧ nameC c = false) : c ∉ gl g := by
  obtain ⟨⟨hn1, hn2⟩, ⟨hv1, hv2⟩, hf1, hf2⟩ := goalB_out h
  unfold gl
  simp only [List.mem_append, List.mem_cons]
  rintro (e | e | e | e | e)
  · exact name_no g h c hc.2.2 e
  · exact hc.2.1 e
  · exact mt_no g.f1 (by omega) hv2 c hc.1 e
  · exact hc.2.1 e
  · exact itoa_no _ hf1 c hc.1.1 e
theorem goal_mem (s : SU) (h : setB s = true) (g : S90) (hg : g ∈ s.g) : goalB g = true := by
  have hg' := (setB_out h).g
  obtain ⟨i, hi⟩ := List.mem_iff_getElem?.1 hg
  have := hg' i (List.getElem?_eq_some_iff.1 hi).1
  rwa [show rd_T90 s.g (i : Nat) = g by simp [rd_T90, List.getD, hi]] at this
theorem no3 {c : UInt8} {a b : List UInt8} (h1 : c ∉ a) (h2 : c ≠ 32) (h3 : c ∉ b) : c ∉ a ++ 32 :: b := fun h => (List.mem_append.1 h).elim h1 (fun h => (List.mem_cons.1 h).elim h2 h3)
theorem ls_no (s : SU) (h : setB s = true) (c : UInt8) (hc : c = 10 ∨ c = 59) : ∀ l ∈ lsW s, c ∉ l := by
  obtain ⟨⟨v1, v2⟩, ⟨v3, v4⟩, ⟨v5, v6⟩, hu, hd, ⟨v7, v8⟩, ⟨v9, v10⟩, ⟨v11, v12⟩, hg⟩ := setB_out h
  have a1 : c.toNat < 48 ∨ 57 < c.toNat := by rcases hc with rfl | rfl <;> decide
  have a2 : c ≠ 32 := by rcases hc with rfl | rfl <;> decide
  have a3 : c ≠ 58 := by rcases hc with rfl | rfl <;> decide
  have a4 : c ≠ 46 := by rcases hc with rfl | rfl <;> decide
  have a5 : nameC c = false := by rcases hc with rfl | rfl <;> decide
  have b1 : c ∉ ([114, 117, 108, 101, 115] : List UInt8) := by rcases hc with rfl | rfl <;> decide
  have b2 : c ∉ ([103, 111, 97, 108] : List UInt8) := by rcases hc with rfl | rfl <;> decide
  have b3 : c ∉ ([99, 111, 117, 110, 116] : List UInt8) := by rcases hc with rfl | rfl <;> decide
  have b4 : c ∉ ([117, 112] : List UInt8) := by rcases hc with rfl | rfl <;> decide
  have b5 : c ∉ ([100, 111, 119, 110] : List UInt8) := by rcases hc with rfl | rfl <;> decide
  intro l hl
  unfold lsW at hl
  simp only [List.mem_cons, List.mem_append, List.mem_map, List.mem_nil_iff, or_false] at hl
  rcases hl with rfl | ⟨g, hgm, rfl⟩ | rfl | rfl | rfl
  · exact no3 b1 a2 (no3 (itoa_no _ v1 c a1) a2 (no3 (itoa_no _ v3 c a1) a2 (itoa_no _ v5 c a1)))
  · exact no3 b2 a2 (gl_no g (goal_mem s h g hgm) c ⟨⟨a1, a4⟩, a2, a5⟩)
  · exact no3 b3 a2 (no3 (itoa_no _ v9 c a1) a2 (itoa_no _ v7 c a1))
  · exact no3 b4 a2 (sl_no _ _ _ hu c ⟨a1, a2, a3⟩)
  · exact no3 b5 a2 (sl_no _ _ _ hd c ⟨a1, a2, a3⟩)
theorem stl_no (s : SU) (h : setB s = true) : (59 : UInt8) ∉ stl s := by
  rw [stl_lines, List.mem_flatten]
  rintro ⟨x, hx, hc⟩
  rw [List.mem_map] at hx
  obtain ⟨l, hl, rfl⟩ := hx
  rw [List.mem_append] at hc
  rcases hc with hc | hc
  · exact ls_no s h 59 (Or.inr rfl) l hl hc
  · exact absurd hc (by decide)
theorem numbers_l (ns : List Int) (hns : ∀ n ∈ ns, 0 ≤ n ∧ n ≤ 1000) (hl : ns.length ≤ 10) : ∀ (d i k : Nat), i + d = ns.length → 110 + d ≤ k → k ≤ 800 →
    spec_l07Numbers.l0 k ns.length (ns.take i) (ns.map nb) i = some (ns, true)
  | 0, i, k, hd, hk, _ => by
    obtain ⟨k, rfl⟩ : ∃ m, k = m + 1 := ⟨k - 1, by omega⟩
    rw [spec_l07Numbers.l0, if_neg (by omega), List.take_of_length_le (by omega)]
  | d + 1, i, k, hd, hk, hk2 => by
    obtain ⟨k, rfl⟩ : ∃ m, k = m + 1 := ⟨k - 1, by omega⟩
    have hi : i < ns.length := by omega
    have hr : rdOf ByteArray.empty (ns.map nb) (i : Int) = nb (ns.getD i 0) := by
      simp [rdOf, List.getD, List.getElem?_eq_getElem hi]
    have hm := hns (ns.getD i 0) (by simp [List.getD, List.getElem?_eq_getElem hi])
    rw [spec_l07Numbers.l0, if_pos (by omega), if_pos (by omega), if_pos (by simp; omega), hr, read_small _ hm.1 hm.2 k (by omega) (by omega), Option.bind_some, if_pos rfl, if_pos (by rw [List.length_take]; omega), w64n (by omega)]
    show spec_l07Numbers.l0 k _ (ns.take i ++ [ns.getD i 0]) _ _ = _
    rw [← take_snoc_ ns 0 i hi]
    exact numbers_l ns hns hl d (i + 1) k (by omega) (by omega) (by omega)
theorem numbers_f (ns : List Int) (hns : ∀ n ∈ ns, 0 ≤ n ∧ n ≤ 1000) (hl : ns.length ≤ 10) (x : ByteArray) (hx : x.size ≤ 200) (hp : splB 32 x.data.toList = ns.map Go.Lib.itoa) (k : Nat) (hk : 300 ≤ k) (hk2 : k ≤ 800) : spec_l07Numbers.f k x ns.length = some (ns, true) := by
  unfold spec_l07Numbers.f
  have h := parts_f x 32 (by omega) k (by omega)
  rw [hp, List.map_map] at h
  rw [show (32 : Int) = (((32 : UInt8).toNat : Nat) : Int) from rfl, h, Option.bind_some, if_pos (by simp)]
  exact numbers_l ns hns hl ns.length 0 k (by omega) (by omega) (by omega)
theorem at_line (s : SU) (L : List ByteArray) (hL : L = (lsW s).map mkB) : rdOf ByteArray.empty L 0 = mkB (rlw s) ∧ rdOf ByteArray.empty L ((s.g.length : Int) + 1) = mkB (clw s) ∧ rdOf ByteArray.empty L ((s.g.length : Int) + 2) = mkB (upL s.ul s.us s.uw) ∧ rdOf ByteArray.empty L ((s.g.length : Int) + 3) = mkB (dnL s.dl s.ds s.dw) ∧
    ∀ n : Nat, n < s.g.length → rdOf ByteArray.empty L ((n + 1 : Nat) : Int) = mkB (glw (rd_T90 s.g n)) := by
  have e : ∀ k : Nat, k ≤ 2 → rdOf ByteArray.empty L ((s.g.length : Int) + ((k + 1 : Nat) : Int)) = mkB ([clw s, upL s.ul s.us s.uw, dnL s.dl s.ds s.dw].getD k []) := by
    intro k hk
    rw [rdOf, hL, lsW, show ((s.g.length : Int) + ((k + 1 : Nat) : Int)).toNat = (s.g.length + k) + 1 by omega, List.map_cons, List.map_append, List.getD_cons_succ]
    rw [List.getD, List.getElem?_append_right (by simp), List.length_map, List.length_map, show s.g.length + k - s.g.length = k by omega]
    rcases (show k = 0 ∨ k = 1 ∨ k = 2 by omega) with rfl | rfl | rfl <;> rfl
  refine ⟨by rw [hL]; rfl, e 0 (by omega), e 1 (by omega), e 2 (by omega), ?_⟩
  intro n hn
  rw [rdOf, Int.toNat_natCast, hL, lsW, List.map_cons, List.map_append, List.getD_cons_succ, List.getD, List.getElem?_append_left (by simp; exact hn)]
  simp [rd_T90, List.getD, List.getElem?_eq_getElem hn]
theorem after_rules (s : SU) (h : s.Good) : ∃ y, spec_l07After.f (mkB (rlw s)) ⟨#[114, 117, 108, 101, 115]⟩ = some (y, true) ∧ spec_l07Numbers.f 400 y 3 = some ([s.d, s.f, s.n], true) := by
  obtain ⟨⟨v1, v2⟩, ⟨v3, v4⟩, ⟨v5, v6⟩, _⟩ := h
  have a := itoa_small s.d v1 v2
  have b := itoa_small s.f v3 v4
  have c := itoa_small s.n v5 v6
  refine ⟨mkB (Go.Lib.itoa s.d ++ 32 :: (Go.Lib.itoa s.f ++ 32 :: Go.Lib.itoa s.n)), after_yes [114, 117, 108, 101, 115] _ (by decide) (by simp; omega), ?_⟩
  refine numbers_f [s.d, s.f, s.n] (by intro n hn; simp at hn; omega) (by simp) _ ?_ ?_ 400 (by omega) (by omega)
  · show (Go.Lib.itoa s.d ++ 32 :: (Go.Lib.itoa s.f ++ 32 :: Go.Lib.itoa s.n)).toArray.size ≤ _
    simp
    omega
  · show splB 32 (Go.Lib.itoa s.d ++ 32 :: (Go.Lib.itoa s.f ++ 32 :: Go.Lib.itoa s.n)) = _
    rw [splB_at 32 _ _ (itoa_no _ v1 32 (by decide)), splB_at 32 _ _ (itoa_no _ v3 32 (by decide)), splB_no 32 _ (itoa_no _ v5 32 (by decide))]
    rfl
theorem after_count (s : SU) (h : s.Good) : ∃ y, spec_l07After.f (mkB (clw s)) ⟨#[99, 111, 117, 110, 116]⟩ = some (y, true) ∧ spec_l07Numbers.f 400 y 2 = some ([s.mn, s.mx], true) := by
  obtain ⟨_, _, _, _, _, ⟨v7, v8⟩, ⟨v9, v10⟩, _⟩ := h
  have a := itoa_small s.mn v9 (by omega)
  have b := itoa_small s.mx v7 v8
  refine ⟨mkB (Go.Lib.itoa s.mn ++ 32 :: Go.Lib.itoa s.mx), after_yes [99, 111, 117, 110, 116] _ (by decide) (by simp; omega), ?_⟩
  refine numbers_f [s.mn, s.mx] (by intro n hn; simp at hn; omega) (by simp) _ ?_ ?_ 400 (by omega) (by omega)
  · show (Go.Lib.itoa s.mn ++ 32 :: Go.Lib.itoa s.mx).toArray.size ≤ _
    simp
    omega
  · show splB 32 (Go.Lib.itoa s.mn ++ 32 :: Go.Lib.itoa s.mx) = _
    rw [splB_at 32 _ _ (itoa_no _ v9 32 (by decide)), splB_no 32 _ (itoa_no _ v7 32 (by decide))]
    rfl
theorem after_up (l : List S118) (s w : Int) (h : sideB l s w = true) : spec_l07After.f (mkB (upL l s w)) ⟨#[117, 112]⟩ = some (slb l s w, true) :=
  after_yes [117, 112] (sl l s w) (by decide) (by have := sl_len l s w h; omega)
theorem after_down (l : List S118) (s w : Int) (h : sideB l s w = true) : spec_l07After.f (mkB (dnL l s w)) ⟨#[100, 111, 119, 110]⟩ = some (slb l s w, true) :=
  after_yes [100, 111, 119, 110] (sl l s w) (by decide) (by have := sl_len l s w h; omega)
theorem after_goal (g : S90) (h : goalB g = true) : spec_l07After.f (mkB (glw g)) ⟨#[103, 111, 97, 108]⟩ = some (glb g, true) :=
  after_yes [103, 111, 97, 108] (gl g) (by decide) (by have := gl_len g h; omega)
end Go.Proofs.YtcjeblikejoogaaGreatDoor.PFnExactOpLine
