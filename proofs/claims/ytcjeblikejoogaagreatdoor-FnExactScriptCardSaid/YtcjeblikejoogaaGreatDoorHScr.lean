/-
  The calls of Script, in the reference and in the program, end with the same plain value; the law FnExactScript ends with true and changes no older memory.
  Conditions: the hypotheses of each theorem; none beside.
-/
import Derived.Test.YtcjeblikejoogaaGreatDoorHLaw
import Derived.Test.YtcjeblikejoogaaGreatDoorPureOpsList
namespace Go.Proofs.YtcjeblikejoogaaGreatDoor.PFnExactOpLine
open Go.RowKit Go.Proofs.YtcjeblikejoogaaGreatDoorW.PrintWords Go.Proofs.YtcjeblikejoogaaGreatDoorW.PrintLast Go.Proofs.YtcjeblikejoogaaGreatDoorW.PrintMore
set_option linter.unusedVariables false
set_option linter.unusedSimpArgs false
attribute [local go_sem high] eqA39 eqA90 eqA118
open Go.Proofs.YtcjeblikejoogaaGreatDoor.Pure.OpsOf
theorem opLine_size {o : OP} {l : ByteArray} (h : opLine o = some l) : l.size ≤ 200 := by
  unfold opLine at h
  cases hl : lineOf o with
  | none => rw [hl] at h; cases h
  | some x =>
    rw [hl] at h
    by_cases hr : restB o = true
    · by_cases hx : x.length ≤ 200
      · simp only [hr, hx, if_true] at h
        cases h
        show x.toArray.size ≤ 200
        rw [List.size_toArray]
        exact hx
      · simp only [hr, hx, if_true, if_false] at h
        cases h
    · simp only [hr, if_false] at h
      cases h
def scr : List S49 → ByteArray → Option ByteArray
  | [], a => some a
  | y :: r, a => match opLine (opOf y) with
    | none => none
    | some l => if a.size + l.size + 1 ≤ 4000 then scr r ((a ++ l) ++ (⟨#[10]⟩ : ByteArray)) else none
def scr2 : List S49 → ByteArray → Option ByteArray
  | [], a => if a.size ≤ 4000 then some a else none
  | y :: r, a => match opLine (opOf y) with
    | none => none
    | some l => scr2 r (a ++ (l ++ (⟨#[10]⟩ : ByteArray)))
def script (l : List S49) : Option ByteArray := if l.length ≤ 120 then scr l ⟨#[]⟩ else none
theorem step_size (a l : ByteArray) : (a ++ (l ++ (⟨#[10]⟩ : ByteArray))).size = a.size + l.size + 1 := by
  rw [ByteArray.size_append, ByteArray.size_append]
  show a.size + (l.size + 1) = _
  omega
theorem step_same (a l : ByteArray) : a ++ (l ++ (⟨#[10]⟩ : ByteArray)) = (a ++ l) ++ (⟨#[10]⟩ : ByteArray) := ba_ext (by simp only [ba_data_append, List.append_assoc])
theorem scr2_big : ∀ (r : List S49) (a : ByteArray), 4000 < a.size → scr2 r a = none
  | [], a, h => by rw [scr2, if_neg (by omega)]
  | y :: r, a, h => by
    rw [scr2]
    cases opLine (opOf y) with
    | none => rfl
    | some l => exact scr2_big r _ (by rw [step_size]; omega)
theorem scr2_scr : ∀ (r : List S49) (a : ByteArray), a.size ≤ 4000 → scr2 r a = scr r a
  | [], a, h => by rw [scr2, if_pos h, scr]
  | y :: r, a, h => by
    rw [scr2, scr]
    cases opLine (opOf y) with
    | none => rfl
    | some l =>
      show scr2 r _ = if _ then _ else _
      by_cases hs : a.size + l.size + 1 ≤ 4000
      · rw [if_pos hs, scr2_scr r _ (by rw [step_size]; omega), step_same]
      · rw [if_neg hs, scr2_big r _ (by rw [step_size]; omega)]
theorem drop_T49 (xs : List S49) (n : Nat) (h : n < xs.length) : xs.drop n = rd_T49 xs (n : Int) :: xs.drop (n + 1) := drop_rd xs z49 n h
theorem scr_step {xs : List S49} {n : Nat} {a l : ByteArray} (h : n < xs.length) (hl : opLine (opOf (rd_T49 xs (n : Int))) = some l) (hs : a.size + l.size + 1 ≤ 4000) : scr (xs.drop n) a = scr (xs.drop (n + 1)) ((a ++ l) ++ (⟨#[10]⟩ : ByteArray)) := by
  rw [drop_T49 xs n h, scr, hl]
  exact if_pos hs
theorem scr_long {xs : List S49} {n : Nat} {a l : ByteArray} (h : n < xs.length) (hl : opLine (opOf (rd_T49 xs (n : Int))) = some l) (hs : ¬ a.size + l.size + 1 ≤ 4000) : scr (xs.drop n) a = none := by
  rw [drop_T49 xs n h, scr, hl]
  exact if_neg hs
theorem scr_no {xs : List S49} {n : Nat} {a : ByteArray} (h : n < xs.length) (hl : opLine (opOf (rd_T49 xs (n : Int))) = none) : scr (xs.drop n) a = none := by
  rw [drop_T49 xs n h, scr, hl]
theorem scr_end {xs : List S49} {n : Nat} {a : ByteArray} (h : xs.length ≤ n) : scr (xs.drop n) a = some a := by
  rw [List.drop_eq_nil_of_le h, scr]
theorem scr2_step {xs : List S49} {n : Nat} {a l : ByteArray} (h : n < xs.length) (hl : opLine (opOf (rd_T49 xs (n : Int))) = some l) : scr2 (xs.drop n) a = scr2 (xs.drop (n + 1)) (a ++ (l ++ (⟨#[10]⟩ : ByteArray))) := by
  rw [drop_T49 xs n h, scr2, hl]
theorem scr2_no {xs : List S49} {n : Nat} {a : ByteArray} (h : n < xs.length) (hl : opLine (opOf (rd_T49 xs (n : Int))) = none) : scr2 (xs.drop n) a = none := by
  rw [drop_T49 xs n h, scr2, hl]
theorem scr2_end {xs : List S49} {n : Nat} {a : ByteArray} (h : xs.length ≤ n) : scr2 (xs.drop n) a = if a.size ≤ 4000 then some a else none := by
  rw [List.drop_eq_nil_of_le h, scr2]
theorem el_T49 {w : World} {ad : Addr} {n : Nat} {xs : List S49} (h : Kd.C k49 w (some ad) n xs) (m : Nat) (h1 : m < n) : ∃ P G U D cp cg cu cd, (opOf (rd_T49 xs (m : Int))).Rd w P G U D cp cg cu cd ∧ w.cell? (ad.add (m * 16)) = some (.int .i64 (rd_T49 xs (m : Int)).f0) ∧ w.cell? ⟨(ad.add (m * 16)).block, (ad.add (m * 16)).off + 1, none⟩ = some (.int .i64 (rd_T49 xs (m : Int)).f1) ∧ w.cell? ⟨(ad.add (m * 16)).block, (ad.add (m * 16)).off + 2, none⟩ = some (.string (rd_T49 xs (m : Int)).f2) ∧ w.cell? ⟨(ad.add (m * 16)).block, (ad.add (m * 16)).off + 3, none⟩ = some (.slice P (rd_T49 xs (m : Int)).f3.length cp) ∧ w.cell? ⟨(ad.add (m * 16)).block, (ad.add (m * 16)).off + 4, none⟩ = some (.int .i64 (rd_T49 xs (m : Int)).f4.f0.f0) ∧ w.cell? ⟨(ad.add (m * 16)).block, (ad.add (m * 16)).off + 5, none⟩ = some (.int .i64 (rd_T49 xs (m : Int)).f4.f0.f1) ∧ w.cell? ⟨(ad.add (m * 16)).block, (ad.add (m * 16)).off + 6, none⟩ = some (.int .i64 (rd_T49 xs (m : Int)).f4.f0.f2) ∧ w.cell? ⟨(ad.add (m * 16)).block, (ad.add (m * 16)).off + 7, none⟩ = some (.slice G (rd_T49 xs (m : Int)).f4.f1.length cg) ∧ w.cell? ⟨(ad.add (m * 16)).block, (ad.add (m * 16)).off + 8, none⟩ = some (.slice U (rd_T49 xs (m : Int)).f4.f2.f0.f0.length cu) ∧ w.cell? ⟨(ad.add (m * 16)).block, (ad.add (m * 16)).off + 9, none⟩ = some (.int .i64 (rd_T49 xs (m : Int)).f4.f2.f0.f1) ∧ w.cell? ⟨(ad.add (m * 16)).block, (ad.add (m * 16)).off + 10, none⟩ = some (.int .i64 (rd_T49 xs (m : Int)).f4.f2.f0.f2) ∧ w.cell? ⟨(ad.add (m * 16)).block, (ad.add (m * 16)).off + 11, none⟩ = some (.slice D (rd_T49 xs (m : Int)).f4.f2.f1.f0.length cd) ∧ w.cell? ⟨(ad.add (m * 16)).block, (ad.add (m * 16)).off + 12, none⟩ = some (.int .i64 (rd_T49 xs (m : Int)).f4.f2.f1.f1) ∧ w.cell? ⟨(ad.add (m * 16)).block, (ad.add (m * 16)).off + 13, none⟩ = some (.int .i64 (rd_T49 xs (m : Int)).f4.f2.f1.f2) ∧ w.cell? ⟨(ad.add (m * 16)).block, (ad.add (m * 16)).off + 14, none⟩ = some (.int .i64 (rd_T49 xs (m : Int)).f4.f2.f2) ∧ w.cell? ⟨(ad.add (m * 16)).block, (ad.add (m * 16)).off + 15, none⟩ = some (.int .i64 (rd_T49 xs (m : Int)).f4.f2.f3) := by
  obtain ⟨ad', A3, c3, A7, c7, A8, c8, A11, c11, e, h0', h1', h2', h3', h4', h5', h6', h7', h8', h9', h10', h11', h12', h13', h14', h15', l3, q3, l7, q7, l8, q8, l11, q11⟩ := at_T49 h (m : Int) (by omega) (by omega)
  cases e
  rw [Int.toNat_natCast] at h0' h1' h2' h3' h4' h5' h6' h7' h8' h9' h10' h11' h12' h13' h14' h15'
  exact ⟨A3, A7, A8, A11, c3, c7, c8, c11, ⟨q3, l3, ⟨q7, l7, q8, l8, q11, l11⟩⟩, h0', h1', h2', h3', h4', h5', h6', h7', h8', h9', h10', h11', h12', h13', h14', h15'⟩
abbrev S49.agg (y : S49) (P G U D : Option Addr) (cp cg cu cd : Nat) : Value := .agg #[.int .i64 y.f0, .int .i64 y.f1, .string y.f2, .slice P y.f3.length cp, .int .i64 y.f4.f0.f0, .int .i64 y.f4.f0.f1, .int .i64 y.f4.f0.f2, .slice G y.f4.f1.length cg, .slice U y.f4.f2.f0.f0.length cu, .int .i64 y.f4.f2.f0.f1, .int .i64 y.f4.f2.f0.f2, .slice D y.f4.f2.f1.f0.length cd, .int .i64 y.f4.f2.f1.f1, .int .i64 y.f4.f2.f1.f2, .int .i64 y.f4.f2.f2, .int .i64 y.f4.f2.f3]
theorem spec_line (y : S49) (b : ByteArray) (ok : Bool) (P G U D : Option Addr) (cp cg cu cd : Nat) (w : World) (ho : (opOf y).Small) (h : ansV (opLine (opOf y)) = .tuple #[.string b, .bool ok]) (hR : (opOf y).Rd w P G U D cp cg cu cd) : Calls Tryz.prog 6 #[y.agg P G U D cp cg cu cd] w fun e w' => e = .returned (.tuple #[.string b, .bool ok]) ∧ Below w.heap.size w w' := by
  rw [← h]
  exact spec_OpLine.good (opOf y) P G U D cp cg cu cd w ho hR.s
theorem impl_line (y : S49) (b : ByteArray) (ok : Bool) (P G U D : Option Addr) (cp cg cu cd : Nat) (w : World) (hLd : Laid w) (ho : (opOf y).Small) (h : ansV (opLine (opOf y)) = .tuple #[.string b, .bool ok]) (hR : (opOf y).Rd w P G U D cp cg cu cd) : Calls Tryz.prog 8 #[y.agg P G U D cp cg cu cd] w fun e w' => e = .returned (.tuple #[.string b, .bool ok]) ∧ Below w.heap.size w w' := by
  rw [← h]
  exact impl_OpLine.good (opOf y) P G U D cp cg cu cd w hLd ho hR.s
set_option maxRecDepth 100000 in
set_option maxHeartbeats 16000000 in
theorem spec_Script.good (xs : List S49) (A : Option Addr) (c : Nat) (w : World) (hs : ∀ n : Nat, n < xs.length → (opOf (rd_T49 xs (n : Int))).Small) (hR : Kd.C k49 w A xs.length xs) : Calls Tryz.prog 11 #[.slice A xs.length c] w fun e w' => e = .returned (ansV (script xs)) ∧ Below w.heap.size w w' := by
  have hu49 := Tryz.underlying49
  have HR := Aside0.mk hR
  have HS := Aside0.mk hs
  clear hR hs
  have HB := Aside0.mk (Below.refl w.heap.size w)
  by_cases hl : xs.length ≤ 120
  rotate_left
  · have d1 : decide (120 < (xs.length : Int)) = true := decide_eq_true (by omega)
    have d2 : decide (120 < xs.length) = true := decide_eq_true (by omega)
    have hno : script xs = none := by rw [script, if_neg hl]
    clear hl
    go_enter Tryz.func11, Tryz.ntmps11
    go_wp2
    go_ret2
    exact ⟨by rw [hno]; rfl, HB.out⟩
  have d1 : decide (120 < (xs.length : Int)) = false := decide_eq_false (by omega)
  have d2 : decide (120 < xs.length) = false := decide_eq_false (by omega)
  have HT : Aside0 (script xs = scr (xs.drop 0) ⟨#[]⟩) := ⟨by rw [script, if_pos hl]; rfl⟩
  go_enter Tryz.func11, Tryz.ntmps11
  go_wp2
  go_loopg [4, 5] 200 (fun kq v4 v5 w' => ∃ (a : ByteArray) (n : Nat), v4 = .string a ∧ v5 = .int .i64 (n : Int) ∧ Aside0 (kq + n = 200 ∧ n ≤ xs.length) ∧ Aside0 (a.size ≤ 4000) ∧ Aside0 (script xs = scr (xs.drop n) a) ∧ Aside0 (Below w.heap.size w w'))
  case atStart => exact ⟨⟨#[]⟩, 0, rfl, rfl, ⟨by omega, by omega⟩, ⟨by decide⟩, HT, HB⟩
  case round =>
    clear HB HT
    obtain ⟨a, n, rfl, rfl, HK, HA, HT, HB⟩ := hrel
    cases gk with
    | zero => exact absurd HK.out.1 (by have := HK.out; omega)
    | succ k1 =>
      by_cases hlt : n < xs.length
      · have c3 : decide ((n : Int) < (xs.length : Int)) = true := decide_eq_true (by omega)
        have p1 : 0 ≤ (n : Int) := by omega
        have q1 : (n : Int) < (xs.length : Int) := by omega
        obtain ⟨ad, rfl⟩ : ∃ ad, A = some ad := by
          obtain ⟨ad, _, e, _⟩ := Kd.C_get HR.out z49 (n : Int) p1 q1
          exact ⟨ad, e⟩
        obtain ⟨P, G, U, D, cp, cg, cu, cd, hr, x0, x1, x2, x3, x4, x5, x6, x7, x8, x9, x10, x11, x12, x13, x14, x15⟩ := el_T49 HR.out n hlt
        have HO := Aside0.mk (hr.below HB.out)
        have HSn := Aside0.mk (HS.out n hlt)
        clear hr
        replace x0 := (HB.out.cell (World.block_lt_of_cell? w _ x0)).trans x0
        replace x1 := (HB.out.cell (World.block_lt_of_cell? w _ x1)).trans x1
        replace x2 := (HB.out.cell (World.block_lt_of_cell? w _ x2)).trans x2
        replace x3 := (HB.out.cell (World.block_lt_of_cell? w _ x3)).trans x3
        replace x4 := (HB.out.cell (World.block_lt_of_cell? w _ x4)).trans x4
        replace x5 := (HB.out.cell (World.block_lt_of_cell? w _ x5)).trans x5
        replace x6 := (HB.out.cell (World.block_lt_of_cell? w _ x6)).trans x6
        replace x7 := (HB.out.cell (World.block_lt_of_cell? w _ x7)).trans x7
        replace x8 := (HB.out.cell (World.block_lt_of_cell? w _ x8)).trans x8
        replace x9 := (HB.out.cell (World.block_lt_of_cell? w _ x9)).trans x9
        replace x10 := (HB.out.cell (World.block_lt_of_cell? w _ x10)).trans x10
        replace x11 := (HB.out.cell (World.block_lt_of_cell? w _ x11)).trans x11
        replace x12 := (HB.out.cell (World.block_lt_of_cell? w _ x12)).trans x12
        replace x13 := (HB.out.cell (World.block_lt_of_cell? w _ x13)).trans x13
        replace x14 := (HB.out.cell (World.block_lt_of_cell? w _ x14)).trans x14
        replace x15 := (HB.out.cell (World.block_lt_of_cell? w _ x15)).trans x15
        cases hq : opLine (opOf (rd_T49 xs (n : Int))) with
        | none =>
          have hno : script xs = none := HT.out.trans (scr_no hlt hq)
          have hv : ansV (opLine (opOf (rd_T49 xs (n : Int)))) = .tuple #[.string ⟨#[]⟩, .bool false] := by rw [hq]; rfl
          have HV := Aside0.mk hv
          clear hv hq
          go_wp2_with (first | (go_at_call 6; (with_reducible refine (spec_line _ _ _ _ _ _ _ _ _ _ _ _ HSn.out HV.out HO.out).mono ?_); rintro e w5 ⟨rfl, hb⟩; replace HB := Aside0.mk (below_step HB.out hb); clear hb))
          go_ret2
          exact ⟨by rw [hno]; rfl, HB.out⟩
        | some l =>
          have hls := opLine_size hq
          have ha := HA.out
          have hv : ansV (opLine (opOf (rd_T49 xs (n : Int)))) = .tuple #[.string l, .bool true] := by rw [hq]; rfl
          have HV := Aside0.mk hv
          have HQ := Aside0.mk hq
          clear hv hq
          have s1 : ¬ 9223372036854775807 < a.size + l.size := by omega
          have s2 : ¬ 9223372036854775807 < a.size + l.size + 1 := by omega
          by_cases h4 : a.size + l.size + 1 ≤ 4000
          · go_wp2_with (first | (go_at_call 6; (with_reducible refine (spec_line _ _ _ _ _ _ _ _ _ _ _ _ HSn.out HV.out HO.out).mono ?_); rintro e w5 ⟨rfl, hb⟩; replace HB := Aside0.mk (below_step HB.out hb); clear hb))
            go_roundg k1
            case measure => omega
            case rel => exact ⟨_, n + 1, rfl, rfl, ⟨by have := HK.out; omega, by omega⟩, ⟨by rw [ByteArray.size_append, ByteArray.size_append]; show a.size + l.size + 1 ≤ 4000; omega⟩, ⟨HT.out.trans (scr_step hlt HQ.out h4)⟩, HB⟩
          · have hno : script xs = none := HT.out.trans (scr_long hlt HQ.out h4)
            go_wp2_with (first | (go_at_call 6; (with_reducible refine (spec_line _ _ _ _ _ _ _ _ _ _ _ _ HSn.out HV.out HO.out).mono ?_); rintro e w5 ⟨rfl, hb⟩; replace HB := Aside0.mk (below_step HB.out hb); clear hb))
            go_ret2
            exact ⟨by rw [hno]; rfl, HB.out⟩
      · have c3 : decide ((n : Int) < (xs.length : Int)) = false := decide_eq_false (by omega)
        have hy : script xs = some a := HT.out.trans (scr_end (by omega))
        go_wp2
        go_ret2
        exact ⟨by rw [hy]; rfl, HB.out⟩
set_option maxRecDepth 100000 in
set_option maxHeartbeats 16000000 in
theorem impl_Script.good (xs : List S49) (A : Option Addr) (c : Nat) (w : World) (hs : ∀ n : Nat, n < xs.length → (opOf (rd_T49 xs (n : Int))).Small) (hLd : Laid w) (hR : Kd.C k49 w A xs.length xs) : Calls Tryz.prog 13 #[.slice A xs.length c] w fun e w' => e = .returned (ansV (script xs)) ∧ Below w.heap.size w w' := by
  have hu49 := Tryz.underlying49
  have HR := Aside0.mk hR
  have HS := Aside0.mk hs
  have HLd := Aside0.mk hLd
  clear hR hs hLd
  have HB := Aside0.mk (Below.refl w.heap.size w)
  by_cases hl : xs.length ≤ 120
  rotate_left
  · have d1 : decide (120 < (xs.length : Int)) = true := decide_eq_true (by omega)
    have d2 : decide (120 < xs.length) = true := decide_eq_true (by omega)
    have hno : script xs = none := by rw [script, if_neg hl]
    clear hl
    go_enter Tryz.func13, Tryz.ntmps13
    go_wp2
    go_ret2
    exact ⟨by rw [hno]; rfl, HB.out⟩
  have d1 : decide (120 < (xs.length : Int)) = false := decide_eq_false (by omega)
  have d2 : decide (120 < xs.length) = false := decide_eq_false (by omega)
  have HT : Aside0 (script xs = scr2 (xs.drop 0) ⟨#[]⟩) := ⟨by rw [script, if_pos hl, scr2_scr _ _ (by decide)]; rfl⟩
  go_enter Tryz.func13, Tryz.ntmps13
  go_wp2
  go_loopg [4, 14] 200 (fun kq v4 v14 w' => ∃ (a : ByteArray) (n : Nat), v4 = .string a ∧ v14 = .int .i64 (n : Int) ∧ Aside0 (kq + n = 200 ∧ n ≤ xs.length) ∧ Aside0 (a.size ≤ 201 * n) ∧ Aside0 (script xs = scr2 (xs.drop n) a) ∧ Aside0 (Below w.heap.size w w'))
  case atStart => exact ⟨⟨#[]⟩, 0, rfl, rfl, ⟨by omega, by omega⟩, ⟨by decide⟩, HT, HB⟩
  case round =>
    clear HB HT
    obtain ⟨a, n, rfl, rfl, HK, HA, HT, HB⟩ := hrel
    cases gk with
    | zero => exact absurd HK.out.1 (by have := HK.out; omega)
    | succ k1 =>
      by_cases hlt : n < xs.length
      · have c3 : decide ((n : Int) < (xs.length : Int)) = true := decide_eq_true (by omega)
        have p1 : 0 ≤ (n : Int) := by omega
        have q1 : (n : Int) < (xs.length : Int) := by omega
        obtain ⟨ad, rfl⟩ : ∃ ad, A = some ad := by
          obtain ⟨ad, _, e, _⟩ := Kd.C_get HR.out z49 (n : Int) p1 q1
          exact ⟨ad, e⟩
        obtain ⟨P, G, U, D, cp, cg, cu, cd, hr, x0, x1, x2, x3, x4, x5, x6, x7, x8, x9, x10, x11, x12, x13, x14, x15⟩ := el_T49 HR.out n hlt
        have HO := Aside0.mk (hr.below HB.out)
        have HSn := Aside0.mk (HS.out n hlt)
        clear hr
        replace x0 := (HB.out.cell (World.block_lt_of_cell? w _ x0)).trans x0
        replace x1 := (HB.out.cell (World.block_lt_of_cell? w _ x1)).trans x1
        replace x2 := (HB.out.cell (World.block_lt_of_cell? w _ x2)).trans x2
        replace x3 := (HB.out.cell (World.block_lt_of_cell? w _ x3)).trans x3
        replace x4 := (HB.out.cell (World.block_lt_of_cell? w _ x4)).trans x4
        replace x5 := (HB.out.cell (World.block_lt_of_cell? w _ x5)).trans x5
        replace x6 := (HB.out.cell (World.block_lt_of_cell? w _ x6)).trans x6
        replace x7 := (HB.out.cell (World.block_lt_of_cell? w _ x7)).trans x7
        replace x8 := (HB.out.cell (World.block_lt_of_cell? w _ x8)).trans x8
        replace x9 := (HB.out.cell (World.block_lt_of_cell? w _ x9)).trans x9
        replace x10 := (HB.out.cell (World.block_lt_of_cell? w _ x10)).trans x10
        replace x11 := (HB.out.cell (World.block_lt_of_cell? w _ x11)).trans x11
        replace x12 := (HB.out.cell (World.block_lt_of_cell? w _ x12)).trans x12
        replace x13 := (HB.out.cell (World.block_lt_of_cell? w _ x13)).trans x13
        replace x14 := (HB.out.cell (World.block_lt_of_cell? w _ x14)).trans x14
        replace x15 := (HB.out.cell (World.block_lt_of_cell? w _ x15)).trans x15
        cases hq : opLine (opOf (rd_T49 xs (n : Int))) with
        | none =>
          have hno : script xs = none := HT.out.trans (scr2_no hlt hq)
          have hv : ansV (opLine (opOf (rd_T49 xs (n : Int)))) = .tuple #[.string ⟨#[]⟩, .bool false] := by rw [hq]; rfl
          have HV := Aside0.mk hv
          clear hv hq
          go_wp2_with (first | (go_at_call 8; (with_reducible refine (impl_line _ _ _ _ _ _ _ _ _ _ _ _ ?ld HSn.out HV.out ?ho).mono ?_); (case ld => exact Laid.below (below_alloc HB.out _) HLd.out); (case ho => exact HO.out.below (below_alloc (Below.refl _ _) _)); rintro e w5 ⟨rfl, hb⟩; replace HB := Aside0.mk (below_step (below_alloc HB.out _) hb); clear hb))
          go_ret2
          exact ⟨by rw [hno]; rfl, HB.out⟩
        | some l =>
          have hls := opLine_size hq
          have ha := HA.out
          have hv : ansV (opLine (opOf (rd_T49 xs (n : Int)))) = .tuple #[.string l, .bool true] := by rw [hq]; rfl
          have HV := Aside0.mk hv
          have HQ := Aside0.mk hq
          clear hv hq
          have s1 : ¬ 9223372036854775807 < l.size + 1 := by omega
          have s2 : ¬ 9223372036854775807 < a.size + (l.size + 1) := by omega
          have s3 : ¬ 9223372036854775807 < a.size + l.size + 1 := by omega
          go_wp2_with (first | (go_at_call 8; (with_reducible refine (impl_line _ _ _ _ _ _ _ _ _ _ _ _ ?ld HSn.out HV.out ?ho).mono ?_); (case ld => exact Laid.below (below_alloc HB.out _) HLd.out); (case ho => exact HO.out.below (below_alloc (Below.refl _ _) _)); rintro e w5 ⟨rfl, hb⟩; replace HB := Aside0.mk (below_step (below_alloc HB.out _) hb); clear hb))
          go_roundg k1
          case measure => omega
          case rel => exact ⟨_, n + 1, rfl, rfl, ⟨by have := HK.out; omega, by omega⟩, ⟨by rw [step_size]; omega⟩, ⟨HT.out.trans (scr2_step hlt HQ.out)⟩, HB⟩
      · have c3 : decide ((n : Int) < (xs.length : Int)) = false := decide_eq_false (by omega)
        have hsc := HT.out.trans (scr2_end (by omega))
        have ha := HA.out
        have hn := HK.out.2
        by_cases h4 : a.size ≤ 4000
        · have hy : script xs = some a := by rw [hsc, if_pos h4]
          have e1 : decide (4000 < (a.size : Int)) = false := decide_eq_false (by omega)
          have e2 : decide (4000 < a.size) = false := decide_eq_false (by omega)
          go_wp2
          go_ret2
          exact ⟨by rw [hy]; rfl, HB.out⟩
        · have hy : script xs = none := by rw [hsc, if_neg h4]
          have e1 : decide (4000 < (a.size : Int)) = true := decide_eq_true (by omega)
          have e2 : decide (4000 < a.size) = true := decide_eq_true (by omega)
          go_wp2
          go_ret2
          exact ⟨by rw [hy]; rfl, HB.out⟩
open Go.Proofs.YtcjeblikejoogaaGreatDoor.Pure.OpsOf
theorem szS_calls (l : List S34) (hm : l.length ≤ maxLen) (hx : ∀ x ∈ l, OkOp x) : ∃ t : Int, (0 ≤ t → l.length ≤ 1048576 ∧ ∀ x ∈ l, SmallOp x) ∧ ∀ (A : Option Addr) (c : Nat) (w : World), Kd.C k34 w A l.length l → l.length ≤ c → Calls Tryz.prog 10 #[.slice A l.length c, .int .i64 1048576] w fun e w' => e = .returned (.int .i64 t) ∧ Below w.heap.size w w' := by
  obtain ⟨t, ht, h2⟩ := szOpS_ev l hm hx
  obtain ⟨k, hk⟩ := Ev.rounds ht
  exact ⟨t, h2, fun A c w hC hc => laws_szOpS.calls k A c l 1048576 t w hC hc hk⟩
theorem toS_calls (l : List S34) (hl : l.length ≤ 1048576) (hz : ∀ x ∈ l, SmallOp x) (A : Option Addr) (c : Nat) (w : World) (hC : Kd.C k34 w A l.length l) (hc : l.length ≤ c) : Calls Tryz.prog 12 #[.slice A l.length c] w fun e w' => ∃ (A1 : Option Addr) (c1 : Nat), e = .returned (.slice A1 (l.map cvOp).length c1) ∧ Kd.C k49 w' A1 (l.map cvOp).length (l.map cvOp) ∧ (l.map cvOp).length ≤ c1 ∧ Below w.heap.size w w' := by
  obtain ⟨k, hk⟩ := Ev.rounds (toOpS_ev l hl hz)
  refine (laws_toOpS.calls k A c l (l.map cvOp) w hC hc hk).mono ?_
  rintro e w' ⟨v, rfl, hs, hb⟩
  obtain ⟨A1, c1, rfl, h2, h3⟩ := Kd.R_reads (Kd.S_R hs)
  exact ⟨A1, c1, rfl, h3, h2, hb⟩
theorem eqS_calls (ys : List S49) (hl : ys.length ≤ 1048576) (hz : ∀ y ∈ ys, ShortOp y) (A A1 : Option Addr) (c c1 : Nat) (w : World) (hC : Kd.C k49 w A ys.length ys) (hc : ys.length ≤ c) (hC1 : Kd.C k49 w A1 ys.length ys) (hc1 : ys.length ≤ c1) : Calls Tryz.prog 14 #[.slice A ys.length c, .slice A1 ys.length c1] w fun e w' => e = .returned (.bool true) ∧ Below w.heap.size w w' := by
  obtain ⟨k, hk⟩ := Ev.rounds (eqOpS_ev ys hl hz)
  exact laws_eqOpS.calls k A c ys A1 c1 ys true w hC hc hC1 hc1 hk
theorem smallS_of (l : List S34) (hx : ∀ x ∈ l, OkOp x) (hz : ∀ x ∈ l, SmallOp x) (n : Nat) (hn : n < (l.map cvOp).length) : (opOf (rd_T49 (l.map cvOp) (n : Int))).Small := by
  have hn' : n < l.length := by simpa using hn
  have e : rd_T49 (l.map cvOp) (n : Int) = cvOp (l.getD n z34) := cvOp_get l n hn'
  have hm : l.getD n z34 ∈ l := by
    rw [show l.getD n z34 = l[n] by simp [List.getD, hn']]
    exact List.getElem_mem hn'
  rw [e]
  exact small_of _ (hx _ hm) (hz _ hm)
set_option maxRecDepth 100000 in
set_option maxHeartbeats 16000000 in
theorem laws_Script.good (l : List S34) (A : Option Addr) (c : Nat) (w : World) (hLd : Laid w) (hm : l.length ≤ maxLen) (hx : ∀ x ∈ l, OkOp x) (hC : Kd.C k34 w A l.length l) (hc : l.length ≤ c) : Calls Tryz.prog 4 #[.slice A l.length c] w fun e w' => e = .returned (.bool true) ∧ Below w.heap.size w w' := by
  obtain ⟨t, hsm, ht⟩ := szS_calls l hm hx
  have HT := Aside0.mk ht
  have HC := Aside0.mk hC
  have HCC := Aside0.mk hc
  have HLd := Aside0.mk hLd
  clear ht hC hc hLd hm
  have HB := Aside0.mk (Below.refl w.heap.size w)
  by_cases h0 : t < 0
  · have d0 : decide (t < 0) = true := decide_eq_true h0
    clear hsm hx
    go_enter Tryz.func4, Tryz.ntmps4
    go_wp2_with (first | (go_at_call 10; (with_reducible refine (HT.out _ _ _ HC.out HCC.out).mono ?_); rintro e w5 ⟨rfl, hb⟩; replace HB := Aside0.mk (below_step HB.out hb); clear hb))
    go_ret
    exact ⟨rfl, HB.out⟩
  have d0 : decide (t < 0) = false := decide_eq_false h0
  obtain ⟨hl, hz⟩ := hsm (by omega)
  have H12 : Aside0 (∀ (w : World), Kd.C k34 w A l.length l → Calls Tryz.prog 12 #[.slice A l.length c] w fun e w' => ∃ (A1 : Option Addr) (c1 : Nat), e = .returned (.slice A1 (l.map cvOp).length c1) ∧ Kd.C k49 w' A1 (l.map cvOp).length (l.map cvOp) ∧ (l.map cvOp).length ≤ c1 ∧ Below w.heap.size w w') := ⟨fun w h => toS_calls l hl hz A c w h HCC.out⟩
  have HSm := Aside0.mk (smallS_of l hx hz)
  have HSh := Aside0.mk (shortAll l hz)
  have hyl : (l.map cvOp).length ≤ 1048576 := by simpa using hl
  have HYL := Aside0.mk hyl
  clear hsm hx hz hyl
  generalize l.map cvOp = ys at H12 HSm HSh HYL
  obtain ⟨b, ok, hans⟩ := ansV_is (script ys)
  have H11 : Aside0 (∀ (A1 : Option Addr) (c1 : Nat) (w : World), Kd.C k49 w A1 ys.length ys → Calls Tryz.prog 11 #[.slice A1 ys.length c1] w fun e w' => e = .returned (.tuple #[.string b, .bool ok]) ∧ Below w.heap.size w w') := ⟨fun A1 c1 w h => by rw [← hans]; exact spec_Script.good ys A1 c1 w HSm.out h⟩
  have H13 : Aside0 (∀ (A1 : Option Addr) (c1 : Nat) (w : World), Laid w → Kd.C k49 w A1 ys.length ys → Calls Tryz.prog 13 #[.slice A1 ys.length c1] w fun e w' => e = .returned (.tuple #[.string b, .bool ok]) ∧ Below w.heap.size w w') := ⟨fun A1 c1 w hL h => by rw [← hans]; exact impl_Script.good ys A1 c1 w HSm.out hL h⟩
  clear hans hl
  go_enter Tryz.func4, Tryz.ntmps4
  go_upto_region 5 with (first | (go_at_call 10; (with_reducible refine (HT.out _ _ _ HC.out HCC.out).mono ?_); rintro e w5 ⟨rfl, hb⟩; replace HB := Aside0.mk (below_step HB.out hb); clear hb))
  go_upto_region 6 with (first | (go_at_call 12; (with_reducible refine (H12.out _ (Kd.C_below HC.out HB.out)).mono ?_); rintro e w6 ⟨A6, c6, rfl, h6, l6, hb⟩; have HY6 := Aside0.mk h6; replace HB := Aside0.mk (below_step HB.out hb); clear hb h6 l6) | (go_at_call 11; (with_reducible refine (H11.out _ _ _ HY6.out).mono ?_); rintro e w7 ⟨rfl, hb⟩; replace HB := Aside0.mk (below_step HB.out hb); clear hb HY6))
  go_upto_region 7 with (first | (go_at_call 12; (with_reducible refine (H12.out _ (Kd.C_below HC.out HB.out)).mono ?_); rintro e w8 ⟨A8, c8, rfl, h8, l8, hb⟩; have HY8 := Aside0.mk h8; have HL8 := Aside0.mk l8; replace HB := Aside0.mk (below_step HB.out hb); clear hb h8 l8))
  go_upto_region 8 with (first | (go_at_call 13; (with_reducible refine (H13.out _ _ _ (Laid.below HB.out HLd.out) HY8.out).mono ?_); rintro e w9 ⟨rfl, hb⟩; replace HY8 := Aside0.mk (Kd.C_below HY8.out hb); replace HB := Aside0.mk (below_step HB.out hb); clear hb))
  go_upto_region 10 with (fail)
  go_wp2_with (first | (go_at_call 12; (with_reducible refine (H12.out _ (Kd.C_below HC.out HB.out)).mono ?_); rintro e w10 ⟨A10, c10, rfl, h10, l10, hb⟩; have HY10 := Aside0.mk h10; have HL10 := Aside0.mk l10; replace HY8 := Aside0.mk (Kd.C_below HY8.out hb); replace HB := Aside0.mk (below_step HB.out hb); clear hb h10 l10) | (go_at_call 14; (with_reducible refine (eqS_calls ys HYL.out HSh.out _ _ _ _ _ HY8.out HL8.out HY10.out HL10.out).mono ?_); rintro e w11 ⟨rfl, hb⟩; replace HB := Aside0.mk (below_step HB.out hb); clear hb))
  go_ret
  exact ⟨rfl, HB.out⟩
end Go.Proofs.YtcjeblikejoogaaGreatDoor.PFnExactOpLine
