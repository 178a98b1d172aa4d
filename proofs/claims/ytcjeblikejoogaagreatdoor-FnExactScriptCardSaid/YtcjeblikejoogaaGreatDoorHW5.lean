/-
  The reference's l10Parse, on the lines that OpLine makes, ends with the number told and changes no older memory.
  Conditions: the hypotheses of each theorem; none beside.
-/
import Derived.Test.YtcjeblikejoogaaGreatDoorHW4
namespace Go.Proofs.YtcjeblikejoogaaGreatDoor.PFnExactOpLine
open Go.RowKit Go.Proofs.YtcjeblikejoogaaGreatDoorW.PrintWords Go.Proofs.YtcjeblikejoogaaGreatDoorW.PrintLast Go.Proofs.YtcjeblikejoogaaGreatDoorW.PrintMore
set_option linter.unusedVariables false
set_option linter.unusedSimpArgs false
attribute [local go_sem high] eqA39 eqA90 eqA118
def vbs : List ByteArray := [⟨#[116, 105, 99, 107]⟩, ⟨#[104, 97, 110, 100, 115]⟩, ⟨#[102, 97, 117, 108, 116, 115]⟩]
theorem vbs_f : spec_l10Verbs.f = some vbs := rfl
theorem kinds_f : spec_l10Kinds.f = some [0, 4, 5] := rfl
def zeroOP (k a : Int) (t : ByteArray) (s : SU) : OP := ⟨k, a, t, [], s⟩
set_option maxRecDepth 100000 in
set_option maxHeartbeats 16000000 in
theorem parse_num (line y : ByteArray) (v0 : Nat) (hv : v0 < 3) (x : Int) (fine : Bool) (h1 : (line.toList == [114, 101, 115, 116, 97, 114, 116]) = false) (h2 : (line.toList == [108, 111, 111, 107]) = false) (hA : spec_l07After.f line (rdOf ByteArray.empty vbs v0) = some (y, true)) (hN : ∀ j : Nat, j < v0 → spec_l07After.f line (rdOf ByteArray.empty vbs j) = some (⟨#[]⟩, false)) (hr : spec_l01Read.f 200 y = some (x, fine)) (w : World) :
    Calls Tryz.prog 23 #[.string line] w fun e w' => ∃ (o : OP) (P G U D : Option Addr) (cp cg cu cd : Nat), e = .returned (.tuple #[o.agg P G U D cp cg cu cd, .bool fine]) ∧ (fine = true → o.a = x) ∧ Below w.heap.size w w' := by
  have hu49 := Tryz.underlying49
  have hu47 := Tryz.underlying47
  have hu65 := Tryz.underlying65
  have hu63 := Tryz.underlying63
  have V := Aside0.mk vbs_f
  have K := Aside0.mk kinds_f
  have A := Aside0.mk hA
  have N := Aside0.mk hN
  have R := Aside0.mk hr
  clear hA hN hr
  go_enter Tryz.func23, Tryz.ntmps23
  go_wp2
  go_loopg [5] (v0 + 1) (fun kq v5 w' => ∃ n : Nat, v5 = .int .i64 (n : Int) ∧ Aside0 (kq + n = v0 + 1 ∧ n ≤ v0) ∧ Aside0 (w'.heap[w.heap.size]? = some (.cells #[.int .i64 0, .int .i64 0, .string ⟨#[]⟩, .slice none 0 0, .int .i64 0, .int .i64 0, .int .i64 0, .slice none 0 0, .slice none 0 0, .int .i64 0, .int .i64 0, .slice none 0 0, .int .i64 0, .int .i64 0, .int .i64 0, .int .i64 0] 49 (0, 0))) ∧ Aside0 (w'.heap[w.heap.size + 1]? = some (.cells #[.int .i64 0, .int .i64 0, .string ⟨#[]⟩, .slice none 0 0, .int .i64 0, .int .i64 0, .int .i64 0, .slice none 0 0, .slice none 0 0, .int .i64 0, .int .i64 0, .slice none 0 0, .int .i64 0, .int .i64 0, .int .i64 0, .int .i64 0] 49 (0, 0))) ∧ Aside0 (Below w.heap.size w w'))
  case atStart => exact ⟨0, rfl, ⟨by omega, by omega⟩, ⟨blk_alloc (heap_alloc_new _ _) _⟩, ⟨new2_ _ _ _⟩, ⟨below_alloc (below_alloc (Below.refl _ _) _) _⟩⟩
  case round =>
    obtain ⟨n, rfl, HK, BK2, BK4, HB⟩ := hrel
    have hk := HK.out.2
    cases gk with
    | zero => exact absurd HK.out.1 (by omega)
    | succ k1 =>
      by_cases hlt : n < v0
      · have AN := Aside0.mk (N.out n hlt)
        have hnl : n < vbs.length := by show n < 3; omega
        have d1 : decide ((n : Int) < 3) = true := decide_eq_true (by omega)
        go_wp2_with (first | (go_at_call 19; (with_reducible refine (spec_l10Verbs.calls _ _ V.out).mono ?_); rintro e w5 ⟨vv, rfl, ho, hb⟩; replace BK2 := Aside0.mk (blk_below BK2.out hb); replace BK4 := Aside0.mk (blk_below BK4.out hb); replace HB := Aside0.mk (below_step HB.out hb); obtain ⟨g5, c5, e5, _, _⟩ := R_open ho (by decide); subst e5; have hx := (Kd.R_cell ByteArray.empty ho (n : Int) (by omega) (by show (n : Int) < 3; omega)).1; rw [Int.toNat_natCast] at hx; clear ho hb) | (go_at_call 42; (with_reducible refine (spec_l07After.calls _ _ _ _ _ AN.out).mono ?_); rintro e w' ⟨rfl, ⟨nd, rfl⟩⟩))
        go_roundg k1
        case measure => omega
        case rel => exact ⟨n + 1, rfl, ⟨by have := HK.out; omega, by omega⟩, ⟨blk_drewN BK2.out _⟩, ⟨blk_drewN BK4.out _⟩, ⟨pw_below_drewN HB.out _⟩⟩
      · obtain rfl : n = v0 := by omega
        have d1 : decide ((n : Int) < 3) = true := decide_eq_true (by omega)
        cases fine with
        | false =>
          go_wp2_with (first | (go_at_call 19; (with_reducible refine (spec_l10Verbs.calls _ _ V.out).mono ?_); rintro e w5 ⟨vv, rfl, ho, hb⟩; replace BK2 := Aside0.mk (blk_below BK2.out hb); replace BK4 := Aside0.mk (blk_below BK4.out hb); replace HB := Aside0.mk (below_step HB.out hb); obtain ⟨g5, c5, e5, _, _⟩ := R_open ho (by decide); subst e5; have hx := (Kd.R_cell ByteArray.empty ho (n : Int) (by omega) (by show (n : Int) < 3; omega)).1; rw [Int.toNat_natCast] at hx; clear ho hb) | (go_at_call 42; (with_reducible refine (spec_l07After.calls _ _ _ _ _ A.out).mono ?_); rintro e w' ⟨rfl, ⟨nd, rfl⟩⟩) | (go_at_call 43; (with_reducible refine (spec_l01Read.calls _ _ _ _ _ R.out).mono ?_); rintro e w6 ⟨rfl, hb⟩; replace BK2 := Aside0.mk (blk_below (blk_drewN BK2.out _) hb); replace BK4 := Aside0.mk (blk_below (blk_drewN BK4.out _) hb); replace HB := Aside0.mk (below_step (pw_below_drewN HB.out _) hb); clear hb; obtain ⟨⟨c2z0, c2f0⟩, ⟨c2z1, c2f1⟩, ⟨c2z2, c2f2⟩, ⟨c2z3, c2f3⟩, ⟨c2z4, c2f4⟩, ⟨c2z5, c2f5⟩, ⟨c2z6, c2f6⟩, ⟨c2z7, c2f7⟩, ⟨c2z8, c2f8⟩, ⟨c2z9, c2f9⟩, ⟨c2z10, c2f10⟩, ⟨c2z11, c2f11⟩, ⟨c2z12, c2f12⟩, ⟨c2z13, c2f13⟩, ⟨c2z14, c2f14⟩, ⟨c2z15, c2f15⟩⟩ := bc16_ BK2; obtain ⟨⟨c4z0, c4f0⟩, ⟨c4z1, c4f1⟩, ⟨c4z2, c4f2⟩, ⟨c4z3, c4f3⟩, ⟨c4z4, c4f4⟩, ⟨c4z5, c4f5⟩, ⟨c4z6, c4f6⟩, ⟨c4z7, c4f7⟩, ⟨c4z8, c4f8⟩, ⟨c4z9, c4f9⟩, ⟨c4z10, c4f10⟩, ⟨c4z11, c4f11⟩, ⟨c4z12, c4f12⟩, ⟨c4z13, c4f13⟩, ⟨c4z14, c4f14⟩, ⟨c4z15, c4f15⟩⟩ := bc16_ BK4))
          refine bodyPost_ret (results_ct rfl _ _ w.heap.size 49 #[.int .i64 0, .int .i64 0, .string ⟨#[]⟩, .slice none 0 0, .int .i64 0, .int .i64 0, .int .i64 0, .slice none 0 0, .slice none 0 0, .int .i64 0, .int .i64 0, .slice none 0 0, .int .i64 0, .int .i64 0, .int .i64 0, .int .i64 0] (0, 0) _ rfl (bp_ BK2) Tryz.underlying49 rfl (by kernel_rfl)) rfl ?_
          exact ⟨zeroOP 0 0 ⟨#[]⟩ zeroSU, none, none, none, none, 0, 0, 0, 0, rfl, fun h => absurd h (by simp), by repeat (first | (with_reducible exact HB.out) | (with_reducible refine below_set ?_ (Nat.le_refl _)))⟩
        | true =>
          go_wp2_with (first | (go_at_call 19; (with_reducible refine (spec_l10Verbs.calls _ _ V.out).mono ?_); rintro e w5 ⟨vv, rfl, ho, hb⟩; replace BK2 := Aside0.mk (blk_below BK2.out hb); replace BK4 := Aside0.mk (blk_below BK4.out hb); replace HB := Aside0.mk (below_step HB.out hb); obtain ⟨g5, c5, e5, _, _⟩ := R_open ho (by decide); subst e5; have hx := (Kd.R_cell ByteArray.empty ho (n : Int) (by omega) (by show (n : Int) < 3; omega)).1; rw [Int.toNat_natCast] at hx; clear ho hb) | (go_at_call 42; (with_reducible refine (spec_l07After.calls _ _ _ _ _ A.out).mono ?_); rintro e w' ⟨rfl, ⟨nd, rfl⟩⟩) | (go_at_call 43; (with_reducible refine (spec_l01Read.calls _ _ _ _ _ R.out).mono ?_); rintro e w6 ⟨rfl, hb⟩; replace BK2 := Aside0.mk (blk_below (blk_drewN BK2.out _) hb); replace BK4 := Aside0.mk (blk_below (blk_drewN BK4.out _) hb); replace HB := Aside0.mk (below_step (pw_below_drewN HB.out _) hb); clear hb) | (go_at_call 18; (with_reducible refine (spec_l10Kinds.calls _ _ K.out).mono ?_); rintro e w7 ⟨vv, rfl, ho, hb⟩; replace BK2 := Aside0.mk (blk_below BK2.out hb); replace BK4 := Aside0.mk (blk_below BK4.out hb); replace HB := Aside0.mk (below_step HB.out hb); obtain ⟨g7, c7, e7, _, _⟩ := R_open ho (by decide); subst e7; have hy := (Kd.R_cell (0 : Int) ho (n : Int) (by omega) (by show (n : Int) < 3; omega)).1; rw [Int.toNat_natCast] at hy; clear ho hb; have hkl : n < ([0, 4, 5] : List Int).length := hv; obtain ⟨⟨c2z0, c2f0⟩, ⟨c2z1, c2f1⟩, ⟨c2z2, c2f2⟩, ⟨c2z3, c2f3⟩, ⟨c2z4, c2f4⟩, ⟨c2z5, c2f5⟩, ⟨c2z6, c2f6⟩, ⟨c2z7, c2f7⟩, ⟨c2z8, c2f8⟩, ⟨c2z9, c2f9⟩, ⟨c2z10, c2f10⟩, ⟨c2z11, c2f11⟩, ⟨c2z12, c2f12⟩, ⟨c2z13, c2f13⟩, ⟨c2z14, c2f14⟩, ⟨c2z15, c2f15⟩⟩ := bc16_ BK2; obtain ⟨⟨c4z0, c4f0⟩, ⟨c4z1, c4f1⟩, ⟨c4z2, c4f2⟩, ⟨c4z3, c4f3⟩, ⟨c4z4, c4f4⟩, ⟨c4z5, c4f5⟩, ⟨c4z6, c4f6⟩, ⟨c4z7, c4f7⟩, ⟨c4z8, c4f8⟩, ⟨c4z9, c4f9⟩, ⟨c4z10, c4f10⟩, ⟨c4z11, c4f11⟩, ⟨c4z12, c4f12⟩, ⟨c4z13, c4f13⟩, ⟨c4z14, c4f14⟩, ⟨c4z15, c4f15⟩⟩ := bc16_ BK4))
          refine bodyPost_ret (results_ct rfl _ _ w.heap.size 49 #[.int .i64 (rdOf 0 [0, 4, 5] (n : Int)), .int .i64 x, .string ⟨#[]⟩, .slice none 0 0, .int .i64 0, .int .i64 0, .int .i64 0, .slice none 0 0, .slice none 0 0, .int .i64 0, .int .i64 0, .slice none 0 0, .int .i64 0, .int .i64 0, .int .i64 0, .int .i64 0] (0, 0) _ rfl (bp_ BK2) Tryz.underlying49 rfl (by kernel_rfl)) rfl ?_
          exact ⟨zeroOP (rdOf 0 [0, 4, 5] (n : Int)) x ⟨#[]⟩ zeroSU, ⟨none, none, none, none, 0, 0, 0, 0, rfl⟩, rfl, by repeat (first | (with_reducible exact HB.out) | (with_reducible refine below_set ?_ (Nat.le_refl _)))⟩
set_option maxRecDepth 100000 in
set_option maxHeartbeats 16000000 in
theorem parse_word (line : ByteArray) (hl : (line.toList == [114, 101, 115, 116, 97, 114, 116]) = true ∨ ((line.toList == [114, 101, 115, 116, 97, 114, 116]) = false ∧ (line.toList == [108, 111, 111, 107]) = true)) (w : World) :
    Calls Tryz.prog 23 #[.string line] w fun e w' => ∃ (o : OP) (P G U D : Option Addr) (cp cg cu cd : Nat), e = .returned (.tuple #[o.agg P G U D cp cg cu cd, .bool true]) ∧ o.a = 0 ∧ Below w.heap.size w w' := by
  have hu49 := Tryz.underlying49
  have hu47 := Tryz.underlying47
  go_enter Tryz.func23, Tryz.ntmps23
  go_upto_region 2 with (fail)
  have BK2 : Aside0 (((w.alloc (.cells #[.int .i64 0, .int .i64 0, .string ⟨#[]⟩, .slice none 0 0, .int .i64 0, .int .i64 0, .int .i64 0, .slice none 0 0, .slice none 0 0, .int .i64 0, .int .i64 0, .slice none 0 0, .int .i64 0, .int .i64 0, .int .i64 0, .int .i64 0] 49 (0, 0))).alloc (.cells #[.int .i64 0, .int .i64 0, .string ⟨#[]⟩, .slice none 0 0, .int .i64 0, .int .i64 0, .int .i64 0, .slice none 0 0, .slice none 0 0, .int .i64 0, .int .i64 0, .slice none 0 0, .int .i64 0, .int .i64 0, .int .i64 0, .int .i64 0] 49 (0, 0))).heap[w.heap.size]? = some (.cells #[.int .i64 0, .int .i64 0, .string ⟨#[]⟩, .slice none 0 0, .int .i64 0, .int .i64 0, .int .i64 0, .slice none 0 0, .slice none 0 0, .int .i64 0, .int .i64 0, .slice none 0 0, .int .i64 0, .int .i64 0, .int .i64 0, .int .i64 0] 49 (0, 0))) := ⟨blk_alloc (heap_alloc_new _ _) _⟩
  have HB : Aside0 (Below w.heap.size w ((w.alloc (.cells #[.int .i64 0, .int .i64 0, .string ⟨#[]⟩, .slice none 0 0, .int .i64 0, .int .i64 0, .int .i64 0, .slice none 0 0, .slice none 0 0, .int .i64 0, .int .i64 0, .slice none 0 0, .int .i64 0, .int .i64 0, .int .i64 0, .int .i64 0] 49 (0, 0))).alloc (.cells #[.int .i64 0, .int .i64 0, .string ⟨#[]⟩, .slice none 0 0, .int .i64 0, .int .i64 0, .int .i64 0, .slice none 0 0, .slice none 0 0, .int .i64 0, .int .i64 0, .slice none 0 0, .int .i64 0, .int .i64 0, .int .i64 0, .int .i64 0] 49 (0, 0)))) := ⟨below_alloc (below_alloc (Below.refl _ _) _) _⟩
  generalize ((w.alloc (.cells #[.int .i64 0, .int .i64 0, .string ⟨#[]⟩, .slice none 0 0, .int .i64 0, .int .i64 0, .int .i64 0, .slice none 0 0, .slice none 0 0, .int .i64 0, .int .i64 0, .slice none 0 0, .int .i64 0, .int .i64 0, .int .i64 0, .int .i64 0] 49 (0, 0))).alloc (.cells #[.int .i64 0, .int .i64 0, .string ⟨#[]⟩, .slice none 0 0, .int .i64 0, .int .i64 0, .int .i64 0, .slice none 0 0, .slice none 0 0, .int .i64 0, .int .i64 0, .slice none 0 0, .int .i64 0, .int .i64 0, .int .i64 0, .int .i64 0] 49 (0, 0))) = w1 at BK2 HB ⊢
  obtain ⟨⟨c2z0, c2f0⟩, ⟨c2z1, c2f1⟩, ⟨c2z2, c2f2⟩, ⟨c2z3, c2f3⟩, ⟨c2z4, c2f4⟩, ⟨c2z5, c2f5⟩, ⟨c2z6, c2f6⟩, ⟨c2z7, c2f7⟩, ⟨c2z8, c2f8⟩, ⟨c2z9, c2f9⟩, ⟨c2z10, c2f10⟩, ⟨c2z11, c2f11⟩, ⟨c2z12, c2f12⟩, ⟨c2z13, c2f13⟩, ⟨c2z14, c2f14⟩, ⟨c2z15, c2f15⟩⟩ := bc16_ BK2
  rcases hl with h1 | ⟨h1, h2⟩
  · go_wp2
    refine bodyPost_ret (results_ct rfl _ _ w.heap.size 49 #[.int .i64 6, .int .i64 0, .string ⟨#[]⟩, .slice none 0 0, .int .i64 0, .int .i64 0, .int .i64 0, .slice none 0 0, .slice none 0 0, .int .i64 0, .int .i64 0, .slice none 0 0, .int .i64 0, .int .i64 0, .int .i64 0, .int .i64 0] (0, 0) _ rfl (bp_ BK2) Tryz.underlying49 rfl (by kernel_rfl)) rfl ?_
    exact ⟨zeroOP 6 0 ⟨#[]⟩ zeroSU, none, none, none, none, 0, 0, 0, 0, rfl, rfl, by repeat (first | (with_reducible exact HB.out) | (with_reducible refine below_set ?_ (Nat.le_refl _)))⟩
  · go_wp2
    refine bodyPost_ret (results_ct rfl _ _ w.heap.size 49 #[.int .i64 7, .int .i64 0, .string ⟨#[]⟩, .slice none 0 0, .int .i64 0, .int .i64 0, .int .i64 0, .slice none 0 0, .slice none 0 0, .int .i64 0, .int .i64 0, .slice none 0 0, .int .i64 0, .int .i64 0, .int .i64 0, .int .i64 0] (0, 0) _ rfl (bp_ BK2) Tryz.underlying49 rfl (by kernel_rfl)) rfl ?_
    exact ⟨zeroOP 7 0 ⟨#[]⟩ zeroSU, none, none, none, none, 0, 0, 0, 0, rfl, rfl, by repeat (first | (with_reducible exact HB.out) | (with_reducible refine below_set ?_ (Nat.le_refl _)))⟩
set_option maxRecDepth 100000 in
set_option maxHeartbeats 16000000 in
theorem parse_txt (line : ByteArray) (h1 : (line.toList == [114, 101, 115, 116, 97, 114, 116]) = false) (h2 : (line.toList == [108, 111, 111, 107]) = false) (hN : ∀ j : Nat, j < 3 → spec_l07After.f line (rdOf ByteArray.empty vbs j) = some (⟨#[]⟩, false))
    (hD : (∃ y z, spec_l07After.f line ⟨#[115, 99, 114, 97, 112, 101]⟩ = some (y, true) ∧ spec_l10Swap.f y 59 10 = some z) ∨ (spec_l07After.f line ⟨#[115, 99, 114, 97, 112, 101]⟩ = some (⟨#[]⟩, false) ∧ ∃ y s, spec_l07After.f line ⟨#[115, 101, 116, 117, 112]⟩ = some (y, true) ∧ spec_l10Swap.f y 59 10 = some (stb s) ∧ s.Small ∧ setB s = true ∧ (stb s).size ≤ 200)) (w : World) :
    Calls Tryz.prog 23 #[.string line] w fun e w' => ∃ (o : OP) (P G U D : Option Addr) (cp cg cu cd : Nat), e = .returned (.tuple #[o.agg P G U D cp cg cu cd, .bool true]) ∧ o.a = 0 ∧ Below w.heap.size w w' := by
  have hu49 := Tryz.underlying49
  have hu47 := Tryz.underlying47
  have hu65 := Tryz.underlying65
  have hu63 := Tryz.underlying63
  have V := Aside0.mk vbs_f
  have N := Aside0.mk hN
  have DD := Aside0.mk hD
  clear hN hD
  go_enter Tryz.func23, Tryz.ntmps23
  go_wp2
  go_loopg [5] 4 (fun kq v5 w' => ∃ n : Nat, v5 = .int .i64 (n : Int) ∧ Aside0 (kq + n = 4 ∧ n ≤ 3) ∧ Aside0 (w'.heap[w.heap.size]? = some (.cells #[.int .i64 0, .int .i64 0, .string ⟨#[]⟩, .slice none 0 0, .int .i64 0, .int .i64 0, .int .i64 0, .slice none 0 0, .slice none 0 0, .int .i64 0, .int .i64 0, .slice none 0 0, .int .i64 0, .int .i64 0, .int .i64 0, .int .i64 0] 49 (0, 0))) ∧ Aside0 (w'.heap[w.heap.size + 1]? = some (.cells #[.int .i64 0, .int .i64 0, .string ⟨#[]⟩, .slice none 0 0, .int .i64 0, .int .i64 0, .int .i64 0, .slice none 0 0, .slice none 0 0, .int .i64 0, .int .i64 0, .slice none 0 0, .int .i64 0, .int .i64 0, .int .i64 0, .int .i64 0] 49 (0, 0))) ∧ Aside0 (Below w.heap.size w w'))
  case atStart => exact ⟨0, rfl, ⟨by omega, by omega⟩, ⟨blk_alloc (heap_alloc_new _ _) _⟩, ⟨new2_ _ _ _⟩, ⟨below_alloc (below_alloc (Below.refl _ _) _) _⟩⟩
  case round =>
    obtain ⟨n, rfl, HK, BK2, BK4, HB⟩ := hrel
    have hk := HK.out.2
    cases gk with
    | zero => exact absurd HK.out.1 (by omega)
    | succ k1 =>
      by_cases hlt : n < 3
      · have AN := Aside0.mk (N.out n hlt)
        have hnl : n < vbs.length := by show n < 3; omega
        have d1 : decide ((n : Int) < 3) = true := decide_eq_true (by omega)
        go_wp2_with (first | (go_at_call 19; (with_reducible refine (spec_l10Verbs.calls _ _ V.out).mono ?_); rintro e w5 ⟨vv, rfl, ho, hb⟩; replace BK2 := Aside0.mk (blk_below BK2.out hb); replace BK4 := Aside0.mk (blk_below BK4.out hb); replace HB := Aside0.mk (below_step HB.out hb); obtain ⟨g5, c5, e5, _, _⟩ := R_open ho (by decide); subst e5; have hx := (Kd.R_cell ByteArray.empty ho (n : Int) (by omega) (by show (n : Int) < 3; omega)).1; rw [Int.toNat_natCast] at hx; clear ho hb) | (go_at_call 42; (with_reducible refine (spec_l07After.calls _ _ _ _ _ AN.out).mono ?_); rintro e w' ⟨rfl, ⟨nd, rfl⟩⟩))
        go_roundg k1
        case measure => omega
        case rel => exact ⟨n + 1, rfl, ⟨by have := HK.out; omega, by omega⟩, ⟨blk_drewN BK2.out _⟩, ⟨blk_drewN BK4.out _⟩, ⟨pw_below_drewN HB.out _⟩⟩
      · obtain rfl : n = 3 := by omega
        have d1 : decide ((3 : Int) < 3) = false := rfl
        rcases DD.out with ⟨y, z, fA, fS⟩ | ⟨fA, y, s, fB, fS, hs, hset, hsz⟩
        · replace fA := Aside0.mk fA
          replace fS := Aside0.mk fS
          go_wp2_with (first | (go_at_call 42; (with_reducible refine (spec_l07After.calls _ _ _ _ _ fA.out).mono ?_); rintro e w' ⟨rfl, ⟨nd, rfl⟩⟩) | (go_at_call 21; (with_reducible refine (spec_l10Swap.calls _ _ _ _ _ fS.out).mono ?_); rintro e w6 ⟨rfl, hb⟩; replace BK2 := Aside0.mk (blk_below (blk_drewN BK2.out _) hb); replace HB := Aside0.mk (below_step (pw_below_drewN HB.out _) hb); clear hb; obtain ⟨⟨c2z0, c2f0⟩, ⟨c2z1, c2f1⟩, ⟨c2z2, c2f2⟩, ⟨c2z3, c2f3⟩, ⟨c2z4, c2f4⟩, ⟨c2z5, c2f5⟩, ⟨c2z6, c2f6⟩, ⟨c2z7, c2f7⟩, ⟨c2z8, c2f8⟩, ⟨c2z9, c2f9⟩, ⟨c2z10, c2f10⟩, ⟨c2z11, c2f11⟩, ⟨c2z12, c2f12⟩, ⟨c2z13, c2f13⟩, ⟨c2z14, c2f14⟩, ⟨c2z15, c2f15⟩⟩ := bc16_ BK2))
          refine bodyPost_ret (results_ct rfl _ _ w.heap.size 49 #[.int .i64 1, .int .i64 0, .string z, .slice none 0 0, .int .i64 0, .int .i64 0, .int .i64 0, .slice none 0 0, .slice none 0 0, .int .i64 0, .int .i64 0, .slice none 0 0, .int .i64 0, .int .i64 0, .int .i64 0, .int .i64 0] (0, 0) _ rfl (bp_ BK2) Tryz.underlying49 rfl (by kernel_rfl)) rfl ?_
          exact ⟨zeroOP 1 0 z zeroSU, none, none, none, none, 0, 0, 0, 0, rfl, rfl, by repeat (first | (with_reducible exact HB.out) | (with_reducible refine below_set ?_ (Nat.le_refl _)))⟩
        · replace fA := Aside0.mk fA
          replace fB := Aside0.mk fB
          replace fS := Aside0.mk fS
          have PG := Aside0.mk (fun w => spec_ParseSetup.good s w hs hset hsz)
          clear hs hset hsz
          go_upto_region 22 with (first | (go_at_call 42; (with_reducible refine (spec_l07After.calls _ _ _ _ _ fA.out).mono ?_); rintro e w' ⟨rfl, ⟨nd, rfl⟩⟩) | (go_at_call 42; (with_reducible refine (spec_l07After.calls _ _ _ _ _ fB.out).mono ?_); rintro e w' ⟨rfl, ⟨nd2, rfl⟩⟩) | (go_at_call 21; (with_reducible refine (spec_l10Swap.calls _ _ _ _ _ fS.out).mono ?_); rintro e w6 ⟨rfl, hb⟩; replace BK2 := Aside0.mk (blk_below (blk_drewN BK2.out _) hb); replace HB := Aside0.mk (below_step (pw_below_drewN HB.out _) hb); clear hb) | (go_at_call 44; refine (PG.out _).mono ?_; rintro e w7 ⟨G, U, D, cg, cu, cd, rfl, hb⟩; replace BK2 := Aside0.mk (blk_below BK2.out hb); replace HB := Aside0.mk (below_step HB.out hb); clear hb))
          have BK14 : Aside0 ((w7.alloc (.cells #[.int .i64 s.d, .int .i64 s.f, .int .i64 s.n, .slice G s.g.length cg, .slice U s.ul.length cu, .int .i64 s.us, .int .i64 s.uw, .slice D s.dl.length cd, .int .i64 s.ds, .int .i64 s.dw, .int .i64 s.mn, .int .i64 s.mx] 47 (0, 0))).heap[w7.heap.size]? = some (.cells #[.int .i64 s.d, .int .i64 s.f, .int .i64 s.n, .slice G s.g.length cg, .slice U s.ul.length cu, .int .i64 s.us, .int .i64 s.uw, .slice D s.dl.length cd, .int .i64 s.ds, .int .i64 s.dw, .int .i64 s.mn, .int .i64 s.mx] 47 (0, 0))) := ⟨heap_alloc_new _ _⟩
          replace BK2 := Aside0.mk (blk_alloc BK2.out (.cells #[.int .i64 s.d, .int .i64 s.f, .int .i64 s.n, .slice G s.g.length cg, .slice U s.ul.length cu, .int .i64 s.us, .int .i64 s.uw, .slice D s.dl.length cd, .int .i64 s.ds, .int .i64 s.dw, .int .i64 s.mn, .int .i64 s.mx] 47 (0, 0)))
          replace HB := Aside0.mk (below_alloc HB.out (.cells #[.int .i64 s.d, .int .i64 s.f, .int .i64 s.n, .slice G s.g.length cg, .slice U s.ul.length cu, .int .i64 s.us, .int .i64 s.uw, .slice D s.dl.length cd, .int .i64 s.ds, .int .i64 s.dw, .int .i64 s.mn, .int .i64 s.mx] 47 (0, 0)))
          generalize w7.alloc (.cells #[.int .i64 s.d, .int .i64 s.f, .int .i64 s.n, .slice G s.g.length cg, .slice U s.ul.length cu, .int .i64 s.us, .int .i64 s.uw, .slice D s.dl.length cd, .int .i64 s.ds, .int .i64 s.dw, .int .i64 s.mn, .int .i64 s.mx] 47 (0, 0)) = w8 at BK14 BK2 HB ⊢
          generalize w7.heap.size = b14 at BK14 ⊢
          obtain ⟨⟨c2z0, c2f0⟩, ⟨c2z1, c2f1⟩, ⟨c2z2, c2f2⟩, ⟨c2z3, c2f3⟩, ⟨c2z4, c2f4⟩, ⟨c2z5, c2f5⟩, ⟨c2z6, c2f6⟩, ⟨c2z7, c2f7⟩, ⟨c2z8, c2f8⟩, ⟨c2z9, c2f9⟩, ⟨c2z10, c2f10⟩, ⟨c2z11, c2f11⟩, ⟨c2z12, c2f12⟩, ⟨c2z13, c2f13⟩, ⟨c2z14, c2f14⟩, ⟨c2z15, c2f15⟩⟩ := bc16_ BK2
          obtain ⟨⟨c14z0, c14f0⟩, ⟨c14z1, c14f1⟩, ⟨c14z2, c14f2⟩, ⟨c14z3, c14f3⟩, ⟨c14z4, c14f4⟩, ⟨c14z5, c14f5⟩, ⟨c14z6, c14f6⟩, ⟨c14z7, c14f7⟩, ⟨c14z8, c14f8⟩, ⟨c14z9, c14f9⟩, ⟨c14z10, c14f10⟩, ⟨c14z11, c14f11⟩⟩ := bc12_ BK14
          go_wp2
          refine bodyPost_ret (results_ct rfl _ _ w.heap.size 49 #[.int .i64 3, .int .i64 0, .string ⟨#[]⟩, .slice none 0 0, .int .i64 s.d, .int .i64 s.f, .int .i64 s.n, .slice G s.g.length cg, .slice U s.ul.length cu, .int .i64 s.us, .int .i64 s.uw, .slice D s.dl.length cd, .int .i64 s.ds, .int .i64 s.dw, .int .i64 s.mn, .int .i64 s.mx] (0, 0) _ rfl (bp_ BK2) Tryz.underlying49 rfl (by kernel_rfl)) rfl ?_
          exact ⟨zeroOP 3 0 ⟨#[]⟩ s, none, G, U, D, 0, cg, cu, cd, rfl, rfl, by repeat (first | (with_reducible exact HB.out) | (with_reducible refine below_set ?_ (Nat.le_refl _)))⟩
end Go.Proofs.YtcjeblikejoogaaGreatDoor.PFnExactOpLine
