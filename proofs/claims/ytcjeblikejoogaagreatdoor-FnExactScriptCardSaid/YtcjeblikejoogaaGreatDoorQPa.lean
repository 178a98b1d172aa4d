-- OVER PRINTED WORDS: laid by this session's program; what this claim does not use is left out; Lean checks it.
import Derived.Test.YtcjeblikejoogaaGreatDoorQTy
import Derived.Test.YtcjeblikejoogaaGreatDoorQSq
namespace Go.Proofs.YtcjeblikejoogaaGreatDoor.PFnExactOpLine
open Go.RowKit Go.Proofs.YtcjeblikejoogaaGreatDoorW.PrintWords Go.Proofs.YtcjeblikejoogaaGreatDoorW.PrintLast Go.Proofs.YtcjeblikejoogaaGreatDoorW.PrintMore
attribute [local go_sem] max2_int min2_int max_two min_two max_three min_three max_four min_four
set_option linter.unusedVariables false
set_option linter.unusedSimpArgs false
mutual
def spec_ParseSide.j0 : Nat → List ByteArray → Bool → Option ((List (S118)) × Int × Int × Bool)
  | 0, _, _ => none
  | k + 1, x5, x31 => if x31 = true then (none) else (if 0 < (x5.length : Int) then ((spec_l01Read.f k (rdOf ByteArray.empty x5 0)).bind fun bt237 => (if 1 < (x5.length : Int) then ((spec_l01Read.f k (rdOf ByteArray.empty x5 1)).bind fun bt240 => (if bt237.2 = true then (spec_ParseSide.j1 k x5 (!bt240.2) bt237.1 bt240.1) else (spec_ParseSide.j1 k x5 true bt237.1 bt240.1))) else (none))) else (none))
def spec_ParseSide.j1 : Nat → List ByteArray → Bool → Int → Int → Option ((List (S118)) × Int × Int × Bool)
  | 0, _, _, _, _ => none
  | k + 1, x5, x55, x243001, x243002 => if x55 = true then (none) else (spec_ParseSide.l0 k x5 2 ([] : List (S118)) x243001 x243002)
def spec_ParseSide.l0 : Nat → List ByteArray → Int → List (S118) → Int → Int → Option ((List (S118)) × Int × Int × Bool)
  | 0, _, _, _, _, _ => none
  | k + 1, x5, x11, x243000, x243001, x243002 => if x11 < (x5.length : Int) then (if 0 ≤ x11 then ((spec_l01Parts.f k (rdOf ByteArray.empty x5 x11) 58).bind fun t245 => (if (t245.length : Int) = 3 then (spec_ParseSide.l1 k x5 x11 t245 (([] : List Int)) 0 x243000 x243001 x243002) else (none))) else (none)) else ((spec_SideOk.f k x243000 x243001 x243002).bind fun t243 => (if t243 = true then (some (x243000, x243001, x243002, true)) else (none)))
def spec_ParseSide.l1 : Nat → List ByteArray → Int → List ByteArray → List Int → Int → List (S118) → Int → Int → Option ((List (S118)) × Int × Int × Bool)
  | 0, _, _, _, _, _, _, _, _ => none
  | k + 1, x5, x11, x12, x13, x14, x243000, x243001, x243002 => if x14 < 3 then (if 0 ≤ x14 then (if x14 < (x12.length : Int) then ((spec_l01Read.f k (rdOf ByteArray.empty x12 x14)).bind fun bt252 => (if bt252.2 = true then (if x13.length < 17592186044416 then (spec_ParseSide.l1 k x5 x11 x12 (x13 ++ [bt252.1]) (wrap64 (x14 + 1)) x243000 x243001 x243002) else (none)) else (none))) else (none)) else (none)) else (if 0 < (x13.length : Int) then (if 1 < (x13.length : Int) then (if 2 < (x13.length : Int) then (if x243000.length < 5864062014805 then (spec_ParseSide.l0 k x5 (wrap64 (x11 + 1)) (x243000 ++ [(⟨rd x13 0, rd x13 1, rd x13 2⟩ : S118)]) x243001 x243002) else (none)) else (none)) else (none)) else (none))
end
def spec_ParseSide.f (k : Nat) (a0 : ByteArray) : Option ((List (S118)) × Int × Int × Bool) := if (a0.size : Int) > 60 then (none) else ((spec_l01Parts.f k a0 32).bind fun t233 => (if (t233.length : Int) < 2 then (spec_ParseSide.j0 k t233 true) else (spec_ParseSide.j0 k t233 (decide ((t233.length : Int) > 5)))))
def spec_ParseSide.T26 : Bool × List (List Nat × List Nat) := (true, [([], []), ([0], [0]), ([], []), ([2], [2]), ([3], [3]), ([], []), ([5], [5]), ([6], [6]), ([], []), ([8], [8]), ([9], [9]), ([4, 7, 10], [4, 7, 10]), ([11], [11]), ([1, 12], [1, 12]), ([0, 1, 2, 3, 4, 5, 6, 7, 8, 9, 10, 11, 12, 13], []), ([14, 13, 13, 0, 1, 2, 3, 4, 5, 6, 7, 8, 9, 10, 11, 12, 13], [13, 14])])
def spec_ParseSide.B26 : List Nat := [0, 1, 0, 4, 12, 0, 32, 96, 0, 256, 768, 2044, 4092, 8191, 16383, 32767]
theorem spec_ParseSide.tab26 : rtab .any (opsOf Tryz.f74 26) = spec_ParseSide.T26 := by kernel_rfl
theorem spec_ParseSide.bits26 : waitsOk spec_ParseSide.T26.2 spec_ParseSide.B26 = true := by kernel_rfl
set_option maxHeartbeats 8000000 in
set_option maxRecDepth 100000 in
theorem spec_ParseSide.calls (k : Nat) (a0 : ByteArray) (r1 : List (S118)) (r2 r3 : Int) (r4 : Bool) (w : World) (h : spec_ParseSide.f k a0 = some (r1, r2, r3, r4)) :
    Calls Tryz.prog 74 #[.string a0] w fun e w' => ∃ v0_ : Value, e = .returned (.tuple #[.agg #[v0_, .int .i64 r2, .int .i64 r3], .bool r4]) ∧ Kd.R k118 118 w' w.heap.size (fun _ => True) v0_ r1 ∧ Below w.heap.size w w' := by
  have hu43 := Tryz.underlying43
  have hu118 := Tryz.underlying118
  have HB := Aside0.mk (Below.refl w.heap.size w)
  have H : (if (a0.size : Int) > 60 then (none) else ((spec_l01Parts.f k a0 32).bind fun t233 => (if (t233.length : Int) < 2 then (spec_ParseSide.j0 k t233 true) else (spec_ParseSide.j0 k t233 (decide ((t233.length : Int) > 5)))))) = some (r1, r2, r3, r4) := h
  clear h
  by_cases c2 : (a0.size : Int) > 60
  · rw [if_pos c2] at H
    have c2b0 : decide (60 < (a0.size : Int)) = true := decide_eq_true c2
    have c2b1 : decide (60 < a0.size) = true := decide_eq_true (by omega)
    clear c2
    exact absurd H (by simp)
  · rw [if_neg c2] at H
    have c2b0 : decide (60 < (a0.size : Int)) = false := decide_eq_false c2
    have c2b1 : decide (60 < a0.size) = false := decide_eq_false (by omega)
    clear c2
    replace H := Option.bind_eq_some_iff.mp H
    obtain ⟨t233, A30, H⟩ := H
    replace H : (if (t233.length : Int) < 2 then (spec_ParseSide.j0 k t233 true) else (spec_ParseSide.j0 k t233 (decide ((t233.length : Int) > 5)))) = some (r1, r2, r3, r4) := H
    have A3 := Aside0.mk A30
    clear A30
    have HC4 := Aside0.mk H
    clear H
    go_enter Tryz.func74, Tryz.ntmps74
    go_upto_region 5 with (first | ((with_reducible refine gate_dst (N := 2) rfl ?_); (try (refine gate_guard (by rfl) ?_; dsimp only)); refine box_event ?hg (N := 2) ?hd (cs := #[.slice none 0 0, .int .i64 0, .int .i64 0]) (t := 43) ?hr ?_; (case hd => rfl); (case hg => rfl); (case hr => first | (go_simp; done) | (go_simp; rfl)); intro gb231 hg w5 hbox hb; have n0_ := Aside0.mk (below_step (hb0_) hb); have BK231 := Aside0.mk (hbox); have GW231 := Aside0.mk (bs_ hg (hb0_)); have GE231 := GW231; clear HB; have HB := n0_; clear n0_; clear hb hbox hg) | ((with_reducible refine gate_dst (N := 4) rfl ?_); (try (refine gate_guard (by rfl) ?_; dsimp only)); refine box_event ?hg (N := 4) ?hd (cs := #[.slice none 0 0, .int .i64 0, .int .i64 0]) (t := 43) ?hr ?_; (case hd => rfl); (case hg => rfl); (case hr => first | (go_simp; done) | (go_simp; rfl)); intro gb232 hg w6 hbox hb; have n0_ := bb_ BK231 hb; have n1_ := Aside0.mk (below_step (hb1_ GE231) hb); have BK232 := Aside0.mk (hbox); have GW232 := Aside0.mk (bs_ hg (hb1_ GE231)); have GE232 := GW232; have NB231_232 := Aside0.mk ((by rw [hg]; exact Nat.ne_of_lt (blk_lt (g := gb231) (o := .cells #[.slice none 0 0, .int .i64 0, .int .i64 0] 43 (0, 0)) (bk_ BK231)) : gb231 ≠ gb232)); have NB232_231 := Aside0.mk ((by rw [hg]; exact Nat.ne_of_gt (blk_lt (g := gb231) (o := .cells #[.slice none 0 0, .int .i64 0, .int .i64 0] 43 (0, 0)) (bk_ BK231)) : gb232 ≠ gb231)); clear BK231; clear HB; have BK231 := n0_; have HB := n1_; clear n0_ n1_; clear hb hbox hg; have hnb7 := NB232_231.out; have hnc7 := NB231_232.out; obtain ⟨cz8_0, fz8_0⟩ := bc_ BK232 0; obtain ⟨cz8_1, fz8_1⟩ := bc_ BK232 1; obtain ⟨cz8_2, fz8_2⟩ := bc_ BK232 2) | ((with_reducible refine gate_callee (f := 101) rfl ?_); refine goesL_ (some 23) rfl rfl Tryz.func101 (by kernel_rfl) rfl #[.string a0, .int .u8 32] rfl (me_) ?_; (with_reducible refine (spec_l01Parts.calls k a0 32 _ _ A3.out).mono ?_); rintro e w9 ⟨v234, rfl, ho0, hb⟩; refine ⟨_, rfl, ?_⟩; have HO235 := Aside0.mk (Kd.R_lower ho0 (below_size (hb2_ GE231 GE232))); have n1_ := Aside0.mk (blk_below (g := gb231) (o := .cells #[.slice none 0 0, .int .i64 0, .int .i64 0] 43 (0, 0)) (bp_ BK231) hb); have n2_ := Aside0.mk (blk_below (g := gb232) (o := .cells #[.slice none 0 0, .int .i64 0, .int .i64 0] 43 (0, 0)) (bp_ BK232) hb); have n3_ := Aside0.mk (below_step (hb2_ GE231 GE232) hb); clear BK231; clear BK232; clear HB; have BK231 := n1_; have BK232 := n2_; have HB := n3_; clear n1_ n2_ n3_; (try clear hb); (try clear hb2); (try clear hk); (try clear hi); (try clear ho0)))
    (try simp only [Act.put, List.setIfInBounds_toArray, List.set_cons_zero, List.set_cons_succ])
    go_cut [31] (fun v31 wc => ∃ (kq : Nat) (x31_3 : Bool), v31 = .bool x31_3 ∧ Aside0 (spec_ParseSide.j0 kq t233 x31_3 = some (r1, r2, r3, r4)) ∧ Aside0 (kq ≤ k) ∧ Aside0 (Kd.R Kd.string 9 wc w.heap.size (fun _ => True) v234 t233) ∧ Aside0 (wc.heap[gb231]? = some (.cells #[(.slice none 0 0), .int .i64 0, .int .i64 0] 43 (0, 0))) ∧ Aside0 (wc.heap[gb232]? = some (.cells #[(.slice none 0 0), .int .i64 0, .int .i64 0] 43 (0, 0))) ∧ Aside0 (Below w.heap.size w wc))
    case first =>
      have H := HC4.out
      clear HC4
      by_cases c10 : (t233.length : Int) < 2
      · rw [if_pos c10] at H
        have c10b0 : decide ((t233.length : Int) < 2) = true := decide_eq_true c10
        have c10b1 : decide (t233.length < 2) = true := decide_eq_true (by omega)
        clear c10
        (first | rw [c10b0] | (simp only [i64_w, i32_w]; rw [c10b0]) | skip)
        have H' := Aside0.mk H
        clear H
        obtain ⟨Ao11, co11, eo11⟩ := Kd.R_slice HO235.out
        subst eo11
        go_wp2
        go_meet
        case rel => exact ⟨_, (true), (rs_), H', ⟨by first | omega | exact Nat.le_refl _⟩, ⟨by (with_reducible repeat (first | apply Kd.R_alloc | apply Kd.R_drewN | apply Kd.R_drew)); exact HO235.out⟩, ⟨bk_ BK231⟩, ⟨bk_ BK232⟩, ⟨hb2_ GE231 GE232⟩⟩
      · rw [if_neg c10] at H
        have c10b0 : decide ((t233.length : Int) < 2) = false := decide_eq_false c10
        have c10b1 : decide (t233.length < 2) = false := decide_eq_false (by omega)
        clear c10
        (first | rw [c10b0] | (simp only [i64_w, i32_w]; rw [c10b0]) | skip)
        have H' := Aside0.mk H
        clear H
        obtain ⟨Ao12, co12, eo12⟩ := Kd.R_slice HO235.out
        subst eo12
        go_wp2
        go_meet
        case rel => exact ⟨_, (decide ((t233.length : Int) > 5)), (rs_), H', ⟨by first | omega | exact Nat.le_refl _⟩, ⟨by (with_reducible repeat (first | apply Kd.R_alloc | apply Kd.R_drewN | apply Kd.R_drew)); exact HO235.out⟩, ⟨bk_ BK231⟩, ⟨bk_ BK232⟩, ⟨hb2_ GE231 GE232⟩⟩
    case rest =>
      clear HC4
      try clear c1
      try clear c2
      try clear c2b0
      try clear c2b1
      try clear p2
      try clear c7
      try clear c10
      try clear c10b0
      try clear c10b1
      try clear cz8_0
      try clear cz8_1
      try clear cz8_2
      try clear fz8_0
      try clear fz8_1
      try clear fz8_2
      obtain ⟨kq, x31_3, rfl, HA, HJ3, HO_5, BK231, BK232, HB⟩ := hcut
      cases kq with
      | zero => exact absurd HA.out (by simp [spec_ParseSide.j0])
      | succ kj3 =>
        have H := HA.out
        clear HA
        simp only [spec_ParseSide.j0] at H
        by_cases c13 : x31_3 = true
        · subst c13
          have H1 : (none) = some (r1, r2, r3, r4) := by rw [if_pos rfl] at H; exact H
          clear H
          have H := H1
          clear H1
          exact absurd H (by simp)
        · replace c13 := Bool.eq_false_iff.mpr c13
          subst c13
          have H1 : (if 0 < (t233.length : Int) then ((spec_l01Read.f kj3 (rdOf ByteArray.empty t233 0)).bind fun bt237 => (if 1 < (t233.length : Int) then ((spec_l01Read.f kj3 (rdOf ByteArray.empty t233 1)).bind fun bt240 => (if bt237.2 = true then (spec_ParseSide.j1 kj3 t233 (!bt240.2) bt237.1 bt240.1) else (spec_ParseSide.j1 kj3 t233 true bt237.1 bt240.1))) else (none))) else (none)) = some (r1, r2, r3, r4) := by rw [if_neg (show ¬ (false = true) by decide)] at H; exact H
          clear H
          have H := H1
          clear H1
          by_cases c14 : 0 < (t233.length : Int)
          · rw [if_pos c14] at H
            have c14b0 : decide (0 < (t233.length : Int)) = true := decide_eq_true c14
            have c14b1 : decide (0 < t233.length) = true := decide_eq_true (by omega)
            clear c14
            replace H := Option.bind_eq_some_iff.mp H
            obtain ⟨⟨t237, t238⟩, A150, H⟩ := H
            replace H : (if 1 < (t233.length : Int) then ((spec_l01Read.f kj3 (rdOf ByteArray.empty t233 1)).bind fun bt240 => (if t238 = true then (spec_ParseSide.j1 kj3 t233 (!bt240.2) t237 bt240.1) else (spec_ParseSide.j1 kj3 t233 true t237 bt240.1))) else (none)) = some (r1, r2, r3, r4) := H
            have A15 := Aside0.mk A150
            clear A150
            by_cases c16 : 1 < (t233.length : Int)
            · rw [if_pos c16] at H
              have c16b0 : decide (1 < (t233.length : Int)) = true := decide_eq_true c16
              have c16b1 : decide (1 < t233.length) = true := decide_eq_true (by omega)
              clear c16
              replace H := Option.bind_eq_some_iff.mp H
              obtain ⟨⟨t240, t241⟩, A170, H⟩ := H
              replace H : (if t238 = true then (spec_ParseSide.j1 kj3 t233 (!t241) t237 t240) else (spec_ParseSide.j1 kj3 t233 true t237 t240)) = some (r1, r2, r3, r4) := H
              have A17 := Aside0.mk A170
              clear A170
              have HC18 := Aside0.mk H
              clear H
              obtain ⟨Ao19, co19, eo19⟩ := Kd.R_slice HO_5.out
              subst eo19
              have p236 : 0 ≤ (0 : Int) := (by omega)
              have q236 : 0 < (t233.length : Int) := of_decide_eq_true as_
              obtain ⟨ad236, e236, hx236_0⟩ := Kd.at_string (Kd.R_reads' HO_5.out).2.2 0 p236 q236
              cases e236
              have qi236 : (0 < t233.length) = True := eq_true (by omega)
              (try rw [show ((0 : Int)).toNat = 0 from rfl] at hx236_0)
              (try rw [Addr.add_zero'] at hx236_0)
              replace p236 := eq_true p236
              replace q236 := eq_true q236
              go_upto_region 10 with (first | ((with_reducible refine gate_callee (f := 43) rfl ?_); refine goesL_ (some 37) rfl rfl Tryz.func43 (by kernel_rfl) rfl #[.string (rdOf ByteArray.empty t233 0)] rfl (me_) ?_; (with_reducible refine (spec_l01Read.calls kj3 (rdOf ByteArray.empty t233 0) _ _ _ A15.out).mono ?_); rintro e w20 ⟨rfl, hb⟩; refine ⟨_, rfl, ?_⟩; have n0_ := Aside0.mk (Kd.R_below (by (with_reducible repeat (first | apply Kd.R_alloc | apply Kd.R_drewN | apply Kd.R_drew)); exact HO_5.out) hb); have n1_ := bb_ BK231 hb; have n2_ := bb_ BK232 hb; have n3_ := Aside0.mk (below_step (hb2_ GE231 GE232) hb); clear HO_5; clear BK231; clear BK232; clear HB; have HO_5 := n0_; have BK231 := n1_; have BK232 := n2_; have HB := n3_; clear n0_ n1_ n2_ n3_; (try clear hb); (try clear hb2); (try clear hk); (try clear hi); have p239 : 0 ≤ (1 : Int) := (by omega); have q239 : 1 < (t233.length : Int) := of_decide_eq_true as_; obtain ⟨ad239, e239, hx239_0⟩ := Kd.at_string (Kd.R_reads' HO_5.out).2.2 1 p239 q239; obtain rfl : ad236 = ad239 := (by injection e239); (try simp only [show (1 : Int).toNat = 1 from rfl, Nat.reduceMul, Nat.reduceEqDiff, Go.Addr.add, ↓reduceIte] at hx239_0); have qi239 : (1 < t233.length) = True := eq_true (by omega); (try rw [show ((1 : Int)).toNat = 1 from rfl] at hx239_0); replace p239 := eq_true p239; replace q239 := eq_true q239) | ((with_reducible refine gate_callee (f := 43) rfl ?_); refine goesL_ (some 44) rfl rfl Tryz.func43 (by kernel_rfl) rfl #[.string (rdOf ByteArray.empty t233 1)] rfl (me_) ?_; (with_reducible refine (spec_l01Read.calls kj3 (rdOf ByteArray.empty t233 1) _ _ _ A17.out).mono ?_); rintro e w21 ⟨rfl, hb⟩; refine ⟨_, rfl, ?_⟩; have n0_ := Aside0.mk (Kd.R_below (by (with_reducible repeat (first | apply Kd.R_alloc | apply Kd.R_drewN | apply Kd.R_drew)); exact HO_5.out) hb); have n1_ := bb_ BK231 hb; have n2_ := bb_ BK232 hb; have n3_ := Aside0.mk (below_step (hb2_ GE231 GE232) hb); clear HO_5; clear BK231; clear BK232; clear HB; have HO_5 := n0_; have BK231 := n1_; have BK232 := n2_; have HB := n3_; clear n0_ n1_ n2_ n3_; (try clear hb); (try clear hb2); (try clear hk); (try clear hi)) | ((with_reducible refine gate_dst (N := 10) rfl ?_); (try (refine gate_guard (by rfl) ?_; dsimp only)); refine box_event ?hg (N := 10) ?hd (cs := #[.slice none 0 0, .int .i64 0, .int .i64 0]) (t := 43) ?hr ?_; (case hd => rfl); (case hg => rfl); (case hr => first | (go_simp; done) | (go_simp; rfl)); intro gb242 hg w22 hbox hb; have n0_ := Aside0.mk (Kd.R_below (by (with_reducible repeat (first | apply Kd.R_alloc | apply Kd.R_drewN | apply Kd.R_drew)); exact HO_5.out) hb); have n1_ := bb_ BK231 hb; have n2_ := bb_ BK232 hb; have n3_ := Aside0.mk (below_step (hb2_ GE231 GE232) hb); have BK242 := Aside0.mk (hbox); have GW242 := Aside0.mk (bs_ hg (hb2_ GE231 GE232)); have GE242 := GW242; have NB231_242 := Aside0.mk ((by rw [hg]; exact Nat.ne_of_lt (blk_lt (g := gb231) (o := .cells #[.slice none 0 0, .int .i64 0, .int .i64 0] 43 (0, 0)) (bk_ BK231)) : gb231 ≠ gb242)); have NB242_231 := Aside0.mk ((by rw [hg]; exact Nat.ne_of_gt (blk_lt (g := gb231) (o := .cells #[.slice none 0 0, .int .i64 0, .int .i64 0] 43 (0, 0)) (bk_ BK231)) : gb242 ≠ gb231)); have NB232_242 := Aside0.mk ((by rw [hg]; exact Nat.ne_of_lt (blk_lt (g := gb232) (o := .cells #[.slice none 0 0, .int .i64 0, .int .i64 0] 43 (0, 0)) (bk_ BK232)) : gb232 ≠ gb242)); have NB242_232 := Aside0.mk ((by rw [hg]; exact Nat.ne_of_gt (blk_lt (g := gb232) (o := .cells #[.slice none 0 0, .int .i64 0, .int .i64 0] 43 (0, 0)) (bk_ BK232)) : gb242 ≠ gb232)); clear HO_5; clear BK231; clear BK232; clear HB; have HO_5 := n0_; have BK231 := n1_; have BK232 := n2_; have HB := n3_; clear n0_ n1_ n2_ n3_; clear hb hbox hg; have hnb23 := NB242_231.out; have hnc23 := NB231_242.out; have hnb24 := NB242_232.out; have hnc24 := NB232_242.out; obtain ⟨cz25_0, fz25_0⟩ := bc_ BK242 0; obtain ⟨cz25_1, fz25_1⟩ := bc_ BK242 1; obtain ⟨cz25_2, fz25_2⟩ := bc_ BK242 2))
              (try simp only [Act.put, List.setIfInBounds_toArray, List.set_cons_zero, List.set_cons_succ])
              go_cut [55] (fun v55 wc => ∃ (kq : Nat) (x55_17 : Bool), v55 = .bool x55_17 ∧ Aside0 (spec_ParseSide.j1 kq t233 x55_17 t237 t240 = some (r1, r2, r3, r4)) ∧ Aside0 (kq ≤ kj3) ∧ Aside0 (Kd.R Kd.string 9 wc w.heap.size (fun _ => True) (.slice (some ad236) t233.length co19) t233) ∧ Aside0 (wc.heap[gb231]? = some (.cells #[(.slice none 0 0), .int .i64 0, .int .i64 0] 43 (0, 0))) ∧ Aside0 (wc.heap[gb232]? = some (.cells #[(.slice none 0 0), .int .i64 0, .int .i64 0] 43 (0, 0))) ∧ Aside0 (wc.heap[gb242]? = some (.cells #[(.slice none 0 0), .int .i64 t237, .int .i64 t240] 43 (0, 0))) ∧ Aside0 (Below w.heap.size w wc))
              case first =>
                have H := HC18.out
                clear HC18
                by_cases c26 : t238 = true
                · subst c26
                  have H1 : (spec_ParseSide.j1 kj3 t233 (!t241) t237 t240) = some (r1, r2, r3, r4) := by rw [if_pos rfl] at H; exact H
                  clear H
                  have H := H1
                  clear H1
                  have H' := Aside0.mk H
                  clear H
                  go_wp2
                  go_meet
                  case rel => exact ⟨_, (!t241), (rs_), H', ⟨by have := HJ3.out; first | omega | exact Nat.le_refl _⟩, ⟨by (with_reducible repeat (first | apply Kd.R_alloc | apply Kd.R_drewN | apply Kd.R_drew)); exact Kd.R_mono (rf_ (Kd.R_types HO_5.out BK242.out (by decide))) (fun _ hk => trivial)⟩, ⟨bp_ BK231⟩, ⟨bp_ BK232⟩, ⟨bp_ BK242⟩, ⟨hb3_ GE231 GE232 GE242⟩⟩
                · replace c26 := Bool.eq_false_iff.mpr c26
                  subst c26
                  have H1 : (spec_ParseSide.j1 kj3 t233 true t237 t240) = some (r1, r2, r3, r4) := by rw [if_neg (show ¬ (false = true) by decide)] at H; exact H
                  clear H
                  have H := H1
                  clear H1
                  have H' := Aside0.mk H
                  clear H
                  go_wp2
                  go_meet
                  case rel => exact ⟨_, (true), (rs_), H', ⟨by have := HJ3.out; first | omega | exact Nat.le_refl _⟩, ⟨by (with_reducible repeat (first | apply Kd.R_alloc | apply Kd.R_drewN | apply Kd.R_drew)); exact Kd.R_mono (rf_ (Kd.R_types HO_5.out BK242.out (by decide))) (fun _ hk => trivial)⟩, ⟨bp_ BK231⟩, ⟨bp_ BK232⟩, ⟨bp_ BK242⟩, ⟨hb3_ GE231 GE232 GE242⟩⟩
              case rest =>
                clear HC18
                try clear c1
                try clear c2
                try clear c2b0
                try clear c2b1
                try clear p2
                try clear q2
                try clear hx2
                try clear qi2
                try clear c4
                try clear c7
                try clear c10
                try clear c10b0
                try clear c10b1
                try clear c13
                try clear c14
                try clear c14b0
                try clear c14b1
                try clear c16
                try clear c16b0
                try clear c16b1
                try clear c23
                try clear p23
                try clear q23
                try clear hx23
                try clear qi23
                try clear c24
                try clear c26
                try clear cz25_0
                try clear cz25_1
                try clear cz25_2
                try clear cz8_0
                try clear cz8_1
                try clear cz8_2
                try clear fz25_0
                try clear fz25_1
                try clear fz25_2
                try clear fz8_0
                try clear fz8_1
                try clear fz8_2
                try clear hx236_0
                try clear hx239_0
                try clear p2
                try clear p236
                try clear p239
                try clear q236
                try clear q239
                obtain ⟨kq, x55_17, rfl, HA, HJ17, HO_5, BK231, BK232, BK242, HB⟩ := hcut
                cases kq with
                | zero => exact absurd HA.out (by simp [spec_ParseSide.j1])
                | succ kj17 =>
                  have H := HA.out
                  clear HA
                  simp only [spec_ParseSide.j1] at H
                  by_cases c27 : x55_17 = true
                  · subst c27
                    have H1 : (none) = some (r1, r2, r3, r4) := by rw [if_pos rfl] at H; exact H
                    clear H
                    have H := H1
                    clear H1
                    exact absurd H (by simp)
                  · replace c27 := Bool.eq_false_iff.mpr c27
                    subst c27
                    have H1 : (spec_ParseSide.l0 kj17 t233 2 ([] : List (S118)) t237 t240) = some (r1, r2, r3, r4) := by rw [if_neg (show ¬ (false = true) by decide)] at H; exact H
                    clear H
                    have H := H1
                    clear H1
                    have H' := Aside0.mk H
                    clear H
                    go_wp2
                    go_loopg [11] kj17 (fun kq v11 w' => ∃ (x11_3 x232001_3 x232002_3 : Int) (x243000_3 : List (S118)) (u243000 : Value), v11 = .int .i64 x11_3 ∧ Aside0 (spec_ParseSide.l0 kq t233 x11_3 x243000_3 t237 t240 = some (r1, r2, r3, r4)) ∧ Aside0 (kq ≤ kj17) ∧ Aside0 (Kd.R Kd.string 9 w' w.heap.size (fun _ => True) (.slice (some ad236) t233.length co19) t233) ∧ Aside0 (Kd.R k118 118 w' w.heap.size (fun _ => True) u243000 x243000_3) ∧ Aside0 (w'.heap[gb231]? = some (.cells #[(.slice none 0 0), .int .i64 x232001_3, .int .i64 x232002_3] 43 (0, 0))) ∧ Aside0 (w'.heap[gb232]? = some (.cells #[(.slice none 0 0), .int .i64 0, .int .i64 0] 43 (0, 0))) ∧ Aside0 (w'.heap[gb242]? = some (.cells #[u243000, .int .i64 t237, .int .i64 t240] 43 (0, 0))) ∧ Aside0 (Below w.heap.size w w'))
                    case atStart => exact ⟨(2), (0), (0), (([] : List (S118))), (.slice none 0 0), (rs_), H', ⟨Nat.le_refl _⟩, ⟨by (with_reducible repeat (first | apply Kd.R_alloc | apply Kd.R_drewN | apply Kd.R_drew)); exact HO_5.out⟩, ⟨by first | exact Kd.R_nil _ _ _ _ _ | exact Kd.N_nil _ _ _ _ _ | exact Kd.V_nil _ _ _ _ _ | exact Kd.Q_nil _ _ _ _ _ | exact Kd.S_nil _ _ _ _ _⟩, ⟨bk_ BK231⟩, ⟨bk_ BK232⟩, ⟨bk_ BK242⟩, ⟨hb3_ GE231 GE232 GE242⟩⟩
                    case round =>
                      clear H'
                      try clear c1
                      try clear c2
                      try clear c2b0
                      try clear c2b1
                      try clear p2
                      try clear q2
                      try clear hx2
                      try clear qi2
                      try clear c4
                      try clear c7
                      try clear c10
                      try clear c10b0
                      try clear c10b1
                      try clear c13
                      try clear c14
                      try clear c14b0
                      try clear c14b1
                      try clear c16
                      try clear c16b0
                      try clear c16b1
                      try clear c23
                      try clear p23
                      try clear q23
                      try clear hx23
                      try clear qi23
                      try clear c24
                      try clear c26
                      try clear c27
                      try clear cz25_0
                      try clear cz25_1
                      try clear cz25_2
                      try clear cz8_0
                      try clear cz8_1
                      try clear cz8_2
                      try clear fz25_0
                      try clear fz25_1
                      try clear fz25_2
                      try clear fz8_0
                      try clear fz8_1
                      try clear fz8_2
                      try clear hx236_0
                      try clear hx239_0
                      try clear p2
                      try clear p23
                      try clear p236
                      try clear p239
                      try clear q2
                      try clear q23
                      try clear q236
                      try clear q239
                      obtain ⟨x11_3, x232001_3, x232002_3, x243000_3, u243000, rfl, HA, HK3, HO_5, HO_243000, BK231, BK232, BK242, HB⟩ := hrel
                      cases gk with
                      | zero => exact absurd HA.out (by simp [spec_ParseSide.l0])
                      | succ k3 =>
                        have H := HA.out
                        clear HA
                        simp only [spec_ParseSide.l0] at H
                        by_cases c28 : x11_3 < (t233.length : Int)
                        · rw [if_pos c28] at H
                          have c28b0 : decide (x11_3 < (t233.length : Int)) = true := decide_eq_true c28
                          clear c28
                          by_cases c29 : 0 ≤ x11_3
                          · rw [if_pos c29] at H
                            have c29b0 : decide (0 ≤ x11_3) = true := decide_eq_true c29
                            clear c29
                            replace H := Option.bind_eq_some_iff.mp H
                            obtain ⟨t245, A300, H⟩ := H
                            replace H : (if (t245.length : Int) = 3 then (spec_ParseSide.l1 k3 t233 x11_3 t245 (([] : List Int)) 0 x243000_3 t237 t240) else (none)) = some (r1, r2, r3, r4) := H
                            have A30 := Aside0.mk A300
                            clear A300
                            by_cases c31 : (t245.length : Int) = 3
                            · rw [if_pos c31] at H
                              have c31b0 : ((t245.length : Int) == 3) = true := beq_iff_eq.mpr c31
                              have c31b1 : ((t245.length : Int) != 3) = false := bne_eq_false_iff_eq.mpr c31
                              clear c31
                              obtain ⟨y248, hy248⟩ : ∃ y_ : List Int, y_ = (([] : List Int)) := ⟨_, rfl⟩
                              replace H : (spec_ParseSide.l1 k3 t233 x11_3 t245 y248 0 x243000_3 t237 t240) = some (r1, r2, r3, r4) := by first | (rw [hy248]; with_reducible exact H) | (have H2_ := (Option.bind_some _ _).symm.trans H; rw [hy248]; with_reducible exact H2_) | (have H2_ := (Option.bind_some _ _).symm.trans H; with_reducible exact H2_) | with_reducible exact H | (rw [hy248]; exact H) | exact H
                              have Ny248 := Aside0.mk hy248
                              clear hy248
                              have H' := Aside0.mk H
                              clear H
                              have p244 : 0 ≤ (x11_3 : Int) := of_decide_eq_true as_
                              have q244 : x11_3 < (t233.length : Int) := of_decide_eq_true as_
                              obtain ⟨ad244, e244, hx244_0⟩ := Kd.at_string (Kd.R_reads' HO_5.out).2.2 x11_3 p244 q244
                              obtain rfl : ad236 = ad244 := (by injection e244)
                              replace p244 := eq_true p244
                              replace q244 := eq_true q244
                              go_wp2_with (first | ((with_reducible refine gate_callee (f := 101) rfl ?_); refine goesL_ (some 67) rfl rfl Tryz.func101 (by kernel_rfl) rfl #[.string (rdOf ByteArray.empty t233 x11_3), .int .u8 58] rfl (me_) ?_; (with_reducible refine (spec_l01Parts.calls k3 (rdOf ByteArray.empty t233 x11_3) 58 _ _ A30.out).mono ?_); rintro e w32 ⟨v246, rfl, ho0, hb⟩; refine ⟨_, rfl, ?_⟩; have n0_ := Aside0.mk (Kd.R_elder' (by (with_reducible repeat (first | apply Kd.R_alloc | apply Kd.R_drewN | apply Kd.R_drew)); exact HO_5.out) (Kd.R_base ho0) hb); have n1_ := Aside0.mk (Kd.R_below (by (with_reducible repeat (first | apply Kd.R_alloc | apply Kd.R_drewN | apply Kd.R_drew)); exact HO_243000.out) hb); have HO247 := Aside0.mk (Kd.R_lower (Kd.R_new' ho0 (Kd.R_lt (by (with_reducible repeat (first | apply Kd.R_alloc | apply Kd.R_drewN | apply Kd.R_drew)); exact HO_5.out))) (below_size (hb3_ GE231 GE232 GE242))); have n3_ := bb_ BK231 hb; have n4_ := bb_ BK232 hb; have n5_ := bb_ BK242 hb; have n6_ := Aside0.mk (below_step (hb3_ GE231 GE232 GE242) hb); clear HO_5; clear HO_243000; clear BK231; clear BK232; clear BK242; clear HB; have HO_5 := n0_; have HO_243000 := n1_; have BK231 := n3_; have BK232 := n4_; have BK242 := n5_; have HB := n6_; clear n0_ n1_ n3_ n4_ n5_ n6_; (try clear hb); (try clear hb2); (try clear hk); (try clear hi); (try clear ho0); obtain ⟨Ao33, co33, eo33⟩ := Kd.R_slice HO247.out; subst eo33) | ((with_reducible refine gate_dst (N := 72) rfl ?_); (try (refine gate_guard (by rfl) ?_; dsimp only)); refine Kd.R_lit (Kd.int .i64) _ 3 ?hg (N := 72) ?hd (xs := ([] : List Int)) (inner := []) (ok := fun _ => True) (okp := fun _ => True) ?hr ?hp (fun _ hk => hk) trivial (Below.refl _ _) (Nat.le_refl _) (by simp) ?_; (case hd => rfl); (case hg => rfl); (case hr => first | (go_simp; done) | (go_simp; rfl)); (case hp => exact (Reps.none _ _)); intro v249 w34 ho35 hb hg_ hnew_; clear hg_ hnew_; (first | rw [← Ny248.out] at ho35 | (simp only [Int.reduceToNat] at ho35; rw [← Ny248.out] at ho35)); have n0_ := Aside0.mk (Kd.R_below (by (with_reducible repeat (first | apply Kd.R_alloc | apply Kd.R_drewN | apply Kd.R_drew)); exact HO_5.out) hb); have n1_ := Aside0.mk (Kd.R_below (by (with_reducible repeat (first | apply Kd.R_alloc | apply Kd.R_drewN | apply Kd.R_drew)); exact HO_243000.out) hb); have n2_ := Aside0.mk (Kd.R_below (by (with_reducible repeat (first | apply Kd.R_alloc | apply Kd.R_drewN | apply Kd.R_drew)); exact HO247.out) hb); have HO250 := Aside0.mk (Kd.R_lower ho35 (below_size (hb3_ GE231 GE232 GE242))); have n4_ := bb_ BK231 hb; have n5_ := bb_ BK232 hb; have n6_ := bb_ BK242 hb; have n7_ := Aside0.mk (below_step (hb3_ GE231 GE232 GE242) hb); clear HO_5; clear HO_243000; clear HO247; clear BK231; clear BK232; clear BK242; clear HB; have HO_5 := n0_; have HO_243000 := n1_; have HO247 := n2_; have BK231 := n4_; have BK232 := n5_; have BK242 := n6_; have HB := n7_; clear n0_ n1_ n2_ n4_ n5_ n6_ n7_; clear hb ho35))
                              go_loopg [13, 14] k3 (fun kq v13 v14 w' => ∃ (x13_4 : List Int) (x14_4 x232001_4 x232002_4 : Int), v14 = .int .i64 x14_4 ∧ Aside0 (spec_ParseSide.l1 kq t233 x11_3 t245 x13_4 x14_4 x243000_3 t237 t240 = some (r1, r2, r3, r4)) ∧ Aside0 (kq ≤ k3) ∧ Aside0 (Kd.R Kd.string 9 w' w.heap.size (fun k_ => some k_ ≠ ((.slice Ao33 t245.length co33) : Value).ownBlock) (.slice (some ad236) t233.length co19) t233) ∧ Aside0 (Kd.R Kd.string 9 w' w.heap.size (fun k_ => some k_ ≠ ((.slice (some ad236) t233.length co19) : Value).ownBlock) (.slice Ao33 t245.length co33) t245) ∧ Aside0 (Kd.R (Kd.int .i64) 3 w' w.heap.size (fun _ => True) v13 x13_4) ∧ Aside0 (Kd.R k118 118 w' w.heap.size (fun _ => True) u243000 x243000_3) ∧ Aside0 (w'.heap[gb231]? = some (.cells #[(.slice none 0 0), .int .i64 x232001_4, .int .i64 x232002_4] 43 (0, 0))) ∧ Aside0 (w'.heap[gb232]? = some (.cells #[(.slice none 0 0), .int .i64 0, .int .i64 0] 43 (0, 0))) ∧ Aside0 (w'.heap[gb242]? = some (.cells #[u243000, .int .i64 t237, .int .i64 t240] 43 (0, 0))) ∧ Aside0 (Below w.heap.size w w'))
                              case atStart => exact ⟨(y248), (0), (x232001_3), (x232002_3), (rs_), H', ⟨Nat.le_refl _⟩, ⟨by (with_reducible repeat (first | apply Kd.R_alloc | apply Kd.R_drewN | apply Kd.R_drew)); exact Kd.R_mono HO_5.out (fun _ hk => hk.2)⟩, ⟨by (with_reducible repeat (first | apply Kd.R_alloc | apply Kd.R_drewN | apply Kd.R_drew)); exact Kd.R_mono HO247.out (fun _ hk => hk.2)⟩, ⟨by (with_reducible repeat (first | apply Kd.R_alloc | apply Kd.R_drewN | apply Kd.R_drew)); exact HO250.out⟩, ⟨by (with_reducible repeat (first | apply Kd.R_alloc | apply Kd.R_drewN | apply Kd.R_drew)); exact HO_243000.out⟩, ⟨bk_ BK231⟩, ⟨bk_ BK232⟩, ⟨bk_ BK242⟩, ⟨hb3_ GE231 GE232 GE242⟩⟩
                              case round =>
                                clear H'
                                try clear c1
                                try clear c2
                                try clear c2b0
                                try clear c2b1
                                try clear p2
                                try clear q2
                                try clear hx2
                                try clear qi2
                                try clear c3
                                try clear c4
                                try clear c7
                                try clear c10
                                try clear c10b0
                                try clear c10b1
                                try clear c13
                                try clear c14
                                try clear c14b0
                                try clear c14b1
                                try clear c16
                                try clear c16b0
                                try clear c16b1
                                try clear c23
                                try clear p23
                                try clear q23
                                try clear hx23
                                try clear qi23
                                try clear c24
                                try clear p24
                                try clear q24
                                try clear hx24
                                try clear c26
                                try clear c27
                                try clear c28
                                try clear c28b0
                                try clear c29
                                try clear c29b0
                                try clear c31
                                try clear c31b0
                                try clear c31b1
                                try clear cz25_0
                                try clear cz25_1
                                try clear cz25_2
                                try clear cz8_0
                                try clear cz8_1
                                try clear cz8_2
                                try clear fz25_0
                                try clear fz25_1
                                try clear fz25_2
                                try clear fz8_0
                                try clear fz8_1
                                try clear fz8_2
                                try clear hx236_0
                                try clear hx239_0
                                try clear hx244_0
                                try clear p2
                                try clear p23
                                try clear p236
                                try clear p239
                                try clear p244
                                try clear q2
                                try clear q23
                                try clear q236
                                try clear q239
                                try clear q244
                                obtain ⟨x13_4, x14_4, x232001_4, x232002_4, rfl, HA, HK4, HO_5, HO_12, HO_13, HO_243000, BK231, BK232, BK242, HB⟩ := hrel
                                cases gk with
                                | zero => exact absurd HA.out (by simp [spec_ParseSide.l1])
                                | succ k4 =>
                                  have H := HA.out
                                  clear HA
                                  simp only [spec_ParseSide.l1] at H
                                  by_cases c36 : x14_4 < 3
                                  · rw [if_pos c36] at H
                                    have c36b0 : decide (x14_4 < 3) = true := decide_eq_true c36
                                    clear c36
                                    by_cases c37 : 0 ≤ x14_4
                                    · rw [if_pos c37] at H
                                      have c37b0 : decide (0 ≤ x14_4) = true := decide_eq_true c37
                                      clear c37
                                      by_cases c38 : x14_4 < (t245.length : Int)
                                      · rw [if_pos c38] at H
                                        have c38b0 : decide (x14_4 < (t245.length : Int)) = true := decide_eq_true c38
                                        clear c38
                                        replace H := Option.bind_eq_some_iff.mp H
                                        obtain ⟨⟨t252, t253⟩, A390, H⟩ := H
                                        replace H : (if t253 = true then (if x13_4.length < 17592186044416 then (spec_ParseSide.l1 k4 t233 x11_3 t245 (x13_4 ++ [t252]) (wrap64 (x14_4 + 1)) x243000_3 t237 t240) else (none)) else (none)) = some (r1, r2, r3, r4) := H
                                        have A39 := Aside0.mk A390
                                        clear A390
                                        by_cases c40 : t253 = true
                                        · subst c40
                                          have H1 : (if x13_4.length < 17592186044416 then (spec_ParseSide.l1 k4 t233 x11_3 t245 (x13_4 ++ [t252]) (wrap64 (x14_4 + 1)) x243000_3 t237 t240) else (none)) = some (r1, r2, r3, r4) := by rw [if_pos rfl] at H; exact H
                                          clear H
                                          have H := H1
                                          clear H1
                                          by_cases c41 : x13_4.length < 17592186044416
                                          · rw [if_pos c41] at H
                                            have LMc41 := Aside0.mk c41
                                            clear c41
                                            obtain ⟨y254, hy254⟩ : ∃ y_ : List Int, y_ = (x13_4 ++ [t252]) := ⟨_, rfl⟩
                                            replace H : (spec_ParseSide.l1 k4 t233 x11_3 t245 y254 (wrap64 (x14_4 + 1)) x243000_3 t237 t240) = some (r1, r2, r3, r4) := by first | (rw [hy254]; with_reducible exact H) | (have H2_ := (Option.bind_some _ _).symm.trans H; rw [hy254]; with_reducible exact H2_) | (have H2_ := (Option.bind_some _ _).symm.trans H; with_reducible exact H2_) | with_reducible exact H | (rw [hy254]; exact H) | exact H
                                            have Ny254 := Aside0.mk hy254
                                            clear hy254
                                            have H' := Aside0.mk H
                                            clear H
                                            have p251 : 0 ≤ (x14_4 : Int) := of_decide_eq_true as_
                                            have q251 : x14_4 < (t245.length : Int) := of_decide_eq_true as_
                                            obtain ⟨ad251, e251, hx251_0⟩ := Kd.at_string (Kd.R_reads' HO_12.out).2.2 x14_4 p251 q251
                                            cases e251
                                            replace p251 := eq_true p251
                                            replace q251 := eq_true q251
                                            go_wp2_with (first | ((with_reducible refine gate_callee (f := 43) rfl ?_); refine goesL_ (some 82) rfl rfl Tryz.func43 (by kernel_rfl) rfl #[.string (rdOf ByteArray.empty t245 x14_4)] rfl (me_) ?_; (with_reducible refine (spec_l01Read.calls k4 (rdOf ByteArray.empty t245 x14_4) _ _ _ A39.out).mono ?_); rintro e w42 ⟨rfl, hb⟩; refine ⟨_, rfl, ?_⟩; have n0_ := Aside0.mk (Kd.R_below (by (with_reducible repeat (first | apply Kd.R_alloc | apply Kd.R_drewN | apply Kd.R_drew)); exact HO_5.out) hb); have n1_ := Aside0.mk (Kd.R_below (by (with_reducible repeat (first | apply Kd.R_alloc | apply Kd.R_drewN | apply Kd.R_drew)); exact HO_12.out) hb); have n2_ := Aside0.mk (Kd.R_below (by (with_reducible repeat (first | apply Kd.R_alloc | apply Kd.R_drewN | apply Kd.R_drew)); exact HO_13.out) hb); have n3_ := Aside0.mk (Kd.R_below (by (with_reducible repeat (first | apply Kd.R_alloc | apply Kd.R_drewN | apply Kd.R_drew)); exact HO_243000.out) hb); have n4_ := bb_ BK231 hb; have n5_ := bb_ BK232 hb; have n6_ := bb_ BK242 hb; have n7_ := Aside0.mk (below_step (hb3_ GE231 GE232 GE242) hb); clear HO_5; clear HO_12; clear HO_13; clear HO_243000; clear BK231; clear BK232; clear BK242; clear HB; have HO_5 := n0_; have HO_12 := n1_; have HO_13 := n2_; have HO_243000 := n3_; have BK231 := n4_; have BK232 := n5_; have BK242 := n6_; have HB := n7_; clear n0_ n1_ n2_ n3_ n4_ n5_ n6_ n7_; (try clear hb); (try clear hb2); (try clear hk); (try clear hi)) | ((with_reducible refine gate_builtin (b := .append) (xs := #[.tmp 88, .tmp 90]) rfl ?_); (try (refine gate_guard (by rfl) ?_; dsimp only)); at_builtin; refine Kd.R_append (Kd.int .i64) (w0 := w) w.heap.size rfl (.tmp 88) (.tmp 90) 63 3 (.int .i64 0) 8 rfl Tryz.underlying63 info3 rfl (by decide) (by omega) u13 x13_4 t252 [.int .i64 t252] (fun _ => True) (fun _ => False) rfl rfl ?aP (fun _ hk => hk.elim) ?aF ?aO ?aB ?aS ?aL ?_; (case aP => exact rfl); (case aB => exact (hb3_ GE231 GE232 GE242)); (case aF => exact (fun _ _ => trivial)); (case aO => exact (by (with_reducible repeat (first | apply Kd.R_alloc | apply Kd.R_drewN | apply Kd.R_drew)); exact HO_13.out)); (case aS => exact (below_size (hb3_ GE231 GE232 GE242))); (case aL => have := LMc41.out; omega); intro v255 w43 ho hb hg hat; rw [← Ny254.out] at ho; have n0_ := Aside0.mk (Kd.R_over' (by (with_reducible repeat (first | apply Kd.R_alloc | apply Kd.R_drewN | apply Kd.R_drew)); exact HO_5.out) (Kd.R_typed (by (with_reducible repeat (first | apply Kd.R_alloc | apply Kd.R_drewN | apply Kd.R_drew)); exact HO_13.out)) (by decide) hg); have n1_ := Aside0.mk (Kd.R_over' (by (with_reducible repeat (first | apply Kd.R_alloc | apply Kd.R_drewN | apply Kd.R_drew)); exact HO_12.out) (Kd.R_typed (by (with_reducible repeat (first | apply Kd.R_alloc | apply Kd.R_drewN | apply Kd.R_drew)); exact HO_13.out)) (by decide) hg); have n2_ := Aside0.mk (Kd.R_over' (by (with_reducible repeat (first | apply Kd.R_alloc | apply Kd.R_drewN | apply Kd.R_drew)); exact HO_243000.out) (Kd.R_typed (by (with_reducible repeat (first | apply Kd.R_alloc | apply Kd.R_drewN | apply Kd.R_drew)); exact HO_13.out)) (by decide) hg); have n3_ := Aside0.mk (blk_grown (g := gb231) (o := .cells #[.slice none 0 0, .int .i64 x232001_4, .int .i64 x232002_4] 43 (0, 0)) (bk_ BK231) hg (Kd.R_ne HO_13.out BK231.out (by decide))); have n4_ := Aside0.mk (blk_grown (g := gb232) (o := .cells #[.slice none 0 0, .int .i64 0, .int .i64 0] 43 (0, 0)) (bk_ BK232) hg (Kd.R_ne HO_13.out BK232.out (by decide))); have n5_ := Aside0.mk (blk_grown (g := gb242) (o := .cells #[u243000, .int .i64 t237, .int .i64 t240] 43 (0, 0)) (bk_ BK242) hg (Kd.R_ne HO_13.out BK242.out (by decide))); have n6_ := Aside0.mk (hb); have HO256 := Aside0.mk (ho); clear HO_5; clear HO_12; clear HO_243000; clear BK231; clear BK232; clear BK242; clear HB; clear HO_13; have HO_5 := n0_; have HO_12 := n1_; have HO_243000 := n2_; have BK231 := n3_; have BK232 := n4_; have BK242 := n5_; have HB := n6_; clear n0_ n1_ n2_ n3_ n4_ n5_ n6_; clear ho hb hg hat))
                                            go_roundg k4
                                            case measure => have := HJ3.out; have := HJ17.out; have := HK3.out; have := HK4.out; omega
                                            case rel => exact ⟨(y254), (wrap64 (x14_4 + 1)), (x232001_4), (x232002_4), (rs_), H', ⟨by have := HJ3.out; have := HJ17.out; have := HK3.out; have := HK4.out; omega⟩, ⟨by (with_reducible repeat (first | apply Kd.R_alloc | apply Kd.R_drewN | apply Kd.R_drew)); exact HO_5.out⟩, ⟨by (with_reducible repeat (first | apply Kd.R_alloc | apply Kd.R_drewN | apply Kd.R_drew)); exact HO_12.out⟩, ⟨by (with_reducible repeat (first | apply Kd.R_alloc | apply Kd.R_drewN | apply Kd.R_drew)); exact HO256.out⟩, ⟨by (with_reducible repeat (first | apply Kd.R_alloc | apply Kd.R_drewN | apply Kd.R_drew)); exact HO_243000.out⟩, ⟨bk_ BK231⟩, ⟨bk_ BK232⟩, ⟨bk_ BK242⟩, ⟨hb3_ GE231 GE232 GE242⟩⟩
                                          · rw [if_neg c41] at H
                                            exact absurd H (by simp)
                                        · replace c40 := Bool.eq_false_iff.mpr c40
                                          subst c40
                                          have H1 : (none) = some (r1, r2, r3, r4) := by rw [if_neg (show ¬ (false = true) by decide)] at H; exact H
                                          clear H
                                          have H := H1
                                          clear H1
                                          exact absurd H (by simp)
                                      · rw [if_neg c38] at H
                                        exact absurd H (by simp)
                                    · rw [if_neg c37] at H
                                      exact absurd H (by simp)
                                  · rw [if_neg c36] at H
                                    have c36b0 : decide (x14_4 < 3) = false := decide_eq_false c36
                                    clear c36
                                    by_cases c44 : 0 < (x13_4.length : Int)
                                    · rw [if_pos c44] at H
                                      have c44b0 : decide (0 < (x13_4.length : Int)) = true := decide_eq_true c44
                                      have c44b1 : decide (0 < x13_4.length) = true := decide_eq_true (by omega)
                                      clear c44
                                      by_cases c45 : 1 < (x13_4.length : Int)
                                      · rw [if_pos c45] at H
                                        have c45b0 : decide (1 < (x13_4.length : Int)) = true := decide_eq_true c45
                                        have c45b1 : decide (1 < x13_4.length) = true := decide_eq_true (by omega)
                                        clear c45
                                        by_cases c46 : 2 < (x13_4.length : Int)
                                        · rw [if_pos c46] at H
                                          have c46b0 : decide (2 < (x13_4.length : Int)) = true := decide_eq_true c46
                                          have c46b1 : decide (2 < x13_4.length) = true := decide_eq_true (by omega)
                                          clear c46
                                          by_cases c47 : x243000_3.length < 5864062014805
                                          · rw [if_pos c47] at H
                                            have LMc47 := Aside0.mk c47
                                            clear c47
                                            obtain ⟨y260, hy260⟩ : ∃ y_ : List (S118), y_ = (x243000_3 ++ [(⟨rd x13_4 0, rd x13_4 1, rd x13_4 2⟩ : S118)]) := ⟨_, rfl⟩
                                            replace H : (spec_ParseSide.l0 k4 t233 (wrap64 (x11_3 + 1)) y260 t237 t240) = some (r1, r2, r3, r4) := by first | (rw [hy260]; with_reducible exact H) | (have H2_ := (Option.bind_some _ _).symm.trans H; rw [hy260]; with_reducible exact H2_) | (have H2_ := (Option.bind_some _ _).symm.trans H; with_reducible exact H2_) | with_reducible exact H | (rw [hy260]; exact H) | exact H
                                            have Ny260 := Aside0.mk hy260
                                            clear hy260
                                            have H' := Aside0.mk H
                                            clear H
                                            try go_wp2
                                            have n0_ := Aside0.mk (Kd.R_drew HO_5.out)
                                            have n1_ := Aside0.mk (Kd.R_drew HO_12.out)
                                            have n2_ := Aside0.mk (Kd.R_drew HO_13.out)
                                            have n3_ := Aside0.mk (Kd.R_drew HO_243000.out)
                                            have n4_ := Aside0.mk (blk_drew BK231.out)
                                            have n5_ := Aside0.mk (blk_drew BK232.out)
                                            have n6_ := Aside0.mk (blk_drew BK242.out)
                                            have n7_ := Aside0.mk (below_drew1 HB.out)
                                            clear HO_5
                                            clear HO_12
                                            clear HO_13
                                            clear HO_243000
                                            clear BK231
                                            clear BK232
                                            clear BK242
                                            clear HB
                                            have HO_5 := n0_
                                            have HO_12 := n1_
                                            have HO_13 := n2_
                                            have HO_243000 := n3_
                                            have BK231 := n4_
                                            have BK232 := n5_
                                            have BK242 := n6_
                                            have HB := n7_
                                            clear n0_ n1_ n2_ n3_ n4_ n5_ n6_ n7_
                                            obtain ⟨Ao49, co49, eo49⟩ := Kd.R_slice HO_13.out
                                            (first | subst eo49 | (injection eo49 with f1_ f2_ f3_; have f4_ := f1_.symm; have f5_ := f3_.symm; clear f1_ f2_ f3_; subst f4_; subst f5_))
                                            have p257 : 0 ≤ (0 : Int) := (by omega)
                                            have q257 : 0 < (x13_4.length : Int) := of_decide_eq_true as_
                                            obtain ⟨ad257, e257, hx257_0⟩ := Kd.at_int (Kd.R_reads' HO_13.out).2.2 0 p257 q257
                                            cases e257
                                            have qi257 : (0 < x13_4.length) = True := eq_true (by omega)
                                            (try rw [show ((0 : Int)).toNat = 0 from rfl] at hx257_0)
                                            (try rw [Addr.add_zero'] at hx257_0)
                                            replace p257 := eq_true p257
                                            replace q257 := eq_true q257
                                            have p258 : 0 ≤ (1 : Int) := (by omega)
                                            have q258 : 1 < (x13_4.length : Int) := of_decide_eq_true as_
                                            obtain ⟨ad258, e258, hx258_0⟩ := Kd.at_int (Kd.R_reads' HO_13.out).2.2 1 p258 q258
                                            obtain rfl : ad257 = ad258 := (by injection e258)
                                            (try simp only [show (1 : Int).toNat = 1 from rfl, Nat.reduceMul, Nat.reduceEqDiff, Go.Addr.add, ↓reduceIte] at hx258_0)
                                            have qi258 : (1 < x13_4.length) = True := eq_true (by omega)
                                            (try rw [show ((1 : Int)).toNat = 1 from rfl] at hx258_0)
                                            replace p258 := eq_true p258
                                            replace q258 := eq_true q258
                                            have p259 : 0 ≤ (2 : Int) := (by omega)
                                            have q259 : 2 < (x13_4.length : Int) := of_decide_eq_true as_
                                            obtain ⟨ad259, e259, hx259_0⟩ := Kd.at_int (Kd.R_reads' HO_13.out).2.2 2 p259 q259
                                            obtain rfl : ad257 = ad259 := (by injection e259)
                                            (try simp only [show (2 : Int).toNat = 2 from rfl, Nat.reduceMul, Nat.reduceEqDiff, Go.Addr.add, ↓reduceIte] at hx259_0)
                                            have qi259 : (2 < x13_4.length) = True := eq_true (by omega)
                                            (try rw [show ((2 : Int)).toNat = 2 from rfl] at hx259_0)
                                            replace p259 := eq_true p259
                                            replace q259 := eq_true q259
                                            refine start_ (n := 16) (S := fun w' => w'.cell? ⟨gb242, 0, none⟩ = some (u243000) ∧ w'.cell? ⟨gb242, 1, none⟩ = some (.int .i64 t237) ∧ w'.cell? ⟨gb242, 2, none⟩ = some (.int .i64 t240) ∧ w'.cell? ad257 = some (.int .i64 (rd x13_4 0)) ∧ w'.cell? ⟨ad257.block, ad257.off + 1, none⟩ = some (.int .i64 (rd x13_4 1)) ∧ w'.cell? ⟨ad257.block, ad257.off + 2, none⟩ = some (.int .i64 (rd x13_4 2))) (ds := [13, 15]) #[false, false, false, false, false, false, false, false, false, false, false, false, false, false, false, false] (by kernel_rfl) rfl rfl ⟨(blk_cell BK242.out 0).trans rfl, (blk_cell BK242.out 1).trans rfl, (blk_cell BK242.out 2).trans rfl, hx257_0, hx258_0, hx259_0⟩ (fun hHeld => ?_); refine with_tabW spec_ParseSide.tab26 spec_ParseSide.bits26 (fun HT_ HW_ => ?_)
                                            generalize wr.drew = w48 at HO_5 HO_12 HO_13 HO_243000 BK231 BK232 BK242 HB hx257_0 hx258_0 hx259_0 hHeld ⊢
                                            refine pure_ (i := 0) (N := some 92) (v := ?_) (a' := ?_) #[true, false, false, false, false, false, false, false, false, false, false, false, false, false, false, false] rfl rfl (any_of HT_.out (by kernel_rfl)) (fun _ _ _ h => h) (Or.inl ⟨by rfl, ?_⟩) ?_ ?_
                                            rotate_left
                                            · intro w'
                                              go_simp
                                              with_reducible rfl
                                            rotate_left
                                            · simp only [Act.put, List.setIfInBounds_toArray, List.set_cons_zero, List.set_cons_succ, i64_w, i32_w]
                                              rfl
                                            refine pure_ (i := 2) (N := some 94) (v := ?_) (a' := ?_) #[true, false, true, false, false, false, false, false, false, false, false, false, false, false, false, false] rfl rfl (any_of HT_.out (by kernel_rfl)) (fun _ _ _ h => h) (Or.inl ⟨by rfl, ?_⟩) ?_ ?_
                                            rotate_left
                                            · intro w'
                                              go_simp
                                              with_reducible rfl
                                            rotate_left
                                            · simp only [Act.put, List.setIfInBounds_toArray, List.set_cons_zero, List.set_cons_succ, i64_w, i32_w]
                                              rfl
                                            refine pure_ (i := 3) (N := some 95) (v := ?_) (a' := ?_) #[true, false, true, true, false, false, false, false, false, false, false, false, false, false, false, false] rfl rfl (any_of HT_.out (by kernel_rfl)) (fun _ _ _ h => h) (Or.inl ⟨by rfl, ?_⟩) ?_ ?_
                                            rotate_left
                                            · intro w'
                                              go_simp
                                              with_reducible rfl
                                            rotate_left
                                            · simp only [Act.put, List.setIfInBounds_toArray, List.set_cons_zero, List.set_cons_succ, i64_w, i32_w]
                                              rfl
                                            refine pure_ (i := 5) (N := some 97) (v := ?_) (a' := ?_) #[true, false, true, true, false, true, false, false, false, false, false, false, false, false, false, false] rfl rfl (any_of HT_.out (by kernel_rfl)) (fun _ _ _ h => h) (Or.inl ⟨by rfl, ?_⟩) ?_ ?_
                                            rotate_left
                                            · intro w'
                                              go_simp
                                              with_reducible rfl
                                            rotate_left
                                            · simp only [Act.put, List.setIfInBounds_toArray, List.set_cons_zero, List.set_cons_succ, i64_w, i32_w]
                                              rfl
                                            refine pure_ (i := 6) (N := some 98) (v := ?_) (a' := ?_) #[true, false, true, true, false, true, true, false, false, false, false, false, false, false, false, false] rfl rfl (any_of HT_.out (by kernel_rfl)) (fun _ _ _ h => h) (Or.inl ⟨by rfl, ?_⟩) ?_ ?_
                                            rotate_left
                                            · intro w'
                                              go_simp
                                              with_reducible rfl
                                            rotate_left
                                            · simp only [Act.put, List.setIfInBounds_toArray, List.set_cons_zero, List.set_cons_succ, i64_w, i32_w]
                                              rfl
                                            refine pure_ (i := 8) (N := some 100) (v := ?_) (a' := ?_) #[true, false, true, true, false, true, true, false, true, false, false, false, false, false, false, false] rfl rfl (any_of HT_.out (by kernel_rfl)) (fun _ _ _ h => h) (Or.inl ⟨by rfl, ?_⟩) ?_ ?_
                                            rotate_left
                                            · intro w'
                                              go_simp
                                              with_reducible rfl
                                            rotate_left
                                            · simp only [Act.put, List.setIfInBounds_toArray, List.set_cons_zero, List.set_cons_succ, i64_w, i32_w]
                                              rfl
                                            refine pure_ (i := 9) (N := some 101) (v := ?_) (a' := ?_) #[true, false, true, true, false, true, true, false, true, true, false, false, false, false, false, false] rfl rfl (any_of HT_.out (by kernel_rfl)) (fun _ _ _ h => h) (Or.inl ⟨by rfl, ?_⟩) ?_ ?_
                                            rotate_left
                                            · intro w'
                                              go_simp
                                              with_reducible rfl
                                            rotate_left
                                            · simp only [Act.put, List.setIfInBounds_toArray, List.set_cons_zero, List.set_cons_succ, i64_w, i32_w]
                                              rfl
                                            refine take_ (i := 1) (N := some 93) (v := ?_) (a' := ?_) #[true, true, true, true, false, true, true, false, true, true, false, false, false, false, false, false] rfl rfl (take_ofW HT_.out HW_.out (by kernel_rfl)) (fun _ _ _ h => h) (Or.inl ⟨by rfl, ?_⟩) hHeld ?_ ?_
                                            rotate_left
                                            · rintro w' ⟨s0, s1, s2, s3, s4, s5⟩
                                              go_simp
                                              with_reducible rfl
                                            rotate_left
                                            · simp only [Act.put, List.setIfInBounds_toArray, List.set_cons_zero, List.set_cons_succ, i64_w, i32_w]
                                              rfl
                                            refine take_ (i := 4) (N := some 96) (v := ?_) (a' := ?_) #[true, true, true, true, true, true, true, false, true, true, false, false, false, false, false, false] rfl rfl (take_ofW HT_.out HW_.out (by kernel_rfl)) (fun _ _ _ h => h) (Or.inl ⟨by rfl, ?_⟩) hHeld ?_ ?_
                                            rotate_left
                                            · rintro w' ⟨s0, s1, s2, s3, s4, s5⟩
                                              go_simp
                                              with_reducible rfl
                                            rotate_left
                                            · simp only [Act.put, List.setIfInBounds_toArray, List.set_cons_zero, List.set_cons_succ, i64_w, i32_w]
                                              rfl
                                            refine take_ (i := 7) (N := some 99) (v := ?_) (a' := ?_) #[true, true, true, true, true, true, true, true, true, true, false, false, false, false, false, false] rfl rfl (take_ofW HT_.out HW_.out (by kernel_rfl)) (fun _ _ _ h => h) (Or.inl ⟨by rfl, ?_⟩) hHeld ?_ ?_
                                            rotate_left
                                            · rintro w' ⟨s0, s1, s2, s3, s4, s5⟩
                                              go_simp
                                              with_reducible rfl
                                            rotate_left
                                            · simp only [Act.put, List.setIfInBounds_toArray, List.set_cons_zero, List.set_cons_succ, i64_w, i32_w]
                                              rfl
                                            refine take_ (i := 10) (N := some 102) (v := ?_) (a' := ?_) #[true, true, true, true, true, true, true, true, true, true, true, false, false, false, false, false] rfl rfl (take_ofW HT_.out HW_.out (by kernel_rfl)) (fun _ _ _ h => h) (Or.inl ⟨by rfl, ?_⟩) hHeld ?_ ?_
                                            rotate_left
                                            · rintro w' ⟨s0, s1, s2, s3, s4, s5⟩
                                              go_simp
                                              with_reducible rfl
                                            rotate_left
                                            · simp only [Act.put, List.setIfInBounds_toArray, List.set_cons_zero, List.set_cons_succ, i64_w, i32_w]
                                              rfl
                                            refine pure_ (i := 11) (N := some 103) (v := ?_) (a' := ?_) #[true, true, true, true, true, true, true, true, true, true, true, true, false, false, false, false] rfl rfl (any_of HT_.out (by kernel_rfl)) (fun _ _ _ h => h) (Or.inl ⟨by rfl, ?_⟩) ?_ ?_
                                            rotate_left
                                            · intro w'
                                              go_simp
                                              with_reducible rfl
                                            rotate_left
                                            · simp only [Act.put, List.setIfInBounds_toArray, List.set_cons_zero, List.set_cons_succ, i64_w, i32_w]
                                              rfl
                                            refine one_ (i := 12) (N := some 104) #[true, true, true, true, true, true, true, true, true, true, true, true, true, false, false, false] rfl rfl (one_of HT_.out (by kernel_rfl)) (by decide) (fun K hK => ?_)
                                            refine value_ (w1 := ?_) (v := ?_) (by rfl) rfl ?_ ?_
                                            rotate_left 2
                                            · go_simp
                                              constructor
                                              · rfl
                                              · rfl
                                            refine hK.out _ _ ⟨(blk_cell (blk_alloc BK242.out _) 0).trans rfl, (blk_cell (blk_alloc BK242.out _) 1).trans rfl, (blk_cell (blk_alloc BK242.out _) 2).trans rfl, (World.cell?_alloc_lt _ _ _ (World.block_lt_of_cell? _ _ (hHeld.2.2.2.1))).trans (hHeld.2.2.2.1), (World.cell?_alloc_lt _ _ _ (World.block_lt_of_cell? _ _ (hHeld.2.2.2.2.1))).trans (hHeld.2.2.2.2.1), (World.cell?_alloc_lt _ _ _ (World.block_lt_of_cell? _ _ (hHeld.2.2.2.2.2))).trans (hHeld.2.2.2.2.2)⟩ (fun hHeld => ?_)
                                            clear hK K
                                            refine norm_ (a' := ?_) ?_ ?_
                                            rotate_left
                                            · show Act.put _ (some 104) _ = _
                                              simp only [Act.put, List.setIfInBounds_toArray, List.set_cons_zero, List.set_cons_succ, i64_w, i32_w]
                                              rfl
                                            refine last_ (i := 13) (N := some 105) #[true, true, true, true, true, true, true, true, true, true, true, true, true, true, false, false] rfl rfl (one_of HT_.out (by kernel_rfl)) (by decide) (fun K hK => ?_)
                                            refine Kd.R_append_step k118 (w0 := w) w.heap.size (by rfl) (.tmp 93) (.tmp 104) 41 118 (.agg #[(.int .i64 0), (.int .i64 0), (.int .i64 0)]) 24 rfl Tryz.underlying41 info118 rfl (by decide) (by omega) u243000 x243000_3 (⟨rd x13_4 0, rd x13_4 1, rd x13_4 2⟩ : S118) [.int .i64 (rd x13_4 0), .int .i64 (rd x13_4 1), .int .i64 (rd x13_4 2)] (fun _ => True) (fun _ => False) rfl rfl ?aP (fun _ hk => hk.elim) ?aF ?aO ?aB ?aS ?aL ?_
                                            (case aP => exact k118_mkM _ _ _ (⟨rd x13_4 0, rd x13_4 1, rd x13_4 2⟩ : S118))
                                            (case aB => exact (hb3_ GE231 GE232 GE242))
                                            (case aF => exact (fun _ _ => trivial))
                                            (case aO => exact (by (with_reducible repeat (first | apply Kd.R_alloc | apply Kd.R_drewN | apply Kd.R_drew)); exact HO_243000.out))
                                            (case aS => exact (below_size (hb3_ GE231 GE232 GE242)))
                                            (case aL => have := LMc47.out; omega)
                                            intro v261 w50 ho hb hg hat
                                            rw [← Ny260.out] at ho
                                            have n0_ := Aside0.mk (Kd.R_over' (by (with_reducible repeat (first | apply Kd.R_alloc | apply Kd.R_drewN | apply Kd.R_drew)); exact HO_5.out) (Kd.R_typed (by (with_reducible repeat (first | apply Kd.R_alloc | apply Kd.R_drewN | apply Kd.R_drew)); exact HO_243000.out)) (by decide) hg)
                                            have n1_ := Aside0.mk (Kd.R_over' (by (with_reducible repeat (first | apply Kd.R_alloc | apply Kd.R_drewN | apply Kd.R_drew)); exact HO_12.out) (Kd.R_typed (by (with_reducible repeat (first | apply Kd.R_alloc | apply Kd.R_drewN | apply Kd.R_drew)); exact HO_243000.out)) (by decide) hg)
                                            have n2_ := Aside0.mk (Kd.R_over' (by (with_reducible repeat (first | apply Kd.R_alloc | apply Kd.R_drewN | apply Kd.R_drew)); exact HO_13.out) (Kd.R_typed (by (with_reducible repeat (first | apply Kd.R_alloc | apply Kd.R_drewN | apply Kd.R_drew)); exact HO_243000.out)) (by decide) hg)
                                            have n3_ := Aside0.mk (blk_grown (g := gb231) (o := .cells #[.slice none 0 0, .int .i64 x232001_4, .int .i64 x232002_4] 43 (0, 0)) (bk_ BK231) hg (Kd.R_ne HO_243000.out BK231.out (by decide)))
                                            have n4_ := Aside0.mk (blk_grown (g := gb232) (o := .cells #[.slice none 0 0, .int .i64 0, .int .i64 0] 43 (0, 0)) (bk_ BK232) hg (Kd.R_ne HO_243000.out BK232.out (by decide)))
                                            have n5_ := Aside0.mk (blk_grown (g := gb242) (o := .cells #[u243000, .int .i64 t237, .int .i64 t240] 43 (0, 0)) (bk_ BK242) hg (Kd.R_ne HO_243000.out BK242.out (by decide)))
                                            have n6_ := Aside0.mk (hb)
                                            have n7_ := Aside0.mk (ho)
                                            clear HO_5
                                            clear HO_12
                                            clear HO_13
                                            clear BK231
                                            clear BK232
                                            clear BK242
                                            clear HB
                                            clear HO_243000
                                            have HO_5 := n0_
                                            have HO_12 := n1_
                                            have HO_13 := n2_
                                            have BK231 := n3_
                                            have BK232 := n4_
                                            have BK242 := n5_
                                            have HB := n6_
                                            have HO262 := n7_
                                            clear n0_ n1_ n2_ n3_ n4_ n5_ n6_ n7_
                                            clear ho hb hg hat
                                            obtain ⟨Ao51, co51, eo51⟩ := Kd.R_slice HO262.out
                                            (first | subst eo51 | (injection eo51 with f1_ f2_ f3_; have f4_ := f1_.symm; have f5_ := f3_.symm; clear f1_ f2_ f3_; subst f4_; subst f5_))
                                            refine hK.out _ _ ?_
                                            clear hK K
                                            refine norm_ (a' := ?_) ?_ ?_
                                            rotate_left
                                            · show Act.put _ (some 105) _ = _
                                              simp only [Act.put, List.setIfInBounds_toArray, List.set_cons_zero, List.set_cons_succ, i64_w, i32_w]
                                              rfl
                                            refine pure_ (i := 14) (N := some 106) (v := ?_) (a' := ?_) #[true, true, true, true, true, true, true, true, true, true, true, true, true, true, true, false] rfl rfl (any_of HT_.out (by kernel_rfl)) (fun _ _ _ h => h) (Or.inl ⟨by rfl, ?_⟩) ?_ ?_
                                            rotate_left
                                            · intro w'
                                              go_simp
                                              with_reducible rfl
                                            rotate_left
                                            · simp only [Act.put, List.setIfInBounds_toArray, List.set_cons_zero, List.set_cons_succ, i64_w, i32_w]
                                              rfl
                                            refine last_ (i := 15) (N := none) #[true, true, true, true, true, true, true, true, true, true, true, true, true, true, true, true] rfl rfl (one_of HT_.out (by kernel_rfl)) (by decide) (fun K hK => ?_)
                                            have hs52 : w50.cell? ⟨gb242, 0, none⟩ = some (u243000) := (blk_cell BK242.out 0).trans rfl
                                            have hfs52 := blk_frozen BK242.out 0
                                            have hns52_0 := NB231_242.out
                                            have hns52_1 := NB232_242.out
                                            have hms52_0 := NB242_231.out
                                            have hms52_1 := NB242_232.out
                                            refine skip_ (w1 := ?_) (by rfl) rfl ?_ ?_
                                            rotate_left
                                            · go_simp
                                              rfl
                                            refine hK.out _ _ ?_
                                            clear hK K
                                            refine done_ (done_of HT_.out (by kernel_rfl)) ?_
                                            try go_wp2
                                            go_roundg k4
                                            case measure => have := HJ3.out; have := HJ17.out; have := HK3.out; have := HK4.out; omega
                                            case rel => exact ⟨(wrap64 (x11_3 + 1)), (x232001_4), (x232002_4), (y260), (.slice Ao51 y260.length co51), (rs_), H', ⟨by have := HJ3.out; have := HJ17.out; have := HK3.out; have := HK4.out; omega⟩, ⟨by (with_reducible repeat (first | apply Kd.R_alloc | apply Kd.R_drewN | apply Kd.R_drew)); exact Kd.R_mono (Kd.R_far (p := ⟨gb242, 0, none⟩) (Kd.R_types HO_5.out BK242.out (by decide)) (fun _ hk => hk.2) (.slice Ao51 y260.length co51)) (fun _ hk => trivial)⟩, ⟨by (with_reducible repeat (first | apply Kd.R_alloc | apply Kd.R_drewN | apply Kd.R_drew)); exact Kd.R_mono (Kd.R_far (p := ⟨gb242, 0, none⟩) (Kd.R_types HO262.out BK242.out (by decide)) (fun _ hk => hk.2) (.slice Ao51 y260.length co51)) (fun _ hk => trivial)⟩, ⟨bp_ BK231⟩, ⟨bp_ BK232⟩, ⟨bp_ BK242⟩, ⟨hb3_ GE231 GE232 GE242⟩⟩
                                          · rw [if_neg c47] at H
                                            exact absurd H (by simp)
                                        · rw [if_neg c46] at H
                                          exact absurd H (by simp)
                                      · rw [if_neg c45] at H
                                        exact absurd H (by simp)
                                    · rw [if_neg c44] at H
                                      exact absurd H (by simp)
                            · rw [if_neg c31] at H
                              have c31b0 : ((t245.length : Int) == 3) = false := beq_eq_false_iff_ne.mpr c31
                              have c31b1 : ((t245.length : Int) != 3) = true := bne_iff_ne.mpr c31
                              exact absurd H (by simp)
                          · rw [if_neg c29] at H
                            exact absurd H (by simp)
                        · rw [if_neg c28] at H
                          have c28b0 : decide (x11_3 < (t233.length : Int)) = false := decide_eq_false c28
                          clear c28
                          replace H := Option.bind_eq_some_iff.mp H
                          obtain ⟨t243, A530, H⟩ := H
                          replace H : (if t243 = true then (some (x243000_3, t237, t240, true)) else (none)) = some (r1, r2, r3, r4) := H
                          have A53 := Aside0.mk A530
                          clear A530
                          by_cases c54 : t243 = true
                          · subst c54
                            have H1 : (some (x243000_3, t237, t240, true)) = some (r1, r2, r3, r4) := by rw [if_pos rfl] at H; exact H
                            clear H
                            have H := H1
                            clear H1
                            simp only [Option.some.injEq, Prod.mk.injEq] at H
                            obtain ⟨rfl, rfl, rfl, rfl⟩ := H
                            have hnb55 := NB242_231.out
                            have hnc55 := NB231_242.out
                            have hnb56 := NB242_232.out
                            have hnc56 := NB232_242.out
                            obtain ⟨cz57_0, fz57_0⟩ := bc_ BK242 0
                            obtain ⟨cz57_1, fz57_1⟩ := bc_ BK242 1
                            obtain ⟨cz57_2, fz57_2⟩ := bc_ BK242 2
                            obtain ⟨Ao58, co58, eo58⟩ := Kd.R_slice HO_243000.out
                            subst eo58
                            go_wp2_with (first | ((with_reducible refine gate_callee (f := 71) rfl ?_); refine goesL_ (some 108) rfl rfl Tryz.func71 (by kernel_rfl) rfl #[.agg #[.slice Ao58 x243000_3.length co58, .int .i64 t237, .int .i64 t240]] rfl (me_) ?_; (with_reducible refine (spec_SideOk.calls k3 _ _ x243000_3 t237 t240 _ _ ?side1 ?side2 A53.out).mono ?_); (case side1 => repeat (first | exact (Kd.R_reads' HO_243000.out).2.2 | (with_reducible refine Kd.C_alloc ?_ _) | (with_reducible refine Kd.C_drewN ?_ _) | (with_reducible refine Kd.C_drew ?_))); (case side2 => exact (Kd.R_reads' HO_243000.out).2.1); rintro e w59 ⟨rfl, hb⟩; refine ⟨_, rfl, ?_⟩; have n0_ := Aside0.mk (Kd.R_below (by (with_reducible repeat (first | apply Kd.R_alloc | apply Kd.R_drewN | apply Kd.R_drew)); exact HO_5.out) hb); have n1_ := Aside0.mk (Kd.R_below (by (with_reducible repeat (first | apply Kd.R_alloc | apply Kd.R_drewN | apply Kd.R_drew)); exact HO_243000.out) hb); have n2_ := bb_ BK231 hb; have n3_ := bb_ BK232 hb; have n4_ := bb_ BK242 hb; have n5_ := Aside0.mk (below_step (hb3_ GE231 GE232 GE242) hb); clear HO_5; clear HO_243000; clear BK231; clear BK232; clear BK242; clear HB; have HO_5 := n0_; have HO_243000 := n1_; have BK231 := n2_; have BK232 := n3_; have BK242 := n4_; have HB := n5_; clear n0_ n1_ n2_ n3_ n4_ n5_; (try clear hb); (try clear hb2); (try clear hk); (try clear hi); obtain ⟨cz60_0, fz60_0⟩ := bc_ BK242 0; obtain ⟨cz60_1, fz60_1⟩ := bc_ BK242 1; obtain ⟨cz60_2, fz60_2⟩ := bc_ BK242 2; have hnb61 := NB231_232.out; have hnc61 := NB232_231.out; obtain ⟨⟨cz62_0, fz62_0⟩, ⟨cz62_1, fz62_1⟩, ⟨cz62_2, fz62_2⟩⟩ := bc3_ BK231))
                            refine bodyPost_ret (results_ct rfl _ _ gb231 43 #[.slice Ao58 x243000_3.length co58, .int .i64 t237, .int .i64 t240] (0, 0) _ rfl (bp_ BK231) Tryz.underlying43 rfl (by kernel_rfl)) rfl ?_
                            exact ⟨_, re_, by (with_reducible repeat (first | apply Kd.R_alloc | apply Kd.R_drewN | apply Kd.R_drew)); exact Kd.R_mono (rf_ (Kd.R_types HO_243000.out BK231.out (by decide))) (fun _ hk => trivial), hb3_ GE231 GE232 GE242⟩
                          · replace c54 := Bool.eq_false_iff.mpr c54
                            subst c54
                            have H1 : (none) = some (r1, r2, r3, r4) := by rw [if_neg (show ¬ (false = true) by decide)] at H; exact H
                            clear H
                            have H := H1
                            clear H1
                            exact absurd H (by simp)
            · rw [if_neg c16] at H
              exact absurd H (by simp)
          · rw [if_neg c14] at H
            exact absurd H (by simp)
end Go.Proofs.YtcjeblikejoogaaGreatDoor.PFnExactOpLine
