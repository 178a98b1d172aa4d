-- OVER PRINTED WORDS: laid by this session's program; what this claim does not use is left out; Lean checks it.
import Derived.Test.YtcjeblikejoogaaGreatDoorQTy
import Derived.Test.YtcjeblikejoogaaGreatDoorQSq
import Derived.Test.YtcjeblikejoogaaGreatDoorQPb
namespace Go.Proofs.YtcjeblikejoogaaGreatDoor.PFnExactOpLine
open Go.RowKit Go.Proofs.YtcjeblikejoogaaGreatDoorW.PrintWords Go.Proofs.YtcjeblikejoogaaGreatDoorW.PrintLast Go.Proofs.YtcjeblikejoogaaGreatDoorW.PrintMore
attribute [local go_sem] max2_int min2_int max_two min_two max_three min_three max_four min_four
set_option linter.unusedVariables false
set_option linter.unusedSimpArgs false
def spec_ParseGoal.f (k : Nat) (a0 : ByteArray) : Option (ByteArray × Int × Int × Bool) := if (a0.size : Int) > 40 then (none) else ((spec_l01Parts.f k a0 32).bind fun t267 => (if (t267.length : Int) = 3 then (if 1 < (t267.length : Int) then ((spec_ParseMilli.f k (rdOf ByteArray.empty t267 1)).bind fun bt271 => (if 2 < (t267.length : Int) then ((spec_l01Read.f k (rdOf ByteArray.empty t267 2)).bind fun bt274 => (if 0 < (t267.length : Int) then (if bt271.2 = true then (if bt274.2 = true then ((spec_GoalOk.f k (rdOf ByteArray.empty t267 0) bt271.1 bt274.1).bind fun t278 => (if t278 = true then (some (rdOf ByteArray.empty t267 0, bt271.1, bt274.1, true)) else (none))) else (none)) else (none)) else (none))) else (none))) else (none)) else (none)))
set_option maxHeartbeats 8000000 in
set_option maxRecDepth 100000 in
theorem spec_ParseGoal.calls (k : Nat) (a0 : ByteArray) (r1 : ByteArray) (r2 r3 : Int) (r4 : Bool) (w : World) (h : spec_ParseGoal.f k a0 = some (r1, r2, r3, r4)) :
    Calls Tryz.prog 75 #[.string a0] w fun e w' => e = .returned (.tuple #[.agg #[.string r1, .int .i64 r2, .int .i64 r3], .bool r4]) ∧ Below w.heap.size w w' := by
  have hu90 := Tryz.underlying90
  have HB := Aside0.mk (Below.refl w.heap.size w)
  have H : (if (a0.size : Int) > 40 then (none) else ((spec_l01Parts.f k a0 32).bind fun t267 => (if (t267.length : Int) = 3 then (if 1 < (t267.length : Int) then ((spec_ParseMilli.f k (rdOf ByteArray.empty t267 1)).bind fun bt271 => (if 2 < (t267.length : Int) then ((spec_l01Read.f k (rdOf ByteArray.empty t267 2)).bind fun bt274 => (if 0 < (t267.length : Int) then (if bt271.2 = true then (if bt274.2 = true then ((spec_GoalOk.f k (rdOf ByteArray.empty t267 0) bt271.1 bt274.1).bind fun t278 => (if t278 = true then (some (rdOf ByteArray.empty t267 0, bt271.1, bt274.1, true)) else (none))) else (none)) else (none)) else (none))) else (none))) else (none)) else (none)))) = some (r1, r2, r3, r4) := h
  clear h
  by_cases c2 : (a0.size : Int) > 40
  · rw [if_pos c2] at H
    have c2b0 : decide (40 < (a0.size : Int)) = true := decide_eq_true c2
    have c2b1 : decide (40 < a0.size) = true := decide_eq_true (by omega)
    clear c2
    exact absurd H (by simp)
  · rw [if_neg c2] at H
    have c2b0 : decide (40 < (a0.size : Int)) = false := decide_eq_false c2
    have c2b1 : decide (40 < a0.size) = false := decide_eq_false (by omega)
    clear c2
    replace H := Option.bind_eq_some_iff.mp H
    obtain ⟨t267, A30, H⟩ := H
    replace H : (if (t267.length : Int) = 3 then (if 1 < (t267.length : Int) then ((spec_ParseMilli.f k (rdOf ByteArray.empty t267 1)).bind fun bt271 => (if 2 < (t267.length : Int) then ((spec_l01Read.f k (rdOf ByteArray.empty t267 2)).bind fun bt274 => (if 0 < (t267.length : Int) then (if bt271.2 = true then (if bt274.2 = true then ((spec_GoalOk.f k (rdOf ByteArray.empty t267 0) bt271.1 bt274.1).bind fun t278 => (if t278 = true then (some (rdOf ByteArray.empty t267 0, bt271.1, bt274.1, true)) else (none))) else (none)) else (none)) else (none))) else (none))) else (none)) else (none)) = some (r1, r2, r3, r4) := H
    have A3 := Aside0.mk A30
    clear A30
    by_cases c4 : (t267.length : Int) = 3
    · rw [if_pos c4] at H
      have c4b0 : ((t267.length : Int) == 3) = true := beq_iff_eq.mpr c4
      have c4b1 : ((t267.length : Int) != 3) = false := bne_eq_false_iff_eq.mpr c4
      clear c4
      by_cases c5 : 1 < (t267.length : Int)
      · rw [if_pos c5] at H
        have c5b0 : decide (1 < (t267.length : Int)) = true := decide_eq_true c5
        have c5b1 : decide (1 < t267.length) = true := decide_eq_true (by omega)
        clear c5
        replace H := Option.bind_eq_some_iff.mp H
        obtain ⟨⟨t271, t272⟩, A60, H⟩ := H
        replace H : (if 2 < (t267.length : Int) then ((spec_l01Read.f k (rdOf ByteArray.empty t267 2)).bind fun bt274 => (if 0 < (t267.length : Int) then (if t272 = true then (if bt274.2 = true then ((spec_GoalOk.f k (rdOf ByteArray.empty t267 0) t271 bt274.1).bind fun t278 => (if t278 = true then (some (rdOf ByteArray.empty t267 0, t271, bt274.1, true)) else (none))) else (none)) else (none)) else (none))) else (none)) = some (r1, r2, r3, r4) := H
        have A6 := Aside0.mk A60
        clear A60
        by_cases c7 : 2 < (t267.length : Int)
        · rw [if_pos c7] at H
          have c7b0 : decide (2 < (t267.length : Int)) = true := decide_eq_true c7
          have c7b1 : decide (2 < t267.length) = true := decide_eq_true (by omega)
          clear c7
          replace H := Option.bind_eq_some_iff.mp H
          obtain ⟨⟨t274, t275⟩, A80, H⟩ := H
          replace H : (if 0 < (t267.length : Int) then (if t272 = true then (if t275 = true then ((spec_GoalOk.f k (rdOf ByteArray.empty t267 0) t271 t274).bind fun t278 => (if t278 = true then (some (rdOf ByteArray.empty t267 0, t271, t274, true)) else (none))) else (none)) else (none)) else (none)) = some (r1, r2, r3, r4) := H
          have A8 := Aside0.mk A80
          clear A80
          by_cases c9 : 0 < (t267.length : Int)
          · rw [if_pos c9] at H
            have c9b0 : decide (0 < (t267.length : Int)) = true := decide_eq_true c9
            have c9b1 : decide (0 < t267.length) = true := decide_eq_true (by omega)
            clear c9
            by_cases c10 : t272 = true
            · subst c10
              have H1 : (if t275 = true then ((spec_GoalOk.f k (rdOf ByteArray.empty t267 0) t271 t274).bind fun t278 => (if t278 = true then (some (rdOf ByteArray.empty t267 0, t271, t274, true)) else (none))) else (none)) = some (r1, r2, r3, r4) := by rw [if_pos rfl] at H; exact H
              clear H
              have H := H1
              clear H1
              by_cases c11 : t275 = true
              · subst c11
                have H1 : ((spec_GoalOk.f k (rdOf ByteArray.empty t267 0) t271 t274).bind fun t278 => (if t278 = true then (some (rdOf ByteArray.empty t267 0, t271, t274, true)) else (none))) = some (r1, r2, r3, r4) := by rw [if_pos rfl] at H; exact H
                clear H
                have H := H1
                clear H1
                replace H := Option.bind_eq_some_iff.mp H
                obtain ⟨t278, A120, H⟩ := H
                replace H : (if t278 = true then (some (rdOf ByteArray.empty t267 0, t271, t274, true)) else (none)) = some (r1, r2, r3, r4) := H
                have A12 := Aside0.mk A120
                clear A120
                by_cases c13 : t278 = true
                · subst c13
                  have H1 : (some (rdOf ByteArray.empty t267 0, t271, t274, true)) = some (r1, r2, r3, r4) := by rw [if_pos rfl] at H; exact H
                  clear H
                  have H := H1
                  clear H1
                  simp only [Option.some.injEq, Prod.mk.injEq] at H
                  obtain ⟨rfl, rfl, rfl, rfl⟩ := H
                  go_enter Tryz.func75, Tryz.ntmps75
                  go_wp2_with (first | ((with_reducible refine gate_dst (N := 2) rfl ?_); refine box_event ?hg (N := 2) ?hd (cs := #[.string (⟨#[]⟩ : ByteArray), .int .i64 0, .int .i64 0]) (t := 90) ?hr ?_; (case hd => rfl); (case hg => rfl); (case hr => first | (go_simp; done) | (go_simp; rfl)); intro gb265 hg w14 hbox hb; have n0_ := Aside0.mk (below_step (hb0_) hb); have BK265 := Aside0.mk (hbox); have GW265 := Aside0.mk (bs_ hg (hb0_)); have GE265 := GW265; clear HB; have HB := n0_; clear n0_; clear hb hbox hg) | ((with_reducible refine gate_dst (N := 4) rfl ?_); refine box_event ?hg (N := 4) ?hd (cs := #[.string (⟨#[]⟩ : ByteArray), .int .i64 0, .int .i64 0]) (t := 90) ?hr ?_; (case hd => rfl); (case hg => rfl); (case hr => first | (go_simp; done) | (go_simp; rfl)); intro gb266 hg w15 hbox hb; have n0_ := Aside0.mk (blk_below (g := gb265) (o := .cells #[.string (⟨#[]⟩ : ByteArray), .int .i64 0, .int .i64 0] 90 (0, 0)) (bk_ BK265) hb); have n1_ := Aside0.mk (below_step (hb1_ GE265) hb); have BK266 := Aside0.mk (hbox); have GW266 := Aside0.mk (bs_ hg (hb1_ GE265)); have GE266 := GW266; have NB265_266 := Aside0.mk ((by rw [hg]; exact Nat.ne_of_lt (blk_lt (g := gb265) (o := .cells #[.string (⟨#[]⟩ : ByteArray), .int .i64 0, .int .i64 0] 90 (0, 0)) (bk_ BK265)) : gb265 ≠ gb266)); have NB266_265 := Aside0.mk ((by rw [hg]; exact Nat.ne_of_gt (blk_lt (g := gb265) (o := .cells #[.string (⟨#[]⟩ : ByteArray), .int .i64 0, .int .i64 0] 90 (0, 0)) (bk_ BK265)) : gb266 ≠ gb265)); clear BK265; clear HB; have BK265 := n0_; have HB := n1_; clear n0_ n1_; clear hb hbox hg; have hnb16 := NB266_265.out; have hnc16 := NB265_266.out; obtain ⟨cz17_0, fz17_0⟩ := bc_ BK266 0; obtain ⟨cz17_1, fz17_1⟩ := bc_ BK266 1; obtain ⟨cz17_2, fz17_2⟩ := bc_ BK266 2) | ((with_reducible refine gate_callee (f := 101) rfl ?_); refine goesL_ (some 17) rfl rfl Tryz.func101 (by kernel_rfl) rfl #[.string a0, .int .u8 32] rfl (me_) ?_; (with_reducible refine (spec_l01Parts.calls k a0 32 _ _ A3.out).mono ?_); rintro e w18 ⟨v268, rfl, ho0, hb⟩; refine ⟨_, rfl, ?_⟩; have HO269 := Aside0.mk (Kd.R_lower ho0 (below_size (hb2_ GE265 GE266))); have n1_ := Aside0.mk (blk_below (g := gb265) (o := .cells #[.string (⟨#[]⟩ : ByteArray), .int .i64 0, .int .i64 0] 90 (0, 0)) (bp_ BK265) hb); have n2_ := Aside0.mk (blk_below (g := gb266) (o := .cells #[.string (⟨#[]⟩ : ByteArray), .int .i64 0, .int .i64 0] 90 (0, 0)) (by (with_reducible repeat (first | refine blk_drewN ?_ _ | refine blk_drew ?_ | refine blk_alloc ?_ _)); refine blk_put (cs := #[.string (⟨#[]⟩ : ByteArray), .int .i64 0, .int .i64 0]) ?_ 2 _ rfl; (with_reducible repeat (first | refine blk_drewN ?_ _ | refine blk_drew ?_ | refine blk_alloc ?_ _)); refine blk_put (cs := #[.string (⟨#[]⟩ : ByteArray), .int .i64 0, .int .i64 0]) ?_ 1 _ rfl; (with_reducible repeat (first | refine blk_drewN ?_ _ | refine blk_drew ?_ | refine blk_alloc ?_ _)); refine blk_put (cs := #[.string (⟨#[]⟩ : ByteArray), .int .i64 0, .int .i64 0]) ?_ 0 _ rfl; (with_reducible repeat (first | refine blk_drewN ?_ _ | refine blk_drew ?_ | refine blk_alloc ?_ _)); exact BK266.out) hb); have n3_ := Aside0.mk (below_step (hb2_ GE265 GE266) hb); clear BK265; clear BK266; clear HB; have BK265 := n1_; have BK266 := n2_; have HB := n3_; clear n1_ n2_ n3_; (try clear hb); (try clear hb2); (try clear hk); (try clear hi); (try clear ho0); obtain ⟨Ao19, co19, eo19⟩ := Kd.R_slice HO269.out; subst eo19; have p270 : 0 ≤ (1 : Int) := (by omega); have q270 : 1 < (t267.length : Int) := of_decide_eq_true as_; obtain ⟨ad270, e270, hx270_0⟩ := Kd.at_string (Kd.R_reads' HO269.out).2.2 1 p270 q270; cases e270; (try simp only [show (1 : Int).toNat = 1 from rfl, Nat.reduceMul, Nat.reduceEqDiff, Go.Addr.add, ↓reduceIte] at hx270_0); have qi270 : (1 < t267.length) = True := eq_true (by omega); (try rw [show ((1 : Int)).toNat = 1 from rfl] at hx270_0); replace p270 := eq_true p270; replace q270 := eq_true q270) | ((with_reducible refine gate_callee (f := 102) rfl ?_); refine goesL_ (some 26) rfl rfl Tryz.func102 (by kernel_rfl) rfl #[.string (rdOf ByteArray.empty t267 1)] rfl (me_) ?_; (with_reducible refine (spec_ParseMilli.calls k (rdOf ByteArray.empty t267 1) _ _ _ A6.out).mono ?_); rintro e w20 ⟨rfl, hb⟩; refine ⟨_, rfl, ?_⟩; have n0_ := Aside0.mk (Kd.R_below (by (with_reducible repeat (first | apply Kd.R_alloc | apply Kd.R_drewN | apply Kd.R_drew)); exact HO269.out) hb); have n1_ := Aside0.mk (blk_below (g := gb265) (o := .cells #[.string (⟨#[]⟩ : ByteArray), .int .i64 0, .int .i64 0] 90 (0, 0)) (bk_ BK265) hb); have n2_ := Aside0.mk (blk_below (g := gb266) (o := .cells #[.string (⟨#[]⟩ : ByteArray), .int .i64 0, .int .i64 0] 90 (0, 0)) (bk_ BK266) hb); have n3_ := Aside0.mk (below_step (hb2_ GE265 GE266) hb); clear HO269; clear BK265; clear BK266; clear HB; have HO269 := n0_; have BK265 := n1_; have BK266 := n2_; have HB := n3_; clear n0_ n1_ n2_ n3_; (try clear hb); (try clear hb2); (try clear hk); (try clear hi); have p273 : 0 ≤ (2 : Int) := (by omega); have q273 : 2 < (t267.length : Int) := of_decide_eq_true as_; obtain ⟨ad273, e273, hx273_0⟩ := Kd.at_string (Kd.R_reads' HO269.out).2.2 2 p273 q273; obtain rfl : ad270 = ad273 := (by injection e273); (try simp only [show (2 : Int).toNat = 2 from rfl, Nat.reduceMul, Nat.reduceEqDiff, Go.Addr.add, ↓reduceIte] at hx273_0); have qi273 : (2 < t267.length) = True := eq_true (by omega); (try rw [show ((2 : Int)).toNat = 2 from rfl] at hx273_0); replace p273 := eq_true p273; replace q273 := eq_true q273) | ((with_reducible refine gate_callee (f := 43) rfl ?_); refine goesL_ (some 33) rfl rfl Tryz.func43 (by kernel_rfl) rfl #[.string (rdOf ByteArray.empty t267 2)] rfl (me_) ?_; (with_reducible refine (spec_l01Read.calls k (rdOf ByteArray.empty t267 2) _ _ _ A8.out).mono ?_); rintro e w21 ⟨rfl, hb⟩; refine ⟨_, rfl, ?_⟩; have n0_ := Aside0.mk (Kd.R_below (by (with_reducible repeat (first | apply Kd.R_alloc | apply Kd.R_drewN | apply Kd.R_drew)); exact HO269.out) hb); have n1_ := Aside0.mk (blk_below (g := gb265) (o := .cells #[.string (⟨#[]⟩ : ByteArray), .int .i64 0, .int .i64 0] 90 (0, 0)) (bk_ BK265) hb); have n2_ := Aside0.mk (blk_below (g := gb266) (o := .cells #[.string (⟨#[]⟩ : ByteArray), .int .i64 0, .int .i64 0] 90 (0, 0)) (bk_ BK266) hb); have n3_ := Aside0.mk (below_step (hb2_ GE265 GE266) hb); clear HO269; clear BK265; clear BK266; clear HB; have HO269 := n0_; have BK265 := n1_; have BK266 := n2_; have HB := n3_; clear n0_ n1_ n2_ n3_; (try clear hb); (try clear hb2); (try clear hk); (try clear hi); have p276 : 0 ≤ (0 : Int) := (by omega); have q276 : 0 < (t267.length : Int) := of_decide_eq_true as_; obtain ⟨ad276, e276, hx276_0⟩ := Kd.at_string (Kd.R_reads' HO269.out).2.2 0 p276 q276; obtain rfl : ad270 = ad276 := (by injection e276); have qi276 : (0 < t267.length) = True := eq_true (by omega); (try rw [show ((0 : Int)).toNat = 0 from rfl] at hx276_0); (try rw [Addr.add_zero'] at hx276_0); replace p276 := eq_true p276; replace q276 := eq_true q276) | ((with_reducible refine gate_dst (N := 10) rfl ?_); refine box_event ?hg (N := 10) ?hd (cs := #[.string (⟨#[]⟩ : ByteArray), .int .i64 0, .int .i64 0]) (t := 90) ?hr ?_; (case hd => rfl); (case hg => rfl); (case hr => first | (go_simp; done) | (go_simp; rfl)); intro gb277 hg w22 hbox hb; have n0_ := Aside0.mk (Kd.R_below (by (with_reducible repeat (first | apply Kd.R_alloc | apply Kd.R_drewN | apply Kd.R_drew)); exact HO269.out) hb); have n1_ := Aside0.mk (blk_below (g := gb265) (o := .cells #[.string (⟨#[]⟩ : ByteArray), .int .i64 0, .int .i64 0] 90 (0, 0)) (bk_ BK265) hb); have n2_ := Aside0.mk (blk_below (g := gb266) (o := .cells #[.string (⟨#[]⟩ : ByteArray), .int .i64 0, .int .i64 0] 90 (0, 0)) (bk_ BK266) hb); have n3_ := Aside0.mk (below_step (hb2_ GE265 GE266) hb); have BK277 := Aside0.mk (hbox); have GW277 := Aside0.mk (bs_ hg (hb2_ GE265 GE266)); have GE277 := GW277; have NB265_277 := Aside0.mk ((by rw [hg]; exact Nat.ne_of_lt (blk_lt (g := gb265) (o := .cells #[.string (⟨#[]⟩ : ByteArray), .int .i64 0, .int .i64 0] 90 (0, 0)) (bk_ BK265)) : gb265 ≠ gb277)); have NB277_265 := Aside0.mk ((by rw [hg]; exact Nat.ne_of_gt (blk_lt (g := gb265) (o := .cells #[.string (⟨#[]⟩ : ByteArray), .int .i64 0, .int .i64 0] 90 (0, 0)) (bk_ BK265)) : gb277 ≠ gb265)); have NB266_277 := Aside0.mk ((by rw [hg]; exact Nat.ne_of_lt (blk_lt (g := gb266) (o := .cells #[.string (⟨#[]⟩ : ByteArray), .int .i64 0, .int .i64 0] 90 (0, 0)) (bk_ BK266)) : gb266 ≠ gb277)); have NB277_266 := Aside0.mk ((by rw [hg]; exact Nat.ne_of_gt (blk_lt (g := gb266) (o := .cells #[.string (⟨#[]⟩ : ByteArray), .int .i64 0, .int .i64 0] 90 (0, 0)) (bk_ BK266)) : gb277 ≠ gb266)); clear HO269; clear BK265; clear BK266; clear HB; have HO269 := n0_; have BK265 := n1_; have BK266 := n2_; have HB := n3_; clear n0_ n1_ n2_ n3_; clear hb hbox hg; have hnb23 := NB277_265.out; have hnc23 := NB265_277.out; have hnb24 := NB277_266.out; have hnc24 := NB266_277.out; obtain ⟨cz25_0, fz25_0⟩ := bc_ BK277 0; obtain ⟨cz25_1, fz25_1⟩ := bc_ BK277 1; obtain ⟨cz25_2, fz25_2⟩ := bc_ BK277 2) | (go_at_call 69; (with_reducible refine (spec_GoalOk.calls k (rdOf ByteArray.empty t267 0) t271 t274 _ _ A12.out).mono ?_); rintro e w26 ⟨rfl, hb⟩; have n0_ := Aside0.mk (Kd.R_below (by (with_reducible repeat (first | apply Kd.R_alloc | apply Kd.R_drewN | apply Kd.R_drew)); exact (Kd.R_mono (rf_ (Kd.R_types HO269.out BK277.out (by decide))) (fun _ h_ => h_.1))) hb); have n1_ := Aside0.mk (blk_below (g := gb265) (o := .cells #[.string (⟨#[]⟩ : ByteArray), .int .i64 0, .int .i64 0] 90 (0, 0)) (bp_ BK265) hb); have n2_ := Aside0.mk (blk_below (g := gb266) (o := .cells #[.string (⟨#[]⟩ : ByteArray), .int .i64 0, .int .i64 0] 90 (0, 0)) (bp_ BK266) hb); have n3_ := Aside0.mk (blk_below (g := gb277) (o := .cells #[.string (rdOf ByteArray.empty t267 0), .int .i64 t271, .int .i64 t274] 90 (0, 0)) (by (with_reducible repeat (first | refine blk_drewN ?_ _ | refine blk_drew ?_ | refine blk_alloc ?_ _)); refine blk_put (cs := #[.string (rdOf ByteArray.empty t267 0), .int .i64 t271, .int .i64 0]) ?_ 2 _ rfl; (with_reducible repeat (first | refine blk_drewN ?_ _ | refine blk_drew ?_ | refine blk_alloc ?_ _)); refine blk_put (cs := #[.string (rdOf ByteArray.empty t267 0), .int .i64 0, .int .i64 0]) ?_ 1 _ rfl; (with_reducible repeat (first | refine blk_drewN ?_ _ | refine blk_drew ?_ | refine blk_alloc ?_ _)); refine blk_put (cs := #[.string (⟨#[]⟩ : ByteArray), .int .i64 0, .int .i64 0]) ?_ 0 _ rfl; (with_reducible repeat (first | refine blk_drewN ?_ _ | refine blk_drew ?_ | refine blk_alloc ?_ _)); exact BK277.out) hb); have n4_ := Aside0.mk (below_step (hb3_ GE265 GE266 GE277) hb); clear HO269; clear BK265; clear BK266; clear BK277; clear HB; have HO269 := n0_; have BK265 := n1_; have BK266 := n2_; have BK277 := n3_; have HB := n4_; clear n0_ n1_ n2_ n3_ n4_; (try clear hb); (try clear hb2); (try clear hk); (try clear hi); obtain ⟨cz27_0, fz27_0⟩ := bc_ BK277 0; obtain ⟨cz27_1, fz27_1⟩ := bc_ BK277 1; obtain ⟨cz27_2, fz27_2⟩ := bc_ BK277 2; obtain ⟨⟨cz28_0, fz28_0⟩, ⟨cz28_1, fz28_1⟩, ⟨cz28_2, fz28_2⟩⟩ := bc3_ BK265))
                  refine bodyPost_ret (results_ct rfl _ _ gb265 90 #[.string (rdOf ByteArray.empty t267 0), .int .i64 t271, .int .i64 t274] (0, 0) _ rfl (by (with_reducible repeat (first | refine blk_drewN ?_ _ | refine blk_drew ?_ | refine blk_alloc ?_ _)); refine blk_put (cs := #[.string (rdOf ByteArray.empty t267 0), .int .i64 t271, .int .i64 0]) ?_ 2 _ rfl; (with_reducible repeat (first | refine blk_drewN ?_ _ | refine blk_drew ?_ | refine blk_alloc ?_ _)); refine blk_put (cs := #[.string (rdOf ByteArray.empty t267 0), .int .i64 0, .int .i64 0]) ?_ 1 _ rfl; (with_reducible repeat (first | refine blk_drewN ?_ _ | refine blk_drew ?_ | refine blk_alloc ?_ _)); refine blk_put (cs := #[.string (⟨#[]⟩ : ByteArray), .int .i64 0, .int .i64 0]) ?_ 0 _ rfl; (with_reducible repeat (first | refine blk_drewN ?_ _ | refine blk_drew ?_ | refine blk_alloc ?_ _)); exact BK265.out) Tryz.underlying90 rfl (by kernel_rfl)) rfl ?_
                  exact ⟨re_, hb3_ GE265 GE266 GE277⟩
                · replace c13 := Bool.eq_false_iff.mpr c13
                  subst c13
                  have H1 : (none) = some (r1, r2, r3, r4) := by rw [if_neg (show ¬ (false = true) by decide)] at H; exact H
                  clear H
                  have H := H1
                  clear H1
                  exact absurd H (by simp)
              · replace c11 := Bool.eq_false_iff.mpr c11
                subst c11
                have H1 : (none) = some (r1, r2, r3, r4) := by rw [if_neg (show ¬ (false = true) by decide)] at H; exact H
                clear H
                have H := H1
                clear H1
                exact absurd H (by simp)
            · replace c10 := Bool.eq_false_iff.mpr c10
              subst c10
              have H1 : (none) = some (r1, r2, r3, r4) := by rw [if_neg (show ¬ (false = true) by decide)] at H; exact H
              clear H
              have H := H1
              clear H1
              exact absurd H (by simp)
          · rw [if_neg c9] at H
            exact absurd H (by simp)
        · rw [if_neg c7] at H
          exact absurd H (by simp)
      · rw [if_neg c5] at H
        exact absurd H (by simp)
    · rw [if_neg c4] at H
      have c4b0 : ((t267.length : Int) == 3) = false := beq_eq_false_iff_ne.mpr c4
      have c4b1 : ((t267.length : Int) != 3) = true := bne_iff_ne.mpr c4
      exact absurd H (by simp)
end Go.Proofs.YtcjeblikejoogaaGreatDoor.PFnExactOpLine
