-- OVER EXTERNAL CONTRACTS: laid by this session's turned copy of the printing program; Lean checks it.
import Derived.Test.YtlkglpnccddeeaaPFnExactOpsOfx0
import Derived.Test.YtlkglpnccddeeaaPFnExactOpsOfx1
import Derived.Test.YtlkglpnccddeeaaPFnExactOpsOfx2
import Derived.Test.YtlkglpnccddeeaaPFnExactOpsOfx3
import Derived.Test.YtlkglpnccddeeaaPFnExactOpsOfx5
import Derived.Test.YtlkglpnccddeeaaAut
namespace Go.Proofs.Ytlkglpnccddeeaa.PFnExactOpsOf
open Go.RowKit Go.Proofs.YtlkglpnccddeeaaW.PrintWords Go.Proofs.YtlkglpnccddeeaaW.PrintLast Go.Proofs.YtlkglpnccddeeaaW.PrintMore Go.Proofs.Ytlkglpnccddeeaa.Aut
attribute [local go_sem] max2_int min2_int max_two min_two max_three min_three max_four min_four   -- for this text's walks alone
set_option linter.unusedVariables false
set_option linter.unusedSimpArgs false

/-! ### laws_eqOpS: function 36 -/
def laws_eqOpS.l0 : Nat → List (S80) → List (S80) → Int → Option (Bool)
  | 0, _, _, _ => none
  | k + 1, x0, x1, x5 => if x5 < (x0.length : Int) then (if 0 ≤ x5 then (if x5 < (x1.length : Int) then ((laws_eqOp.f k ((rd_T80 x0 x5).f0) ((rd_T80 x0 x5).f1) ((rd_T80 x0 x5).f2) ((rd_T80 x0 x5).f3) ((rd_T80 x0 x5).f4.f0.f0) ((rd_T80 x0 x5).f4.f0.f1) ((rd_T80 x0 x5).f4.f0.f2) ((rd_T80 x0 x5).f4.f1) ((rd_T80 x0 x5).f4.f2.f0.f0) ((rd_T80 x0 x5).f4.f2.f0.f1) ((rd_T80 x0 x5).f4.f2.f0.f2) ((rd_T80 x0 x5).f4.f2.f1.f0) ((rd_T80 x0 x5).f4.f2.f1.f1) ((rd_T80 x0 x5).f4.f2.f1.f2) ((rd_T80 x0 x5).f4.f2.f2) ((rd_T80 x0 x5).f4.f2.f3) ((rd_T80 x1 x5).f0) ((rd_T80 x1 x5).f1) ((rd_T80 x1 x5).f2) ((rd_T80 x1 x5).f3) ((rd_T80 x1 x5).f4.f0.f0) ((rd_T80 x1 x5).f4.f0.f1) ((rd_T80 x1 x5).f4.f0.f2) ((rd_T80 x1 x5).f4.f1) ((rd_T80 x1 x5).f4.f2.f0.f0) ((rd_T80 x1 x5).f4.f2.f0.f1) ((rd_T80 x1 x5).f4.f2.f0.f2) ((rd_T80 x1 x5).f4.f2.f1.f0) ((rd_T80 x1 x5).f4.f2.f1.f1) ((rd_T80 x1 x5).f4.f2.f1.f2) ((rd_T80 x1 x5).f4.f2.f2) ((rd_T80 x1 x5).f4.f2.f3)).bind fun t288 => (if t288 = true then (laws_eqOpS.l0 k x0 x1 (wrap64 (x5 + 1))) else (some false))) else (none)) else (none)) else (some true)
def laws_eqOpS.f (k : Nat) (l0 : List (S80)) (l1 : List (S80)) : Option (Bool) := if (l0.length : Int) = (l1.length : Int) then (laws_eqOpS.l0 k l0 l1 0) else (some false)
theorem laws_eqOpS.mono_l : ∀ k, (∀ y0 y1 y2, LeO (laws_eqOpS.l0 k y0 y1 y2) (laws_eqOpS.l0 (k + 1) y0 y1 y2))
  | 0 => fun _ _ _ r h => by simp [laws_eqOpS.l0] at h
  | k + 1 => by
    have ih0 := laws_eqOpS.mono_l k
    · intro y0 y1 y2
      unfold laws_eqOpS.l0
      repeat' first
      | (with_reducible exact ih0 _ _ _)
      | (with_reducible exact laws_eqOp.mono _ _ _ _ _ _ _ _ _ _ _ _ _ _ _ _ _ _ _ _ _ _ _ _ _ _ _ _ _ _ _ _ _)
      | (with_reducible exact LeO.refl _)
      | (with_reducible exact LeO.none _)
      | (with_reducible refine LeO.ite ?_ ?_)
      | (with_reducible refine LeO.bind ?_ (fun _ => ?_))
      | exact ih0 _ _ _
      | exact laws_eqOp.mono _ _ _ _ _ _ _ _ _ _ _ _ _ _ _ _ _ _ _ _ _ _ _ _ _ _ _ _ _ _ _ _ _
      | exact LeO.none _
      | refine LeO.ite ?_ ?_
      | refine LeO.bind ?_ (fun _ => ?_)
theorem laws_eqOpS.mono : ∀ a0 a1 k, LeO (laws_eqOpS.f k a0 a1) (laws_eqOpS.f (k + 1) a0 a1) := by
  intro a0 a1 k
  have ih0 := laws_eqOpS.mono_l k
  unfold laws_eqOpS.f
  repeat' first
      | (with_reducible exact ih0 _ _ _)
      | (with_reducible exact laws_eqOp.mono _ _ _ _ _ _ _ _ _ _ _ _ _ _ _ _ _ _ _ _ _ _ _ _ _ _ _ _ _ _ _ _ _)
      | (with_reducible exact LeO.refl _)
      | (with_reducible exact LeO.none _)
      | (with_reducible refine LeO.ite ?_ ?_)
      | (with_reducible refine LeO.bind ?_ (fun _ => ?_))
      | exact ih0 _ _ _
      | exact laws_eqOp.mono _ _ _ _ _ _ _ _ _ _ _ _ _ _ _ _ _ _ _ _ _ _ _ _ _ _ _ _ _ _ _ _ _
      | exact LeO.none _
      | refine LeO.ite ?_ ?_
      | refine LeO.bind ?_ (fun _ => ?_)
def laws_eqOpS.T6 : Bool × List (List Nat × List Nat) := (true, [([], []), ([], []), ([0, 1], [0, 1]), ([2], [2]), ([], []), ([], []), ([4, 5], [4, 5]), ([6], [6]), ([3, 7], [3, 7]), ([8], [8])])
def laws_eqOpS.B6 : List Nat := [0, 0, 3, 7, 0, 0, 48, 112, 255, 511]
theorem laws_eqOpS.tab6 : rtab .any (opsOf Try.f36 6) = laws_eqOpS.T6 := by kernel_rfl
theorem laws_eqOpS.bits6 : waitsOk laws_eqOpS.T6.2 laws_eqOpS.B6 = true := by kernel_rfl
set_option maxHeartbeats 8000000 in
set_option maxRecDepth 100000 in
theorem laws_eqOpS.calls (k : Nat) (A0 : Option Addr) (c0 : Nat) (l0 : List (S80)) (A1 : Option Addr) (c1 : Nat) (l1 : List (S80)) (r : Bool) (w : World) (hr0 : Kd.C k80 w A0 l0.length l0) (hc0 : l0.length ≤ c0) (hr1 : Kd.C k80 w A1 l1.length l1) (hc1 : l1.length ≤ c1) (h : laws_eqOpS.f k l0 l1 = some r) :
    Calls Try.prog 36 #[.slice A0 l0.length c0, .slice A1 l1.length c1] w fun e w' => e = .returned (.bool r) ∧ Below w.heap.size w w' := by
  have hu80 := Try.underlying80
  have HR0 := Aside0.mk hr0
  have HC0 := Aside0.mk hc0
  clear hr0 hc0
  have HR1 := Aside0.mk hr1
  have HC1 := Aside0.mk hc1
  clear hr1 hc1
  have HB := Aside0.mk (Below.refl w.heap.size w)
  have H : (if (l0.length : Int) = (l1.length : Int) then (laws_eqOpS.l0 k l0 l1 0) else (some false)) = some r := h
  clear h
  by_cases c3 : (l0.length : Int) = (l1.length : Int)
  · rw [if_pos c3] at H
    have c3b0 : ((l0.length : Int) == (l1.length : Int)) = true := beq_iff_eq.mpr c3
    have c3b1 : ((l0.length : Int) != (l1.length : Int)) = false := bne_eq_false_iff_eq.mpr c3
    have c3b2 : (l0.length == l1.length) = true := by first | simpa using c3 | (simp at c3 ⊢; omega)
    clear c3
    have H' := Aside0.mk H
    clear H
    go_enter Try.func36, Try.ntmps36
    go_wp2
    go_loopg [5] k (fun kq v5 w' => ∃ (x5_1 : Int), v5 = .int .i64 x5_1 ∧ Aside0 (laws_eqOpS.l0 kq l0 l1 x5_1 = some r) ∧ Aside0 (kq ≤ k) ∧ Aside0 (Below w.heap.size w w'))
    case atStart => exact ⟨(0), (rs_), H', ⟨Nat.le_refl _⟩, ⟨hb0_⟩⟩
    case round =>
      clear H'
      try clear c1
      try clear p2
      try clear c3
      try clear c3b0
      try clear c3b1
      try clear c3b2
      obtain ⟨x5_1, rfl, HA, HK1, HB⟩ := hrel
      cases gk with
      | zero => exact absurd HA.out (by simp [laws_eqOpS.l0])
      | succ k1 =>
        have H := HA.out
        clear HA
        simp only [laws_eqOpS.l0] at H
        by_cases c4 : x5_1 < (l0.length : Int)
        · rw [if_pos c4] at H
          have c4b0 : decide (x5_1 < (l0.length : Int)) = true := decide_eq_true c4
          clear c4
          by_cases c5 : 0 ≤ x5_1
          · rw [if_pos c5] at H
            have c5b0 : decide (0 ≤ x5_1) = true := decide_eq_true c5
            clear c5
            by_cases c6 : x5_1 < (l1.length : Int)
            · rw [if_pos c6] at H
              have c6b0 : decide (x5_1 < (l1.length : Int)) = true := decide_eq_true c6
              clear c6
              replace H := Option.bind_eq_some_iff.mp H
              obtain ⟨t288, A70, H⟩ := H
              replace H : (if t288 = true then (laws_eqOpS.l0 k1 l0 l1 (wrap64 (x5_1 + 1))) else (some false)) = some r := H
              have A7 := Aside0.mk A70
              clear A70
              by_cases c8 : t288 = true
              · subst c8
                have H1 : (laws_eqOpS.l0 k1 l0 l1 (wrap64 (x5_1 + 1))) = some r := by rw [if_pos rfl] at H; exact H
                clear H
                have H := H1
                clear H1
                have H' := Aside0.mk H
                clear H
                try go_wp2
                have n0_ := Aside0.mk (below_drew1 HB.out)
                clear HB
                have HB := n0_
                clear n0_
                have p286 : 0 ≤ (x5_1 : Int) := of_decide_eq_true as_
                have q286 : x5_1 < (l0.length : Int) := of_decide_eq_true as_
                obtain ⟨ad286, A286_3, c286_3, A286_7, c286_7, A286_8, c286_8, A286_11, c286_11, e286, hx286_0, hx286_1, hx286_2, hx286_3, hx286_4, hx286_5, hx286_6, hx286_7, hx286_8, hx286_9, hx286_10, hx286_11, hx286_12, hx286_13, hx286_14, hx286_15, hl286_3, hi286_3, hl286_7, hi286_7, hl286_8, hi286_8, hl286_11, hi286_11⟩ := at_T80 HR0.out x5_1 p286 q286
                have hw286_15 := hx286_15
                have hw286_14 := hx286_14
                have hw286_13 := hx286_13
                have hw286_12 := hx286_12
                have hw286_11 := hx286_11
                have hw286_10 := hx286_10
                have hw286_9 := hx286_9
                have hw286_8 := hx286_8
                have hw286_7 := hx286_7
                have hw286_6 := hx286_6
                have hw286_5 := hx286_5
                have hw286_4 := hx286_4
                have hw286_3 := hx286_3
                have hw286_2 := hx286_2
                have hw286_1 := hx286_1
                have hw286_0 := hx286_0
                cases e286
                replace hx286_0 := (HB.out.cell (World.block_lt_of_cell? w _ hx286_0)).trans hx286_0
                replace hx286_1 := (HB.out.cell (World.block_lt_of_cell? w _ hx286_1)).trans hx286_1
                replace hx286_2 := (HB.out.cell (World.block_lt_of_cell? w _ hx286_2)).trans hx286_2
                replace hx286_3 := (HB.out.cell (World.block_lt_of_cell? w _ hx286_3)).trans hx286_3
                replace hx286_4 := (HB.out.cell (World.block_lt_of_cell? w _ hx286_4)).trans hx286_4
                replace hx286_5 := (HB.out.cell (World.block_lt_of_cell? w _ hx286_5)).trans hx286_5
                replace hx286_6 := (HB.out.cell (World.block_lt_of_cell? w _ hx286_6)).trans hx286_6
                replace hx286_7 := (HB.out.cell (World.block_lt_of_cell? w _ hx286_7)).trans hx286_7
                replace hx286_8 := (HB.out.cell (World.block_lt_of_cell? w _ hx286_8)).trans hx286_8
                replace hx286_9 := (HB.out.cell (World.block_lt_of_cell? w _ hx286_9)).trans hx286_9
                replace hx286_10 := (HB.out.cell (World.block_lt_of_cell? w _ hx286_10)).trans hx286_10
                replace hx286_11 := (HB.out.cell (World.block_lt_of_cell? w _ hx286_11)).trans hx286_11
                replace hx286_12 := (HB.out.cell (World.block_lt_of_cell? w _ hx286_12)).trans hx286_12
                replace hx286_13 := (HB.out.cell (World.block_lt_of_cell? w _ hx286_13)).trans hx286_13
                replace hx286_14 := (HB.out.cell (World.block_lt_of_cell? w _ hx286_14)).trans hx286_14
                replace hx286_15 := (HB.out.cell (World.block_lt_of_cell? w _ hx286_15)).trans hx286_15
                have HR286_3 := Aside0.mk hi286_3
                have HC286_3 := Aside0.mk hl286_3
                clear hi286_3 hl286_3
                have HR286_7 := Aside0.mk hi286_7
                have HC286_7 := Aside0.mk hl286_7
                clear hi286_7 hl286_7
                have HR286_8 := Aside0.mk hi286_8
                have HC286_8 := Aside0.mk hl286_8
                clear hi286_8 hl286_8
                have HR286_11 := Aside0.mk hi286_11
                have HC286_11 := Aside0.mk hl286_11
                clear hi286_11 hl286_11
                replace p286 := eq_true p286
                replace q286 := eq_true q286
                have p287 : 0 ≤ (x5_1 : Int) := of_decide_eq_true as_
                have q287 : x5_1 < (l1.length : Int) := of_decide_eq_true as_
                obtain ⟨ad287, A287_3, c287_3, A287_7, c287_7, A287_8, c287_8, A287_11, c287_11, e287, hx287_0, hx287_1, hx287_2, hx287_3, hx287_4, hx287_5, hx287_6, hx287_7, hx287_8, hx287_9, hx287_10, hx287_11, hx287_12, hx287_13, hx287_14, hx287_15, hl287_3, hi287_3, hl287_7, hi287_7, hl287_8, hi287_8, hl287_11, hi287_11⟩ := at_T80 HR1.out x5_1 p287 q287
                have hw287_15 := hx287_15
                have hw287_14 := hx287_14
                have hw287_13 := hx287_13
                have hw287_12 := hx287_12
                have hw287_11 := hx287_11
                have hw287_10 := hx287_10
                have hw287_9 := hx287_9
                have hw287_8 := hx287_8
                have hw287_7 := hx287_7
                have hw287_6 := hx287_6
                have hw287_5 := hx287_5
                have hw287_4 := hx287_4
                have hw287_3 := hx287_3
                have hw287_2 := hx287_2
                have hw287_1 := hx287_1
                have hw287_0 := hx287_0
                cases e287
                replace hx287_0 := (HB.out.cell (World.block_lt_of_cell? w _ hx287_0)).trans hx287_0
                replace hx287_1 := (HB.out.cell (World.block_lt_of_cell? w _ hx287_1)).trans hx287_1
                replace hx287_2 := (HB.out.cell (World.block_lt_of_cell? w _ hx287_2)).trans hx287_2
                replace hx287_3 := (HB.out.cell (World.block_lt_of_cell? w _ hx287_3)).trans hx287_3
                replace hx287_4 := (HB.out.cell (World.block_lt_of_cell? w _ hx287_4)).trans hx287_4
                replace hx287_5 := (HB.out.cell (World.block_lt_of_cell? w _ hx287_5)).trans hx287_5
                replace hx287_6 := (HB.out.cell (World.block_lt_of_cell? w _ hx287_6)).trans hx287_6
                replace hx287_7 := (HB.out.cell (World.block_lt_of_cell? w _ hx287_7)).trans hx287_7
                replace hx287_8 := (HB.out.cell (World.block_lt_of_cell? w _ hx287_8)).trans hx287_8
                replace hx287_9 := (HB.out.cell (World.block_lt_of_cell? w _ hx287_9)).trans hx287_9
                replace hx287_10 := (HB.out.cell (World.block_lt_of_cell? w _ hx287_10)).trans hx287_10
                replace hx287_11 := (HB.out.cell (World.block_lt_of_cell? w _ hx287_11)).trans hx287_11
                replace hx287_12 := (HB.out.cell (World.block_lt_of_cell? w _ hx287_12)).trans hx287_12
                replace hx287_13 := (HB.out.cell (World.block_lt_of_cell? w _ hx287_13)).trans hx287_13
                replace hx287_14 := (HB.out.cell (World.block_lt_of_cell? w _ hx287_14)).trans hx287_14
                replace hx287_15 := (HB.out.cell (World.block_lt_of_cell? w _ hx287_15)).trans hx287_15
                have HR287_3 := Aside0.mk hi287_3
                have HC287_3 := Aside0.mk hl287_3
                clear hi287_3 hl287_3
                have HR287_7 := Aside0.mk hi287_7
                have HC287_7 := Aside0.mk hl287_7
                clear hi287_7 hl287_7
                have HR287_8 := Aside0.mk hi287_8
                have HC287_8 := Aside0.mk hl287_8
                clear hi287_8 hl287_8
                have HR287_11 := Aside0.mk hi287_11
                have HC287_11 := Aside0.mk hl287_11
                clear hi287_11 hl287_11
                replace p287 := eq_true p287
                replace q287 := eq_true q287
                refine start_ (n := 10) (S := fun w' => w'.cell? (ad286.add ((x5_1).toNat * 16)) = some (.int .i64 ((rd_T80 l0 x5_1).f0)) ∧ w'.cell? ⟨(ad286.add ((x5_1).toNat * 16)).block, (ad286.add ((x5_1).toNat * 16)).off + 1, none⟩ = some (.int .i64 ((rd_T80 l0 x5_1).f1)) ∧ w'.cell? ⟨(ad286.add ((x5_1).toNat * 16)).block, (ad286.add ((x5_1).toNat * 16)).off + 2, none⟩ = some (.string ((rd_T80 l0 x5_1).f2)) ∧ w'.cell? ⟨(ad286.add ((x5_1).toNat * 16)).block, (ad286.add ((x5_1).toNat * 16)).off + 3, none⟩ = some (.slice A286_3 ((rd_T80 l0 x5_1).f3).length c286_3) ∧ w'.cell? ⟨(ad286.add ((x5_1).toNat * 16)).block, (ad286.add ((x5_1).toNat * 16)).off + 4, none⟩ = some (.int .i64 ((rd_T80 l0 x5_1).f4.f0.f0)) ∧ w'.cell? ⟨(ad286.add ((x5_1).toNat * 16)).block, (ad286.add ((x5_1).toNat * 16)).off + 5, none⟩ = some (.int .i64 ((rd_T80 l0 x5_1).f4.f0.f1)) ∧ w'.cell? ⟨(ad286.add ((x5_1).toNat * 16)).block, (ad286.add ((x5_1).toNat * 16)).off + 6, none⟩ = some (.int .i64 ((rd_T80 l0 x5_1).f4.f0.f2)) ∧ w'.cell? ⟨(ad286.add ((x5_1).toNat * 16)).block, (ad286.add ((x5_1).toNat * 16)).off + 7, none⟩ = some (.slice A286_7 ((rd_T80 l0 x5_1).f4.f1).length c286_7) ∧ w'.cell? ⟨(ad286.add ((x5_1).toNat * 16)).block, (ad286.add ((x5_1).toNat * 16)).off + 8, none⟩ = some (.slice A286_8 ((rd_T80 l0 x5_1).f4.f2.f0.f0).length c286_8) ∧ w'.cell? ⟨(ad286.add ((x5_1).toNat * 16)).block, (ad286.add ((x5_1).toNat * 16)).off + 9, none⟩ = some (.int .i64 ((rd_T80 l0 x5_1).f4.f2.f0.f1)) ∧ w'.cell? ⟨(ad286.add ((x5_1).toNat * 16)).block, (ad286.add ((x5_1).toNat * 16)).off + 10, none⟩ = some (.int .i64 ((rd_T80 l0 x5_1).f4.f2.f0.f2)) ∧ w'.cell? ⟨(ad286.add ((x5_1).toNat * 16)).block, (ad286.add ((x5_1).toNat * 16)).off + 11, none⟩ = some (.slice A286_11 ((rd_T80 l0 x5_1).f4.f2.f1.f0).length c286_11) ∧ w'.cell? ⟨(ad286.add ((x5_1).toNat * 16)).block, (ad286.add ((x5_1).toNat * 16)).off + 12, none⟩ = some (.int .i64 ((rd_T80 l0 x5_1).f4.f2.f1.f1)) ∧ w'.cell? ⟨(ad286.add ((x5_1).toNat * 16)).block, (ad286.add ((x5_1).toNat * 16)).off + 13, none⟩ = some (.int .i64 ((rd_T80 l0 x5_1).f4.f2.f1.f2)) ∧ w'.cell? ⟨(ad286.add ((x5_1).toNat * 16)).block, (ad286.add ((x5_1).toNat * 16)).off + 14, none⟩ = some (.int .i64 ((rd_T80 l0 x5_1).f4.f2.f2)) ∧ w'.cell? ⟨(ad286.add ((x5_1).toNat * 16)).block, (ad286.add ((x5_1).toNat * 16)).off + 15, none⟩ = some (.int .i64 ((rd_T80 l0 x5_1).f4.f2.f3)) ∧ w'.cell? (ad287.add ((x5_1).toNat * 16)) = some (.int .i64 ((rd_T80 l1 x5_1).f0)) ∧ w'.cell? ⟨(ad287.add ((x5_1).toNat * 16)).block, (ad287.add ((x5_1).toNat * 16)).off + 1, none⟩ = some (.int .i64 ((rd_T80 l1 x5_1).f1)) ∧ w'.cell? ⟨(ad287.add ((x5_1).toNat * 16)).block, (ad287.add ((x5_1).toNat * 16)).off + 2, none⟩ = some (.string ((rd_T80 l1 x5_1).f2)) ∧ w'.cell? ⟨(ad287.add ((x5_1).toNat * 16)).block, (ad287.add ((x5_1).toNat * 16)).off + 3, none⟩ = some (.slice A287_3 ((rd_T80 l1 x5_1).f3).length c287_3) ∧ w'.cell? ⟨(ad287.add ((x5_1).toNat * 16)).block, (ad287.add ((x5_1).toNat * 16)).off + 4, none⟩ = some (.int .i64 ((rd_T80 l1 x5_1).f4.f0.f0)) ∧ w'.cell? ⟨(ad287.add ((x5_1).toNat * 16)).block, (ad287.add ((x5_1).toNat * 16)).off + 5, none⟩ = some (.int .i64 ((rd_T80 l1 x5_1).f4.f0.f1)) ∧ w'.cell? ⟨(ad287.add ((x5_1).toNat * 16)).block, (ad287.add ((x5_1).toNat * 16)).off + 6, none⟩ = some (.int .i64 ((rd_T80 l1 x5_1).f4.f0.f2)) ∧ w'.cell? ⟨(ad287.add ((x5_1).toNat * 16)).block, (ad287.add ((x5_1).toNat * 16)).off + 7, none⟩ = some (.slice A287_7 ((rd_T80 l1 x5_1).f4.f1).length c287_7) ∧ w'.cell? ⟨(ad287.add ((x5_1).toNat * 16)).block, (ad287.add ((x5_1).toNat * 16)).off + 8, none⟩ = some (.slice A287_8 ((rd_T80 l1 x5_1).f4.f2.f0.f0).length c287_8) ∧ w'.cell? ⟨(ad287.add ((x5_1).toNat * 16)).block, (ad287.add ((x5_1).toNat * 16)).off + 9, none⟩ = some (.int .i64 ((rd_T80 l1 x5_1).f4.f2.f0.f1)) ∧ w'.cell? ⟨(ad287.add ((x5_1).toNat * 16)).block, (ad287.add ((x5_1).toNat * 16)).off + 10, none⟩ = some (.int .i64 ((rd_T80 l1 x5_1).f4.f2.f0.f2)) ∧ w'.cell? ⟨(ad287.add ((x5_1).toNat * 16)).block, (ad287.add ((x5_1).toNat * 16)).off + 11, none⟩ = some (.slice A287_11 ((rd_T80 l1 x5_1).f4.f2.f1.f0).length c287_11) ∧ w'.cell? ⟨(ad287.add ((x5_1).toNat * 16)).block, (ad287.add ((x5_1).toNat * 16)).off + 12, none⟩ = some (.int .i64 ((rd_T80 l1 x5_1).f4.f2.f1.f1)) ∧ w'.cell? ⟨(ad287.add ((x5_1).toNat * 16)).block, (ad287.add ((x5_1).toNat * 16)).off + 13, none⟩ = some (.int .i64 ((rd_T80 l1 x5_1).f4.f2.f1.f2)) ∧ w'.cell? ⟨(ad287.add ((x5_1).toNat * 16)).block, (ad287.add ((x5_1).toNat * 16)).off + 14, none⟩ = some (.int .i64 ((rd_T80 l1 x5_1).f4.f2.f2)) ∧ w'.cell? ⟨(ad287.add ((x5_1).toNat * 16)).block, (ad287.add ((x5_1).toNat * 16)).off + 15, none⟩ = some (.int .i64 ((rd_T80 l1 x5_1).f4.f2.f3))) (ds := []) #[false, false, false, false, false, false, false, false, false, false] (by kernel_rfl) rfl rfl ⟨((HB.out.cell (World.block_lt_of_cell? w _ hw286_0)).trans hw286_0), ((HB.out.cell (World.block_lt_of_cell? w _ hw286_1)).trans hw286_1), ((HB.out.cell (World.block_lt_of_cell? w _ hw286_2)).trans hw286_2), ((HB.out.cell (World.block_lt_of_cell? w _ hw286_3)).trans hw286_3), ((HB.out.cell (World.block_lt_of_cell? w _ hw286_4)).trans hw286_4), ((HB.out.cell (World.block_lt_of_cell? w _ hw286_5)).trans hw286_5), ((HB.out.cell (World.block_lt_of_cell? w _ hw286_6)).trans hw286_6), ((HB.out.cell (World.block_lt_of_cell? w _ hw286_7)).trans hw286_7), ((HB.out.cell (World.block_lt_of_cell? w _ hw286_8)).trans hw286_8), ((HB.out.cell (World.block_lt_of_cell? w _ hw286_9)).trans hw286_9), ((HB.out.cell (World.block_lt_of_cell? w _ hw286_10)).trans hw286_10), ((HB.out.cell (World.block_lt_of_cell? w _ hw286_11)).trans hw286_11), ((HB.out.cell (World.block_lt_of_cell? w _ hw286_12)).trans hw286_12), ((HB.out.cell (World.block_lt_of_cell? w _ hw286_13)).trans hw286_13), ((HB.out.cell (World.block_lt_of_cell? w _ hw286_14)).trans hw286_14), ((HB.out.cell (World.block_lt_of_cell? w _ hw286_15)).trans hw286_15), ((HB.out.cell (World.block_lt_of_cell? w _ hw287_0)).trans hw287_0), ((HB.out.cell (World.block_lt_of_cell? w _ hw287_1)).trans hw287_1), ((HB.out.cell (World.block_lt_of_cell? w _ hw287_2)).trans hw287_2), ((HB.out.cell (World.block_lt_of_cell? w _ hw287_3)).trans hw287_3), ((HB.out.cell (World.block_lt_of_cell? w _ hw287_4)).trans hw287_4), ((HB.out.cell (World.block_lt_of_cell? w _ hw287_5)).trans hw287_5), ((HB.out.cell (World.block_lt_of_cell? w _ hw287_6)).trans hw287_6), ((HB.out.cell (World.block_lt_of_cell? w _ hw287_7)).trans hw287_7), ((HB.out.cell (World.block_lt_of_cell? w _ hw287_8)).trans hw287_8), ((HB.out.cell (World.block_lt_of_cell? w _ hw287_9)).trans hw287_9), ((HB.out.cell (World.block_lt_of_cell? w _ hw287_10)).trans hw287_10), ((HB.out.cell (World.block_lt_of_cell? w _ hw287_11)).trans hw287_11), ((HB.out.cell (World.block_lt_of_cell? w _ hw287_12)).trans hw287_12), ((HB.out.cell (World.block_lt_of_cell? w _ hw287_13)).trans hw287_13), ((HB.out.cell (World.block_lt_of_cell? w _ hw287_14)).trans hw287_14), ((HB.out.cell (World.block_lt_of_cell? w _ hw287_15)).trans hw287_15)⟩ (fun hHeld => ?_); refine with_tabW laws_eqOpS.tab6 laws_eqOpS.bits6 (fun HT_ HW_ => ?_)
                generalize wr.drew = w9 at HB HR286_11 HR286_3 HR286_7 HR286_8 HR287_11 HR287_3 HR287_7 HR287_8 hx286_0 hx286_1 hx286_10 hx286_11 hx286_12 hx286_13 hx286_14 hx286_15 hx286_2 hx286_3 hx286_4 hx286_5 hx286_6 hx286_7 hx286_8 hx286_9 hx287_0 hx287_1 hx287_10 hx287_11 hx287_12 hx287_13 hx287_14 hx287_15 hx287_2 hx287_3 hx287_4 hx287_5 hx287_6 hx287_7 hx287_8 hx287_9 hHeld ⊢
                refine pure_ (i := 0) (N := some 17) (v := ?_) (a' := ?_) #[true, false, false, false, false, false, false, false, false, false] rfl rfl (any_of HT_.out (by kernel_rfl)) (fun _ _ _ h => h) (Or.inl ⟨by rfl, ?_⟩) ?_ ?_
                rotate_left
                · intro w'
                  go_simp
                  with_reducible rfl
                rotate_left
                · simp only [Act.put, List.setIfInBounds_toArray, List.set_cons_zero, List.set_cons_succ, i64_w, i32_w]
                  rfl
                refine pure_ (i := 1) (N := some 18) (v := ?_) (a' := ?_) #[true, true, false, false, false, false, false, false, false, false] rfl rfl (any_of HT_.out (by kernel_rfl)) (fun _ _ _ h => h) (Or.inl ⟨by rfl, ?_⟩) ?_ ?_
                rotate_left
                · intro w'
                  go_simp
                  with_reducible rfl
                rotate_left
                · simp only [Act.put, List.setIfInBounds_toArray, List.set_cons_zero, List.set_cons_succ, i64_w, i32_w]
                  rfl
                refine pure_ (i := 2) (N := some 19) (v := ?_) (a' := ?_) #[true, true, true, false, false, false, false, false, false, false] rfl rfl (any_of HT_.out (by kernel_rfl)) (fun _ _ _ h => h) (Or.inl ⟨by rfl, ?_⟩) ?_ ?_
                rotate_left
                · intro w'
                  go_simp
                  with_reducible rfl
                rotate_left
                · simp only [Act.put, List.setIfInBounds_toArray, List.set_cons_zero, List.set_cons_succ, i64_w, i32_w]
                  rfl
                refine pure_ (i := 4) (N := some 21) (v := ?_) (a' := ?_) #[true, true, true, false, true, false, false, false, false, false] rfl rfl (any_of HT_.out (by kernel_rfl)) (fun _ _ _ h => h) (Or.inl ⟨by rfl, ?_⟩) ?_ ?_
                rotate_left
                · intro w'
                  go_simp
                  with_reducible rfl
                rotate_left
                · simp only [Act.put, List.setIfInBounds_toArray, List.set_cons_zero, List.set_cons_succ, i64_w, i32_w]
                  rfl
                refine pure_ (i := 5) (N := some 22) (v := ?_) (a' := ?_) #[true, true, true, false, true, true, false, false, false, false] rfl rfl (any_of HT_.out (by kernel_rfl)) (fun _ _ _ h => h) (Or.inl ⟨by rfl, ?_⟩) ?_ ?_
                rotate_left
                · intro w'
                  go_simp
                  with_reducible rfl
                rotate_left
                · simp only [Act.put, List.setIfInBounds_toArray, List.set_cons_zero, List.set_cons_succ, i64_w, i32_w]
                  rfl
                refine pure_ (i := 6) (N := some 23) (v := ?_) (a' := ?_) #[true, true, true, false, true, true, true, false, false, false] rfl rfl (any_of HT_.out (by kernel_rfl)) (fun _ _ _ h => h) (Or.inl ⟨by rfl, ?_⟩) ?_ ?_
                rotate_left
                · intro w'
                  go_simp
                  with_reducible rfl
                rotate_left
                · simp only [Act.put, List.setIfInBounds_toArray, List.set_cons_zero, List.set_cons_succ, i64_w, i32_w]
                  rfl
                refine take_ (i := 3) (N := some 20) (v := ?_) (a' := ?_) #[true, true, true, true, true, true, true, false, false, false] rfl rfl (take_ofW HT_.out HW_.out (by kernel_rfl)) (fun _ _ _ h => h) (Or.inl ⟨by rfl, ?_⟩) hHeld ?_ ?_
                rotate_left
                · rintro w' ⟨s0, s1, s2, s3, s4, s5, s6, s7, s8, s9, s10, s11, s12, s13, s14, s15, s16, s17, s18, s19, s20, s21, s22, s23, s24, s25, s26, s27, s28, s29, s30, s31⟩
                  go_simp
                  with_reducible rfl
                rotate_left
                · simp only [Act.put, List.setIfInBounds_toArray, List.set_cons_zero, List.set_cons_succ, i64_w, i32_w]
                  rfl
                refine take_ (i := 7) (N := some 24) (v := ?_) (a' := ?_) #[true, true, true, true, true, true, true, true, false, false] rfl rfl (take_ofW HT_.out HW_.out (by kernel_rfl)) (fun _ _ _ h => h) (Or.inl ⟨by rfl, ?_⟩) hHeld ?_ ?_
                rotate_left
                · rintro w' ⟨s0, s1, s2, s3, s4, s5, s6, s7, s8, s9, s10, s11, s12, s13, s14, s15, s16, s17, s18, s19, s20, s21, s22, s23, s24, s25, s26, s27, s28, s29, s30, s31⟩
                  go_simp
                  with_reducible rfl
                rotate_left
                · simp only [Act.put, List.setIfInBounds_toArray, List.set_cons_zero, List.set_cons_succ, i64_w, i32_w]
                  rfl
                refine one_ (i := 8) (N := some 25) #[true, true, true, true, true, true, true, true, true, false] rfl rfl (one_of HT_.out (by kernel_rfl)) (by decide) (fun K hK => ?_)
                refine goes_ Try.func58 (by kernel_rfl) rfl #[.agg #[.int .i64 ((rd_T80 l0 x5_1).f0), .int .i64 ((rd_T80 l0 x5_1).f1), .string ((rd_T80 l0 x5_1).f2), .slice A286_3 ((rd_T80 l0 x5_1).f3).length c286_3, .int .i64 ((rd_T80 l0 x5_1).f4.f0.f0), .int .i64 ((rd_T80 l0 x5_1).f4.f0.f1), .int .i64 ((rd_T80 l0 x5_1).f4.f0.f2), .slice A286_7 ((rd_T80 l0 x5_1).f4.f1).length c286_7, .slice A286_8 ((rd_T80 l0 x5_1).f4.f2.f0.f0).length c286_8, .int .i64 ((rd_T80 l0 x5_1).f4.f2.f0.f1), .int .i64 ((rd_T80 l0 x5_1).f4.f2.f0.f2), .slice A286_11 ((rd_T80 l0 x5_1).f4.f2.f1.f0).length c286_11, .int .i64 ((rd_T80 l0 x5_1).f4.f2.f1.f1), .int .i64 ((rd_T80 l0 x5_1).f4.f2.f1.f2), .int .i64 ((rd_T80 l0 x5_1).f4.f2.f2), .int .i64 ((rd_T80 l0 x5_1).f4.f2.f3)], .agg #[.int .i64 ((rd_T80 l1 x5_1).f0), .int .i64 ((rd_T80 l1 x5_1).f1), .string ((rd_T80 l1 x5_1).f2), .slice A287_3 ((rd_T80 l1 x5_1).f3).length c287_3, .int .i64 ((rd_T80 l1 x5_1).f4.f0.f0), .int .i64 ((rd_T80 l1 x5_1).f4.f0.f1), .int .i64 ((rd_T80 l1 x5_1).f4.f0.f2), .slice A287_7 ((rd_T80 l1 x5_1).f4.f1).length c287_7, .slice A287_8 ((rd_T80 l1 x5_1).f4.f2.f0.f0).length c287_8, .int .i64 ((rd_T80 l1 x5_1).f4.f2.f0.f1), .int .i64 ((rd_T80 l1 x5_1).f4.f2.f0.f2), .slice A287_11 ((rd_T80 l1 x5_1).f4.f2.f1.f0).length c287_11, .int .i64 ((rd_T80 l1 x5_1).f4.f2.f1.f1), .int .i64 ((rd_T80 l1 x5_1).f4.f2.f1.f2), .int .i64 ((rd_T80 l1 x5_1).f4.f2.f2), .int .i64 ((rd_T80 l1 x5_1).f4.f2.f3)]] (by rfl) rfl rfl (me_) ?_
                with_reducible refine (laws_eqOp.calls k1 ((rd_T80 l0 x5_1).f0) ((rd_T80 l0 x5_1).f1) ((rd_T80 l0 x5_1).f2) _ _ ((rd_T80 l0 x5_1).f3) ((rd_T80 l0 x5_1).f4.f0.f0) ((rd_T80 l0 x5_1).f4.f0.f1) ((rd_T80 l0 x5_1).f4.f0.f2) _ _ ((rd_T80 l0 x5_1).f4.f1) _ _ ((rd_T80 l0 x5_1).f4.f2.f0.f0) ((rd_T80 l0 x5_1).f4.f2.f0.f1) ((rd_T80 l0 x5_1).f4.f2.f0.f2) _ _ ((rd_T80 l0 x5_1).f4.f2.f1.f0) ((rd_T80 l0 x5_1).f4.f2.f1.f1) ((rd_T80 l0 x5_1).f4.f2.f1.f2) ((rd_T80 l0 x5_1).f4.f2.f2) ((rd_T80 l0 x5_1).f4.f2.f3) ((rd_T80 l1 x5_1).f0) ((rd_T80 l1 x5_1).f1) ((rd_T80 l1 x5_1).f2) _ _ ((rd_T80 l1 x5_1).f3) ((rd_T80 l1 x5_1).f4.f0.f0) ((rd_T80 l1 x5_1).f4.f0.f1) ((rd_T80 l1 x5_1).f4.f0.f2) _ _ ((rd_T80 l1 x5_1).f4.f1) _ _ ((rd_T80 l1 x5_1).f4.f2.f0.f0) ((rd_T80 l1 x5_1).f4.f2.f0.f1) ((rd_T80 l1 x5_1).f4.f2.f0.f2) _ _ ((rd_T80 l1 x5_1).f4.f2.f1.f0) ((rd_T80 l1 x5_1).f4.f2.f1.f1) ((rd_T80 l1 x5_1).f4.f2.f1.f2) ((rd_T80 l1 x5_1).f4.f2.f2) ((rd_T80 l1 x5_1).f4.f2.f3) true _ ?side1 ?side2 ?side3 ?side4 ?side5 ?side6 ?side7 ?side8 ?side9 ?side10 ?side11 ?side12 ?side13 ?side14 ?side15 ?side16 A7.out).mono ?_
                (case side1 => repeat (first | exact (Kd.C_below HR286_3.out HB.out) | (with_reducible refine Kd.C_alloc ?_ _) | (with_reducible refine Kd.C_drewN ?_ _) | (with_reducible refine Kd.C_drew ?_)))
                (case side2 => exact HC286_3.out)
                (case side3 => repeat (first | exact (Kd.C_below HR286_7.out HB.out) | (with_reducible refine Kd.C_alloc ?_ _) | (with_reducible refine Kd.C_drewN ?_ _) | (with_reducible refine Kd.C_drew ?_)))
                (case side4 => exact HC286_7.out)
                (case side5 => repeat (first | exact (Kd.C_below HR286_8.out HB.out) | (with_reducible refine Kd.C_alloc ?_ _) | (with_reducible refine Kd.C_drewN ?_ _) | (with_reducible refine Kd.C_drew ?_)))
                (case side6 => exact HC286_8.out)
                (case side7 => repeat (first | exact (Kd.C_below HR286_11.out HB.out) | (with_reducible refine Kd.C_alloc ?_ _) | (with_reducible refine Kd.C_drewN ?_ _) | (with_reducible refine Kd.C_drew ?_)))
                (case side8 => exact HC286_11.out)
                (case side9 => repeat (first | exact (Kd.C_below HR287_3.out HB.out) | (with_reducible refine Kd.C_alloc ?_ _) | (with_reducible refine Kd.C_drewN ?_ _) | (with_reducible refine Kd.C_drew ?_)))
                (case side10 => exact HC287_3.out)
                (case side11 => repeat (first | exact (Kd.C_below HR287_7.out HB.out) | (with_reducible refine Kd.C_alloc ?_ _) | (with_reducible refine Kd.C_drewN ?_ _) | (with_reducible refine Kd.C_drew ?_)))
                (case side12 => exact HC287_7.out)
                (case side13 => repeat (first | exact (Kd.C_below HR287_8.out HB.out) | (with_reducible refine Kd.C_alloc ?_ _) | (with_reducible refine Kd.C_drewN ?_ _) | (with_reducible refine Kd.C_drew ?_)))
                (case side14 => exact HC287_8.out)
                (case side15 => repeat (first | exact (Kd.C_below HR287_11.out HB.out) | (with_reducible refine Kd.C_alloc ?_ _) | (with_reducible refine Kd.C_drewN ?_ _) | (with_reducible refine Kd.C_drew ?_)))
                (case side16 => exact HC287_11.out)
                rintro e w10 ⟨rfl, hb⟩
                refine ⟨_, rfl, ?_⟩
                have n0_ := Aside0.mk (below_step (hb0_) hb)
                clear HB
                have HB := n0_
                clear n0_
                (try clear hb)
                (try clear hb2)
                (try clear hk)
                (try clear hi)
                refine hK.out _ _ ⟨((HB.out.cell (World.block_lt_of_cell? w _ hw286_0)).trans hw286_0), ((HB.out.cell (World.block_lt_of_cell? w _ hw286_1)).trans hw286_1), ((HB.out.cell (World.block_lt_of_cell? w _ hw286_2)).trans hw286_2), ((HB.out.cell (World.block_lt_of_cell? w _ hw286_3)).trans hw286_3), ((HB.out.cell (World.block_lt_of_cell? w _ hw286_4)).trans hw286_4), ((HB.out.cell (World.block_lt_of_cell? w _ hw286_5)).trans hw286_5), ((HB.out.cell (World.block_lt_of_cell? w _ hw286_6)).trans hw286_6), ((HB.out.cell (World.block_lt_of_cell? w _ hw286_7)).trans hw286_7), ((HB.out.cell (World.block_lt_of_cell? w _ hw286_8)).trans hw286_8), ((HB.out.cell (World.block_lt_of_cell? w _ hw286_9)).trans hw286_9), ((HB.out.cell (World.block_lt_of_cell? w _ hw286_10)).trans hw286_10), ((HB.out.cell (World.block_lt_of_cell? w _ hw286_11)).trans hw286_11), ((HB.out.cell (World.block_lt_of_cell? w _ hw286_12)).trans hw286_12), ((HB.out.cell (World.block_lt_of_cell? w _ hw286_13)).trans hw286_13), ((HB.out.cell (World.block_lt_of_cell? w _ hw286_14)).trans hw286_14), ((HB.out.cell (World.block_lt_of_cell? w _ hw286_15)).trans hw286_15), ((HB.out.cell (World.block_lt_of_cell? w _ hw287_0)).trans hw287_0), ((HB.out.cell (World.block_lt_of_cell? w _ hw287_1)).trans hw287_1), ((HB.out.cell (World.block_lt_of_cell? w _ hw287_2)).trans hw287_2), ((HB.out.cell (World.block_lt_of_cell? w _ hw287_3)).trans hw287_3), ((HB.out.cell (World.block_lt_of_cell? w _ hw287_4)).trans hw287_4), ((HB.out.cell (World.block_lt_of_cell? w _ hw287_5)).trans hw287_5), ((HB.out.cell (World.block_lt_of_cell? w _ hw287_6)).trans hw287_6), ((HB.out.cell (World.block_lt_of_cell? w _ hw287_7)).trans hw287_7), ((HB.out.cell (World.block_lt_of_cell? w _ hw287_8)).trans hw287_8), ((HB.out.cell (World.block_lt_of_cell? w _ hw287_9)).trans hw287_9), ((HB.out.cell (World.block_lt_of_cell? w _ hw287_10)).trans hw287_10), ((HB.out.cell (World.block_lt_of_cell? w _ hw287_11)).trans hw287_11), ((HB.out.cell (World.block_lt_of_cell? w _ hw287_12)).trans hw287_12), ((HB.out.cell (World.block_lt_of_cell? w _ hw287_13)).trans hw287_13), ((HB.out.cell (World.block_lt_of_cell? w _ hw287_14)).trans hw287_14), ((HB.out.cell (World.block_lt_of_cell? w _ hw287_15)).trans hw287_15)⟩ (fun hHeld => ?_)
                clear hK K
                refine norm_ (a' := ?_) ?_ ?_
                rotate_left
                · show Act.put _ (some 25) _ = _
                  simp only [Act.put, List.setIfInBounds_toArray, List.set_cons_zero, List.set_cons_succ, i64_w, i32_w]
                  rfl
                refine pure_ (i := 9) (N := some 26) (v := ?_) (a' := ?_) #[true, true, true, true, true, true, true, true, true, true] rfl rfl (any_of HT_.out (by kernel_rfl)) (fun _ _ _ h => h) (Or.inl ⟨by rfl, ?_⟩) ?_ ?_
                rotate_left
                · intro w'
                  go_simp
                  with_reducible rfl
                rotate_left
                · simp only [Act.put, List.setIfInBounds_toArray, List.set_cons_zero, List.set_cons_succ, i64_w, i32_w]
                  rfl
                refine done_ (done_of HT_.out (by kernel_rfl)) ?_
                try go_wp2
                go_roundg k1
                case measure => have := HK1.out; omega
                case rel => exact ⟨(wrap64 (x5_1 + 1)), (rs_), H', ⟨by have := HK1.out; omega⟩, ⟨hb0_⟩⟩
              · replace c8 := Bool.eq_false_iff.mpr c8
                subst c8
                have H1 : (some false) = some r := by rw [if_neg (show ¬ (false = true) by decide)] at H; exact H
                clear H
                have H := H1
                clear H1
                obtain rfl := Option.some.inj H
                try go_wp2
                have n0_ := Aside0.mk (below_drew1 HB.out)
                clear HB
                have HB := n0_
                clear n0_
                have p286 : 0 ≤ (x5_1 : Int) := of_decide_eq_true as_
                have q286 : x5_1 < (l0.length : Int) := of_decide_eq_true as_
                obtain ⟨ad286, A286_3, c286_3, A286_7, c286_7, A286_8, c286_8, A286_11, c286_11, e286, hx286_0, hx286_1, hx286_2, hx286_3, hx286_4, hx286_5, hx286_6, hx286_7, hx286_8, hx286_9, hx286_10, hx286_11, hx286_12, hx286_13, hx286_14, hx286_15, hl286_3, hi286_3, hl286_7, hi286_7, hl286_8, hi286_8, hl286_11, hi286_11⟩ := at_T80 HR0.out x5_1 p286 q286
                have hw286_15 := hx286_15
                have hw286_14 := hx286_14
                have hw286_13 := hx286_13
                have hw286_12 := hx286_12
                have hw286_11 := hx286_11
                have hw286_10 := hx286_10
                have hw286_9 := hx286_9
                have hw286_8 := hx286_8
                have hw286_7 := hx286_7
                have hw286_6 := hx286_6
                have hw286_5 := hx286_5
                have hw286_4 := hx286_4
                have hw286_3 := hx286_3
                have hw286_2 := hx286_2
                have hw286_1 := hx286_1
                have hw286_0 := hx286_0
                cases e286
                replace hx286_0 := (HB.out.cell (World.block_lt_of_cell? w _ hx286_0)).trans hx286_0
                replace hx286_1 := (HB.out.cell (World.block_lt_of_cell? w _ hx286_1)).trans hx286_1
                replace hx286_2 := (HB.out.cell (World.block_lt_of_cell? w _ hx286_2)).trans hx286_2
                replace hx286_3 := (HB.out.cell (World.block_lt_of_cell? w _ hx286_3)).trans hx286_3
                replace hx286_4 := (HB.out.cell (World.block_lt_of_cell? w _ hx286_4)).trans hx286_4
                replace hx286_5 := (HB.out.cell (World.block_lt_of_cell? w _ hx286_5)).trans hx286_5
                replace hx286_6 := (HB.out.cell (World.block_lt_of_cell? w _ hx286_6)).trans hx286_6
                replace hx286_7 := (HB.out.cell (World.block_lt_of_cell? w _ hx286_7)).trans hx286_7
                replace hx286_8 := (HB.out.cell (World.block_lt_of_cell? w _ hx286_8)).trans hx286_8
                replace hx286_9 := (HB.out.cell (World.block_lt_of_cell? w _ hx286_9)).trans hx286_9
                replace hx286_10 := (HB.out.cell (World.block_lt_of_cell? w _ hx286_10)).trans hx286_10
                replace hx286_11 := (HB.out.cell (World.block_lt_of_cell? w _ hx286_11)).trans hx286_11
                replace hx286_12 := (HB.out.cell (World.block_lt_of_cell? w _ hx286_12)).trans hx286_12
                replace hx286_13 := (HB.out.cell (World.block_lt_of_cell? w _ hx286_13)).trans hx286_13
                replace hx286_14 := (HB.out.cell (World.block_lt_of_cell? w _ hx286_14)).trans hx286_14
                replace hx286_15 := (HB.out.cell (World.block_lt_of_cell? w _ hx286_15)).trans hx286_15
                have HR286_3 := Aside0.mk hi286_3
                have HC286_3 := Aside0.mk hl286_3
                clear hi286_3 hl286_3
                have HR286_7 := Aside0.mk hi286_7
                have HC286_7 := Aside0.mk hl286_7
                clear hi286_7 hl286_7
                have HR286_8 := Aside0.mk hi286_8
                have HC286_8 := Aside0.mk hl286_8
                clear hi286_8 hl286_8
                have HR286_11 := Aside0.mk hi286_11
                have HC286_11 := Aside0.mk hl286_11
                clear hi286_11 hl286_11
                replace p286 := eq_true p286
                replace q286 := eq_true q286
                have p287 : 0 ≤ (x5_1 : Int) := of_decide_eq_true as_
                have q287 : x5_1 < (l1.length : Int) := of_decide_eq_true as_
                obtain ⟨ad287, A287_3, c287_3, A287_7, c287_7, A287_8, c287_8, A287_11, c287_11, e287, hx287_0, hx287_1, hx287_2, hx287_3, hx287_4, hx287_5, hx287_6, hx287_7, hx287_8, hx287_9, hx287_10, hx287_11, hx287_12, hx287_13, hx287_14, hx287_15, hl287_3, hi287_3, hl287_7, hi287_7, hl287_8, hi287_8, hl287_11, hi287_11⟩ := at_T80 HR1.out x5_1 p287 q287
                have hw287_15 := hx287_15
                have hw287_14 := hx287_14
                have hw287_13 := hx287_13
                have hw287_12 := hx287_12
                have hw287_11 := hx287_11
                have hw287_10 := hx287_10
                have hw287_9 := hx287_9
                have hw287_8 := hx287_8
                have hw287_7 := hx287_7
                have hw287_6 := hx287_6
                have hw287_5 := hx287_5
                have hw287_4 := hx287_4
                have hw287_3 := hx287_3
                have hw287_2 := hx287_2
                have hw287_1 := hx287_1
                have hw287_0 := hx287_0
                cases e287
                replace hx287_0 := (HB.out.cell (World.block_lt_of_cell? w _ hx287_0)).trans hx287_0
                replace hx287_1 := (HB.out.cell (World.block_lt_of_cell? w _ hx287_1)).trans hx287_1
                replace hx287_2 := (HB.out.cell (World.block_lt_of_cell? w _ hx287_2)).trans hx287_2
                replace hx287_3 := (HB.out.cell (World.block_lt_of_cell? w _ hx287_3)).trans hx287_3
                replace hx287_4 := (HB.out.cell (World.block_lt_of_cell? w _ hx287_4)).trans hx287_4
                replace hx287_5 := (HB.out.cell (World.block_lt_of_cell? w _ hx287_5)).trans hx287_5
                replace hx287_6 := (HB.out.cell (World.block_lt_of_cell? w _ hx287_6)).trans hx287_6
                replace hx287_7 := (HB.out.cell (World.block_lt_of_cell? w _ hx287_7)).trans hx287_7
                replace hx287_8 := (HB.out.cell (World.block_lt_of_cell? w _ hx287_8)).trans hx287_8
                replace hx287_9 := (HB.out.cell (World.block_lt_of_cell? w _ hx287_9)).trans hx287_9
                replace hx287_10 := (HB.out.cell (World.block_lt_of_cell? w _ hx287_10)).trans hx287_10
                replace hx287_11 := (HB.out.cell (World.block_lt_of_cell? w _ hx287_11)).trans hx287_11
                replace hx287_12 := (HB.out.cell (World.block_lt_of_cell? w _ hx287_12)).trans hx287_12
                replace hx287_13 := (HB.out.cell (World.block_lt_of_cell? w _ hx287_13)).trans hx287_13
                replace hx287_14 := (HB.out.cell (World.block_lt_of_cell? w _ hx287_14)).trans hx287_14
                replace hx287_15 := (HB.out.cell (World.block_lt_of_cell? w _ hx287_15)).trans hx287_15
                have HR287_3 := Aside0.mk hi287_3
                have HC287_3 := Aside0.mk hl287_3
                clear hi287_3 hl287_3
                have HR287_7 := Aside0.mk hi287_7
                have HC287_7 := Aside0.mk hl287_7
                clear hi287_7 hl287_7
                have HR287_8 := Aside0.mk hi287_8
                have HC287_8 := Aside0.mk hl287_8
                clear hi287_8 hl287_8
                have HR287_11 := Aside0.mk hi287_11
                have HC287_11 := Aside0.mk hl287_11
                clear hi287_11 hl287_11
                replace p287 := eq_true p287
                replace q287 := eq_true q287
                refine start_ (n := 10) (S := fun w' => w'.cell? (ad286.add ((x5_1).toNat * 16)) = some (.int .i64 ((rd_T80 l0 x5_1).f0)) ∧ w'.cell? ⟨(ad286.add ((x5_1).toNat * 16)).block, (ad286.add ((x5_1).toNat * 16)).off + 1, none⟩ = some (.int .i64 ((rd_T80 l0 x5_1).f1)) ∧ w'.cell? ⟨(ad286.add ((x5_1).toNat * 16)).block, (ad286.add ((x5_1).toNat * 16)).off + 2, none⟩ = some (.string ((rd_T80 l0 x5_1).f2)) ∧ w'.cell? ⟨(ad286.add ((x5_1).toNat * 16)).block, (ad286.add ((x5_1).toNat * 16)).off + 3, none⟩ = some (.slice A286_3 ((rd_T80 l0 x5_1).f3).length c286_3) ∧ w'.cell? ⟨(ad286.add ((x5_1).toNat * 16)).block, (ad286.add ((x5_1).toNat * 16)).off + 4, none⟩ = some (.int .i64 ((rd_T80 l0 x5_1).f4.f0.f0)) ∧ w'.cell? ⟨(ad286.add ((x5_1).toNat * 16)).block, (ad286.add ((x5_1).toNat * 16)).off + 5, none⟩ = some (.int .i64 ((rd_T80 l0 x5_1).f4.f0.f1)) ∧ w'.cell? ⟨(ad286.add ((x5_1).toNat * 16)).block, (ad286.add ((x5_1).toNat * 16)).off + 6, none⟩ = some (.int .i64 ((rd_T80 l0 x5_1).f4.f0.f2)) ∧ w'.cell? ⟨(ad286.add ((x5_1).toNat * 16)).block, (ad286.add ((x5_1).toNat * 16)).off + 7, none⟩ = some (.slice A286_7 ((rd_T80 l0 x5_1).f4.f1).length c286_7) ∧ w'.cell? ⟨(ad286.add ((x5_1).toNat * 16)).block, (ad286.add ((x5_1).toNat * 16)).off + 8, none⟩ = some (.slice A286_8 ((rd_T80 l0 x5_1).f4.f2.f0.f0).length c286_8) ∧ w'.cell? ⟨(ad286.add ((x5_1).toNat * 16)).block, (ad286.add ((x5_1).toNat * 16)).off + 9, none⟩ = some (.int .i64 ((rd_T80 l0 x5_1).f4.f2.f0.f1)) ∧ w'.cell? ⟨(ad286.add ((x5_1).toNat * 16)).block, (ad286.add ((x5_1).toNat * 16)).off + 10, none⟩ = some (.int .i64 ((rd_T80 l0 x5_1).f4.f2.f0.f2)) ∧ w'.cell? ⟨(ad286.add ((x5_1).toNat * 16)).block, (ad286.add ((x5_1).toNat * 16)).off + 11, none⟩ = some (.slice A286_11 ((rd_T80 l0 x5_1).f4.f2.f1.f0).length c286_11) ∧ w'.cell? ⟨(ad286.add ((x5_1).toNat * 16)).block, (ad286.add ((x5_1).toNat * 16)).off + 12, none⟩ = some (.int .i64 ((rd_T80 l0 x5_1).f4.f2.f1.f1)) ∧ w'.cell? ⟨(ad286.add ((x5_1).toNat * 16)).block, (ad286.add ((x5_1).toNat * 16)).off + 13, none⟩ = some (.int .i64 ((rd_T80 l0 x5_1).f4.f2.f1.f2)) ∧ w'.cell? ⟨(ad286.add ((x5_1).toNat * 16)).block, (ad286.add ((x5_1).toNat * 16)).off + 14, none⟩ = some (.int .i64 ((rd_T80 l0 x5_1).f4.f2.f2)) ∧ w'.cell? ⟨(ad286.add ((x5_1).toNat * 16)).block, (ad286.add ((x5_1).toNat * 16)).off + 15, none⟩ = some (.int .i64 ((rd_T80 l0 x5_1).f4.f2.f3)) ∧ w'.cell? (ad287.add ((x5_1).toNat * 16)) = some (.int .i64 ((rd_T80 l1 x5_1).f0)) ∧ w'.cell? ⟨(ad287.add ((x5_1).toNat * 16)).block, (ad287.add ((x5_1).toNat * 16)).off + 1, none⟩ = some (.int .i64 ((rd_T80 l1 x5_1).f1)) ∧ w'.cell? ⟨(ad287.add ((x5_1).toNat * 16)).block, (ad287.add ((x5_1).toNat * 16)).off + 2, none⟩ = some (.string ((rd_T80 l1 x5_1).f2)) ∧ w'.cell? ⟨(ad287.add ((x5_1).toNat * 16)).block, (ad287.add ((x5_1).toNat * 16)).off + 3, none⟩ = some (.slice A287_3 ((rd_T80 l1 x5_1).f3).length c287_3) ∧ w'.cell? ⟨(ad287.add ((x5_1).toNat * 16)).block, (ad287.add ((x5_1).toNat * 16)).off + 4, none⟩ = some (.int .i64 ((rd_T80 l1 x5_1).f4.f0.f0)) ∧ w'.cell? ⟨(ad287.add ((x5_1).toNat * 16)).block, (ad287.add ((x5_1).toNat * 16)).off + 5, none⟩ = some (.int .i64 ((rd_T80 l1 x5_1).f4.f0.f1)) ∧ w'.cell? ⟨(ad287.add ((x5_1).toNat * 16)).block, (ad287.add ((x5_1).toNat * 16)).off + 6, none⟩ = some (.int .i64 ((rd_T80 l1 x5_1).f4.f0.f2)) ∧ w'.cell? ⟨(ad287.add ((x5_1).toNat * 16)).block, (ad287.add ((x5_1).toNat * 16)).off + 7, none⟩ = some (.slice A287_7 ((rd_T80 l1 x5_1).f4.f1).length c287_7) ∧ w'.cell? ⟨(ad287.add ((x5_1).toNat * 16)).block, (ad287.add ((x5_1).toNat * 16)).off + 8, none⟩ = some (.slice A287_8 ((rd_T80 l1 x5_1).f4.f2.f0.f0).length c287_8) ∧ w'.cell? ⟨(ad287.add ((x5_1).toNat * 16)).block, (ad287.add ((x5_1).toNat * 16)).off + 9, none⟩ = some (.int .i64 ((rd_T80 l1 x5_1).f4.f2.f0.f1)) ∧ w'.cell? ⟨(ad287.add ((x5_1).toNat * 16)).block, (ad287.add ((x5_1).toNat * 16)).off + 10, none⟩ = some (.int .i64 ((rd_T80 l1 x5_1).f4.f2.f0.f2)) ∧ w'.cell? ⟨(ad287.add ((x5_1).toNat * 16)).block, (ad287.add ((x5_1).toNat * 16)).off + 11, none⟩ = some (.slice A287_11 ((rd_T80 l1 x5_1).f4.f2.f1.f0).length c287_11) ∧ w'.cell? ⟨(ad287.add ((x5_1).toNat * 16)).block, (ad287.add ((x5_1).toNat * 16)).off + 12, none⟩ = some (.int .i64 ((rd_T80 l1 x5_1).f4.f2.f1.f1)) ∧ w'.cell? ⟨(ad287.add ((x5_1).toNat * 16)).block, (ad287.add ((x5_1).toNat * 16)).off + 13, none⟩ = some (.int .i64 ((rd_T80 l1 x5_1).f4.f2.f1.f2)) ∧ w'.cell? ⟨(ad287.add ((x5_1).toNat * 16)).block, (ad287.add ((x5_1).toNat * 16)).off + 14, none⟩ = some (.int .i64 ((rd_T80 l1 x5_1).f4.f2.f2)) ∧ w'.cell? ⟨(ad287.add ((x5_1).toNat * 16)).block, (ad287.add ((x5_1).toNat * 16)).off + 15, none⟩ = some (.int .i64 ((rd_T80 l1 x5_1).f4.f2.f3))) (ds := []) #[false, false, false, false, false, false, false, false, false, false] (by kernel_rfl) rfl rfl ⟨((HB.out.cell (World.block_lt_of_cell? w _ hw286_0)).trans hw286_0), ((HB.out.cell (World.block_lt_of_cell? w _ hw286_1)).trans hw286_1), ((HB.out.cell (World.block_lt_of_cell? w _ hw286_2)).trans hw286_2), ((HB.out.cell (World.block_lt_of_cell? w _ hw286_3)).trans hw286_3), ((HB.out.cell (World.block_lt_of_cell? w _ hw286_4)).trans hw286_4), ((HB.out.cell (World.block_lt_of_cell? w _ hw286_5)).trans hw286_5), ((HB.out.cell (World.block_lt_of_cell? w _ hw286_6)).trans hw286_6), ((HB.out.cell (World.block_lt_of_cell? w _ hw286_7)).trans hw286_7), ((HB.out.cell (World.block_lt_of_cell? w _ hw286_8)).trans hw286_8), ((HB.out.cell (World.block_lt_of_cell? w _ hw286_9)).trans hw286_9), ((HB.out.cell (World.block_lt_of_cell? w _ hw286_10)).trans hw286_10), ((HB.out.cell (World.block_lt_of_cell? w _ hw286_11)).trans hw286_11), ((HB.out.cell (World.block_lt_of_cell? w _ hw286_12)).trans hw286_12), ((HB.out.cell (World.block_lt_of_cell? w _ hw286_13)).trans hw286_13), ((HB.out.cell (World.block_lt_of_cell? w _ hw286_14)).trans hw286_14), ((HB.out.cell (World.block_lt_of_cell? w _ hw286_15)).trans hw286_15), ((HB.out.cell (World.block_lt_of_cell? w _ hw287_0)).trans hw287_0), ((HB.out.cell (World.block_lt_of_cell? w _ hw287_1)).trans hw287_1), ((HB.out.cell (World.block_lt_of_cell? w _ hw287_2)).trans hw287_2), ((HB.out.cell (World.block_lt_of_cell? w _ hw287_3)).trans hw287_3), ((HB.out.cell (World.block_lt_of_cell? w _ hw287_4)).trans hw287_4), ((HB.out.cell (World.block_lt_of_cell? w _ hw287_5)).trans hw287_5), ((HB.out.cell (World.block_lt_of_cell? w _ hw287_6)).trans hw287_6), ((HB.out.cell (World.block_lt_of_cell? w _ hw287_7)).trans hw287_7), ((HB.out.cell (World.block_lt_of_cell? w _ hw287_8)).trans hw287_8), ((HB.out.cell (World.block_lt_of_cell? w _ hw287_9)).trans hw287_9), ((HB.out.cell (World.block_lt_of_cell? w _ hw287_10)).trans hw287_10), ((HB.out.cell (World.block_lt_of_cell? w _ hw287_11)).trans hw287_11), ((HB.out.cell (World.block_lt_of_cell? w _ hw287_12)).trans hw287_12), ((HB.out.cell (World.block_lt_of_cell? w _ hw287_13)).trans hw287_13), ((HB.out.cell (World.block_lt_of_cell? w _ hw287_14)).trans hw287_14), ((HB.out.cell (World.block_lt_of_cell? w _ hw287_15)).trans hw287_15)⟩ (fun hHeld => ?_); refine with_tabW laws_eqOpS.tab6 laws_eqOpS.bits6 (fun HT_ HW_ => ?_)
                generalize wr.drew = w11 at HB HR286_11 HR286_3 HR286_7 HR286_8 HR287_11 HR287_3 HR287_7 HR287_8 hx286_0 hx286_1 hx286_10 hx286_11 hx286_12 hx286_13 hx286_14 hx286_15 hx286_2 hx286_3 hx286_4 hx286_5 hx286_6 hx286_7 hx286_8 hx286_9 hx287_0 hx287_1 hx287_10 hx287_11 hx287_12 hx287_13 hx287_14 hx287_15 hx287_2 hx287_3 hx287_4 hx287_5 hx287_6 hx287_7 hx287_8 hx287_9 hHeld ⊢
                refine pure_ (i := 0) (N := some 17) (v := ?_) (a' := ?_) #[true, false, false, false, false, false, false, false, false, false] rfl rfl (any_of HT_.out (by kernel_rfl)) (fun _ _ _ h => h) (Or.inl ⟨by rfl, ?_⟩) ?_ ?_
                rotate_left
                · intro w'
                  go_simp
                  with_reducible rfl
                rotate_left
                · simp only [Act.put, List.setIfInBounds_toArray, List.set_cons_zero, List.set_cons_succ, i64_w, i32_w]
                  rfl
                refine pure_ (i := 1) (N := some 18) (v := ?_) (a' := ?_) #[true, true, false, false, false, false, false, false, false, false] rfl rfl (any_of HT_.out (by kernel_rfl)) (fun _ _ _ h => h) (Or.inl ⟨by rfl, ?_⟩) ?_ ?_
                rotate_left
                · intro w'
                  go_simp
                  with_reducible rfl
                rotate_left
                · simp only [Act.put, List.setIfInBounds_toArray, List.set_cons_zero, List.set_cons_succ, i64_w, i32_w]
                  rfl
                refine pure_ (i := 2) (N := some 19) (v := ?_) (a' := ?_) #[true, true, true, false, false, false, false, false, false, false] rfl rfl (any_of HT_.out (by kernel_rfl)) (fun _ _ _ h => h) (Or.inl ⟨by rfl, ?_⟩) ?_ ?_
                rotate_left
                · intro w'
                  go_simp
                  with_reducible rfl
                rotate_left
                · simp only [Act.put, List.setIfInBounds_toArray, List.set_cons_zero, List.set_cons_succ, i64_w, i32_w]
                  rfl
                refine pure_ (i := 4) (N := some 21) (v := ?_) (a' := ?_) #[true, true, true, false, true, false, false, false, false, false] rfl rfl (any_of HT_.out (by kernel_rfl)) (fun _ _ _ h => h) (Or.inl ⟨by rfl, ?_⟩) ?_ ?_
                rotate_left
                · intro w'
                  go_simp
                  with_reducible rfl
                rotate_left
                · simp only [Act.put, List.setIfInBounds_toArray, List.set_cons_zero, List.set_cons_succ, i64_w, i32_w]
                  rfl
                refine pure_ (i := 5) (N := some 22) (v := ?_) (a' := ?_) #[true, true, true, false, true, true, false, false, false, false] rfl rfl (any_of HT_.out (by kernel_rfl)) (fun _ _ _ h => h) (Or.inl ⟨by rfl, ?_⟩) ?_ ?_
                rotate_left
                · intro w'
                  go_simp
                  with_reducible rfl
                rotate_left
                · simp only [Act.put, List.setIfInBounds_toArray, List.set_cons_zero, List.set_cons_succ, i64_w, i32_w]
                  rfl
                refine pure_ (i := 6) (N := some 23) (v := ?_) (a' := ?_) #[true, true, true, false, true, true, true, false, false, false] rfl rfl (any_of HT_.out (by kernel_rfl)) (fun _ _ _ h => h) (Or.inl ⟨by rfl, ?_⟩) ?_ ?_
                rotate_left
                · intro w'
                  go_simp
                  with_reducible rfl
                rotate_left
                · simp only [Act.put, List.setIfInBounds_toArray, List.set_cons_zero, List.set_cons_succ, i64_w, i32_w]
                  rfl
                refine take_ (i := 3) (N := some 20) (v := ?_) (a' := ?_) #[true, true, true, true, true, true, true, false, false, false] rfl rfl (take_ofW HT_.out HW_.out (by kernel_rfl)) (fun _ _ _ h => h) (Or.inl ⟨by rfl, ?_⟩) hHeld ?_ ?_
                rotate_left
                · rintro w' ⟨s0, s1, s2, s3, s4, s5, s6, s7, s8, s9, s10, s11, s12, s13, s14, s15, s16, s17, s18, s19, s20, s21, s22, s23, s24, s25, s26, s27, s28, s29, s30, s31⟩
                  go_simp
                  with_reducible rfl
                rotate_left
                · simp only [Act.put, List.setIfInBounds_toArray, List.set_cons_zero, List.set_cons_succ, i64_w, i32_w]
                  rfl
                refine take_ (i := 7) (N := some 24) (v := ?_) (a' := ?_) #[true, true, true, true, true, true, true, true, false, false] rfl rfl (take_ofW HT_.out HW_.out (by kernel_rfl)) (fun _ _ _ h => h) (Or.inl ⟨by rfl, ?_⟩) hHeld ?_ ?_
                rotate_left
                · rintro w' ⟨s0, s1, s2, s3, s4, s5, s6, s7, s8, s9, s10, s11, s12, s13, s14, s15, s16, s17, s18, s19, s20, s21, s22, s23, s24, s25, s26, s27, s28, s29, s30, s31⟩
                  go_simp
                  with_reducible rfl
                rotate_left
                · simp only [Act.put, List.setIfInBounds_toArray, List.set_cons_zero, List.set_cons_succ, i64_w, i32_w]
                  rfl
                refine one_ (i := 8) (N := some 25) #[true, true, true, true, true, true, true, true, true, false] rfl rfl (one_of HT_.out (by kernel_rfl)) (by decide) (fun K hK => ?_)
                refine goes_ Try.func58 (by kernel_rfl) rfl #[.agg #[.int .i64 ((rd_T80 l0 x5_1).f0), .int .i64 ((rd_T80 l0 x5_1).f1), .string ((rd_T80 l0 x5_1).f2), .slice A286_3 ((rd_T80 l0 x5_1).f3).length c286_3, .int .i64 ((rd_T80 l0 x5_1).f4.f0.f0), .int .i64 ((rd_T80 l0 x5_1).f4.f0.f1), .int .i64 ((rd_T80 l0 x5_1).f4.f0.f2), .slice A286_7 ((rd_T80 l0 x5_1).f4.f1).length c286_7, .slice A286_8 ((rd_T80 l0 x5_1).f4.f2.f0.f0).length c286_8, .int .i64 ((rd_T80 l0 x5_1).f4.f2.f0.f1), .int .i64 ((rd_T80 l0 x5_1).f4.f2.f0.f2), .slice A286_11 ((rd_T80 l0 x5_1).f4.f2.f1.f0).length c286_11, .int .i64 ((rd_T80 l0 x5_1).f4.f2.f1.f1), .int .i64 ((rd_T80 l0 x5_1).f4.f2.f1.f2), .int .i64 ((rd_T80 l0 x5_1).f4.f2.f2), .int .i64 ((rd_T80 l0 x5_1).f4.f2.f3)], .agg #[.int .i64 ((rd_T80 l1 x5_1).f0), .int .i64 ((rd_T80 l1 x5_1).f1), .string ((rd_T80 l1 x5_1).f2), .slice A287_3 ((rd_T80 l1 x5_1).f3).length c287_3, .int .i64 ((rd_T80 l1 x5_1).f4.f0.f0), .int .i64 ((rd_T80 l1 x5_1).f4.f0.f1), .int .i64 ((rd_T80 l1 x5_1).f4.f0.f2), .slice A287_7 ((rd_T80 l1 x5_1).f4.f1).length c287_7, .slice A287_8 ((rd_T80 l1 x5_1).f4.f2.f0.f0).length c287_8, .int .i64 ((rd_T80 l1 x5_1).f4.f2.f0.f1), .int .i64 ((rd_T80 l1 x5_1).f4.f2.f0.f2), .slice A287_11 ((rd_T80 l1 x5_1).f4.f2.f1.f0).length c287_11, .int .i64 ((rd_T80 l1 x5_1).f4.f2.f1.f1), .int .i64 ((rd_T80 l1 x5_1).f4.f2.f1.f2), .int .i64 ((rd_T80 l1 x5_1).f4.f2.f2), .int .i64 ((rd_T80 l1 x5_1).f4.f2.f3)]] (by rfl) rfl rfl (me_) ?_
                with_reducible refine (laws_eqOp.calls k1 ((rd_T80 l0 x5_1).f0) ((rd_T80 l0 x5_1).f1) ((rd_T80 l0 x5_1).f2) _ _ ((rd_T80 l0 x5_1).f3) ((rd_T80 l0 x5_1).f4.f0.f0) ((rd_T80 l0 x5_1).f4.f0.f1) ((rd_T80 l0 x5_1).f4.f0.f2) _ _ ((rd_T80 l0 x5_1).f4.f1) _ _ ((rd_T80 l0 x5_1).f4.f2.f0.f0) ((rd_T80 l0 x5_1).f4.f2.f0.f1) ((rd_T80 l0 x5_1).f4.f2.f0.f2) _ _ ((rd_T80 l0 x5_1).f4.f2.f1.f0) ((rd_T80 l0 x5_1).f4.f2.f1.f1) ((rd_T80 l0 x5_1).f4.f2.f1.f2) ((rd_T80 l0 x5_1).f4.f2.f2) ((rd_T80 l0 x5_1).f4.f2.f3) ((rd_T80 l1 x5_1).f0) ((rd_T80 l1 x5_1).f1) ((rd_T80 l1 x5_1).f2) _ _ ((rd_T80 l1 x5_1).f3) ((rd_T80 l1 x5_1).f4.f0.f0) ((rd_T80 l1 x5_1).f4.f0.f1) ((rd_T80 l1 x5_1).f4.f0.f2) _ _ ((rd_T80 l1 x5_1).f4.f1) _ _ ((rd_T80 l1 x5_1).f4.f2.f0.f0) ((rd_T80 l1 x5_1).f4.f2.f0.f1) ((rd_T80 l1 x5_1).f4.f2.f0.f2) _ _ ((rd_T80 l1 x5_1).f4.f2.f1.f0) ((rd_T80 l1 x5_1).f4.f2.f1.f1) ((rd_T80 l1 x5_1).f4.f2.f1.f2) ((rd_T80 l1 x5_1).f4.f2.f2) ((rd_T80 l1 x5_1).f4.f2.f3) false _ ?side1 ?side2 ?side3 ?side4 ?side5 ?side6 ?side7 ?side8 ?side9 ?side10 ?side11 ?side12 ?side13 ?side14 ?side15 ?side16 A7.out).mono ?_
                (case side1 => repeat (first | exact (Kd.C_below HR286_3.out HB.out) | (with_reducible refine Kd.C_alloc ?_ _) | (with_reducible refine Kd.C_drewN ?_ _) | (with_reducible refine Kd.C_drew ?_)))
                (case side2 => exact HC286_3.out)
                (case side3 => repeat (first | exact (Kd.C_below HR286_7.out HB.out) | (with_reducible refine Kd.C_alloc ?_ _) | (with_reducible refine Kd.C_drewN ?_ _) | (with_reducible refine Kd.C_drew ?_)))
                (case side4 => exact HC286_7.out)
                (case side5 => repeat (first | exact (Kd.C_below HR286_8.out HB.out) | (with_reducible refine Kd.C_alloc ?_ _) | (with_reducible refine Kd.C_drewN ?_ _) | (with_reducible refine Kd.C_drew ?_)))
                (case side6 => exact HC286_8.out)
                (case side7 => repeat (first | exact (Kd.C_below HR286_11.out HB.out) | (with_reducible refine Kd.C_alloc ?_ _) | (with_reducible refine Kd.C_drewN ?_ _) | (with_reducible refine Kd.C_drew ?_)))
                (case side8 => exact HC286_11.out)
                (case side9 => repeat (first | exact (Kd.C_below HR287_3.out HB.out) | (with_reducible refine Kd.C_alloc ?_ _) | (with_reducible refine Kd.C_drewN ?_ _) | (with_reducible refine Kd.C_drew ?_)))
                (case side10 => exact HC287_3.out)
                (case side11 => repeat (first | exact (Kd.C_below HR287_7.out HB.out) | (with_reducible refine Kd.C_alloc ?_ _) | (with_reducible refine Kd.C_drewN ?_ _) | (with_reducible refine Kd.C_drew ?_)))
                (case side12 => exact HC287_7.out)
                (case side13 => repeat (first | exact (Kd.C_below HR287_8.out HB.out) | (with_reducible refine Kd.C_alloc ?_ _) | (with_reducible refine Kd.C_drewN ?_ _) | (with_reducible refine Kd.C_drew ?_)))
                (case side14 => exact HC287_8.out)
                (case side15 => repeat (first | exact (Kd.C_below HR287_11.out HB.out) | (with_reducible refine Kd.C_alloc ?_ _) | (with_reducible refine Kd.C_drewN ?_ _) | (with_reducible refine Kd.C_drew ?_)))
                (case side16 => exact HC287_11.out)
                rintro e w12 ⟨rfl, hb⟩
                refine ⟨_, rfl, ?_⟩
                have n0_ := Aside0.mk (below_step (hb0_) hb)
                clear HB
                have HB := n0_
                clear n0_
                (try clear hb)
                (try clear hb2)
                (try clear hk)
                (try clear hi)
                refine hK.out _ _ ⟨((HB.out.cell (World.block_lt_of_cell? w _ hw286_0)).trans hw286_0), ((HB.out.cell (World.block_lt_of_cell? w _ hw286_1)).trans hw286_1), ((HB.out.cell (World.block_lt_of_cell? w _ hw286_2)).trans hw286_2), ((HB.out.cell (World.block_lt_of_cell? w _ hw286_3)).trans hw286_3), ((HB.out.cell (World.block_lt_of_cell? w _ hw286_4)).trans hw286_4), ((HB.out.cell (World.block_lt_of_cell? w _ hw286_5)).trans hw286_5), ((HB.out.cell (World.block_lt_of_cell? w _ hw286_6)).trans hw286_6), ((HB.out.cell (World.block_lt_of_cell? w _ hw286_7)).trans hw286_7), ((HB.out.cell (World.block_lt_of_cell? w _ hw286_8)).trans hw286_8), ((HB.out.cell (World.block_lt_of_cell? w _ hw286_9)).trans hw286_9), ((HB.out.cell (World.block_lt_of_cell? w _ hw286_10)).trans hw286_10), ((HB.out.cell (World.block_lt_of_cell? w _ hw286_11)).trans hw286_11), ((HB.out.cell (World.block_lt_of_cell? w _ hw286_12)).trans hw286_12), ((HB.out.cell (World.block_lt_of_cell? w _ hw286_13)).trans hw286_13), ((HB.out.cell (World.block_lt_of_cell? w _ hw286_14)).trans hw286_14), ((HB.out.cell (World.block_lt_of_cell? w _ hw286_15)).trans hw286_15), ((HB.out.cell (World.block_lt_of_cell? w _ hw287_0)).trans hw287_0), ((HB.out.cell (World.block_lt_of_cell? w _ hw287_1)).trans hw287_1), ((HB.out.cell (World.block_lt_of_cell? w _ hw287_2)).trans hw287_2), ((HB.out.cell (World.block_lt_of_cell? w _ hw287_3)).trans hw287_3), ((HB.out.cell (World.block_lt_of_cell? w _ hw287_4)).trans hw287_4), ((HB.out.cell (World.block_lt_of_cell? w _ hw287_5)).trans hw287_5), ((HB.out.cell (World.block_lt_of_cell? w _ hw287_6)).trans hw287_6), ((HB.out.cell (World.block_lt_of_cell? w _ hw287_7)).trans hw287_7), ((HB.out.cell (World.block_lt_of_cell? w _ hw287_8)).trans hw287_8), ((HB.out.cell (World.block_lt_of_cell? w _ hw287_9)).trans hw287_9), ((HB.out.cell (World.block_lt_of_cell? w _ hw287_10)).trans hw287_10), ((HB.out.cell (World.block_lt_of_cell? w _ hw287_11)).trans hw287_11), ((HB.out.cell (World.block_lt_of_cell? w _ hw287_12)).trans hw287_12), ((HB.out.cell (World.block_lt_of_cell? w _ hw287_13)).trans hw287_13), ((HB.out.cell (World.block_lt_of_cell? w _ hw287_14)).trans hw287_14), ((HB.out.cell (World.block_lt_of_cell? w _ hw287_15)).trans hw287_15)⟩ (fun hHeld => ?_)
                clear hK K
                refine norm_ (a' := ?_) ?_ ?_
                rotate_left
                · show Act.put _ (some 25) _ = _
                  simp only [Act.put, List.setIfInBounds_toArray, List.set_cons_zero, List.set_cons_succ, i64_w, i32_w]
                  rfl
                refine pure_ (i := 9) (N := some 26) (v := ?_) (a' := ?_) #[true, true, true, true, true, true, true, true, true, true] rfl rfl (any_of HT_.out (by kernel_rfl)) (fun _ _ _ h => h) (Or.inl ⟨by rfl, ?_⟩) ?_ ?_
                rotate_left
                · intro w'
                  go_simp
                  with_reducible rfl
                rotate_left
                · simp only [Act.put, List.setIfInBounds_toArray, List.set_cons_zero, List.set_cons_succ, i64_w, i32_w]
                  rfl
                refine done_ (done_of HT_.out (by kernel_rfl)) ?_
                try go_wp2
                go_ret
                exact ⟨re_, hb0_⟩
            · rw [if_neg c6] at H
              exact absurd H (by simp)
          · rw [if_neg c5] at H
            exact absurd H (by simp)
        · rw [if_neg c4] at H
          have c4b0 : decide (x5_1 < (l0.length : Int)) = false := decide_eq_false c4
          clear c4
          obtain rfl := Option.some.inj H
          go_wp2
          go_ret
          exact ⟨re_, hb0_⟩
  · rw [if_neg c3] at H
    have c3b0 : ((l0.length : Int) == (l1.length : Int)) = false := beq_eq_false_iff_ne.mpr c3
    have c3b1 : ((l0.length : Int) != (l1.length : Int)) = true := bne_iff_ne.mpr c3
    have c3b2 : (l0.length == l1.length) = false := by first | simpa using c3 | (simp at c3 ⊢; omega)
    obtain rfl := Option.some.inj H
    go_enter Try.func36, Try.ntmps36
    go_wp2
    go_ret
    exact ⟨re_, hb0_⟩

/-! ### laws_FnExactOpsOf: function 9 -/
def laws_FnExactOpsOf.f (k : Nat) (l0 : List (S68)) (a1 : Int) : Option (Bool) := (laws_szOpS.f k l0 1048576).bind fun t289 => (if t289 < 0 then (some true) else ((laws_toOpS.f k l0).bind fun t290 => ((spec_OpsOf.f k t290 a1).bind fun t293 => ((laws_toOpS.f k l0).bind fun t294 => ((impl_OpsOf.f k t294 a1).bind fun t297 => (if t297 = t293 then ((laws_toOpS.f k l0).bind fun t298 => ((laws_eqOpS.f k t294 t298).bind fun t301 => (if t301 = true then (some true) else (some false)))) else (some false)))))))
theorem laws_FnExactOpsOf.mono : ∀ a0 a1 k, LeO (laws_FnExactOpsOf.f k a0 a1) (laws_FnExactOpsOf.f (k + 1) a0 a1) := by
  intro a0 a1 k
  unfold laws_FnExactOpsOf.f
  repeat' first
      | (with_reducible exact impl_OpsOf.mono _ _ _)
      | (with_reducible exact laws_eqOpS.mono _ _ _)
      | (with_reducible exact laws_szOpS.mono _ _ _)
      | (with_reducible exact laws_toOpS.mono _ _)
      | (with_reducible exact spec_OpsOf.mono _ _ _)
      | (with_reducible exact LeO.refl _)
      | (with_reducible exact LeO.none _)
      | (with_reducible refine LeO.ite ?_ ?_)
      | (with_reducible refine LeO.bind ?_ (fun _ => ?_))
      | exact impl_OpsOf.mono _ _ _
      | exact laws_eqOpS.mono _ _ _
      | exact laws_szOpS.mono _ _ _
      | exact laws_toOpS.mono _ _
      | exact spec_OpsOf.mono _ _ _
      | exact LeO.none _
      | refine LeO.ite ?_ ?_
      | refine LeO.bind ?_ (fun _ => ?_)
set_option maxHeartbeats 8000000 in
set_option maxRecDepth 100000 in
theorem laws_FnExactOpsOf.calls (k : Nat) (A0 : Option Addr) (c0 : Nat) (l0 : List (S68)) (a1 : Int) (r : Bool) (w : World) (hr0 : Kd.C k68 w A0 l0.length l0) (hc0 : l0.length ≤ c0) (h : laws_FnExactOpsOf.f k l0 a1 = some r) :
    Calls Try.prog 9 #[.slice A0 l0.length c0, .int .i64 a1] w fun e w' => e = .returned (.bool r) ∧ Below w.heap.size w w' := by
  have HR0 := Aside0.mk hr0
  have HC0 := Aside0.mk hc0
  clear hr0 hc0
  have HB := Aside0.mk (Below.refl w.heap.size w)
  have H : ((laws_szOpS.f k l0 1048576).bind fun t289 => (if t289 < 0 then (some true) else ((laws_toOpS.f k l0).bind fun t290 => ((spec_OpsOf.f k t290 a1).bind fun t293 => ((laws_toOpS.f k l0).bind fun t294 => ((impl_OpsOf.f k t294 a1).bind fun t297 => (if t297 = t293 then ((laws_toOpS.f k l0).bind fun t298 => ((laws_eqOpS.f k t294 t298).bind fun t301 => (if t301 = true then (some true) else (some false)))) else (some false)))))))) = some r := h
  clear h
  replace H := Option.bind_eq_some_iff.mp H
  obtain ⟨t289, A30, H⟩ := H
  replace H : (if t289 < 0 then (some true) else ((laws_toOpS.f k l0).bind fun t290 => ((spec_OpsOf.f k t290 a1).bind fun t293 => ((laws_toOpS.f k l0).bind fun t294 => ((impl_OpsOf.f k t294 a1).bind fun t297 => (if t297 = t293 then ((laws_toOpS.f k l0).bind fun t298 => ((laws_eqOpS.f k t294 t298).bind fun t301 => (if t301 = true then (some true) else (some false)))) else (some false))))))) = some r := H
  have A3 := Aside0.mk A30
  clear A30
  by_cases c4 : t289 < 0
  · rw [if_pos c4] at H
    have c4b0 : decide (t289 < 0) = true := decide_eq_true c4
    clear c4
    obtain rfl := Option.some.inj H
    go_enter Try.func9, Try.ntmps9
    go_wp2_with (first | ((with_reducible refine gate_callee (f := 32) rfl ?_); refine goesL_ (some 11) rfl rfl Try.func32 (by kernel_rfl) rfl #[.slice A0 l0.length c0, .int .i64 1048576] rfl (me_) ?_; (with_reducible refine (laws_szOpS.calls k _ _ l0 1048576 t289 _ ?side1 ?side2 A3.out).mono ?_); (case side1 => repeat (first | exact HR0.out | (with_reducible refine Kd.C_alloc ?_ _) | (with_reducible refine Kd.C_drewN ?_ _) | (with_reducible refine Kd.C_drew ?_))); (case side2 => exact HC0.out); rintro e w5 ⟨rfl, hb⟩; refine ⟨_, rfl, ?_⟩; have n0_ := Aside0.mk (below_step (hb0_) hb); clear HB; have HB := n0_; clear n0_; (try clear hb); (try clear hb2); (try clear hk); (try clear hi)))
    go_ret
    exact ⟨re_, hb0_⟩
  · rw [if_neg c4] at H
    have c4b0 : decide (t289 < 0) = false := decide_eq_false c4
    clear c4
    replace H := Option.bind_eq_some_iff.mp H
    obtain ⟨t290, A60, H⟩ := H
    replace H : ((spec_OpsOf.f k t290 a1).bind fun t293 => ((laws_toOpS.f k l0).bind fun t294 => ((impl_OpsOf.f k t294 a1).bind fun t297 => (if t297 = t293 then ((laws_toOpS.f k l0).bind fun t298 => ((laws_eqOpS.f k t294 t298).bind fun t301 => (if t301 = true then (some true) else (some false)))) else (some false))))) = some r := H
    have A6 := Aside0.mk A60
    clear A60
    replace H := Option.bind_eq_some_iff.mp H
    obtain ⟨t293, A70, H⟩ := H
    replace H : ((laws_toOpS.f k l0).bind fun t294 => ((impl_OpsOf.f k t294 a1).bind fun t297 => (if t297 = t293 then ((laws_toOpS.f k l0).bind fun t298 => ((laws_eqOpS.f k t294 t298).bind fun t301 => (if t301 = true then (some true) else (some false)))) else (some false)))) = some r := H
    have A7 := Aside0.mk A70
    clear A70
    replace H := Option.bind_eq_some_iff.mp H
    obtain ⟨t294, A80, H⟩ := H
    replace H : ((impl_OpsOf.f k t294 a1).bind fun t297 => (if t297 = t293 then ((laws_toOpS.f k l0).bind fun t298 => ((laws_eqOpS.f k t294 t298).bind fun t301 => (if t301 = true then (some true) else (some false)))) else (some false))) = some r := H
    have A8 := Aside0.mk A80
    clear A80
    replace H := Option.bind_eq_some_iff.mp H
    obtain ⟨t297, A90, H⟩ := H
    replace H : (if t297 = t293 then ((laws_toOpS.f k l0).bind fun t298 => ((laws_eqOpS.f k t294 t298).bind fun t301 => (if t301 = true then (some true) else (some false)))) else (some false)) = some r := H
    have A9 := Aside0.mk A90
    clear A90
    by_cases c10 : t297 = t293
    · rw [if_pos c10] at H
      have c10b0 : (t297 == t293) = true := beq_iff_eq.mpr c10
      have c10b1 : (t297 != t293) = false := bne_eq_false_iff_eq.mpr c10
      clear c10
      replace H := Option.bind_eq_some_iff.mp H
      obtain ⟨t298, A110, H⟩ := H
      replace H : ((laws_eqOpS.f k t294 t298).bind fun t301 => (if t301 = true then (some true) else (some false))) = some r := H
      have A11 := Aside0.mk A110
      clear A110
      replace H := Option.bind_eq_some_iff.mp H
      obtain ⟨t301, A120, H⟩ := H
      replace H : (if t301 = true then (some true) else (some false)) = some r := H
      have A12 := Aside0.mk A120
      clear A120
      by_cases c13 : t301 = true
      · subst c13
        have H1 : (some true) = some r := by rw [if_pos rfl] at H; exact H
        clear H
        have H := H1
        clear H1
        obtain rfl := Option.some.inj H
        go_enter Try.func9, Try.ntmps9
        go_wp2_with (first | ((with_reducible refine gate_callee (f := 32) rfl ?_); refine goesL_ (some 11) rfl rfl Try.func32 (by kernel_rfl) rfl #[.slice A0 l0.length c0, .int .i64 1048576] rfl (me_) ?_; (with_reducible refine (laws_szOpS.calls k _ _ l0 1048576 t289 _ ?side1 ?side2 A3.out).mono ?_); (case side1 => repeat (first | exact HR0.out | (with_reducible refine Kd.C_alloc ?_ _) | (with_reducible refine Kd.C_drewN ?_ _) | (with_reducible refine Kd.C_drew ?_))); (case side2 => exact HC0.out); rintro e w14 ⟨rfl, hb⟩; refine ⟨_, rfl, ?_⟩; have n0_ := Aside0.mk (below_step (hb0_) hb); clear HB; have HB := n0_; clear n0_; (try clear hb); (try clear hb2); (try clear hk); (try clear hi)) | ((with_reducible refine gate_callee (f := 34) rfl ?_); refine goesL_ (some 15) rfl rfl Try.func34 (by kernel_rfl) rfl #[.slice A0 l0.length c0] rfl (me_) ?_; (with_reducible refine (laws_toOpS.calls k _ _ l0 t290 _ ?side1 ?side2 A6.out).mono ?_); (case side1 => repeat (first | exact (Kd.C_below HR0.out HB.out) | (with_reducible refine Kd.C_alloc ?_ _) | (with_reducible refine Kd.C_drewN ?_ _) | (with_reducible refine Kd.C_drew ?_))); (case side2 => exact HC0.out); rintro e w15 ⟨v291, rfl, ho0, hb⟩; refine ⟨_, rfl, ?_⟩; have n0_ := Aside0.mk (Kd.S_lower ho0 (below_size (hb0_))); have n1_ := Aside0.mk (below_step (hb0_) hb); clear HB; have HO292 := n0_; have HB := n1_; clear n0_ n1_; (try clear hb); (try clear hb2); (try clear hk); (try clear hi); (try clear ho0); obtain ⟨Ao16, co16, eo16⟩ := Kd.S_slice HO292.out; subst eo16) | ((with_reducible refine gate_callee (f := 33) rfl ?_); refine goesL_ (some 17) rfl rfl Try.func33 (by kernel_rfl) rfl #[.slice Ao16 t290.length co16, .int .i64 a1] rfl (me_) ?_; (with_reducible refine (spec_OpsOf.calls k _ _ t290 a1 t293 _ ?side1 ?side2 A7.out).mono ?_); (case side1 => repeat (first | exact (Kd.S_reads' HO292.out).2.2 | (with_reducible refine Kd.C_alloc ?_ _) | (with_reducible refine Kd.C_drewN ?_ _) | (with_reducible refine Kd.C_drew ?_))); (case side2 => exact (Kd.S_reads' HO292.out).2.1); rintro e w' ⟨rfl, ⟨nd, rfl⟩⟩; refine ⟨_, rfl, ?_⟩) | ((with_reducible refine gate_callee (f := 34) rfl ?_); refine goesL_ (some 19) rfl rfl Try.func34 (by kernel_rfl) rfl #[.slice A0 l0.length c0] rfl (me_) ?_; (with_reducible refine (laws_toOpS.calls k _ _ l0 t294 _ ?side1 ?side2 A8.out).mono ?_); (case side1 => repeat (first | exact (Kd.C_below HR0.out (hb0_)) | (with_reducible refine Kd.C_alloc ?_ _) | (with_reducible refine Kd.C_drewN ?_ _) | (with_reducible refine Kd.C_drew ?_))); (case side2 => exact HC0.out); rintro e w17 ⟨v295, rfl, ho0, hb⟩; refine ⟨_, rfl, ?_⟩; have n0_ := Aside0.mk (Kd.S_elder' (by (with_reducible repeat (first | apply Kd.S_alloc | apply Kd.S_drewN | apply Kd.S_drew)); exact HO292.out) (Kd.S_base ho0) hb); have n1_ := Aside0.mk (Kd.S_lower (Kd.S_new' ho0 (Kd.S_lt (by (with_reducible repeat (first | apply Kd.S_alloc | apply Kd.S_drewN | apply Kd.S_drew)); exact HO292.out))) (below_size (hb0_))); have n2_ := Aside0.mk (below_step (hb0_) hb); clear HO292; clear HB; have HO292 := n0_; have HO296 := n1_; have HB := n2_; clear n0_ n1_ n2_; (try clear hb); (try clear hb2); (try clear hk); (try clear hi); (try clear ho0); obtain ⟨Ao18, co18, eo18⟩ := Kd.S_slice HO296.out; subst eo18) | ((with_reducible refine gate_callee (f := 35) rfl ?_); refine goesL_ (some 22) rfl rfl Try.func35 (by kernel_rfl) rfl #[.slice Ao18 t294.length co18, .int .i64 a1] rfl (me_) ?_; (with_reducible refine (impl_OpsOf.calls k _ _ t294 a1 t297 _ ?side1 ?side2 A9.out).mono ?_); (case side1 => repeat (first | exact (Kd.S_reads' HO296.out).2.2 | (with_reducible refine Kd.C_alloc ?_ _) | (with_reducible refine Kd.C_drewN ?_ _) | (with_reducible refine Kd.C_drew ?_))); (case side2 => exact (Kd.S_reads' HO296.out).2.1); rintro e w19 ⟨rfl, hb⟩; refine ⟨_, rfl, ?_⟩; have n0_ := Aside0.mk (Kd.S_below (by (with_reducible repeat (first | apply Kd.S_alloc | apply Kd.S_drewN | apply Kd.S_drew)); exact HO292.out) hb); have n1_ := Aside0.mk (Kd.S_below (by (with_reducible repeat (first | apply Kd.S_alloc | apply Kd.S_drewN | apply Kd.S_drew)); exact HO296.out) hb); have n2_ := Aside0.mk (below_step (hb0_) hb); clear HO292; clear HO296; clear HB; have HO292 := n0_; have HO296 := n1_; have HB := n2_; clear n0_ n1_ n2_; (try clear hb); (try clear hb2); (try clear hk); (try clear hi)) | ((with_reducible refine gate_callee (f := 34) rfl ?_); refine goesL_ (some 28) rfl rfl Try.func34 (by kernel_rfl) rfl #[.slice A0 l0.length c0] rfl (me_) ?_; (with_reducible refine (laws_toOpS.calls k _ _ l0 t298 _ ?side1 ?side2 A11.out).mono ?_); (case side1 => repeat (first | exact (Kd.C_below HR0.out HB.out) | (with_reducible refine Kd.C_alloc ?_ _) | (with_reducible refine Kd.C_drewN ?_ _) | (with_reducible refine Kd.C_drew ?_))); (case side2 => exact HC0.out); rintro e w20 ⟨v299, rfl, ho0, hb⟩; refine ⟨_, rfl, ?_⟩; have n0_ := Aside0.mk (Kd.S_elder' (by (with_reducible repeat (first | apply Kd.S_alloc | apply Kd.S_drewN | apply Kd.S_drew)); exact HO292.out) (Kd.S_base ho0) hb); have n1_ := Aside0.mk (Kd.S_elder' (by (with_reducible repeat (first | apply Kd.S_alloc | apply Kd.S_drewN | apply Kd.S_drew)); exact HO296.out) (Kd.S_base ho0) hb); have n2_ := Aside0.mk (Kd.S_lower (Kd.S_new' (Kd.S_new' ho0 (Kd.S_lt (by (with_reducible repeat (first | apply Kd.S_alloc | apply Kd.S_drewN | apply Kd.S_drew)); exact HO292.out))) (Kd.S_lt (by (with_reducible repeat (first | apply Kd.S_alloc | apply Kd.S_drewN | apply Kd.S_drew)); exact HO296.out))) (below_size (hb0_))); have n3_ := Aside0.mk (below_step (hb0_) hb); clear HO292; clear HO296; clear HB; have HO292 := n0_; have HO296 := n1_; have HO300 := n2_; have HB := n3_; clear n0_ n1_ n2_ n3_; (try clear hb); (try clear hb2); (try clear hk); (try clear hi); (try clear ho0); obtain ⟨Ao21, co21, eo21⟩ := Kd.S_slice HO300.out; subst eo21) | ((with_reducible refine gate_callee (f := 36) rfl ?_); refine goesL_ (some 29) rfl rfl Try.func36 (by kernel_rfl) rfl #[.slice Ao18 t294.length co18, .slice Ao21 t298.length co21] rfl (me_) ?_; (with_reducible refine (laws_eqOpS.calls k _ _ t294 _ _ t298 true _ ?side1 ?side2 ?side3 ?side4 A12.out).mono ?_); (case side1 => repeat (first | exact (Kd.S_reads' HO296.out).2.2 | (with_reducible refine Kd.C_alloc ?_ _) | (with_reducible refine Kd.C_drewN ?_ _) | (with_reducible refine Kd.C_drew ?_))); (case side2 => exact (Kd.S_reads' HO296.out).2.1); (case side3 => repeat (first | exact (Kd.S_reads' HO300.out).2.2 | (with_reducible refine Kd.C_alloc ?_ _) | (with_reducible refine Kd.C_drewN ?_ _) | (with_reducible refine Kd.C_drew ?_))); (case side4 => exact (Kd.S_reads' HO300.out).2.1); rintro e w22 ⟨rfl, hb⟩; refine ⟨_, rfl, ?_⟩; have n0_ := Aside0.mk (Kd.S_below (by (with_reducible repeat (first | apply Kd.S_alloc | apply Kd.S_drewN | apply Kd.S_drew)); exact HO292.out) hb); have n1_ := Aside0.mk (Kd.S_below (by (with_reducible repeat (first | apply Kd.S_alloc | apply Kd.S_drewN | apply Kd.S_drew)); exact HO296.out) hb); have n2_ := Aside0.mk (Kd.S_below (by (with_reducible repeat (first | apply Kd.S_alloc | apply Kd.S_drewN | apply Kd.S_drew)); exact HO300.out) hb); have n3_ := Aside0.mk (below_step (hb0_) hb); clear HO292; clear HO296; clear HO300; clear HB; have HO292 := n0_; have HO296 := n1_; have HO300 := n2_; have HB := n3_; clear n0_ n1_ n2_ n3_; (try clear hb); (try clear hb2); (try clear hk); (try clear hi)))
        go_ret
        exact ⟨re_, hb0_⟩
      · replace c13 := Bool.eq_false_iff.mpr c13
        subst c13
        have H1 : (some false) = some r := by rw [if_neg (show ¬ (false = true) by decide)] at H; exact H
        clear H
        have H := H1
        clear H1
        obtain rfl := Option.some.inj H
        go_enter Try.func9, Try.ntmps9
        go_wp2_with (first | ((with_reducible refine gate_callee (f := 32) rfl ?_); refine goesL_ (some 11) rfl rfl Try.func32 (by kernel_rfl) rfl #[.slice A0 l0.length c0, .int .i64 1048576] rfl (me_) ?_; (with_reducible refine (laws_szOpS.calls k _ _ l0 1048576 t289 _ ?side1 ?side2 A3.out).mono ?_); (case side1 => repeat (first | exact HR0.out | (with_reducible refine Kd.C_alloc ?_ _) | (with_reducible refine Kd.C_drewN ?_ _) | (with_reducible refine Kd.C_drew ?_))); (case side2 => exact HC0.out); rintro e w23 ⟨rfl, hb⟩; refine ⟨_, rfl, ?_⟩; have n0_ := Aside0.mk (below_step (hb0_) hb); clear HB; have HB := n0_; clear n0_; (try clear hb); (try clear hb2); (try clear hk); (try clear hi)) | ((with_reducible refine gate_callee (f := 34) rfl ?_); refine goesL_ (some 15) rfl rfl Try.func34 (by kernel_rfl) rfl #[.slice A0 l0.length c0] rfl (me_) ?_; (with_reducible refine (laws_toOpS.calls k _ _ l0 t290 _ ?side1 ?side2 A6.out).mono ?_); (case side1 => repeat (first | exact (Kd.C_below HR0.out HB.out) | (with_reducible refine Kd.C_alloc ?_ _) | (with_reducible refine Kd.C_drewN ?_ _) | (with_reducible refine Kd.C_drew ?_))); (case side2 => exact HC0.out); rintro e w24 ⟨v291, rfl, ho0, hb⟩; refine ⟨_, rfl, ?_⟩; have n0_ := Aside0.mk (Kd.S_lower ho0 (below_size (hb0_))); have n1_ := Aside0.mk (below_step (hb0_) hb); clear HB; have HO292 := n0_; have HB := n1_; clear n0_ n1_; (try clear hb); (try clear hb2); (try clear hk); (try clear hi); (try clear ho0); obtain ⟨Ao25, co25, eo25⟩ := Kd.S_slice HO292.out; subst eo25) | ((with_reducible refine gate_callee (f := 33) rfl ?_); refine goesL_ (some 17) rfl rfl Try.func33 (by kernel_rfl) rfl #[.slice Ao25 t290.length co25, .int .i64 a1] rfl (me_) ?_; (with_reducible refine (spec_OpsOf.calls k _ _ t290 a1 t293 _ ?side1 ?side2 A7.out).mono ?_); (case side1 => repeat (first | exact (Kd.S_reads' HO292.out).2.2 | (with_reducible refine Kd.C_alloc ?_ _) | (with_reducible refine Kd.C_drewN ?_ _) | (with_reducible refine Kd.C_drew ?_))); (case side2 => exact (Kd.S_reads' HO292.out).2.1); rintro e w' ⟨rfl, ⟨nd, rfl⟩⟩; refine ⟨_, rfl, ?_⟩) | ((with_reducible refine gate_callee (f := 34) rfl ?_); refine goesL_ (some 19) rfl rfl Try.func34 (by kernel_rfl) rfl #[.slice A0 l0.length c0] rfl (me_) ?_; (with_reducible refine (laws_toOpS.calls k _ _ l0 t294 _ ?side1 ?side2 A8.out).mono ?_); (case side1 => repeat (first | exact (Kd.C_below HR0.out (hb0_)) | (with_reducible refine Kd.C_alloc ?_ _) | (with_reducible refine Kd.C_drewN ?_ _) | (with_reducible refine Kd.C_drew ?_))); (case side2 => exact HC0.out); rintro e w26 ⟨v295, rfl, ho0, hb⟩; refine ⟨_, rfl, ?_⟩; have n0_ := Aside0.mk (Kd.S_elder' (by (with_reducible repeat (first | apply Kd.S_alloc | apply Kd.S_drewN | apply Kd.S_drew)); exact HO292.out) (Kd.S_base ho0) hb); have n1_ := Aside0.mk (Kd.S_lower (Kd.S_new' ho0 (Kd.S_lt (by (with_reducible repeat (first | apply Kd.S_alloc | apply Kd.S_drewN | apply Kd.S_drew)); exact HO292.out))) (below_size (hb0_))); have n2_ := Aside0.mk (below_step (hb0_) hb); clear HO292; clear HB; have HO292 := n0_; have HO296 := n1_; have HB := n2_; clear n0_ n1_ n2_; (try clear hb); (try clear hb2); (try clear hk); (try clear hi); (try clear ho0); obtain ⟨Ao27, co27, eo27⟩ := Kd.S_slice HO296.out; subst eo27) | ((with_reducible refine gate_callee (f := 35) rfl ?_); refine goesL_ (some 22) rfl rfl Try.func35 (by kernel_rfl) rfl #[.slice Ao27 t294.length co27, .int .i64 a1] rfl (me_) ?_; (with_reducible refine (impl_OpsOf.calls k _ _ t294 a1 t297 _ ?side1 ?side2 A9.out).mono ?_); (case side1 => repeat (first | exact (Kd.S_reads' HO296.out).2.2 | (with_reducible refine Kd.C_alloc ?_ _) | (with_reducible refine Kd.C_drewN ?_ _) | (with_reducible refine Kd.C_drew ?_))); (case side2 => exact (Kd.S_reads' HO296.out).2.1); rintro e w28 ⟨rfl, hb⟩; refine ⟨_, rfl, ?_⟩; have n0_ := Aside0.mk (Kd.S_below (by (with_reducible repeat (first | apply Kd.S_alloc | apply Kd.S_drewN | apply Kd.S_drew)); exact HO292.out) hb); have n1_ := Aside0.mk (Kd.S_below (by (with_reducible repeat (first | apply Kd.S_alloc | apply Kd.S_drewN | apply Kd.S_drew)); exact HO296.out) hb); have n2_ := Aside0.mk (below_step (hb0_) hb); clear HO292; clear HO296; clear HB; have HO292 := n0_; have HO296 := n1_; have HB := n2_; clear n0_ n1_ n2_; (try clear hb); (try clear hb2); (try clear hk); (try clear hi)) | ((with_reducible refine gate_callee (f := 34) rfl ?_); refine goesL_ (some 28) rfl rfl Try.func34 (by kernel_rfl) rfl #[.slice A0 l0.length c0] rfl (me_) ?_; (with_reducible refine (laws_toOpS.calls k _ _ l0 t298 _ ?side1 ?side2 A11.out).mono ?_); (case side1 => repeat (first | exact (Kd.C_below HR0.out HB.out) | (with_reducible refine Kd.C_alloc ?_ _) | (with_reducible refine Kd.C_drewN ?_ _) | (with_reducible refine Kd.C_drew ?_))); (case side2 => exact HC0.out); rintro e w29 ⟨v299, rfl, ho0, hb⟩; refine ⟨_, rfl, ?_⟩; have n0_ := Aside0.mk (Kd.S_elder' (by (with_reducible repeat (first | apply Kd.S_alloc | apply Kd.S_drewN | apply Kd.S_drew)); exact HO292.out) (Kd.S_base ho0) hb); have n1_ := Aside0.mk (Kd.S_elder' (by (with_reducible repeat (first | apply Kd.S_alloc | apply Kd.S_drewN | apply Kd.S_drew)); exact HO296.out) (Kd.S_base ho0) hb); have n2_ := Aside0.mk (Kd.S_lower (Kd.S_new' (Kd.S_new' ho0 (Kd.S_lt (by (with_reducible repeat (first | apply Kd.S_alloc | apply Kd.S_drewN | apply Kd.S_drew)); exact HO292.out))) (Kd.S_lt (by (with_reducible repeat (first | apply Kd.S_alloc | apply Kd.S_drewN | apply Kd.S_drew)); exact HO296.out))) (below_size (hb0_))); have n3_ := Aside0.mk (below_step (hb0_) hb); clear HO292; clear HO296; clear HB; have HO292 := n0_; have HO296 := n1_; have HO300 := n2_; have HB := n3_; clear n0_ n1_ n2_ n3_; (try clear hb); (try clear hb2); (try clear hk); (try clear hi); (try clear ho0); obtain ⟨Ao30, co30, eo30⟩ := Kd.S_slice HO300.out; subst eo30) | ((with_reducible refine gate_callee (f := 36) rfl ?_); refine goesL_ (some 29) rfl rfl Try.func36 (by kernel_rfl) rfl #[.slice Ao27 t294.length co27, .slice Ao30 t298.length co30] rfl (me_) ?_; (with_reducible refine (laws_eqOpS.calls k _ _ t294 _ _ t298 false _ ?side1 ?side2 ?side3 ?side4 A12.out).mono ?_); (case side1 => repeat (first | exact (Kd.S_reads' HO296.out).2.2 | (with_reducible refine Kd.C_alloc ?_ _) | (with_reducible refine Kd.C_drewN ?_ _) | (with_reducible refine Kd.C_drew ?_))); (case side2 => exact (Kd.S_reads' HO296.out).2.1); (case side3 => repeat (first | exact (Kd.S_reads' HO300.out).2.2 | (with_reducible refine Kd.C_alloc ?_ _) | (with_reducible refine Kd.C_drewN ?_ _) | (with_reducible refine Kd.C_drew ?_))); (case side4 => exact (Kd.S_reads' HO300.out).2.1); rintro e w31 ⟨rfl, hb⟩; refine ⟨_, rfl, ?_⟩; have n0_ := Aside0.mk (Kd.S_below (by (with_reducible repeat (first | apply Kd.S_alloc | apply Kd.S_drewN | apply Kd.S_drew)); exact HO292.out) hb); have n1_ := Aside0.mk (Kd.S_below (by (with_reducible repeat (first | apply Kd.S_alloc | apply Kd.S_drewN | apply Kd.S_drew)); exact HO296.out) hb); have n2_ := Aside0.mk (Kd.S_below (by (with_reducible repeat (first | apply Kd.S_alloc | apply Kd.S_drewN | apply Kd.S_drew)); exact HO300.out) hb); have n3_ := Aside0.mk (below_step (hb0_) hb); clear HO292; clear HO296; clear HO300; clear HB; have HO292 := n0_; have HO296 := n1_; have HO300 := n2_; have HB := n3_; clear n0_ n1_ n2_ n3_; (try clear hb); (try clear hb2); (try clear hk); (try clear hi)))
        go_ret
        exact ⟨re_, hb0_⟩
    · rw [if_neg c10] at H
      have c10b0 : (t297 == t293) = false := beq_eq_false_iff_ne.mpr c10
      have c10b1 : (t297 != t293) = true := bne_iff_ne.mpr c10
      obtain rfl := Option.some.inj H
      go_enter Try.func9, Try.ntmps9
      go_wp2_with (first | ((with_reducible refine gate_callee (f := 32) rfl ?_); refine goesL_ (some 11) rfl rfl Try.func32 (by kernel_rfl) rfl #[.slice A0 l0.length c0, .int .i64 1048576] rfl (me_) ?_; (with_reducible refine (laws_szOpS.calls k _ _ l0 1048576 t289 _ ?side1 ?side2 A3.out).mono ?_); (case side1 => repeat (first | exact HR0.out | (with_reducible refine Kd.C_alloc ?_ _) | (with_reducible refine Kd.C_drewN ?_ _) | (with_reducible refine Kd.C_drew ?_))); (case side2 => exact HC0.out); rintro e w32 ⟨rfl, hb⟩; refine ⟨_, rfl, ?_⟩; have n0_ := Aside0.mk (below_step (hb0_) hb); clear HB; have HB := n0_; clear n0_; (try clear hb); (try clear hb2); (try clear hk); (try clear hi)) | ((with_reducible refine gate_callee (f := 34) rfl ?_); refine goesL_ (some 15) rfl rfl Try.func34 (by kernel_rfl) rfl #[.slice A0 l0.length c0] rfl (me_) ?_; (with_reducible refine (laws_toOpS.calls k _ _ l0 t290 _ ?side1 ?side2 A6.out).mono ?_); (case side1 => repeat (first | exact (Kd.C_below HR0.out HB.out) | (with_reducible refine Kd.C_alloc ?_ _) | (with_reducible refine Kd.C_drewN ?_ _) | (with_reducible refine Kd.C_drew ?_))); (case side2 => exact HC0.out); rintro e w33 ⟨v291, rfl, ho0, hb⟩; refine ⟨_, rfl, ?_⟩; have n0_ := Aside0.mk (Kd.S_lower ho0 (below_size (hb0_))); have n1_ := Aside0.mk (below_step (hb0_) hb); clear HB; have HO292 := n0_; have HB := n1_; clear n0_ n1_; (try clear hb); (try clear hb2); (try clear hk); (try clear hi); (try clear ho0); obtain ⟨Ao34, co34, eo34⟩ := Kd.S_slice HO292.out; subst eo34) | ((with_reducible refine gate_callee (f := 33) rfl ?_); refine goesL_ (some 17) rfl rfl Try.func33 (by kernel_rfl) rfl #[.slice Ao34 t290.length co34, .int .i64 a1] rfl (me_) ?_; (with_reducible refine (spec_OpsOf.calls k _ _ t290 a1 t293 _ ?side1 ?side2 A7.out).mono ?_); (case side1 => repeat (first | exact (Kd.S_reads' HO292.out).2.2 | (with_reducible refine Kd.C_alloc ?_ _) | (with_reducible refine Kd.C_drewN ?_ _) | (with_reducible refine Kd.C_drew ?_))); (case side2 => exact (Kd.S_reads' HO292.out).2.1); rintro e w' ⟨rfl, ⟨nd, rfl⟩⟩; refine ⟨_, rfl, ?_⟩) | ((with_reducible refine gate_callee (f := 34) rfl ?_); refine goesL_ (some 19) rfl rfl Try.func34 (by kernel_rfl) rfl #[.slice A0 l0.length c0] rfl (me_) ?_; (with_reducible refine (laws_toOpS.calls k _ _ l0 t294 _ ?side1 ?side2 A8.out).mono ?_); (case side1 => repeat (first | exact (Kd.C_below HR0.out (hb0_)) | (with_reducible refine Kd.C_alloc ?_ _) | (with_reducible refine Kd.C_drewN ?_ _) | (with_reducible refine Kd.C_drew ?_))); (case side2 => exact HC0.out); rintro e w35 ⟨v295, rfl, ho0, hb⟩; refine ⟨_, rfl, ?_⟩; have n0_ := Aside0.mk (Kd.S_elder' (by (with_reducible repeat (first | apply Kd.S_alloc | apply Kd.S_drewN | apply Kd.S_drew)); exact HO292.out) (Kd.S_base ho0) hb); have n1_ := Aside0.mk (Kd.S_lower (Kd.S_new' ho0 (Kd.S_lt (by (with_reducible repeat (first | apply Kd.S_alloc | apply Kd.S_drewN | apply Kd.S_drew)); exact HO292.out))) (below_size (hb0_))); have n2_ := Aside0.mk (below_step (hb0_) hb); clear HO292; clear HB; have HO292 := n0_; have HO296 := n1_; have HB := n2_; clear n0_ n1_ n2_; (try clear hb); (try clear hb2); (try clear hk); (try clear hi); (try clear ho0); obtain ⟨Ao36, co36, eo36⟩ := Kd.S_slice HO296.out; subst eo36) | ((with_reducible refine gate_callee (f := 35) rfl ?_); refine goesL_ (some 22) rfl rfl Try.func35 (by kernel_rfl) rfl #[.slice Ao36 t294.length co36, .int .i64 a1] rfl (me_) ?_; (with_reducible refine (impl_OpsOf.calls k _ _ t294 a1 t297 _ ?side1 ?side2 A9.out).mono ?_); (case side1 => repeat (first | exact (Kd.S_reads' HO296.out).2.2 | (with_reducible refine Kd.C_alloc ?_ _) | (with_reducible refine Kd.C_drewN ?_ _) | (with_reducible refine Kd.C_drew ?_))); (case side2 => exact (Kd.S_reads' HO296.out).2.1); rintro e w37 ⟨rfl, hb⟩; refine ⟨_, rfl, ?_⟩; have n0_ := Aside0.mk (Kd.S_below (by (with_reducible repeat (first | apply Kd.S_alloc | apply Kd.S_drewN | apply Kd.S_drew)); exact HO292.out) hb); have n1_ := Aside0.mk (Kd.S_below (by (with_reducible repeat (first | apply Kd.S_alloc | apply Kd.S_drewN | apply Kd.S_drew)); exact HO296.out) hb); have n2_ := Aside0.mk (below_step (hb0_) hb); clear HO292; clear HO296; clear HB; have HO292 := n0_; have HO296 := n1_; have HB := n2_; clear n0_ n1_ n2_; (try clear hb); (try clear hb2); (try clear hk); (try clear hi)))
      go_ret
      exact ⟨re_, hb0_⟩

end Go.Proofs.Ytlkglpnccddeeaa.PFnExactOpsOf
