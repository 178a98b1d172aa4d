/-
  The reference's ParseSetup, on the text of a good setup, is fine and changes no older memory.
  Conditions: the hypotheses of each theorem; none beside.
-/
import Derived.Test.YtcjeblikejoogaaGreatDoorHBack
import Derived.Test.YtcjeblikejoogaaGreatDoorHW3
namespace Go.Proofs.YtcjeblikejoogaaGreatDoor.PFnExactOpLine
open Go.RowKit Go.Proofs.YtcjeblikejoogaaGreatDoorW.PrintWords Go.Proofs.YtcjeblikejoogaaGreatDoorW.PrintLast Go.Proofs.YtcjeblikejoogaaGreatDoorW.PrintMore
set_option linter.unusedVariables false
set_option linter.unusedSimpArgs false
attribute [local go_sem high] eqA39 eqA90 eqA118
theorem R_open {α : Type} {d : Kd α} {e : Nat} {w : World} {base : Nat} {ok : Nat → Prop} {v : Value} {xs : List α} (h : Kd.R d e w base ok v xs) (hn : 0 < xs.length) : ∃ g c, v = .slice (some ⟨g, 0, none⟩) xs.length c ∧ base ≤ g ∧ g < w.heap.size := by
  obtain ⟨inner, ho⟩ := Kd.R_own h
  rcases ho.2 with ⟨rfl, e0⟩ | ⟨g, cap, cur, rfl, hg, hh, _⟩
  · have := ho.1
    rw [e0] at this
    simp at this
    omega
  · exact ⟨g, cap, rfl, hg, blk_lt hh⟩
theorem keep_then {w W W1 : World} {g : Nat} (h : KeepBut w W g none) (k : Below w.heap.size W W1) : KeepBut w W1 g none := ⟨Nat.le_trans h.1 k.size, fun i hi hg hr => (k.block i hi).trans (h.2 i hi hg hr)⟩
theorem keep_set {w W : World} {g : Nat} (h : KeepBut w W g none) (i : Nat) (u : Value) : KeepBut w (W.setCell ⟨g, i, none⟩ u) g none := h.set_ i u
theorem cell_far2 {W : World} {a b i j : Nat} {u : Value} (h : a ≠ b) : (W.setCell ⟨b, i, none⟩ u).cell? ⟨a, j, none⟩ = W.cell? ⟨a, j, none⟩ := cell_far h u
theorem drew_cell {W : World} {a : Addr} {v : Value} (h : W.cell? a = some v) : W.drew.cell? a = some v := h
set_option maxRecDepth 100000 in
set_option maxHeartbeats 16000000 in
theorem spec_ParseSetup.good (s : SU) (w : World) (hs : s.Small) (h : setB s = true) (hsz : (stb s).size ≤ 200) : Calls Tryz.prog 44 #[.string (stb s)] w fun e w' => ∃ (G U D : Option Addr) (cg cu cd : Nat), e = .returned (.tuple #[s.agg G U D cg cu cd, .bool true]) ∧ Below w.heap.size w w' := by
  have HGo := Aside0.mk (setB_out h)
  have v11 := (setB_out h).l.1
  have v12 := (setB_out h).l.2
  obtain ⟨L, hL⟩ : ∃ L, L = (lsW s).map mkB := ⟨_, rfl⟩
  have hlen : L.length = s.g.length + 4 := by rw [hL]; simp [lsW]
  have N1 := Aside0.mk (lines_f (stb s) (lsW s) (by omega) (stl_lines s) (ls_no s h 10 (Or.inl rfl)) 600 (by omega) (by rw [hL, List.length_map] at hlen; omega))
  rw [← hL] at N1
  have hu47 := Tryz.underlying47
  have hu65 := Tryz.underlying65
  have hu43 := Tryz.underlying43
  have hu45 := Tryz.underlying45
  have hu39 := Tryz.underlying39
  have hu90 := Tryz.underlying90
  have hl5 : 5 ≤ L.length := by omega
  have hl7 : L.length ≤ 7 := by omega
  obtain ⟨q0, q1, q2, q3, q4⟩ := at_line s L hL
  rw [show (s.g.length : Int) + 1 = (L.length : Int) - 3 by omega] at q1
  rw [show (s.g.length : Int) + 2 = (L.length : Int) - 2 by omega] at q2
  rw [show (s.g.length : Int) + 3 = (L.length : Int) - 1 by omega] at q3
  have HQ := Aside0.mk (And.intro q0 (And.intro q1 (And.intro q2 (And.intro q3 q4))))
  obtain ⟨y0, f0, m0⟩ := after_rules s HGo.out
  obtain ⟨y1, f1, m1⟩ := after_count s HGo.out
  have F0 := Aside0.mk f0
  have M0 := Aside0.mk m0
  have F1 := Aside0.mk f1
  have M1 := Aside0.mk m1
  have F2 := Aside0.mk (after_up _ _ _ HGo.out.u)
  have F3 := Aside0.mk (after_down _ _ _ HGo.out.e)
  have P2 := Aside0.mk (sideBack _ _ _ HGo.out.u 500 (by omega) (by omega))
  have P3 := Aside0.mk (sideBack _ _ _ HGo.out.e 500 (by omega) (by omega))
  have HLen := Aside0.mk hlen
  have HH := Aside0.mk h
  have HS := Aside0.mk hs
  clear hL hlen h hs f0 m0 f1 m1 q0 q1 q2 q3 q4
  go_enter Tryz.func44, Tryz.ntmps44
  go_upto_region 8 with (first | (go_at_call 72; (with_reducible refine (spec_l02Lines.calls _ _ _ _ N1.out).mono ?_); rintro e w5 ⟨v0, rfl, ho, hb⟩; have HO := Aside0.mk ho; have HB0 := Aside0.mk hb; clear ho hb; obtain ⟨g5, c5, e5, _, _⟩ := R_open HO.out (by omega); subst e5))
  have BK2 : Aside0 (w5.heap[w.heap.size]? = some (.cells #[.int .i64 0, .int .i64 0, .int .i64 0, .slice none 0 0, .slice none 0 0, .int .i64 0, .int .i64 0, .slice none 0 0, .int .i64 0, .int .i64 0, .int .i64 0, .int .i64 0] 47 (0, 0))) := ⟨blk_below (blk_alloc (heap_alloc_new _ _) _) HB0.out⟩
  have HBW : Aside0 (Below w.heap.size w w5) := ⟨below_step (below_alloc (below_alloc (Below.refl _ _) _) _) HB0.out⟩
  have hx : ∀ i : Int, 0 ≤ i → i < L.length → w5.cell? ⟨g5, i.toNat, none⟩ = some (.string (rdOf ByteArray.empty L i)) := fun i h0 h1 => (Kd.R_cell ByteArray.empty HO.out i h0 h1).1
  have X0 : Aside0 (w5.cell? ⟨g5, 0, none⟩ = some (.string (mkB (rlw s)))) := ⟨by have := hx 0 (by omega) (by omega); rw [HQ.out.1] at this; exact this⟩
  have X1 : Aside0 (w5.cell? ⟨g5, L.length - 3, none⟩ = some (.string (mkB (clw s)))) := ⟨by have := hx ((L.length : Int) - 3) (by omega) (by omega); rw [HQ.out.2.1, show ((L.length : Int) - 3).toNat = L.length - 3 by omega] at this; exact this⟩
  have X2 : Aside0 (w5.cell? ⟨g5, L.length - 2, none⟩ = some (.string (mkB (upL s.ul s.us s.uw)))) := ⟨by have := hx ((L.length : Int) - 2) (by omega) (by omega); rw [HQ.out.2.2.1, show ((L.length : Int) - 2).toNat = L.length - 2 by omega] at this; exact this⟩
  have X3 : Aside0 (w5.cell? ⟨g5, L.length - 1, none⟩ = some (.string (mkB (dnL s.dl s.ds s.dw)))) := ⟨by have := hx ((L.length : Int) - 1) (by omega) (by omega); rw [HQ.out.2.2.2.1, show ((L.length : Int) - 1).toNat = L.length - 1 by omega] at this; exact this⟩
  have X4 : Aside0 (∀ n : Nat, n < s.g.length → w5.cell? ⟨g5, n + 1, none⟩ = some (.string (mkB (glw (rd_T90 s.g n))))) := ⟨fun n hn => by have := hx ((n + 1 : Nat) : Int) (by omega) (by have := HLen.out; omega); rw [HQ.out.2.2.2.2 n hn, Int.toNat_natCast] at this; exact this⟩
  clear HB0 HO HQ N1 hx
  go_cut [7] (fun v7 w' => ∃ b7 : Nat, v7 = .pointer (some ⟨b7, 0, none⟩) ∧ Aside0 (w5.heap.size ≤ b7) ∧ Aside0 (w'.heap[b7]? = some (.cells #[.int .i64 0, .int .i64 0, .int .i64 0, .slice none 0 0, .slice none 0 0, .int .i64 0, .int .i64 0, .slice none 0 0, .int .i64 0, .int .i64 0, .int .i64 0, .int .i64 0] 47 (0, 0))) ∧ Aside0 (Below w5.heap.size w5 w'))
  case first =>
    go_wp2
    go_meet
    case rel => exact ⟨_, rfl, ⟨Nat.le_refl _⟩, ⟨heap_alloc_new _ _⟩, ⟨below_alloc (Below.refl _ _) _⟩⟩
  case rest =>
    obtain ⟨b7, rfl, G7, BK7, HB⟩ := hcut
    have hx0 := pw_cell_below HB.out X0.out
    go_upto_region 15 with (first | (go_at_call 42; (with_reducible refine (spec_l07After.calls _ _ _ _ _ F0.out).mono ?_); rintro e w' ⟨rfl, ⟨nd, rfl⟩⟩) | (go_at_call 73; (with_reducible refine (spec_l07Numbers.calls _ _ _ _ _ _ M0.out).mono ?_); rintro e w6 ⟨v0, rfl, ho, hb⟩; have BK70 := BK7; replace HB := Aside0.mk (below_step (pw_below_drewN HB.out _) hb); replace BK7 := Aside0.mk (blk_below (blk_drewN BK7.out _) hb); obtain ⟨g6, c6, e6, l6, l6'⟩ := R_open ho (by simp); subst e6; have HO6 := Aside0.mk ho; have L6 := Aside0.mk (Nat.lt_of_lt_of_le (blk_lt (blk_drewN BK70.out _)) l6); clear ho hb l6 l6'; have hx1 := pw_cell_below HB.out X1.out) | (go_at_call 42; (with_reducible refine (spec_l07After.calls _ _ _ _ _ F1.out).mono ?_); rintro e w' ⟨rfl, ⟨nd, rfl⟩⟩) | (go_at_call 73; (with_reducible refine (spec_l07Numbers.calls _ _ _ _ _ _ M1.out).mono ?_); rintro e w7 ⟨v0, rfl, ho, hb⟩; replace HB := Aside0.mk (below_step (pw_below_drewN HB.out _) hb); replace HO6 := Aside0.mk (Kd.R_below (Kd.R_drewN HO6.out _) hb); have BK71 := BK7; replace BK7 := Aside0.mk (blk_below (blk_drewN BK7.out _) hb); obtain ⟨g8, c8, e8, l8, l8'⟩ := R_open ho (by simp); subst e8; have HO8 := Aside0.mk ho; have L8 := Aside0.mk (Nat.lt_of_lt_of_le (blk_lt (blk_drewN BK71.out _)) l8); clear ho hb l8 l8'; have hx2 := pw_cell_below HB.out X2.out; have hx3 := pw_cell_below HB.out X3.out) | (go_at_call 42; (with_reducible refine (spec_l07After.calls _ _ _ _ _ F2.out).mono ?_); rintro e w' ⟨rfl, ⟨nd2, rfl⟩⟩) | (go_at_call 42; (with_reducible refine (spec_l07After.calls _ _ _ _ _ F3.out).mono ?_); rintro e w' ⟨rfl, ⟨nd3, rfl⟩⟩))
    replace HB := Aside0.mk (pw_below_drewN HB.out (nd2 + nd3))
    replace BK7 := Aside0.mk (blk_drewN BK7.out (nd2 + nd3))
    replace HO6 := Aside0.mk (Kd.R_drewN HO6.out (nd2 + nd3))
    replace HO8 := Aside0.mk (Kd.R_drewN HO8.out (nd2 + nd3))
    generalize w7.drewN (nd2 + nd3) = w8 at HB BK7 HO6 HO8 ⊢
    clear BK70 BK71 hx0 hx1 hx2 hx3 X0 X1 X2 X3
    go_cut [20, 21] (fun v20 v21 w' => ∃ (b20 : Nat) (U : Option Addr) (cu : Nat), v20 = .pointer (some ⟨b20, 0, none⟩) ∧ v21 = .bool true ∧ Aside0 (w8.heap.size ≤ b20) ∧ Aside0 (w'.heap[b20]? = some (.cells #[.slice U s.ul.length cu, .int .i64 s.us, .int .i64 s.uw] 43 (0, 0))) ∧ Aside0 (Kd.R k118 118 w' w8.heap.size (fun _ => True) (.slice U s.ul.length cu) s.ul) ∧ Aside0 (Below w8.heap.size w8 w'))
    case first =>
      go_wp2_with (first | (go_at_call 74; (with_reducible refine (spec_ParseSide.calls _ _ _ _ _ _ _ P2.out).mono ?_); rintro e w9 ⟨v0, rfl, ho, hb⟩; have HO9 := Aside0.mk ho; have HB9 := Aside0.mk hb; clear ho hb; obtain ⟨U, cu, eU⟩ := Kd.R_slice HO9.out; subst eU))
      go_meet
      case rel => exact ⟨_, U, cu, rfl, rfl, ⟨below_size HB9.out⟩, ⟨heap_alloc_new _ _⟩, ⟨Kd.R_alloc HO9.out _⟩, ⟨below_alloc HB9.out _⟩⟩
    case rest =>
      obtain ⟨b20, U, cu, rfl, rfl, L20, BK20, HU, HB9⟩ := hcut
      have l7 := blk_lt BK7.out
      replace L20 : Aside0 (b7 < b20) := ⟨Nat.lt_of_lt_of_le l7 L20.out⟩
      replace HU : Aside0 (Kd.R k118 118 wc (b7 + 1) (fun _ => True) (.slice U s.ul.length cu) s.ul) := ⟨Kd.R_lower HU.out l7⟩
      clear l7
      replace BK7 := Aside0.mk (blk_below BK7.out HB9.out)
      replace HO6 := Aside0.mk (Kd.R_below HO6.out HB9.out)
      replace HO8 := Aside0.mk (Kd.R_below HO8.out HB9.out)
      replace HB := Aside0.mk (below_step HB.out HB9.out)
      clear HB9
      obtain ⟨w9, hw9⟩ : ∃ w9 : World, w9 = wc := ⟨_, rfl⟩
      subst hw9
      go_upto_region 16 with (fail)
      go_cut [22, 23] (fun v22 v23 w' => ∃ (b22 : Nat) (D : Option Addr) (cd : Nat), v22 = .pointer (some ⟨b22, 0, none⟩) ∧ v23 = .bool true ∧ Aside0 (w9.heap.size ≤ b22) ∧ Aside0 (w'.heap[b22]? = some (.cells #[.slice D s.dl.length cd, .int .i64 s.ds, .int .i64 s.dw] 43 (0, 0))) ∧ Aside0 (Kd.R k118 118 w' w9.heap.size (fun _ => True) (.slice D s.dl.length cd) s.dl) ∧ Aside0 (Below w9.heap.size w9 w'))
      case first =>
        go_wp2_with (first | (go_at_call 74; (with_reducible refine (spec_ParseSide.calls _ _ _ _ _ _ _ P3.out).mono ?_); rintro e w9 ⟨v0, rfl, ho, hb⟩; have HO9 := Aside0.mk ho; have HB9 := Aside0.mk hb; clear ho hb; obtain ⟨D, cd, eD⟩ := Kd.R_slice HO9.out; subst eD))
        go_meet
        case rel => exact ⟨_, D, cd, rfl, rfl, ⟨below_size HB9.out⟩, ⟨heap_alloc_new _ _⟩, ⟨Kd.R_alloc HO9.out _⟩, ⟨below_alloc HB9.out _⟩⟩
      case rest =>
        obtain ⟨b22, D, cd, rfl, rfl, L22, BK22, HD, HB9⟩ := hcut
        have l7 := blk_lt BK7.out
        replace L22 : Aside0 (b7 < b22) := ⟨Nat.lt_of_lt_of_le l7 L22.out⟩
        replace HD : Aside0 (Kd.R k118 118 wc (b7 + 1) (fun _ => True) (.slice D s.dl.length cd) s.dl) := ⟨Kd.R_lower HD.out l7⟩
        clear l7
        replace BK7 := Aside0.mk (blk_below BK7.out HB9.out)
        replace BK20 := Aside0.mk (blk_below BK20.out HB9.out)
        replace HU := Aside0.mk (Kd.R_below HU.out HB9.out)
        replace HO6 := Aside0.mk (Kd.R_below HO6.out HB9.out)
        replace HO8 := Aside0.mk (Kd.R_below HO8.out HB9.out)
        replace HB := Aside0.mk (below_step HB.out HB9.out)
        clear HB9
        obtain ⟨wl, hwl⟩ : ∃ wl : World, wl = wc := ⟨_, rfl⟩
        subst hwl
        have L2 : Aside0 (w.heap.size < b7) := ⟨Nat.lt_of_lt_of_le (blk_lt BK2.out) G7.out⟩
        replace BK2 := Aside0.mk (blk_below BK2.out HB.out)
        have L5 : Aside0 (g5 < b7) := ⟨Nat.lt_of_lt_of_le (World.block_lt_of_cell? w5 _ (X4.out 0 (by omega))) G7.out⟩
        replace X4 : Aside0 (∀ n : Nat, n < s.g.length → wl.cell? ⟨g5, n + 1, none⟩ = some (.string (mkB (glw (rd_T90 s.g n))))) := ⟨fun n hn => pw_cell_below HB.out (X4.out n hn)⟩
        have L7 := Aside0.mk (blk_lt BK7.out)
        replace HBW := Aside0.mk (below_step HBW.out HB.out)
        clear HB P2 P3 F2 F3
        have hl5' : (5 : Int) ≤ L.length := by omega
        go_wp2
        go_loopg [24] (s.g.length + 1) (fun kq v24 w' => ∃ (n : Nat) (A1 : Option Addr) (c1 : Nat), v24 = .int .i64 ((n + 1 : Nat) : Int) ∧ Aside0 (kq + n = s.g.length + 1 ∧ n ≤ s.g.length) ∧ Aside0 (Kd.R k90 90 w' wl.heap.size (fun _ => True) (.slice A1 n c1) (s.g.take n)) ∧ Aside0 (w'.heap[b7]? = some (.cells #[.int .i64 0, .int .i64 0, .int .i64 0, .slice A1 n c1, .slice none 0 0, .int .i64 0, .int .i64 0, .slice none 0 0, .int .i64 0, .int .i64 0, .int .i64 0, .int .i64 0] 47 (0, 0))) ∧ Aside0 (KeepBut wl w' b7 none) ∧ Aside0 (Below w.heap.size w w'))
        case atStart => exact ⟨0, none, 0, rfl, ⟨by omega, by omega⟩, ⟨Kd.R_nil _ _ _ _ _⟩, BK7, ⟨KeepBut.refl _ _ _⟩, HBW⟩
        case round =>
          obtain ⟨n, A1, c1, rfl, HK, HGR, BK7, HKP, HW⟩ := hrel
          cases gk with
          | zero => exact absurd HK.out.1 (by have := HK.out.2; omega)
          | succ k1 =>
            by_cases hlt : n < s.g.length
            · have hx := X4.out n hlt
              have FG := Aside0.mk (after_goal _ (HGo.out.g n hlt))
              have PG := Aside0.mk (goalBack _ (HGo.out.g n hlt) 400 (by omega) (by omega))
              have hxr := keep_cell HKP.out hx (Nat.ne_of_lt L5.out)
              have le1 : L.length ≤ s.g.length + 4 := by have := HLen.out; omega
              have le2 : s.g.length + 4 ≤ L.length := by have := HLen.out; omega
              have HLT := Aside0.mk hlt
              clear hx
              go_upto_region 26 with (first | (go_at_call 42; (with_reducible refine (spec_l07After.calls _ _ _ _ _ FG.out).mono ?_); rintro e w' ⟨rfl, ⟨nd, rfl⟩⟩) | (go_at_call 75; (with_reducible refine (spec_ParseGoal.calls _ _ _ _ _ _ _ PG.out).mono ?_); rintro e w11 ⟨rfl, hb⟩; replace HKP := Aside0.mk (keep_then (keep_drewN HKP.out _) (hb.mono HKP.out.1)); replace BK7 := Aside0.mk (blk_below (blk_drewN BK7.out _) hb); replace HGR := Aside0.mk (Kd.R_below (Kd.R_drewN HGR.out _) hb); replace HW := Aside0.mk (below_step (pw_below_drewN HW.out _) hb); clear hb))
              have BK27 : Aside0 ((w11.alloc (.cells #[.string (rd_T90 s.g n).f0, .int .i64 (rd_T90 s.g n).f1, .int .i64 (rd_T90 s.g n).f2] 90 (0, 0))).heap[w11.heap.size]? = some (.cells #[.string (rd_T90 s.g n).f0, .int .i64 (rd_T90 s.g n).f1, .int .i64 (rd_T90 s.g n).f2] 90 (0, 0))) := ⟨heap_alloc_new _ _⟩
              replace HKP := Aside0.mk (keep_alloc HKP.out (.cells #[.string (rd_T90 s.g n).f0, .int .i64 (rd_T90 s.g n).f1, .int .i64 (rd_T90 s.g n).f2] 90 (0, 0)))
              replace BK7 := Aside0.mk (blk_alloc BK7.out (.cells #[.string (rd_T90 s.g n).f0, .int .i64 (rd_T90 s.g n).f1, .int .i64 (rd_T90 s.g n).f2] 90 (0, 0)))
              replace HGR := Aside0.mk (Kd.R_alloc HGR.out (.cells #[.string (rd_T90 s.g n).f0, .int .i64 (rd_T90 s.g n).f1, .int .i64 (rd_T90 s.g n).f2] 90 (0, 0)))
              replace HW := Aside0.mk (below_alloc HW.out (.cells #[.string (rd_T90 s.g n).f0, .int .i64 (rd_T90 s.g n).f1, .int .i64 (rd_T90 s.g n).f2] 90 (0, 0)))
              generalize w11.alloc (.cells #[.string (rd_T90 s.g n).f0, .int .i64 (rd_T90 s.g n).f1, .int .i64 (rd_T90 s.g n).f2] 90 (0, 0)) = wg at HKP BK7 HGR BK27 HW ⊢
              generalize w11.heap.size = g27 at BK27 ⊢
              obtain ⟨p1, q1⟩ := bc_ BK7 3
              obtain ⟨⟨c27z0, c27f0⟩, ⟨c27z1, c27f1⟩, ⟨c27z2, c27f2⟩⟩ := bc3_ BK27
              have hl3 : (s.g.take n).length = n := by rw [List.length_take]; have := HLT.out; omega
              have hl4 : (s.g.take (n + 1)).length = n + 1 := by rw [List.length_take]; have := HLT.out; omega
              have HL3 := Aside0.mk hl3
              have HL4 := Aside0.mk hl4
              clear hl3 hl4 hxr hlt
              go_wp2_with (first | ((with_reducible refine gate_builtin (b := .append) (xs := #[.tmp 160, .tmp 162]) rfl ?_); at_builtin; refine Kd.R_append k90 (w0 := wg) wl.heap.size rfl (.tmp 160) (.tmp 162) 40 90 (.agg #[(.string ⟨#[]⟩), (.int .i64 0), (.int .i64 0)]) 32 rfl Tryz.underlying40 info90 rfl (by decide) (by omega) (.slice A1 n c1) (s.g.take n) (rd_T90 s.g n) [.string (rd_T90 s.g n).f0, .int .i64 (rd_T90 s.g n).f1, .int .i64 (rd_T90 s.g n).f2] (fun _ => True) (fun _ => False) rfl (by first | (go_simp; done) | (go_simp; rfl)) ?aP (fun _ hk => hk.elim) (fun _ _ => trivial) HGR.out (Below.refl _ _) HKP.out.1 ?aL ?_; (case aP => exact k90_mkM _ _ _ (rd_T90 s.g n)); (case aL => rw [HL3.out]; omega); intro v13 w13 ho hb hg hat; have HO13 : Aside0 (Kd.R k90 90 w13 wl.heap.size (fun _ => True) v13 (s.g.take (n + 1))) := ⟨by rw [show s.g.take (n + 1) = s.g.take n ++ [rd_T90 s.g n] from take_snoc_ s.g z90 n HLT.out]; exact ho⟩; obtain ⟨A2, c2, e2⟩ := Kd.R_slice HO13.out; rw [HL4.out] at e2; subst e2; have BK13 := Aside0.mk ((hb.block b7 L7.out).trans BK7.out); replace HKP := Aside0.mk (keep_then HKP.out hb); replace HW := Aside0.mk (below_weaken HW.out (below_size HBW.out) hb); clear ho hb hg hat; obtain ⟨p1, q1⟩ := bc_ BK13 3))
              go_roundg k1
              case measure => omega
              case rel => exact ⟨n + 1, A2, c2, rfl, ⟨by have := HK.out; omega, by have := HLT.out; omega⟩, ⟨Kd.R_mono (Kd.R_far (Kd.R_mono (Kd.R_bound HO13.out) (fun k hk => (hk.2.1 : wl.heap.size ≤ k))) (fun k hk => by have := L7.out; show k ≠ b7; omega) _) (fun _ _ => trivial)⟩, ⟨bp_ BK13⟩, ⟨keep_set HKP.out _ _⟩, ⟨below_set HW.out (Nat.le_of_lt L2.out)⟩⟩
            · have en : n = s.g.length := by have := HK.out; omega
              subst en
              have le1 : L.length ≤ s.g.length + 4 := by have := HLen.out; omega
              replace HGR : Aside0 (Kd.R k90 90 wr wl.heap.size (fun k => k ≠ b7) (.slice A1 s.g.length c1) s.g) := ⟨by have := HGR.out; rw [List.take_length] at this; exact Kd.R_mono (Kd.R_bound this) (fun k hk => by have := hk.2.1; have := L7.out; omega)⟩
              have r0 := keep_cell HKP.out (Kd.R_cell 0 HO6.out 0 (by omega) (by simp)).1 (Nat.ne_of_gt L6.out)
              have r1 := keep_cell HKP.out (Kd.R_cell 0 HO6.out 1 (by omega) (by simp)).1 (Nat.ne_of_gt L6.out)
              have r2 := keep_cell HKP.out (Kd.R_cell 0 HO6.out 2 (by omega) (by simp)).1 (Nat.ne_of_gt L6.out)
              replace r0 : wr.cell? ⟨g6, 0, none⟩ = some (.int .i64 s.d) := r0
              replace r1 : wr.cell? ⟨g6, 1, none⟩ = some (.int .i64 s.f) := r1
              replace r2 : wr.cell? ⟨g6, 2, none⟩ = some (.int .i64 s.n) := r2
              have n1 : g6 ≠ b7 := Nat.ne_of_gt L6.out
              have n2 : b7 ≠ g6 := Nat.ne_of_lt L6.out
              obtain ⟨⟨c7z0, c7f0⟩, ⟨c7z1, c7f1⟩, ⟨c7z2, c7f2⟩, ⟨c7z3, c7f3⟩, ⟨c7z4, c7f4⟩, ⟨c7z5, c7f5⟩, ⟨c7z6, c7f6⟩, ⟨c7z7, c7f7⟩, ⟨c7z8, c7f8⟩, ⟨c7z9, c7f9⟩, ⟨c7z10, c7f10⟩, ⟨c7z11, c7f11⟩⟩ := bc12_ BK7
              go_upto_region 27 with (fail)
              go_cut [] (fun w' => Aside0 (w'.heap[b7]? = some (.cells #[.int .i64 s.d, .int .i64 s.f, .int .i64 s.n, .slice A1 s.g.length c1, .slice none 0 0, .int .i64 0, .int .i64 0, .slice none 0 0, .int .i64 0, .int .i64 0, .int .i64 0, .int .i64 0] 47 (0, 0))) ∧ Aside0 (Kd.R k90 90 w' wl.heap.size (fun k => k ≠ b7) (.slice A1 s.g.length c1) s.g) ∧ Aside0 (KeepBut wl w' b7 none) ∧ Aside0 (Below w.heap.size w w'))
              case first =>
                go_region_held3 (fun w' => w'.cell? ⟨g6, 0, none⟩ = some (.int .i64 s.d) ∧ w'.cell? ⟨g6, 1, none⟩ = some (.int .i64 s.f) ∧ w'.cell? ⟨g6, 2, none⟩ = some (.int .i64 s.n)) (go_keep) (fail)
                go_wp2
                go_meet
                case rel => exact ⟨⟨bp_ BK7⟩, ⟨by repeat (first | (with_reducible exact HGR.out) | (with_reducible refine Kd.R_drew ?_) | refine Kd.R_far ?_ (fun _ hk => hk) _)⟩, ⟨by repeat (first | (with_reducible exact HKP.out) | (with_reducible refine keep_set ?_ _ _) | (with_reducible refine keep_drew ?_))⟩, ⟨by repeat (first | (with_reducible exact HW.out) | (with_reducible refine below_set ?_ (Nat.le_of_lt L2.out)) | (with_reducible refine below_drew1 ?_))⟩⟩
              case rest =>
                clear BK7 HGR HKP HW r0 r1 r2 c7z0 c7f0 c7z1 c7f1 c7z2 c7f2 c7z3 c7f3 c7z4 c7f4 c7z5 c7f5 c7z6 c7f6 c7z7 c7f7 c7z8 c7f8 c7z9 c7f9 c7z10 c7f10 c7z11 c7f11
                obtain ⟨BK7, HGR, HKP, HW⟩ := hcut
                have r0 := keep_cell HKP.out (Kd.R_cell 0 HO8.out 0 (by omega) (by simp)).1 (Nat.ne_of_gt L8.out)
                have r1 := keep_cell HKP.out (Kd.R_cell 0 HO8.out 1 (by omega) (by simp)).1 (Nat.ne_of_gt L8.out)
                replace r0 : wc.cell? ⟨g8, 0, none⟩ = some (.int .i64 s.mn) := r0
                replace r1 : wc.cell? ⟨g8, 1, none⟩ = some (.int .i64 s.mx) := r1
                have n3 : g8 ≠ b7 := Nat.ne_of_gt L8.out
                have n4 : b7 ≠ g8 := Nat.ne_of_lt L8.out
                have n5 : b20 ≠ b7 := Nat.ne_of_gt L20.out
                have n6 : b22 ≠ b7 := Nat.ne_of_gt L22.out
                have n7 : b7 ≠ b20 := Nat.ne_of_lt L20.out
                have n8 : b7 ≠ b22 := Nat.ne_of_lt L22.out
                have BKA0 := Aside0.mk (HKP.out.blk BK20.out n5 (by simp))
                have BKB0 := Aside0.mk (HKP.out.blk BK22.out n6 (by simp))
                obtain ⟨⟨A0z0, A0f0⟩, ⟨A0z1, A0f1⟩, ⟨A0z2, A0f2⟩⟩ := bc3_ BKA0
                obtain ⟨⟨B0z0, B0f0⟩, ⟨B0z1, B0f1⟩, ⟨B0z2, B0f2⟩⟩ := bc3_ BKB0
                obtain ⟨⟨c7z0, c7f0⟩, ⟨c7z1, c7f1⟩, ⟨c7z2, c7f2⟩, ⟨c7z3, c7f3⟩, ⟨c7z4, c7f4⟩, ⟨c7z5, c7f5⟩, ⟨c7z6, c7f6⟩, ⟨c7z7, c7f7⟩, ⟨c7z8, c7f8⟩, ⟨c7z9, c7f9⟩, ⟨c7z10, c7f10⟩, ⟨c7z11, c7f11⟩⟩ := bc12_ BK7
                go_upto_region 28 with (fail)
                go_cut [] (fun w' => Aside0 (w'.heap[b7]? = some (.cells #[.int .i64 s.d, .int .i64 s.f, .int .i64 s.n, .slice A1 s.g.length c1, .slice U s.ul.length cu, .int .i64 s.us, .int .i64 s.uw, .slice D s.dl.length cd, .int .i64 s.ds, .int .i64 s.dw, .int .i64 s.mn, .int .i64 s.mx] 47 (0, 0))) ∧ Aside0 (Kd.R k90 90 w' wl.heap.size (fun k => k ≠ b7) (.slice A1 s.g.length c1) s.g) ∧ Aside0 (KeepBut wl w' b7 none) ∧ Aside0 (Below w.heap.size w w'))
                case first =>
                  go_region_held3 (fun w' => w'.cell? ⟨b20, 0, none⟩ = some (.slice U s.ul.length cu) ∧ w'.cell? ⟨b20, 1, none⟩ = some (.int .i64 s.us) ∧ w'.cell? ⟨b20, 2, none⟩ = some (.int .i64 s.uw) ∧ w'.cell? ⟨b22, 0, none⟩ = some (.slice D s.dl.length cd) ∧ w'.cell? ⟨b22, 1, none⟩ = some (.int .i64 s.ds) ∧ w'.cell? ⟨b22, 2, none⟩ = some (.int .i64 s.dw) ∧ w'.cell? ⟨g8, 0, none⟩ = some (.int .i64 s.mn) ∧ w'.cell? ⟨g8, 1, none⟩ = some (.int .i64 s.mx)) ((go_split_ands; (repeat (any_goals apply And.intro)) <;> (with_reducible (repeat (first | refine drew_cell ?_ | refine (cell_far2 (by assumption)).trans ?_)); (with_reducible assumption)))) (fail)
                  go_wp2
                  go_meet
                  case rel => exact ⟨⟨bp_ BK7⟩, ⟨by repeat (first | (with_reducible exact HGR.out) | (with_reducible refine Kd.R_drew ?_) | refine Kd.R_far ?_ (fun _ hk => hk) _)⟩, ⟨by repeat (first | (with_reducible exact HKP.out) | (with_reducible refine keep_set ?_ _ _) | (with_reducible refine keep_drew ?_))⟩, ⟨by repeat (first | (with_reducible exact HW.out) | (with_reducible refine below_set ?_ (Nat.le_of_lt L2.out)) | (with_reducible refine below_drew1 ?_))⟩⟩
                case rest =>
                  clear BK7 HGR HKP HW r0 r1 c7z0 c7f0 c7z1 c7f1 c7z2 c7f2 c7z3 c7f3 c7z4 c7f4 c7z5 c7f5 c7z6 c7f6 c7z7 c7f7 c7z8 c7f8 c7z9 c7f9 c7z10 c7f10 c7z11 c7f11
                  obtain ⟨BK7, HGR, HKP, HW⟩ := hcut
                  have hRd : s.Rd wc A1 U D c1 cu cd := by
                    have u := Kd.R_reads' (Kd.R_keep (Kd.R_mono (Kd.R_bound HU.out) (fun k hk => (hk.2.1 : b7 + 1 ≤ k))) HKP.out (fun k hk => by omega))
                    have d := Kd.R_reads' (Kd.R_keep (Kd.R_mono (Kd.R_bound HD.out) (fun k hk => (hk.2.1 : b7 + 1 ≤ k))) HKP.out (fun k hk => by omega))
                    have g := Kd.R_reads' HGR.out
                    exact ⟨g.2.2, g.2.1, u.2.2, u.2.1, d.2.2, d.2.1⟩
                  have ST := Aside0.mk (spec_SetupText.good s A1 U D c1 cu cd wc HS.out hRd HH.out)
                  have n9 : w.heap.size ≠ b7 := Nat.ne_of_lt L2.out
                  have BKr := Aside0.mk (HKP.out.blk BK2.out n9 (by simp))
                  clear hRd
                  obtain ⟨⟨c7z0, c7f0⟩, ⟨c7z1, c7f1⟩, ⟨c7z2, c7f2⟩, ⟨c7z3, c7f3⟩, ⟨c7z4, c7f4⟩, ⟨c7z5, c7f5⟩, ⟨c7z6, c7f6⟩, ⟨c7z7, c7f7⟩, ⟨c7z8, c7f8⟩, ⟨c7z9, c7f9⟩, ⟨c7z10, c7f10⟩, ⟨c7z11, c7f11⟩⟩ := bc12_ BK7
                  go_wp2_with (first | (go_at_call 22; refine ST.out.mono ?_; rintro e w20 ⟨rfl, hb⟩; replace BK7 := Aside0.mk (blk_below BK7.out hb); replace BKr := Aside0.mk (blk_below BKr.out hb); have HB20 := Aside0.mk (below_step HW.out hb); clear hb; obtain ⟨⟨c7z0, c7f0⟩, ⟨c7z1, c7f1⟩, ⟨c7z2, c7f2⟩, ⟨c7z3, c7f3⟩, ⟨c7z4, c7f4⟩, ⟨c7z5, c7f5⟩, ⟨c7z6, c7f6⟩, ⟨c7z7, c7f7⟩, ⟨c7z8, c7f8⟩, ⟨c7z9, c7f9⟩, ⟨c7z10, c7f10⟩, ⟨c7z11, c7f11⟩⟩ := bc12_ BK7; obtain ⟨⟨rz0, rf0⟩, ⟨rz1, rf1⟩, ⟨rz2, rf2⟩, ⟨rz3, rf3⟩, ⟨rz4, rf4⟩, ⟨rz5, rf5⟩, ⟨rz6, rf6⟩, ⟨rz7, rf7⟩, ⟨rz8, rf8⟩, ⟨rz9, rf9⟩, ⟨rz10, rf10⟩, ⟨rz11, rf11⟩⟩ := bc12_ BKr))
                  refine bodyPost_ret (results_ct rfl _ _ w.heap.size 47 #[.int .i64 s.d, .int .i64 s.f, .int .i64 s.n, .slice A1 s.g.length c1, .slice U s.ul.length cu, .int .i64 s.us, .int .i64 s.uw, .slice D s.dl.length cd, .int .i64 s.ds, .int .i64 s.dw, .int .i64 s.mn, .int .i64 s.mx] (0, 0) _ rfl (bp_ BKr) Tryz.underlying47 rfl (by kernel_rfl)) rfl ?_
                  exact ⟨A1, U, D, c1, cu, cd, rfl, by repeat (first | (with_reducible exact HB20.out) | (with_reducible refine below_set ?_ (Nat.le_refl _)))⟩
end Go.Proofs.YtcjeblikejoogaaGreatDoor.PFnExactOpLine
