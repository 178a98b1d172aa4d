/-
  The calls of GoalLine, SideText and SetupOk, in the reference and in the program, end with the plain value and change no older memory.
  Conditions: the hypotheses of each theorem; none beside.
-/
import Derived.Test.YtcjeblikejoogaaGreatDoorHSem
namespace Go.Proofs.YtcjeblikejoogaaGreatDoor.PFnExactOpLine
open Go.RowKit Go.Proofs.YtcjeblikejoogaaGreatDoorW.PrintWords Go.Proofs.YtcjeblikejoogaaGreatDoorW.PrintLast Go.Proofs.YtcjeblikejoogaaGreatDoorW.PrintMore
set_option linter.unusedVariables false
set_option linter.unusedSimpArgs false
attribute [local go_sem high] eqA39 eqA90 eqA118
set_option maxRecDepth 100000 in
set_option maxHeartbeats 4000000 in
theorem spec_GoalLine.good (g : S90) (w : World) (h : goalB g = true) : Calls Tryz.prog 40 #[.agg #[.string g.f0, .int .i64 g.f1, .int .i64 g.f2]] w fun e w' => e = .returned (.string (glb g)) ∧ Below w.heap.size w w' := by
  obtain ⟨⟨hn1, hn2⟩, ⟨hv1, hv2⟩, hf1, hf2⟩ := goalB_out h
  have hm := mt_size g.f1 (by omega) hv2
  have hb := nb_size_le g.f2 (by omega) (by omega)
  have s1 : ¬ 9223372036854775807 < g.f0.size + 1 := by omega
  have s2 : ¬ 9223372036854775807 < g.f0.size + 1 + (mt g.f1).size := by omega
  have s3 : ¬ 9223372036854775807 < g.f0.size + 1 + (mt g.f1).size + 1 := by omega
  have s4 : ¬ 9223372036854775807 < g.f0.size + 1 + (mt g.f1).size + 1 + (nb g.f2).size := by omega
  have hgo := spec_goal g (by omega) 30 (by omega)
  rw [h] at hgo
  have G0 := Aside0.mk hgo
  have G1 := Aside0.mk (spec_milli g.f1 (by omega) hv2 50 (by omega) (by omega))
  have G2 := Aside0.mk (l01Num_f g.f2 (by omega) (by omega) 50 (by omega) (by omega))
  clear hgo
  have hu90 := Tryz.underlying90
  have HB := Aside0.mk (Below.refl w.heap.size w)
  go_enter Tryz.func40, Tryz.ntmps40
  go_wp2_with (first | ((with_reducible refine gate_dst (N := 1) rfl ?_); refine box_event ?hg (N := 1) ?hd (cs := #[.string g.f0, .int .i64 g.f1, .int .i64 g.f2]) (t := 90) ?hr ?_; (case hd => rfl); (case hg => rfl); (case hr => first | (go_simp; done) | (go_simp; rfl)); intro gb hg w4 hbox hb; have BK := Aside0.mk hbox; have GE := Aside0.mk (bs_ hg (hb0_)); replace HB := Aside0.mk (below_step hb0_ hb); clear hb hbox hg; obtain ⟨⟨cz0, fz0⟩, ⟨cz1, fz1⟩, ⟨cz2, fz2⟩⟩ := bc3_ BK) | (go_at_call 69; (with_reducible refine (spec_GoalOk.calls _ _ _ _ _ _ G0.out).mono ?_); rintro e w5 ⟨rfl, hb⟩; replace BK := bb_ BK hb; replace HB := Aside0.mk (below_step (hb1_ GE) hb); clear hb; obtain ⟨⟨cy0, fy0⟩, ⟨cy1, fy1⟩, ⟨cy2, fy2⟩⟩ := bc3_ BK))
  go_region_held3 (fun w' => w'.cell? ⟨gb, 0, none⟩ = some (.string g.f0) ∧ w'.cell? ⟨gb, 1, none⟩ = some (.int .i64 g.f1) ∧ w'.cell? ⟨gb, 2, none⟩ = some (.int .i64 g.f2)) ((first | (go_split_ands; refine ⟨?_, ?_, ?_⟩ <;> (refine pw_cell_below (by assumption) ?_; assumption)) | go_keep)) (first | (go_at_call 70; (with_reducible refine (spec_MilliText.calls _ _ _ _ G1.out).mono ?_); rintro e w6 ⟨rfl, hb6⟩) | (go_at_call 20; (with_reducible refine (spec_l01Num.calls _ _ _ _ G2.out).mono ?_); rintro e w7 ⟨rfl, hb7⟩))
  go_wp2
  go_ret
  exact ⟨ret_s (by simp [glb, gl, nb, ba_data_append]), below_step (below_step (below_drew1 HB.out) hb6) hb7⟩
set_option maxRecDepth 100000 in
set_option maxHeartbeats 4000000 in
theorem impl_GoalLine.good (g : S90) (w : World) (hLd : Laid w) (h : goalB g = true) : Calls Tryz.prog 56 #[.agg #[.string g.f0, .int .i64 g.f1, .int .i64 g.f2]] w fun e w' => e = .returned (.string (glb g)) ∧ Below w.heap.size w w' := by
  obtain ⟨⟨hn1, hn2⟩, ⟨hv1, hv2⟩, hf1, hf2⟩ := goalB_out h
  have hm := mt_size g.f1 (by omega) hv2
  have hb := nb_size_le g.f2 (by omega) (by omega)
  have hgo := impl_goal g (by omega) 30 (by omega)
  rw [h] at hgo
  have G0 := Aside0.mk hgo
  have G1 := Aside0.mk (impl_milli g.f1 (by omega) hv2 50 (by omega))
  have G2 := Aside0.mk (num_f g.f2 (by omega) (by omega))
  have G3 := Aside0.mk (words_f [g.f0, mt g.f1, nb g.f2] (by simp) (by simp [cat]; omega))
  clear hgo
  have hu90 := Tryz.underlying90
  have HLd := Aside0.mk hLd
  clear hLd
  have HB := Aside0.mk (Below.refl w.heap.size w)
  go_enter Tryz.func56, Tryz.ntmps56
  go_wp2_with (first | ((with_reducible refine gate_dst (N := 1) rfl ?_); refine box_event ?hg (N := 1) ?hd (cs := #[.string g.f0, .int .i64 g.f1, .int .i64 g.f2]) (t := 90) ?hr ?_; (case hd => rfl); (case hg => rfl); (case hr => first | (go_simp; done) | (go_simp; rfl)); intro gb hg w4 hbox hb; have BK := Aside0.mk hbox; have GE := Aside0.mk (bs_ hg (hb0_)); replace HB := Aside0.mk (below_step hb0_ hb); clear hb hbox hg; obtain ⟨⟨cz0, fz0⟩, ⟨cz1, fz1⟩, ⟨cz2, fz2⟩⟩ := bc3_ BK) | (go_at_call 87; (with_reducible refine (impl_GoalOk.calls _ _ _ _ _ _ G0.out).mono ?_); rintro e w5 ⟨rfl, hb⟩; replace BK := bb_ BK hb; replace HB := Aside0.mk (below_step (hb1_ GE) hb); clear hb; obtain ⟨⟨cy0, fy0⟩, ⟨cy1, fy1⟩, ⟨cy2, fy2⟩⟩ := bc3_ BK))
  go_region_held3 (fun w' => w'.cell? ⟨gb, 0, none⟩ = some (.string g.f0) ∧ w'.cell? ⟨gb, 1, none⟩ = some (.int .i64 g.f1) ∧ w'.cell? ⟨gb, 2, none⟩ = some (.int .i64 g.f2)) ((first | (go_split_ands; refine ⟨?_, ?_, ?_⟩ <;> (refine pw_cell_below (by assumption) ?_; assumption)) | go_keep)) (first | (go_at_call 93; (with_reducible refine (impl_MilliText.calls _ _ _ _ (Laid.below (below_drew1 HB.out) HLd.out) G1.out).mono ?_); rintro e w6 ⟨rfl, hb6⟩) | (go_at_call 27; (with_reducible refine (impl_number.calls _ _ _ (Laid.below (below_step (below_drew1 HB.out) hb6) HLd.out) G2.out).mono ?_); rintro e w7 ⟨rfl, hb7⟩) | (go_at_call 28; (refine (impl_words.calls _ 3 [g.f0, mt g.f1, nb g.f2] _ _ (C_lit _ _ _ (by simp)) (by simp) G3.out).mono ?_); rintro e w8 ⟨rfl, hb8⟩))
  go_wp2
  go_ret
  exact ⟨ret_s (by simp [glb, gl, nb, cat]), below_step (below_alloc (below_step (below_step (below_drew1 HB.out) hb6) hb7) _) hb8⟩
set_option maxRecDepth 100000 in
set_option maxHeartbeats 8000000 in
theorem spec_SideText.good (A0 : Option Addr) (c0 : Nat) (l : List S118) (s d : Int) (w : World) (hr : Kd.C k118 w A0 l.length l) (hc : l.length ≤ c0) (h : sideB l s d = true) : Calls Tryz.prog 41 #[.agg #[.slice A0 l.length c0, .int .i64 s, .int .i64 d]] w fun e w' => e = .returned (.string (slb l s d)) ∧ Below w.heap.size w w' := by
  obtain ⟨hl, ⟨hs1, hs2⟩, ⟨hd1, hd2⟩, hp⟩ := sideB_out h
  have ha := nb_size_le s (by omega) (by omega)
  have hb := nb_size_le d (by omega) (by omega)
  have s1 : ¬ 9223372036854775807 < (nb s).size + 1 := by omega
  have s2 : ¬ 9223372036854775807 < (nb s).size + 1 + (nb d).size := by omega
  have hgo := spec_side l s d (by omega) 30 (by omega)
  rw [h] at hgo
  have G0 := Aside0.mk hgo
  have G1 := Aside0.mk (l01Num_f s (by omega) (by omega) 50 (by omega) (by omega))
  have G2 := Aside0.mk (l01Num_f d (by omega) (by omega) 50 (by omega) (by omega))
  have HP := Aside0.mk hp
  clear hgo hp
  have HR := Aside0.mk hr
  clear hr
  have hu43 := Tryz.underlying43
  have hu118 := Tryz.underlying118
  have HB := Aside0.mk (Below.refl w.heap.size w)
  go_enter Tryz.func41, Tryz.ntmps41
  go_wp2_with (first | ((with_reducible refine gate_dst (N := 1) rfl ?_); refine box_event ?hg (N := 1) ?hd (cs := #[.slice A0 l.length c0, .int .i64 s, .int .i64 d]) (t := 43) ?hr ?_; (case hd => rfl); (case hg => rfl); (case hr => first | (go_simp; done) | (go_simp; rfl)); intro gb hg w4 hbox hb; have BK := Aside0.mk hbox; have GE := Aside0.mk (bs_ hg (hb0_)); replace HB := Aside0.mk (below_step hb0_ hb); clear hb hbox hg; obtain ⟨⟨cz0, fz0⟩, ⟨cz1, fz1⟩, ⟨cz2, fz2⟩⟩ := bc3_ BK) | (go_at_call 71; (with_reducible refine (spec_SideOk.calls _ _ _ _ _ _ _ _ ?side1 hc G0.out).mono ?_); (case side1 => exact Kd.C_below HR.out HB.out); rintro e w5 ⟨rfl, hb⟩; replace BK := bb_ BK hb; replace HB := Aside0.mk (below_step (hb1_ GE) hb); clear hb; obtain ⟨⟨cy0, fy0⟩, ⟨cy1, fy1⟩, ⟨cy2, fy2⟩⟩ := bc3_ BK))
  go_region_held3 (fun w' => w'.cell? ⟨gb, 0, none⟩ = some (.slice A0 l.length c0) ∧ w'.cell? ⟨gb, 1, none⟩ = some (.int .i64 s) ∧ w'.cell? ⟨gb, 2, none⟩ = some (.int .i64 d)) ((first | (go_split_ands; refine ⟨?_, ?_, ?_⟩ <;> (refine pw_cell_below (by assumption) ?_; assumption)) | go_keep)) (first | (go_at_call 20; (with_reducible refine (spec_l01Num.calls _ _ _ _ G1.out).mono ?_); rintro e w6 ⟨rfl, hb6⟩) | (go_at_call 20; (with_reducible refine (spec_l01Num.calls _ _ _ _ G2.out).mono ?_); rintro e w7 ⟨rfl, hb7⟩))
  replace BK := Aside0.mk (blk_below (blk_below (blk_drew BK.out) hb6) hb7)
  replace HB := Aside0.mk (below_step (below_step (below_drew1 HB.out) hb6) hb7)
  go_wp2
  go_loopg [3, 4] (l.length + 1) (fun kq v3 v4 w' => ∃ (n : Nat) (x : ByteArray), v4 = .int .i64 (n : Int) ∧ v3 = .string x ∧ Aside0 (kq + n = l.length + 1 ∧ n ≤ l.length) ∧ Aside0 (x.data.toList = sl (l.take n) s d ∧ x.size ≤ 100 + 100 * n) ∧ Aside0 (w'.heap[gb]? = some (.cells #[.slice A0 l.length c0, .int .i64 s, .int .i64 d] 43 (0, 0))) ∧ Aside0 (Below w.heap.size w w'))
  case atStart => exact ⟨0, _, rfl, rfl, ⟨by omega, by omega⟩, ⟨by simp [sl, nb, ba_data_append], by rw [ByteArray.size_append, ByteArray.size_append]; show (nb s).size + 1 + (nb d).size ≤ _; omega⟩, BK, HB⟩
  case round =>
    clear BK HB hb6 hb7 cz0 cz1 cz2 cy0 cy1 cy2
    obtain ⟨n, x, rfl, rfl, HK, HX, BK, HB⟩ := hrel
    obtain ⟨⟨cz0, fz0⟩, ⟨cz1, fz1⟩, ⟨cz2, fz2⟩⟩ := bc3_ BK
    cases gk with
    | zero => exact absurd HK.out.1 (by have := HK.out.2; omega)
    | succ k1 =>
      by_cases hlt : n < l.length
      · obtain ⟨⟨p1, p2⟩, ⟨p3, p4⟩, p5, p6⟩ := HP.out n hlt
        have q1 := nb_size_le (rd_T118 l n).f0 (by omega) (by omega)
        have q2 := nb_size_le (rd_T118 l n).f1 (by omega) (by omega)
        have q3 := nb_size_le (rd_T118 l n).f2 (by omega) (by omega)
        have qx := HX.out.2
        have t1 : ¬ 9223372036854775807 < x.size + 1 := by omega
        have t2 : ¬ 9223372036854775807 < x.size + 1 + (nb (rd_T118 l n).f0).size := by omega
        have t3 : ¬ 9223372036854775807 < x.size + 1 + (nb (rd_T118 l n).f0).size + 1 := by omega
        have t4 : ¬ 9223372036854775807 < x.size + 1 + (nb (rd_T118 l n).f0).size + 1 + (nb (rd_T118 l n).f1).size := by omega
        have t5 : ¬ 9223372036854775807 < x.size + 1 + (nb (rd_T118 l n).f0).size + 1 + (nb (rd_T118 l n).f1).size + 1 := by omega
        have t6 : ¬ 9223372036854775807 < x.size + 1 + (nb (rd_T118 l n).f0).size + 1 + (nb (rd_T118 l n).f1).size + 1 + (nb (rd_T118 l n).f2).size := by omega
        have F1 := Aside0.mk (l01Num_f (rd_T118 l n).f0 (by omega) (by omega) 50 (by omega) (by omega))
        have F2 := Aside0.mk (l01Num_f (rd_T118 l n).f1 (by omega) (by omega) 50 (by omega) (by omega))
        have F3 := Aside0.mk (l01Num_f (rd_T118 l n).f2 (by omega) (by omega) 50 (by omega) (by omega))
        obtain ⟨ad, e0, hx0, hx1, hx2⟩ := at_T118 (Kd.C_below HR.out HB.out) (n : Int) (by omega) (by omega)
        subst e0
        simp only [Int.toNat_natCast] at hx0 hx1 hx2
        have d1 : decide ((n : Int) < (l.length : Int)) = true := decide_eq_true (by omega)
        have d2 : decide (n < l.length) = true := decide_eq_true hlt
        have HLT := Aside0.mk hlt
        clear p1 p2 p3 p4 p5 p6
        go_wp2
        go_region_held3 (fun w' => w'.cell? ⟨wr.heap.size, 0, none⟩ = some (.int .i64 (rd_T118 l n).f0) ∧ w'.cell? ⟨wr.heap.size, 1, none⟩ = some (.int .i64 (rd_T118 l n).f1) ∧ w'.cell? ⟨wr.heap.size, 2, none⟩ = some (.int .i64 (rd_T118 l n).f2)) ((first | (go_split_ands; refine ⟨?_, ?_, ?_⟩ <;> (refine pw_cell_below (by assumption) ?_; assumption)) | go_keep)) (first | (go_at_call 20; (with_reducible refine (spec_l01Num.calls _ _ _ _ F1.out).mono ?_); rintro e w8 ⟨rfl, hb8⟩) | (go_at_call 20; (with_reducible refine (spec_l01Num.calls _ _ _ _ F2.out).mono ?_); rintro e w9 ⟨rfl, hb9⟩) | (go_at_call 20; (with_reducible refine (spec_l01Num.calls _ _ _ _ F3.out).mono ?_); rintro e w10 ⟨rfl, hb10⟩))
        go_wp2
        have HB3 := below_step (below_step (below_step (below_drew1 (below_alloc HB.out _)) hb8) hb9) hb10
        have BK3 := blk_below (blk_below (blk_below (blk_drew (blk_alloc BK.out _)) hb8) hb9) hb10
        go_roundg k1
        case measure => omega
        case rel => exact ⟨n + 1, _, rfl, rfl, ⟨by have := HK.out; omega, by have := HLT.out; omega⟩, ⟨by rw [sl_step l s d n HLT.out, ← HX.out.1]; simp [pol, nb, ba_data_append], by simp only [ByteArray.size_append]; show x.size + 1 + _ + 1 + _ + 1 + _ ≤ _; omega⟩, ⟨BK3⟩, ⟨HB3⟩⟩
      · have en : n = l.length := by have := HK.out; omega
        subst en
        have hx := HX.out.1
        rw [List.take_length] at hx
        have d1 : decide (l.length < l.length) = false := decide_eq_false (Nat.lt_irrefl _)
        have HX' := Aside0.mk hx
        clear hx hlt
        go_wp2
        go_ret
        exact ⟨ret_s HX'.out, HB.out⟩
set_option maxRecDepth 100000 in
set_option maxHeartbeats 8000000 in
theorem impl_SideText.good (A0 : Option Addr) (c0 : Nat) (l : List S118) (s d : Int) (w : World) (hLd : Laid w) (hr : Kd.C k118 w A0 l.length l) (hc : l.length ≤ c0) (h : sideB l s d = true) : Calls Tryz.prog 57 #[.agg #[.slice A0 l.length c0, .int .i64 s, .int .i64 d]] w fun e w' => e = .returned (.string (slb l s d)) ∧ Below w.heap.size w w' := by
  obtain ⟨hl, ⟨hs1, hs2⟩, ⟨hd1, hd2⟩, hp⟩ := sideB_out h
  have ha := nb_size_le s (by omega) (by omega)
  have hb := nb_size_le d (by omega) (by omega)
  have hgo := impl_side l s d (by omega) 30 (by omega)
  rw [h] at hgo
  have G0 := Aside0.mk hgo
  have G1 := Aside0.mk (num_f s (by omega) (by omega))
  have G2 := Aside0.mk (num_f d (by omega) (by omega))
  have ha' : (Go.Lib.itoa s).length ≤ 21 := ha
  have hb' : (Go.Lib.itoa d).length ≤ 21 := hb
  have G3 := Aside0.mk (words_f [nb s, nb d] (by simp) (by simp [cat, nb]; omega))
  have HLd := Aside0.mk hLd
  clear hLd ha' hb'
  have HP := Aside0.mk hp
  clear hgo hp
  have HR := Aside0.mk hr
  clear hr
  have hu43 := Tryz.underlying43
  have hu118 := Tryz.underlying118
  have HB := Aside0.mk (Below.refl w.heap.size w)
  go_enter Tryz.func57, Tryz.ntmps57
  go_wp2_with (first | ((with_reducible refine gate_dst (N := 1) rfl ?_); refine box_event ?hg (N := 1) ?hd (cs := #[.slice A0 l.length c0, .int .i64 s, .int .i64 d]) (t := 43) ?hr ?_; (case hd => rfl); (case hg => rfl); (case hr => first | (go_simp; done) | (go_simp; rfl)); intro gb hg w4 hbox hb; have BK := Aside0.mk hbox; have GE := Aside0.mk (bs_ hg (hb0_)); replace HB := Aside0.mk (below_step hb0_ hb); clear hb hbox hg; obtain ⟨⟨cz0, fz0⟩, ⟨cz1, fz1⟩, ⟨cz2, fz2⟩⟩ := bc3_ BK) | (go_at_call 94; (with_reducible refine (impl_SideOk.calls _ _ _ _ _ _ _ _ ?side1 hc G0.out).mono ?_); (case side1 => exact Kd.C_below HR.out HB.out); rintro e w5 ⟨rfl, hb⟩; replace BK := bb_ BK hb; replace HB := Aside0.mk (below_step (hb1_ GE) hb); clear hb; obtain ⟨⟨cy0, fy0⟩, ⟨cy1, fy1⟩, ⟨cy2, fy2⟩⟩ := bc3_ BK))
  go_region_held3 (fun w' => w'.cell? ⟨gb, 0, none⟩ = some (.slice A0 l.length c0) ∧ w'.cell? ⟨gb, 1, none⟩ = some (.int .i64 s) ∧ w'.cell? ⟨gb, 2, none⟩ = some (.int .i64 d)) ((first | (go_split_ands; refine ⟨?_, ?_, ?_⟩ <;> (refine pw_cell_below (by assumption) ?_; assumption)) | go_keep)) (first | (go_at_call 27; (with_reducible refine (impl_number.calls _ _ _ (Laid.below (below_drew1 HB.out) HLd.out) G1.out).mono ?_); rintro e w6 ⟨rfl, hb6⟩) | (go_at_call 27; (with_reducible refine (impl_number.calls _ _ _ (Laid.below (below_step (below_drew1 HB.out) hb6) HLd.out) G2.out).mono ?_); rintro e w7 ⟨rfl, hb7⟩) | (go_at_call 28; (refine (impl_words.calls _ 2 [nb s, nb d] _ _ (C_lit _ _ _ (by simp)) (by simp) G3.out).mono ?_); rintro e w8 ⟨rfl, hb8⟩))
  replace BK := Aside0.mk (blk_below (blk_alloc (blk_below (blk_below (blk_drew BK.out) hb6) hb7) _) hb8)
  replace HB := Aside0.mk (below_step (below_alloc (below_step (below_step (below_drew1 HB.out) hb6) hb7) _) hb8)
  obtain ⟨⟨cz0, fz0⟩, ⟨cz1, fz1⟩, ⟨cz2, fz2⟩⟩ := bc3_ BK
  go_wp2
  go_loopg [3, 20] (l.length + 1) (fun kq v3 v4 w' => ∃ (n : Nat) (x : ByteArray), v4 = .int .i64 (n : Int) ∧ v3 = .string x ∧ Aside0 (kq + n = l.length + 1 ∧ n ≤ l.length) ∧ Aside0 (x.data.toList = sl (l.take n) s d ∧ x.size ≤ 100 + 100 * n) ∧ Aside0 (w'.heap[gb]? = some (.cells #[.slice A0 l.length c0, .int .i64 s, .int .i64 d] 43 (0, 0))) ∧ Aside0 (Below w.heap.size w w'))
  case atStart => exact ⟨0, _, rfl, rfl, ⟨by omega, by omega⟩, ⟨by simp [sl, nb, cat], by show (cat 32 [Go.Lib.itoa s, Go.Lib.itoa d]).toArray.size ≤ _; have ha' : (Go.Lib.itoa s).length ≤ 21 := ha; have hb' : (Go.Lib.itoa d).length ≤ 21 := hb; simp [cat]; omega⟩, BK, HB⟩
  case round =>
    clear BK HB hb6 hb7 hb8 cz0 cz1 cz2 cy0 cy1 cy2
    obtain ⟨n, x, rfl, rfl, HK, HX, BK, HB⟩ := hrel
    obtain ⟨⟨cz0, fz0⟩, ⟨cz1, fz1⟩, ⟨cz2, fz2⟩⟩ := bc3_ BK
    cases gk with
    | zero => exact absurd HK.out.1 (by have := HK.out.2; omega)
    | succ k1 =>
      by_cases hlt : n < l.length
      · obtain ⟨⟨p1, p2⟩, ⟨p3, p4⟩, p5, p6⟩ := HP.out n hlt
        have q1 := nb_size_le (rd_T118 l n).f0 (by omega) (by omega)
        have q2 := nb_size_le (rd_T118 l n).f1 (by omega) (by omega)
        have q3 := nb_size_le (rd_T118 l n).f2 (by omega) (by omega)
        have qx := HX.out.2
        have t1 : ¬ 9223372036854775807 < 1 + (nb (rd_T118 l n).f0).size := by omega
        have t2 : ¬ 9223372036854775807 < 1 + (nb (rd_T118 l n).f0).size + 1 := by omega
        have t3 : ¬ 9223372036854775807 < 1 + (nb (rd_T118 l n).f0).size + 1 + (nb (rd_T118 l n).f1).size := by omega
        have t4 : ¬ 9223372036854775807 < 1 + (nb (rd_T118 l n).f0).size + 1 + (nb (rd_T118 l n).f1).size + 1 := by omega
        have t5 : ¬ 9223372036854775807 < 1 + (nb (rd_T118 l n).f0).size + 1 + (nb (rd_T118 l n).f1).size + 1 + (nb (rd_T118 l n).f2).size := by omega
        have t6 : ¬ 9223372036854775807 < x.size + (1 + (nb (rd_T118 l n).f0).size + 1 + (nb (rd_T118 l n).f1).size + 1 + (nb (rd_T118 l n).f2).size) := by omega
        have F1 := Aside0.mk (num_f (rd_T118 l n).f0 (by omega) (by omega))
        have F2 := Aside0.mk (num_f (rd_T118 l n).f1 (by omega) (by omega))
        have F3 := Aside0.mk (num_f (rd_T118 l n).f2 (by omega) (by omega))
        obtain ⟨ad, e0, hx0, hx1, hx2⟩ := at_T118 (Kd.C_below HR.out HB.out) (n : Int) (by omega) (by omega)
        subst e0
        simp only [Int.toNat_natCast] at hx0 hx1 hx2
        have d1 : decide ((n : Int) < (l.length : Int)) = true := decide_eq_true (by omega)
        have d2 : decide (n < l.length) = true := decide_eq_true hlt
        have HLT := Aside0.mk hlt
        clear p1 p2 p3 p4 p5 p6
        go_wp2
        go_region_held3 (fun w' => w'.cell? ⟨wr.heap.size, 0, none⟩ = some (.int .i64 (rd_T118 l n).f0) ∧ w'.cell? ⟨wr.heap.size, 1, none⟩ = some (.int .i64 (rd_T118 l n).f1) ∧ w'.cell? ⟨wr.heap.size, 2, none⟩ = some (.int .i64 (rd_T118 l n).f2)) ((first | (go_split_ands; refine ⟨?_, ?_, ?_⟩ <;> (refine pw_cell_below (by assumption) ?_; assumption)) | go_keep)) (first | (go_at_call 27; (with_reducible refine (impl_number.calls _ _ _ (Laid.below (below_drew1 (below_alloc HB.out _)) HLd.out) F1.out).mono ?_); rintro e w9 ⟨rfl, hb9⟩) | (go_at_call 27; (with_reducible refine (impl_number.calls _ _ _ (Laid.below (below_step (below_drew1 (below_alloc HB.out _)) hb9) HLd.out) F2.out).mono ?_); rintro e w10 ⟨rfl, hb10⟩) | (go_at_call 27; (with_reducible refine (impl_number.calls _ _ _ (Laid.below (below_step (below_step (below_drew1 (below_alloc HB.out _)) hb9) hb10) HLd.out) F3.out).mono ?_); rintro e w11 ⟨rfl, hb11⟩))
        go_wp2
        have HB3 := below_step (below_step (below_step (below_drew1 (below_alloc HB.out _)) hb9) hb10) hb11
        have BK3 := blk_below (blk_below (blk_below (blk_drew (blk_alloc BK.out _)) hb9) hb10) hb11
        go_roundg k1
        case measure => omega
        case rel => exact ⟨n + 1, _, rfl, rfl, ⟨by have := HK.out; omega, by have := HLT.out; omega⟩, ⟨by rw [sl_step l s d n HLT.out, ← HX.out.1]; simp [pol, nb, ba_data_append], by simp only [ByteArray.size_append]; show x.size + (1 + _ + 1 + _ + 1 + _) ≤ _; omega⟩, ⟨BK3⟩, ⟨HB3⟩⟩
      · have en : n = l.length := by have := HK.out; omega
        subst en
        have hx := HX.out.1
        rw [List.take_length] at hx
        have d1 : decide (l.length < l.length) = false := decide_eq_false (Nat.lt_irrefl _)
        have HX' := Aside0.mk hx
        clear hx hlt
        go_wp2
        go_ret
        exact ⟨ret_s HX'.out, HB.out⟩
set_option maxRecDepth 100000 in
set_option maxHeartbeats 16000000 in
theorem spec_SetupOk.good (s : SU) (G U D : Option Addr) (cg cu cd : Nat) (w : World) (hs : s.Small) (hR : s.Rd w G U D cg cu cd) : Calls Tryz.prog 39 #[s.agg G U D cg cu cd] w fun e w' => e = .returned (.bool (setB s)) ∧ Below w.heap.size w w' := by
  obtain ⟨s0, s1, s2, s3⟩ := hs
  have GR := Aside0.mk (spec_rules s.d s.f s.n)
  have GB := Aside0.mk (spec_beh s.ul s.us s.uw s.dl s.ds s.dw s.mn s.mx (by omega) (by omega) 1048600 (by omega) (by omega))
  have GI := Aside0.mk (spec_in s.g.length 1 3)
  have HR := Aside0.mk hR
  have HM := Aside0.mk s3
  clear hR s3
  have hu47 := Tryz.underlying47
  have hu39 := Tryz.underlying39
  have hu45 := Tryz.underlying45
  have HB := Aside0.mk (Below.refl w.heap.size w)
  have E0 : Aside0 (setB s = (rulesB s.d s.f s.n && (behB s.ul s.us s.uw s.dl s.ds s.dw s.mn s.mx && (inB s.g.length 1 3 && gok s.g)))) := ⟨rfl⟩
  generalize setB s = R at E0
  generalize rulesB s.d s.f s.n = r1 at GR E0
  generalize behB s.ul s.us s.uw s.dl s.ds s.dw s.mn s.mx = r2 at GB E0
  cases r1 with
  | false =>
    go_enter Tryz.func39, Tryz.ntmps39
    go_wp2_with (first | ((with_reducible refine gate_dst (N := 1) rfl ?_); refine box_event ?hg (N := 1) ?hd (cs := #[.int .i64 s.d, .int .i64 s.f, .int .i64 s.n, .slice G s.g.length cg, .slice U s.ul.length cu, .int .i64 s.us, .int .i64 s.uw, .slice D s.dl.length cd, .int .i64 s.ds, .int .i64 s.dw, .int .i64 s.mn, .int .i64 s.mx]) (t := 47) ?hr ?_; (case hd => rfl); (case hg => rfl); (case hr => first | (go_simp; done) | (go_simp; rfl)); intro gb hg wb hbox hb; have BKb := Aside0.mk hbox; have GEb := Aside0.mk (bs_ hg (hb0_)); replace HB := Aside0.mk (below_step hb0_ hb); clear hb hbox hg; obtain ⟨⟨bz0, bf0⟩, ⟨bz1, bf1⟩, ⟨bz2, bf2⟩, ⟨bz3, bf3⟩, ⟨bz4, bf4⟩, ⟨bz5, bf5⟩, ⟨bz6, bf6⟩, ⟨bz7, bf7⟩, ⟨bz8, bf8⟩, ⟨bz9, bf9⟩, ⟨bz10, bf10⟩, ⟨bz11, bf11⟩⟩ := bc12_ BKb) | (go_at_call 66; (with_reducible refine (spec_RulesOk.calls _ _ _ _ _ GR.out).mono ?_); rintro e w5 ⟨rfl, hb⟩; replace BKb := bb_ BKb hb; replace HB := Aside0.mk (below_step (hb1_ GEb) hb); clear hb; obtain ⟨⟨bw5z0, bw5f0⟩, ⟨bw5z1, bw5f1⟩, ⟨bw5z2, bw5f2⟩, ⟨bw5z3, bw5f3⟩, ⟨bw5z4, bw5f4⟩, ⟨bw5z5, bw5f5⟩, ⟨bw5z6, bw5f6⟩, ⟨bw5z7, bw5f7⟩, ⟨bw5z8, bw5f8⟩, ⟨bw5z9, bw5f9⟩, ⟨bw5z10, bw5f10⟩, ⟨bw5z11, bw5f11⟩⟩ := bc12_ BKb))
    go_ret
    exact ⟨by rw [E0.out]; rfl, hb1_ GEb⟩
  | true =>
    cases r2 with
    | false =>
      go_enter Tryz.func39, Tryz.ntmps39
      go_wp2_with (first | ((with_reducible refine gate_dst (N := 1) rfl ?_); refine box_event ?hg (N := 1) ?hd (cs := #[.int .i64 s.d, .int .i64 s.f, .int .i64 s.n, .slice G s.g.length cg, .slice U s.ul.length cu, .int .i64 s.us, .int .i64 s.uw, .slice D s.dl.length cd, .int .i64 s.ds, .int .i64 s.dw, .int .i64 s.mn, .int .i64 s.mx]) (t := 47) ?hr ?_; (case hd => rfl); (case hg => rfl); (case hr => first | (go_simp; done) | (go_simp; rfl)); intro gb hg wb hbox hb; have BKb := Aside0.mk hbox; have GEb := Aside0.mk (bs_ hg (hb0_)); replace HB := Aside0.mk (below_step hb0_ hb); clear hb hbox hg; obtain ⟨⟨bz0, bf0⟩, ⟨bz1, bf1⟩, ⟨bz2, bf2⟩, ⟨bz3, bf3⟩, ⟨bz4, bf4⟩, ⟨bz5, bf5⟩, ⟨bz6, bf6⟩, ⟨bz7, bf7⟩, ⟨bz8, bf8⟩, ⟨bz9, bf9⟩, ⟨bz10, bf10⟩, ⟨bz11, bf11⟩⟩ := bc12_ BKb) | (go_at_call 66; (with_reducible refine (spec_RulesOk.calls _ _ _ _ _ GR.out).mono ?_); rintro e w5 ⟨rfl, hb⟩; replace BKb := bb_ BKb hb; replace HB := Aside0.mk (below_step (hb1_ GEb) hb); clear hb; obtain ⟨⟨bw5z0, bw5f0⟩, ⟨bw5z1, bw5f1⟩, ⟨bw5z2, bw5f2⟩, ⟨bw5z3, bw5f3⟩, ⟨bw5z4, bw5f4⟩, ⟨bw5z5, bw5f5⟩, ⟨bw5z6, bw5f6⟩, ⟨bw5z7, bw5f7⟩, ⟨bw5z8, bw5f8⟩, ⟨bw5z9, bw5f9⟩, ⟨bw5z10, bw5f10⟩, ⟨bw5z11, bw5f11⟩⟩ := bc12_ BKb) | (go_at_call 67; (with_reducible refine (spec_BehaveOk.calls _ _ _ _ _ _ _ _ _ _ _ _ _ _ _ (Kd.C_below HR.out.u HB.out) HR.out.cu (Kd.C_below HR.out.d HB.out) HR.out.cd GB.out).mono ?_); rintro e w6 ⟨rfl, hb⟩; replace BKb := bb_ BKb hb; replace HB := Aside0.mk (below_step (hb1_ GEb) hb); clear hb; obtain ⟨⟨bw6z0, bw6f0⟩, ⟨bw6z1, bw6f1⟩, ⟨bw6z2, bw6f2⟩, ⟨bw6z3, bw6f3⟩, ⟨bw6z4, bw6f4⟩, ⟨bw6z5, bw6f5⟩, ⟨bw6z6, bw6f6⟩, ⟨bw6z7, bw6f7⟩, ⟨bw6z8, bw6f8⟩, ⟨bw6z9, bw6f9⟩, ⟨bw6z10, bw6f10⟩, ⟨bw6z11, bw6f11⟩⟩ := bc12_ BKb))
      go_ret
      exact ⟨by rw [E0.out]; rfl, hb1_ GEb⟩
    | true =>
      cases hi : inB s.g.length 1 3 with
      | false =>
        rw [hi] at GI E0
        go_enter Tryz.func39, Tryz.ntmps39
        go_wp2_with (first | ((with_reducible refine gate_dst (N := 1) rfl ?_); refine box_event ?hg (N := 1) ?hd (cs := #[.int .i64 s.d, .int .i64 s.f, .int .i64 s.n, .slice G s.g.length cg, .slice U s.ul.length cu, .int .i64 s.us, .int .i64 s.uw, .slice D s.dl.length cd, .int .i64 s.ds, .int .i64 s.dw, .int .i64 s.mn, .int .i64 s.mx]) (t := 47) ?hr ?_; (case hd => rfl); (case hg => rfl); (case hr => first | (go_simp; done) | (go_simp; rfl)); intro gb hg wb hbox hb; have BKb := Aside0.mk hbox; have GEb := Aside0.mk (bs_ hg (hb0_)); replace HB := Aside0.mk (below_step hb0_ hb); clear hb hbox hg; obtain ⟨⟨bz0, bf0⟩, ⟨bz1, bf1⟩, ⟨bz2, bf2⟩, ⟨bz3, bf3⟩, ⟨bz4, bf4⟩, ⟨bz5, bf5⟩, ⟨bz6, bf6⟩, ⟨bz7, bf7⟩, ⟨bz8, bf8⟩, ⟨bz9, bf9⟩, ⟨bz10, bf10⟩, ⟨bz11, bf11⟩⟩ := bc12_ BKb) | (go_at_call 66; (with_reducible refine (spec_RulesOk.calls _ _ _ _ _ GR.out).mono ?_); rintro e w5 ⟨rfl, hb⟩; replace BKb := bb_ BKb hb; replace HB := Aside0.mk (below_step (hb1_ GEb) hb); clear hb; obtain ⟨⟨bw5z0, bw5f0⟩, ⟨bw5z1, bw5f1⟩, ⟨bw5z2, bw5f2⟩, ⟨bw5z3, bw5f3⟩, ⟨bw5z4, bw5f4⟩, ⟨bw5z5, bw5f5⟩, ⟨bw5z6, bw5f6⟩, ⟨bw5z7, bw5f7⟩, ⟨bw5z8, bw5f8⟩, ⟨bw5z9, bw5f9⟩, ⟨bw5z10, bw5f10⟩, ⟨bw5z11, bw5f11⟩⟩ := bc12_ BKb) | (go_at_call 67; (with_reducible refine (spec_BehaveOk.calls _ _ _ _ _ _ _ _ _ _ _ _ _ _ _ (Kd.C_below HR.out.u HB.out) HR.out.cu (Kd.C_below HR.out.d HB.out) HR.out.cd GB.out).mono ?_); rintro e w6 ⟨rfl, hb⟩; replace BKb := bb_ BKb hb; replace HB := Aside0.mk (below_step (hb1_ GEb) hb); clear hb; obtain ⟨⟨bw6z0, bw6f0⟩, ⟨bw6z1, bw6f1⟩, ⟨bw6z2, bw6f2⟩, ⟨bw6z3, bw6f3⟩, ⟨bw6z4, bw6f4⟩, ⟨bw6z5, bw6f5⟩, ⟨bw6z6, bw6f6⟩, ⟨bw6z7, bw6f7⟩, ⟨bw6z8, bw6f8⟩, ⟨bw6z9, bw6f9⟩, ⟨bw6z10, bw6f10⟩, ⟨bw6z11, bw6f11⟩⟩ := bc12_ BKb) | (go_at_call 68; (with_reducible refine (spec_l01In.calls _ _ _ _ _ GI.out).mono ?_); rintro e w' ⟨rfl, ⟨nd, rfl⟩⟩))
        go_ret
        exact ⟨by rw [E0.out]; rfl, hb1_ GEb⟩
      | true =>
        have hlen := inB_iff.1 hi
        rw [hi] at GI E0
        clear hi
        go_enter Tryz.func39, Tryz.ntmps39
        go_wp2_with (first | ((with_reducible refine gate_dst (N := 1) rfl ?_); refine box_event ?hg (N := 1) ?hd (cs := #[.int .i64 s.d, .int .i64 s.f, .int .i64 s.n, .slice G s.g.length cg, .slice U s.ul.length cu, .int .i64 s.us, .int .i64 s.uw, .slice D s.dl.length cd, .int .i64 s.ds, .int .i64 s.dw, .int .i64 s.mn, .int .i64 s.mx]) (t := 47) ?hr ?_; (case hd => rfl); (case hg => rfl); (case hr => first | (go_simp; done) | (go_simp; rfl)); intro gb hg wb hbox hb; have BKb := Aside0.mk hbox; have GEb := Aside0.mk (bs_ hg (hb0_)); replace HB := Aside0.mk (below_step hb0_ hb); clear hb hbox hg; obtain ⟨⟨bz0, bf0⟩, ⟨bz1, bf1⟩, ⟨bz2, bf2⟩, ⟨bz3, bf3⟩, ⟨bz4, bf4⟩, ⟨bz5, bf5⟩, ⟨bz6, bf6⟩, ⟨bz7, bf7⟩, ⟨bz8, bf8⟩, ⟨bz9, bf9⟩, ⟨bz10, bf10⟩, ⟨bz11, bf11⟩⟩ := bc12_ BKb) | (go_at_call 66; (with_reducible refine (spec_RulesOk.calls _ _ _ _ _ GR.out).mono ?_); rintro e w5 ⟨rfl, hb⟩; replace BKb := bb_ BKb hb; replace HB := Aside0.mk (below_step (hb1_ GEb) hb); clear hb; obtain ⟨⟨bw5z0, bw5f0⟩, ⟨bw5z1, bw5f1⟩, ⟨bw5z2, bw5f2⟩, ⟨bw5z3, bw5f3⟩, ⟨bw5z4, bw5f4⟩, ⟨bw5z5, bw5f5⟩, ⟨bw5z6, bw5f6⟩, ⟨bw5z7, bw5f7⟩, ⟨bw5z8, bw5f8⟩, ⟨bw5z9, bw5f9⟩, ⟨bw5z10, bw5f10⟩, ⟨bw5z11, bw5f11⟩⟩ := bc12_ BKb) | (go_at_call 67; (with_reducible refine (spec_BehaveOk.calls _ _ _ _ _ _ _ _ _ _ _ _ _ _ _ (Kd.C_below HR.out.u HB.out) HR.out.cu (Kd.C_below HR.out.d HB.out) HR.out.cd GB.out).mono ?_); rintro e w6 ⟨rfl, hb⟩; replace BKb := bb_ BKb hb; replace HB := Aside0.mk (below_step (hb1_ GEb) hb); clear hb; obtain ⟨⟨bw6z0, bw6f0⟩, ⟨bw6z1, bw6f1⟩, ⟨bw6z2, bw6f2⟩, ⟨bw6z3, bw6f3⟩, ⟨bw6z4, bw6f4⟩, ⟨bw6z5, bw6f5⟩, ⟨bw6z6, bw6f6⟩, ⟨bw6z7, bw6f7⟩, ⟨bw6z8, bw6f8⟩, ⟨bw6z9, bw6f9⟩, ⟨bw6z10, bw6f10⟩, ⟨bw6z11, bw6f11⟩⟩ := bc12_ BKb) | (go_at_call 68; (with_reducible refine (spec_l01In.calls _ _ _ _ _ GI.out).mono ?_); rintro e w' ⟨rfl, ⟨nd, rfl⟩⟩))
        go_loopg [3] (s.g.length + 1) (fun kq v3 w' => ∃ n : Nat, v3 = .int .i64 (n : Int) ∧ Aside0 (kq + n = s.g.length + 1 ∧ n ≤ s.g.length) ∧ Aside0 (∀ j, j < n → okAt s.g j = true) ∧ Aside0 (w'.heap[gb]? = some (.cells #[.int .i64 s.d, .int .i64 s.f, .int .i64 s.n, .slice G s.g.length cg, .slice U s.ul.length cu, .int .i64 s.us, .int .i64 s.uw, .slice D s.dl.length cd, .int .i64 s.ds, .int .i64 s.dw, .int .i64 s.mn, .int .i64 s.mx] 47 (0, 0))) ∧ Aside0 (Below w.heap.size w w'))
        case atStart => exact ⟨0, rfl, ⟨by omega, by omega⟩, ⟨fun j h => absurd h (Nat.not_lt_zero _)⟩, ⟨blk_drewN BKb.out _⟩, ⟨pw_below_drewN HB.out _⟩⟩
        case round =>
          clear BKb HB
          obtain ⟨n, rfl, HK, HJ, BKb, HB⟩ := hrel
          obtain ⟨⟨bz0, bf0⟩, ⟨bz1, bf1⟩, ⟨bz2, bf2⟩, ⟨bz3, bf3⟩, ⟨bz4, bf4⟩, ⟨bz5, bf5⟩, ⟨bz6, bf6⟩, ⟨bz7, bf7⟩, ⟨bz8, bf8⟩, ⟨bz9, bf9⟩, ⟨bz10, bf10⟩, ⟨bz11, bf11⟩⟩ := bc12_ BKb
          cases gk with
          | zero => exact absurd HK.out.1 (by have := HK.out.2; omega)
          | succ k1 =>
            by_cases hlt : n < s.g.length
            · obtain ⟨ad, e0, hx0, hx1, hx2⟩ := at_T90 (HR.out.below HB.out).g (n : Int) (by omega) (by omega)
              subst e0
              simp only [Int.toNat_natCast] at hx0 hx1 hx2
              have d1 : decide ((n : Int) < (s.g.length : Int)) = true := decide_eq_true (by omega)
              have d2 : decide (n < s.g.length) = true := decide_eq_true hlt
              have HLT := Aside0.mk hlt
              have GG := Aside0.mk (spec_goal (rd_T90 s.g n) (by have := HM.out n hlt; omega) 1048600 (by have := HM.out n hlt; omega))
              cases hgb : goalB (rd_T90 s.g n) with
              | false =>
                rw [hgb] at GG
                have hno := gok_no s.g n hlt (by simp [okAt, hgb])
                rw [hno] at E0
                clear hno hgb
                go_wp2_with (first | (go_at_call 69; (with_reducible refine (spec_GoalOk.calls _ _ _ _ _ _ GG.out).mono ?_); rintro e w8 ⟨rfl, hb⟩; replace BKb := bb_ BKb hb; replace HB := Aside0.mk (below_step (hb1_ GEb) hb); clear hb; obtain ⟨⟨bw8z0, bw8f0⟩, ⟨bw8z1, bw8f1⟩, ⟨bw8z2, bw8f2⟩, ⟨bw8z3, bw8f3⟩, ⟨bw8z4, bw8f4⟩, ⟨bw8z5, bw8f5⟩, ⟨bw8z6, bw8f6⟩, ⟨bw8z7, bw8f7⟩, ⟨bw8z8, bw8f8⟩, ⟨bw8z9, bw8f9⟩, ⟨bw8z10, bw8f10⟩, ⟨bw8z11, bw8f11⟩⟩ := bc12_ BKb))
                go_ret
                exact ⟨by rw [E0.out]; rfl, hb1_ GEb⟩
              | true =>
                rw [hgb] at GG
                have HGB := Aside0.mk hgb
                clear hgb
                go_wp2_with (first | (go_at_call 69; (with_reducible refine (spec_GoalOk.calls _ _ _ _ _ _ GG.out).mono ?_); rintro e w8 ⟨rfl, hb⟩; replace BKb := bb_ BKb hb; replace HB := Aside0.mk (below_step (hb1_ GEb) hb); clear hb; obtain ⟨⟨bw8z0, bw8f0⟩, ⟨bw8z1, bw8f1⟩, ⟨bw8z2, bw8f2⟩, ⟨bw8z3, bw8f3⟩, ⟨bw8z4, bw8f4⟩, ⟨bw8z5, bw8f5⟩, ⟨bw8z6, bw8f6⟩, ⟨bw8z7, bw8f7⟩, ⟨bw8z8, bw8f8⟩, ⟨bw8z9, bw8f9⟩, ⟨bw8z10, bw8f10⟩, ⟨bw8z11, bw8f11⟩⟩ := bc12_ BKb))
                go_loopg [4] (n + 1) (fun kq v4 w' => ∃ m : Nat, v4 = .int .i64 (m : Int) ∧ Aside0 (kq + m = n + 1 ∧ m ≤ n) ∧ Aside0 (∀ j, j < m → ((rd_T90 s.g j).f0.toList == (rd_T90 s.g n).f0.toList) = false) ∧ Aside0 (w'.heap[gb]? = some (.cells #[.int .i64 s.d, .int .i64 s.f, .int .i64 s.n, .slice (some ad) s.g.length cg, .slice U s.ul.length cu, .int .i64 s.us, .int .i64 s.uw, .slice D s.dl.length cd, .int .i64 s.ds, .int .i64 s.dw, .int .i64 s.mn, .int .i64 s.mx] 47 (0, 0))) ∧ Aside0 (Below w.heap.size w w'))
                case atStart => exact ⟨0, rfl, ⟨by omega, by omega⟩, ⟨fun j h => absurd h (Nat.not_lt_zero _)⟩, BKb, HB⟩
                case round =>
                  clear BKb HB
                  obtain ⟨m, rfl, HK2, HN, BKb, HB⟩ := hrel
                  obtain ⟨⟨bz0, bf0⟩, ⟨bz1, bf1⟩, ⟨bz2, bf2⟩, ⟨bz3, bf3⟩, ⟨bz4, bf4⟩, ⟨bz5, bf5⟩, ⟨bz6, bf6⟩, ⟨bz7, bf7⟩, ⟨bz8, bf8⟩, ⟨bz9, bf9⟩, ⟨bz10, bf10⟩, ⟨bz11, bf11⟩⟩ := bc12_ BKb
                  cases gk with
                  | zero => exact absurd HK2.out.1 (by have := HK2.out.2; omega)
                  | succ k2 =>
                    by_cases hm : m < n
                    · obtain ⟨ad1, e1, hx0, hx1, hx2⟩ := at_T90 (HR.out.below HB.out).g (n : Int) (by omega) (by omega)
                      injection e1 with e1
                      subst e1
                      obtain ⟨ad2, e1, hy0, hy1, hy2⟩ := at_T90 (HR.out.below HB.out).g (m : Int) (by omega) (by omega)
                      injection e1 with e1
                      subst e1
                      simp only [Int.toNat_natCast] at hx0 hx1 hx2 hy0 hy1 hy2
                      have d3 : decide ((m : Int) < (n : Int)) = true := decide_eq_true (by omega)
                      have d4 : decide (m < n) = true := decide_eq_true hm
                      have hm2 : m < s.g.length := by omega
                      cases he : ((rd_T90 s.g m).f0.toList == (rd_T90 s.g n).f0.toList) with
                      | true =>
                        have hno := gok_no s.g n HLT.out (by simp [okAt, dup_yes s.g n m (Nat.le_of_lt HLT.out) hm he])
                        rw [hno] at E0
                        clear hno
                        go_wp2
                        go_region_held3 (fun w' => w'.cell? ⟨gb, 3, none⟩ = some (.slice (some ad) s.g.length cg) ∧ w'.cell? (ad.add (n * 3)) = some (.string (rd_T90 s.g n).f0) ∧ w'.cell? (ad.add (m * 3)) = some (.string (rd_T90 s.g m).f0)) (go_keep) (fail)
                        go_wp2
                        go_ret
                        exact ⟨by rw [E0.out]; rfl, below_drew1 HB.out⟩
                      | false =>
                        have HE := Aside0.mk he
                        go_wp2
                        go_region_held3 (fun w' => w'.cell? ⟨gb, 3, none⟩ = some (.slice (some ad) s.g.length cg) ∧ w'.cell? (ad.add (n * 3)) = some (.string (rd_T90 s.g n).f0) ∧ w'.cell? (ad.add (m * 3)) = some (.string (rd_T90 s.g m).f0)) (go_keep) (fail)
                        go_wp2
                        go_roundg k2
                        case measure => omega
                        case rel => exact ⟨m + 1, rfl, ⟨by have := HK2.out; omega, by omega⟩, ⟨fun j hj => by rcases Nat.lt_succ_iff_lt_or_eq.1 hj with h | rfl; exact HN.out j h; exact HE.out⟩, ⟨blk_drew BKb.out⟩, ⟨below_drew1 HB.out⟩⟩
                    · have em : m = n := by have := HK2.out; omega
                      subst em
                      have d3 : decide (m < m) = false := decide_eq_false (Nat.lt_irrefl _)
                      have HOK : Aside0 (okAt s.g m = true) := ⟨by simp [okAt, HGB.out, dup_no s.g m (Nat.le_of_lt HLT.out) HN.out]⟩
                      go_wp2
                      go_roundg k1
                      case measure => omega
                      case rel => exact ⟨m + 1, rfl, ⟨by have := HK.out; omega, by have := HLT.out; omega⟩, ⟨fun j hj => by rcases Nat.lt_succ_iff_lt_or_eq.1 hj with h | rfl; exact HJ.out j h; exact HOK.out⟩, BKb, HB⟩
            · have en : n = s.g.length := by have := HK.out; omega
              subst en
              have d1 : decide (s.g.length < s.g.length) = false := decide_eq_false (Nat.lt_irrefl _)
              have hyes := gok_yes s.g HJ.out
              rw [hyes] at E0
              clear hyes hlt
              go_wp2
              go_ret
              exact ⟨by rw [E0.out]; rfl, HB.out⟩
def idxN (nm : ByteArray) : List S90 → Nat → Int
  | [], _ => -1
  | x :: t, n => bif x.f0.toList == nm.toList then (n : Int) else idxN nm t (n + 1)
theorem idxN_at (nm : ByteArray) (l : List S90) (n : Nat) (h : n < l.length) (b : Bool) (hb : ((rd_T90 l (n : Int)).f0.toList == nm.toList) = b) : idxN nm (l.drop n) n = bif b then (n : Int) else idxN nm (l.drop (n + 1)) (n + 1) := by
  rw [drop_rd l z90 n h, idxN, ← hb]
  rfl
theorem idxN_any (nm : ByteArray) : ∀ (l : List S90) (n : Nat), decide (0 ≤ idxN nm l n) = l.any fun x => x.f0.toList == nm.toList
  | [], _ => rfl
  | x :: t, n => by
    rw [idxN, List.any_cons, ← idxN_any nm t (n + 1)]
    cases x.f0.toList == nm.toList with
    | true => simp
    | false => rfl
set_option maxRecDepth 100000 in
theorem same_calls (x : S90) (nm : ByteArray) (b : Nat) (w : World) (hc : w.cell? ⟨b, 0, none⟩ = some (.string nm)) : Calls Tryz.prog 89 #[.agg #[.string x.f0, .int .i64 x.f1, .int .i64 x.f2], .pointer (some ⟨b, 0, none⟩)] w fun e w' => e = .returned (.bool (x.f0.toList == nm.toList)) ∧ Below w.heap.size w w' := by
  have hu90 := Tryz.underlying90
  have HC := Aside0.mk hc
  clear hc
  have HB := Aside0.mk (Below.refl w.heap.size w)
  go_enter Tryz.func89, Tryz.ntmps89
  go_wp2_with (first | (((with_reducible refine gate_dst (N := 2) rfl ?_); refine box_event ?hg (N := 2) ?hd (cs := #[.string x.f0, .int .i64 x.f1, .int .i64 x.f2]) (t := 90) ?hr ?_; (case hd => rfl); (case hg => rfl); (case hr => first | (go_simp; done) | (go_simp; rfl)); intro gb hg wb hbox hb; have BKb := Aside0.mk hbox; have GEb := Aside0.mk (bs_ hg (hb0_)); replace HB := Aside0.mk (below_step hb0_ hb); clear hb hbox hg; obtain ⟨⟨bz0, bf0⟩, ⟨bz1, bf1⟩, ⟨bz2, bf2⟩⟩ := bc3_ BKb); have hc := pw_cell_below HB.out HC.out))
  go_ret
  exact ⟨rfl, hb1_ GEb⟩
set_option maxRecDepth 100000 in
set_option maxHeartbeats 4000000 in
theorem idx_calls (A0 : Option Addr) (c0 : Nat) (l : List S90) (nm : ByteArray) (b : Nat) (w : World) (hr : Kd.C k90 w A0 l.length l) (hc0 : l.length ≤ c0) (hl : l.length ≤ 1048576) (hc : w.cell? ⟨b, 0, none⟩ = some (.string nm)) :
    Calls Tryz.prog 118 #[.slice A0 l.length c0, .func (.func 89) #[] #[.pointer (some ⟨b, 0, none⟩)]] w fun e w' => e = .returned (.int .i64 (idxN nm l 0)) ∧ Below w.heap.size w w' := by
  have HR := Aside0.mk hr
  have HC := Aside0.mk hc
  clear hr hc
  go_enter Tryz.func118, Tryz.ntmps118
  go_wp2
  go_loopg [8] (l.length + 1) (fun kq v8 w' => ∃ n : Nat, v8 = .int .i64 (n : Int) ∧ Aside0 (kq + n = l.length + 1 ∧ n ≤ l.length) ∧ Aside0 (idxN nm l 0 = idxN nm (l.drop n) n) ∧ Aside0 (Below w.heap.size w w'))
  case atStart => exact ⟨0, rfl, ⟨by omega, by omega⟩, ⟨rfl⟩, ⟨Below.refl _ _⟩⟩
  case round =>
    obtain ⟨n, rfl, HK, HI, HB⟩ := hrel
    cases gk with
    | zero => exact absurd HK.out.1 (by have := HK.out.2; omega)
    | succ k1 =>
      by_cases hlt : n < l.length
      · obtain ⟨ad, e0, hx0, hx1, hx2⟩ := at_T90 (Kd.C_below HR.out HB.out) (n : Int) (by omega) (by omega)
        subst e0
        simp only [Int.toNat_natCast] at hx0 hx1 hx2
        have d1 : decide ((n : Int) < (l.length : Int)) = true := decide_eq_true (by omega)
        have d2 : decide (n < l.length) = true := decide_eq_true hlt
        have HCC := Aside0.mk (same_calls (rd_T90 l n) nm b wr (pw_cell_below HB.out HC.out))
        cases hb : ((rd_T90 l n).f0.toList == nm.toList) with
        | true =>
          have HE := Aside0.mk (HI.out.trans (idxN_at nm l n hlt true hb))
          rw [hb] at HCC
          clear hb HI
          go_wp2_with (go_at_call 89; refine HCC.out.mono ?_; rintro e w5 ⟨rfl, hb⟩)
          go_ret
          rw [HE.out]
          exact ⟨rfl, below_step HB.out hb⟩
        | false =>
          have HE := Aside0.mk (HI.out.trans (idxN_at nm l n hlt false hb))
          rw [hb] at HCC
          have HLT := Aside0.mk hlt
          clear hb HI
          go_wp2_with (go_at_call 89; refine HCC.out.mono ?_; rintro e w5 ⟨rfl, hb⟩)
          go_roundg k1
          case measure => omega
          case rel => exact ⟨n + 1, rfl, ⟨by have := HK.out; omega, by have := HLT.out; omega⟩, ⟨HE.out⟩, ⟨below_step HB.out hb⟩⟩
      · have en : n = l.length := by have := HK.out; omega
        subst en
        have HE := Aside0.mk HI.out
        rw [List.drop_eq_nil_of_le (Nat.le_refl _)] at HE
        have d1 : decide (l.length < l.length) = false := decide_eq_false (Nat.lt_irrefl _)
        clear HI hlt
        go_wp2
        go_ret
        rw [HE.out]
        exact ⟨rfl, HB.out⟩
set_option maxRecDepth 100000 in
theorem has_calls (A0 : Option Addr) (c0 : Nat) (l : List S90) (nm : ByteArray) (b : Nat) (w : World) (hr : Kd.C k90 w A0 l.length l) (hc0 : l.length ≤ c0) (hl : l.length ≤ 1048576) (hc : w.cell? ⟨b, 0, none⟩ = some (.string nm)) :
    Calls Tryz.prog 88 #[.slice A0 l.length c0, .func (.func 89) #[] #[.pointer (some ⟨b, 0, none⟩)]] w fun e w' => e = .returned (.bool (l.any fun x => x.f0.toList == nm.toList)) ∧ Below w.heap.size w w' := by
  have HI := Aside0.mk (idxN_any nm l 0)
  have HX := Aside0.mk (idx_calls A0 c0 l nm b w hr hc0 hl hc)
  clear hr hc0 hc hl
  generalize idxN nm l 0 = r at HI HX
  generalize (l.any fun x => x.f0.toList == nm.toList) = R at HI
  have h1 : decide (0 ≤ r) = R := HI.out
  clear HI
  cases R with
  | true =>
    go_enter Tryz.func88, Tryz.ntmps88
    go_wp2_with (go_at_call 118; refine HX.out.mono ?_; rintro e w5 ⟨rfl, hb⟩)
    go_ret
    exact ⟨rfl, hb⟩
  | false =>
    go_enter Tryz.func88, Tryz.ntmps88
    go_wp2_with (go_at_call 118; refine HX.out.mono ?_; rintro e w5 ⟨rfl, hb⟩)
    go_ret
    exact ⟨rfl, hb⟩
set_option maxRecDepth 100000 in
set_option maxHeartbeats 16000000 in
theorem impl_SetupOk.good (s : SU) (G U D : Option Addr) (cg cu cd : Nat) (w : World) (hs : s.Small) (hR : s.Rd w G U D cg cu cd) : Calls Tryz.prog 55 #[s.agg G U D cg cu cd] w fun e w' => e = .returned (.bool (setB s)) ∧ Below w.heap.size w w' := by
  obtain ⟨s0, s1, s2, s3⟩ := hs
  have GR := Aside0.mk (impl_rules s.d s.f s.n)
  have GB := Aside0.mk (impl_beh s.ul s.us s.uw s.dl s.ds s.dw s.mn s.mx (by omega) (by omega) 1048600 (by omega) (by omega))
  have GI := Aside0.mk (impl_in_ s.g.length 1 3)
  have hcg : (s.g.length : Int) ≤ cg := by have := hR.cg; omega
  have HR := Aside0.mk hR
  have HM := Aside0.mk s3
  clear hR s3
  have hu47 := Tryz.underlying47
  have hu39 := Tryz.underlying39
  have hu40 := Tryz.underlying40
  have hu45 := Tryz.underlying45
  have hu90 := Tryz.underlying90
  have HB := Aside0.mk (Below.refl w.heap.size w)
  have E0 : Aside0 (setB s = (rulesB s.d s.f s.n && (behB s.ul s.us s.uw s.dl s.ds s.dw s.mn s.mx && (inB s.g.length 1 3 && gok s.g)))) := ⟨rfl⟩
  generalize setB s = R at E0
  generalize rulesB s.d s.f s.n = r1 at GR E0
  generalize behB s.ul s.us s.uw s.dl s.ds s.dw s.mn s.mx = r2 at GB E0
  generalize inB s.g.length 1 3 = r3 at GI E0
  go_enter Tryz.func55, Tryz.ntmps55
  go_wp2_with (first | ((with_reducible refine gate_dst (N := 1) rfl ?_); refine box_event ?hg (N := 1) ?hd (cs := #[.int .i64 s.d, .int .i64 s.f, .int .i64 s.n, .slice G s.g.length cg, .slice U s.ul.length cu, .int .i64 s.us, .int .i64 s.uw, .slice D s.dl.length cd, .int .i64 s.ds, .int .i64 s.dw, .int .i64 s.mn, .int .i64 s.mx]) (t := 47) ?hr ?_; (case hd => rfl); (case hg => rfl); (case hr => first | (go_simp; done) | (go_simp; rfl)); intro gb hg wb hbox hb; have BKb := Aside0.mk hbox; have GEb := Aside0.mk (bs_ hg (hb0_)); replace HB := Aside0.mk (below_step hb0_ hb); clear hb hbox hg; obtain ⟨⟨bz0, bf0⟩, ⟨bz1, bf1⟩, ⟨bz2, bf2⟩, ⟨bz3, bf3⟩, ⟨bz4, bf4⟩, ⟨bz5, bf5⟩, ⟨bz6, bf6⟩, ⟨bz7, bf7⟩, ⟨bz8, bf8⟩, ⟨bz9, bf9⟩, ⟨bz10, bf10⟩, ⟨bz11, bf11⟩⟩ := bc12_ BKb))
  go_loopg [8] (s.g.length + 1) (fun kq v8 w' => ∃ n : Nat, v8 = .int .i64 (n : Int) ∧ Aside0 (kq + n = s.g.length + 1 ∧ n ≤ s.g.length) ∧ Aside0 (∀ j, j < n → okAt s.g j = true) ∧ Aside0 (w'.heap[gb]? = some (.cells #[.int .i64 s.d, .int .i64 s.f, .int .i64 s.n, .slice G s.g.length cg, .slice U s.ul.length cu, .int .i64 s.us, .int .i64 s.uw, .slice D s.dl.length cd, .int .i64 s.ds, .int .i64 s.dw, .int .i64 s.mn, .int .i64 s.mx] 47 (0, 0))) ∧ Aside0 (Below w.heap.size w w'))
  case atStart => exact ⟨0, rfl, ⟨by omega, by omega⟩, ⟨fun j h => absurd h (Nat.not_lt_zero _)⟩, BKb, HB⟩
  case round =>
    clear BKb HB
    obtain ⟨n, rfl, HK, HJ, BKb, HB⟩ := hrel
    obtain ⟨⟨bz0, bf0⟩, ⟨bz1, bf1⟩, ⟨bz2, bf2⟩, ⟨bz3, bf3⟩, ⟨bz4, bf4⟩, ⟨bz5, bf5⟩, ⟨bz6, bf6⟩, ⟨bz7, bf7⟩, ⟨bz8, bf8⟩, ⟨bz9, bf9⟩, ⟨bz10, bf10⟩, ⟨bz11, bf11⟩⟩ := bc12_ BKb
    cases gk with
    | zero => exact absurd HK.out.1 (by have := HK.out.2; omega)
    | succ k1 =>
      by_cases hlt : n < s.g.length
      · obtain ⟨ad, e0, hx0, hx1, hx2⟩ := at_T90 (HR.out.below HB.out).g (n : Int) (by omega) (by omega)
        subst e0
        simp only [Int.toNat_natCast] at hx0 hx1 hx2
        have d1 : decide ((n : Int) < (s.g.length : Int)) = true := decide_eq_true (by omega)
        have d2 : decide (n < s.g.length) = true := decide_eq_true hlt
        have HLT := Aside0.mk hlt
        have GG := Aside0.mk (impl_goal (rd_T90 s.g n) (by have := HM.out n hlt; omega) 1048600 (by have := HM.out n hlt; omega))
        cases hgb : goalB (rd_T90 s.g n) with
        | false =>
          rw [hgb] at GG
          have hno := gok_no s.g n hlt (by simp [okAt, hgb])
          rw [hno] at E0
          clear hno hgb
          go_wp2_with (first | (go_at_call 87; (with_reducible refine (impl_GoalOk.calls _ _ _ _ _ _ GG.out).mono ?_); rintro e w8 ⟨rfl, hb⟩; replace BKb := bb_ BKb hb; replace HB := Aside0.mk (below_step (hb1_ GEb) hb); clear hb; obtain ⟨⟨bw8z0, bw8f0⟩, ⟨bw8z1, bw8f1⟩, ⟨bw8z2, bw8f2⟩, ⟨bw8z3, bw8f3⟩, ⟨bw8z4, bw8f4⟩, ⟨bw8z5, bw8f5⟩, ⟨bw8z6, bw8f6⟩, ⟨bw8z7, bw8f7⟩, ⟨bw8z8, bw8f8⟩, ⟨bw8z9, bw8f9⟩, ⟨bw8z10, bw8f10⟩, ⟨bw8z11, bw8f11⟩⟩ := bc12_ BKb))
          go_ret
          exact ⟨by rw [E0.out]; cases r1 <;> cases r2 <;> cases r3 <;> rfl, hb1_ GEb⟩
        | true =>
          rw [hgb] at GG
          have HGB := Aside0.mk hgb
          have hnl : (s.g.take n).length = n := by rw [List.length_take]; omega
          have HH := fun w8 (hb8 : Below w.heap.size w w8) hc => has_calls (some ad) cg (s.g.take n) (rd_T90 s.g n).f0 wr.heap.size w8 (Kd.C_take (Kd.C_below HR.out.g hb8) (by omega)) (by omega) (by omega) hc
          rw [hnl] at HH
          have HHH := Aside0.mk HH
          have hnc : (n : Int) ≤ cg := by omega
          have hnc2 : n ≤ cg := by omega
          clear hgb HH hnl
          have ED : Aside0 (dup s.g n = (s.g.take n).any fun x => x.f0.toList == (rd_T90 s.g n).f0.toList) := ⟨rfl⟩
          generalize ((s.g.take n).any fun x => x.f0.toList == (rd_T90 s.g n).f0.toList) = dp at HHH ED
          cases dp with
          | true =>
            have hno := gok_no s.g n hlt (by simp [okAt, ED.out])
            rw [hno] at E0
            clear hno
            go_wp2_with (first | (go_at_call 87; (with_reducible refine (impl_GoalOk.calls _ _ _ _ _ _ GG.out).mono ?_); rintro e w8 ⟨rfl, hb⟩; have hq : w8.cell? ⟨wr.heap.size, 0, none⟩ = some (.string (rd_T90 s.g n).f0) := pw_cell_below hb (by go_simp); replace BKb := bb_ BKb hb; replace HB := Aside0.mk (below_step (hb1_ GEb) hb); clear hb; obtain ⟨⟨bw8z0, bw8f0⟩, ⟨bw8z1, bw8f1⟩, ⟨bw8z2, bw8f2⟩, ⟨bw8z3, bw8f3⟩, ⟨bw8z4, bw8f4⟩, ⟨bw8z5, bw8f5⟩, ⟨bw8z6, bw8f6⟩, ⟨bw8z7, bw8f7⟩, ⟨bw8z8, bw8f8⟩, ⟨bw8z9, bw8f9⟩, ⟨bw8z10, bw8f10⟩, ⟨bw8z11, bw8f11⟩⟩ := bc12_ BKb) | (go_at_call 88; refine (HHH.out _ HB.out hq).mono ?_; rintro e w9 ⟨rfl, hb9⟩))
            go_ret
            exact ⟨by rw [E0.out]; cases r1 <;> cases r2 <;> cases r3 <;> rfl, below_step HB.out hb9⟩
          | false =>
            have HOK : Aside0 (okAt s.g n = true) := ⟨by simp [okAt, HGB.out, ED.out]⟩
            go_wp2_with (first | (go_at_call 87; (with_reducible refine (impl_GoalOk.calls _ _ _ _ _ _ GG.out).mono ?_); rintro e w8 ⟨rfl, hb⟩; have hq : w8.cell? ⟨wr.heap.size, 0, none⟩ = some (.string (rd_T90 s.g n).f0) := pw_cell_below hb (by go_simp); replace BKb := bb_ BKb hb; replace HB := Aside0.mk (below_step (hb1_ GEb) hb); clear hb; obtain ⟨⟨bw8z0, bw8f0⟩, ⟨bw8z1, bw8f1⟩, ⟨bw8z2, bw8f2⟩, ⟨bw8z3, bw8f3⟩, ⟨bw8z4, bw8f4⟩, ⟨bw8z5, bw8f5⟩, ⟨bw8z6, bw8f6⟩, ⟨bw8z7, bw8f7⟩, ⟨bw8z8, bw8f8⟩, ⟨bw8z9, bw8f9⟩, ⟨bw8z10, bw8f10⟩, ⟨bw8z11, bw8f11⟩⟩ := bc12_ BKb) | (go_at_call 88; refine (HHH.out _ HB.out hq).mono ?_; rintro e w9 ⟨rfl, hb9⟩))
            go_roundg k1
            case measure => omega
            case rel => exact ⟨n + 1, rfl, ⟨by have := HK.out; omega, by have := HLT.out; omega⟩, ⟨fun j hj => by rcases Nat.lt_succ_iff_lt_or_eq.1 hj with h | rfl; exact HJ.out j h; exact HOK.out⟩, bb_ BKb hb9, ⟨below_step HB.out hb9⟩⟩
      · have en : n = s.g.length := by have := HK.out; omega
        have d1 : decide ((n : Int) < (s.g.length : Int)) = false := decide_eq_false (by omega)
        have d2 : decide (n < s.g.length) = false := decide_eq_false (by omega)
        have hyes := gok_yes s.g (by rw [← en]; exact HJ.out)
        rw [hyes] at E0
        clear hyes en
        cases r1 with
        | false =>
          go_wp2_with (first | (go_at_call 90; (with_reducible refine (impl_RulesOk.calls _ _ _ _ _ GR.out).mono ?_); rintro e w5 ⟨rfl, hb⟩; replace BKb := bb_ BKb hb; replace HB := Aside0.mk (below_step (hb1_ GEb) hb); clear hb; obtain ⟨⟨bw5z0, bw5f0⟩, ⟨bw5z1, bw5f1⟩, ⟨bw5z2, bw5f2⟩, ⟨bw5z3, bw5f3⟩, ⟨bw5z4, bw5f4⟩, ⟨bw5z5, bw5f5⟩, ⟨bw5z6, bw5f6⟩, ⟨bw5z7, bw5f7⟩, ⟨bw5z8, bw5f8⟩, ⟨bw5z9, bw5f9⟩, ⟨bw5z10, bw5f10⟩, ⟨bw5z11, bw5f11⟩⟩ := bc12_ BKb))
          go_ret
          exact ⟨by rw [E0.out]; rfl, hb1_ GEb⟩
        | true =>
          cases r2 with
          | false =>
            go_wp2_with (first | (go_at_call 90; (with_reducible refine (impl_RulesOk.calls _ _ _ _ _ GR.out).mono ?_); rintro e w5 ⟨rfl, hb⟩; replace BKb := bb_ BKb hb; replace HB := Aside0.mk (below_step (hb1_ GEb) hb); clear hb; obtain ⟨⟨bw5z0, bw5f0⟩, ⟨bw5z1, bw5f1⟩, ⟨bw5z2, bw5f2⟩, ⟨bw5z3, bw5f3⟩, ⟨bw5z4, bw5f4⟩, ⟨bw5z5, bw5f5⟩, ⟨bw5z6, bw5f6⟩, ⟨bw5z7, bw5f7⟩, ⟨bw5z8, bw5f8⟩, ⟨bw5z9, bw5f9⟩, ⟨bw5z10, bw5f10⟩, ⟨bw5z11, bw5f11⟩⟩ := bc12_ BKb) | (go_at_call 91; (with_reducible refine (impl_BehaveOk.calls _ _ _ _ _ _ _ _ _ _ _ _ _ _ _ (Kd.C_below HR.out.u HB.out) HR.out.cu (Kd.C_below HR.out.d HB.out) HR.out.cd GB.out).mono ?_); rintro e w6 ⟨rfl, hb⟩; replace BKb := bb_ BKb hb; replace HB := Aside0.mk (below_step (hb1_ GEb) hb); clear hb; obtain ⟨⟨bw6z0, bw6f0⟩, ⟨bw6z1, bw6f1⟩, ⟨bw6z2, bw6f2⟩, ⟨bw6z3, bw6f3⟩, ⟨bw6z4, bw6f4⟩, ⟨bw6z5, bw6f5⟩, ⟨bw6z6, bw6f6⟩, ⟨bw6z7, bw6f7⟩, ⟨bw6z8, bw6f8⟩, ⟨bw6z9, bw6f9⟩, ⟨bw6z10, bw6f10⟩, ⟨bw6z11, bw6f11⟩⟩ := bc12_ BKb))
            go_ret
            exact ⟨by rw [E0.out]; rfl, hb1_ GEb⟩
          | true =>
            go_wp2_with (first | (go_at_call 90; (with_reducible refine (impl_RulesOk.calls _ _ _ _ _ GR.out).mono ?_); rintro e w5 ⟨rfl, hb⟩; replace BKb := bb_ BKb hb; replace HB := Aside0.mk (below_step (hb1_ GEb) hb); clear hb; obtain ⟨⟨bw5z0, bw5f0⟩, ⟨bw5z1, bw5f1⟩, ⟨bw5z2, bw5f2⟩, ⟨bw5z3, bw5f3⟩, ⟨bw5z4, bw5f4⟩, ⟨bw5z5, bw5f5⟩, ⟨bw5z6, bw5f6⟩, ⟨bw5z7, bw5f7⟩, ⟨bw5z8, bw5f8⟩, ⟨bw5z9, bw5f9⟩, ⟨bw5z10, bw5f10⟩, ⟨bw5z11, bw5f11⟩⟩ := bc12_ BKb) | (go_at_call 91; (with_reducible refine (impl_BehaveOk.calls _ _ _ _ _ _ _ _ _ _ _ _ _ _ _ (Kd.C_below HR.out.u HB.out) HR.out.cu (Kd.C_below HR.out.d HB.out) HR.out.cd GB.out).mono ?_); rintro e w6 ⟨rfl, hb⟩; replace BKb := bb_ BKb hb; replace HB := Aside0.mk (below_step (hb1_ GEb) hb); clear hb; obtain ⟨⟨bw6z0, bw6f0⟩, ⟨bw6z1, bw6f1⟩, ⟨bw6z2, bw6f2⟩, ⟨bw6z3, bw6f3⟩, ⟨bw6z4, bw6f4⟩, ⟨bw6z5, bw6f5⟩, ⟨bw6z6, bw6f6⟩, ⟨bw6z7, bw6f7⟩, ⟨bw6z8, bw6f8⟩, ⟨bw6z9, bw6f9⟩, ⟨bw6z10, bw6f10⟩, ⟨bw6z11, bw6f11⟩⟩ := bc12_ BKb) | (go_at_call 92; (with_reducible refine (impl_in.calls _ _ _ _ _ GI.out).mono ?_); rintro e w' ⟨rfl, ⟨nd, rfl⟩⟩))
            go_ret
            exact ⟨by rw [E0.out]; cases r3 <;> rfl, hb1_ GEb⟩
end Go.Proofs.YtcjeblikejoogaaGreatDoor.PFnExactOpLine
