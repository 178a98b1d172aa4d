/-
  The calls of SetupText, in the reference and in the program, and of sameSetup end with the plain value and change no older memory.
  Conditions: the hypotheses of each theorem; none beside.
-/
import Derived.Test.YtcjeblikejoogaaGreatDoorHW1
namespace Go.Proofs.YtcjeblikejoogaaGreatDoor.PFnExactOpLine
open Go.RowKit Go.Proofs.YtcjeblikejoogaaGreatDoorW.PrintWords Go.Proofs.YtcjeblikejoogaaGreatDoorW.PrintLast Go.Proofs.YtcjeblikejoogaaGreatDoorW.PrintMore
set_option linter.unusedVariables false
set_option linter.unusedSimpArgs false
attribute [local go_sem high] eqA39 eqA90 eqA118
theorem ret_sb {a b : ByteArray} {v : Bool} (h : a.data.toList = b.data.toList) : Ending.returned (.tuple #[.string a, .bool v]) = Ending.returned (.tuple #[.string b, .bool v]) := by rw [ba_ext h]
set_option maxRecDepth 100000 in
set_option maxHeartbeats 8000000 in
theorem spec_SetupText.bad (s : SU) (G U D : Option Addr) (cg cu cd : Nat) (w : World) (hs : s.Small) (hR : s.Rd w G U D cg cu cd) (h : setB s = false) : Calls Tryz.prog 22 #[s.agg G U D cg cu cd] w fun e w' => e = .returned (.tuple #[.string ⟨#[]⟩, .bool false]) ∧ Below w.heap.size w w' := by
  have hu47 := Tryz.underlying47
  have HR := Aside0.mk hR
  have HO := Aside0.mk (fun w hR => spec_SetupOk.good s G U D cg cu cd w hs hR)
  rw [h] at HO
  clear hR hs
  have HB := Aside0.mk (Below.refl w.heap.size w)
  go_enter Tryz.func22, Tryz.ntmps22
  go_wp2_with (first | ((with_reducible refine gate_dst (N := 1) rfl ?_); refine box_event ?hg (N := 1) ?hd (cs := #[.int .i64 s.d, .int .i64 s.f, .int .i64 s.n, .slice G s.g.length cg, .slice U s.ul.length cu, .int .i64 s.us, .int .i64 s.uw, .slice D s.dl.length cd, .int .i64 s.ds, .int .i64 s.dw, .int .i64 s.mn, .int .i64 s.mx]) (t := 47) ?hr ?_; (case hd => rfl); (case hg => rfl); (case hr => first | (go_simp; done) | (go_simp; rfl)); intro gb hg wb hbox hb; have BKb := Aside0.mk hbox; have GEb := Aside0.mk (bs_ hg (hb0_)); replace HB := Aside0.mk (below_step hb0_ hb); clear hb hbox hg; obtain ⟨⟨bz0, bf0⟩, ⟨bz1, bf1⟩, ⟨bz2, bf2⟩, ⟨bz3, bf3⟩, ⟨bz4, bf4⟩, ⟨bz5, bf5⟩, ⟨bz6, bf6⟩, ⟨bz7, bf7⟩, ⟨bz8, bf8⟩, ⟨bz9, bf9⟩, ⟨bz10, bf10⟩, ⟨bz11, bf11⟩⟩ := bc12_ BKb) | (go_at_call 39; refine (HO.out _ (HR.out.below HB.out)).mono ?_; rintro e w5 ⟨rfl, hb5⟩; replace HB := Aside0.mk (below_step HB.out hb5)))
  go_ret2
  exact ⟨rfl, HB.out⟩
set_option maxRecDepth 100000 in
set_option maxHeartbeats 16000000 in
theorem spec_SetupText.good (s : SU) (G U D : Option Addr) (cg cu cd : Nat) (w : World) (hs : s.Small) (hR : s.Rd w G U D cg cu cd) (h : setB s = true) : Calls Tryz.prog 22 #[s.agg G U D cg cu cd] w fun e w' => e = .returned (.tuple #[.string (stb s), .bool true]) ∧ Below w.heap.size w w' := by
  obtain ⟨⟨v1, v2⟩, ⟨v3, v4⟩, ⟨v5, v6⟩, hu, hd, ⟨v7, v8⟩, ⟨v9, v10⟩, ⟨v11, v12⟩, hg⟩ := setB_out h
  have hu47 := Tryz.underlying47
  have hu45 := Tryz.underlying45
  have hu43 := Tryz.underlying43
  have hu40 := Tryz.underlying40
  have hu39 := Tryz.underlying39
  have HG := Aside0.mk hg
  have z1 := nb_size_le s.d (by omega) (by omega)
  have z2 := nb_size_le s.f (by omega) (by omega)
  have z3 := nb_size_le s.n (by omega) (by omega)
  have z4 := nb_size_le s.mn (by omega) (by omega)
  have z5 := nb_size_le s.mx (by omega) (by omega)
  have z6 := slb_size _ _ _ hu
  have z7 := slb_size _ _ _ hd
  have E1 := Aside0.mk (l01Num_f s.d (by omega) (by omega) 50 (by omega) (by omega))
  have E2 := Aside0.mk (l01Num_f s.f (by omega) (by omega) 50 (by omega) (by omega))
  have E3 := Aside0.mk (l01Num_f s.n (by omega) (by omega) 50 (by omega) (by omega))
  have E4 := Aside0.mk (l01Num_f s.mn (by omega) (by omega) 50 (by omega) (by omega))
  have E5 := Aside0.mk (l01Num_f s.mx (by omega) (by omega) 50 (by omega) (by omega))
  have t1 : ¬ 9223372036854775807 < 6 + (nb s.d).size := by omega
  have t2 : ¬ 9223372036854775807 < 6 + (nb s.d).size + 1 := by omega
  have t3 : ¬ 9223372036854775807 < 6 + (nb s.d).size + 1 + (nb s.f).size := by omega
  have t4 : ¬ 9223372036854775807 < 6 + (nb s.d).size + 1 + (nb s.f).size + 1 := by omega
  have t5 : ¬ 9223372036854775807 < 6 + (nb s.d).size + 1 + (nb s.f).size + 1 + (nb s.n).size := by omega
  have t6 : ¬ 9223372036854775807 < 6 + (nb s.d).size + 1 + (nb s.f).size + 1 + (nb s.n).size + 1 := by omega
  have HR := Aside0.mk hR
  have HO := Aside0.mk (fun w hR => spec_SetupOk.good s G U D cg cu cd w hs hR)
  rw [h] at HO
  have HU := Aside0.mk hu
  have HD := Aside0.mk hd
  clear hR hs hg hu hd
  have HB := Aside0.mk (Below.refl w.heap.size w)
  go_enter Tryz.func22, Tryz.ntmps22
  go_wp2_with (first | ((with_reducible refine gate_dst (N := 1) rfl ?_); refine box_event ?hg (N := 1) ?hd (cs := #[.int .i64 s.d, .int .i64 s.f, .int .i64 s.n, .slice G s.g.length cg, .slice U s.ul.length cu, .int .i64 s.us, .int .i64 s.uw, .slice D s.dl.length cd, .int .i64 s.ds, .int .i64 s.dw, .int .i64 s.mn, .int .i64 s.mx]) (t := 47) ?hr ?_; (case hd => rfl); (case hg => rfl); (case hr => first | (go_simp; done) | (go_simp; rfl)); intro gb hg wb hbox hb; have BKb := Aside0.mk hbox; have GEb := Aside0.mk (bs_ hg (hb0_)); replace HB := Aside0.mk (below_step hb0_ hb); clear hb hbox hg; obtain ⟨⟨bz0, bf0⟩, ⟨bz1, bf1⟩, ⟨bz2, bf2⟩, ⟨bz3, bf3⟩, ⟨bz4, bf4⟩, ⟨bz5, bf5⟩, ⟨bz6, bf6⟩, ⟨bz7, bf7⟩, ⟨bz8, bf8⟩, ⟨bz9, bf9⟩, ⟨bz10, bf10⟩, ⟨bz11, bf11⟩⟩ := bc12_ BKb) | (go_at_call 39; refine (HO.out _ (HR.out.below HB.out)).mono ?_; rintro e w5 ⟨rfl, hb5⟩; replace BKb := bb_ BKb hb5; replace HB := Aside0.mk (below_step HB.out hb5); obtain ⟨⟨bz0, bf0⟩, ⟨bz1, bf1⟩, ⟨bz2, bf2⟩, ⟨bz3, bf3⟩, ⟨bz4, bf4⟩, ⟨bz5, bf5⟩, ⟨bz6, bf6⟩, ⟨bz7, bf7⟩, ⟨bz8, bf8⟩, ⟨bz9, bf9⟩, ⟨bz10, bf10⟩, ⟨bz11, bf11⟩⟩ := bc12_ BKb))
  go_region_held3 (fun w' => w'.cell? ⟨gb, 0, none⟩ = some (.int .i64 s.d) ∧ w'.cell? ⟨gb, 1, none⟩ = some (.int .i64 s.f) ∧ w'.cell? ⟨gb, 2, none⟩ = some (.int .i64 s.n)) ((first | (go_split_ands; refine ⟨?_, ?_, ?_⟩ <;> (refine pw_cell_below (by assumption) ?_; assumption)) | go_keep)) (first | (go_at_call 20; (with_reducible refine (spec_l01Num.calls _ _ _ _ E1.out).mono ?_); rintro e w6 ⟨rfl, hb6⟩) | (go_at_call 20; (with_reducible refine (spec_l01Num.calls _ _ _ _ E2.out).mono ?_); rintro e w7 ⟨rfl, hb7⟩) | (go_at_call 20; (with_reducible refine (spec_l01Num.calls _ _ _ _ E3.out).mono ?_); rintro e w8 ⟨rfl, hb8⟩))
  replace BKb := Aside0.mk (blk_below (blk_below (blk_below (blk_drew BKb.out) hb6) hb7) hb8)
  replace HB := Aside0.mk (below_step (below_step (below_step (below_drew1 HB.out) hb6) hb7) hb8)
  go_wp2
  go_loopg [4, 5] (s.g.length + 1) (fun kq v4 v5 w' => ∃ (n : Nat) (x : ByteArray), v5 = .int .i64 (n : Int) ∧ v4 = .string x ∧ Aside0 (kq + n = s.g.length + 1 ∧ n ≤ s.g.length) ∧ Aside0 (x.data.toList = rl s ++ ((s.g.take n).map gll).flatten ∧ x.size ≤ 100 + 100 * n) ∧ Aside0 (w'.heap[gb]? = some (.cells #[.int .i64 s.d, .int .i64 s.f, .int .i64 s.n, .slice G s.g.length cg, .slice U s.ul.length cu, .int .i64 s.us, .int .i64 s.uw, .slice D s.dl.length cd, .int .i64 s.ds, .int .i64 s.dw, .int .i64 s.mn, .int .i64 s.mx] 47 (0, 0))) ∧ Aside0 (Below w.heap.size w w'))
  case atStart => exact ⟨0, _, rfl, rfl, ⟨by omega, by omega⟩, ⟨by simp [rl, nb, ba_data_append], by simp only [ByteArray.size_append]; show 6 + _ + 1 + _ + 1 + _ + 1 ≤ _; omega⟩, BKb, HB⟩
  case round =>
    clear BKb HB
    obtain ⟨n, x, rfl, rfl, HK, HX, BKb, HB⟩ := hrel
    obtain ⟨⟨bz0, bf0⟩, ⟨bz1, bf1⟩, ⟨bz2, bf2⟩, ⟨bz3, bf3⟩, ⟨bz4, bf4⟩, ⟨bz5, bf5⟩, ⟨bz6, bf6⟩, ⟨bz7, bf7⟩, ⟨bz8, bf8⟩, ⟨bz9, bf9⟩, ⟨bz10, bf10⟩, ⟨bz11, bf11⟩⟩ := bc12_ BKb
    have qx := HX.out.2
    have qn := HK.out.2
    cases gk with
    | zero => exact absurd HK.out.1 (by have := HK.out.2; omega)
    | succ k1 =>
      by_cases hlt : n < s.g.length
      · obtain ⟨ad, e0, hx0, hx1, hx2⟩ := at_T90 (HR.out.below HB.out).g (n : Int) (by omega) (by omega)
        subst e0
        simp only [Int.toNat_natCast] at hx0 hx1 hx2
        have d1 : decide ((n : Int) < (s.g.length : Int)) = true := decide_eq_true (by omega)
        have d2 : decide (n < s.g.length) = true := decide_eq_true hlt
        have HLT := Aside0.mk hlt
        have qg := glb_size _ (HG.out n hlt)
        have HGN := Aside0.mk (spec_GoalLine.good (rd_T90 s.g n) wr (HG.out n hlt))
        have u1 : ¬ 9223372036854775807 < x.size + 5 := by omega
        have u2 : ¬ 9223372036854775807 < x.size + 5 + (glb (rd_T90 s.g n)).size := by omega
        have u3 : ¬ 9223372036854775807 < x.size + 5 + (glb (rd_T90 s.g n)).size + 1 := by omega
        go_wp2_with (go_at_call 40; refine HGN.out.mono ?_; rintro e w9 ⟨rfl, hb9⟩)
        go_roundg k1
        case measure => omega
        case rel => exact ⟨n + 1, _, rfl, rfl, ⟨by have := HK.out; omega, by have := HLT.out; omega⟩, ⟨by rw [gll_step s.g n HLT.out, ← List.append_assoc, ← HX.out.1]; simp [glb, ba_data_append], by simp only [ByteArray.size_append]; show x.size + 5 + _ + 1 ≤ _; omega⟩, ⟨blk_below BKb.out hb9⟩, ⟨below_step HB.out hb9⟩⟩
      · have en : n = s.g.length := by have := HK.out; omega
        have hx := HX.out.1
        rw [en, List.take_length] at hx
        have HX' := Aside0.mk hx
        have d1 : decide ((n : Int) < (s.g.length : Int)) = false := decide_eq_false (by omega)
        have d2 : decide (n < s.g.length) = false := decide_eq_false (by omega)
        clear hx en
        have u1 : ¬ 9223372036854775807 < x.size + 6 := by omega
        have u2 : ¬ 9223372036854775807 < x.size + 6 + (nb s.mn).size := by omega
        have u3 : ¬ 9223372036854775807 < x.size + 6 + (nb s.mn).size + 1 := by omega
        have u4 : ¬ 9223372036854775807 < x.size + 6 + (nb s.mn).size + 1 + (nb s.mx).size := by omega
        have u5 : ¬ 9223372036854775807 < x.size + 6 + (nb s.mn).size + 1 + (nb s.mx).size + 4 := by omega
        have u6 : ¬ 9223372036854775807 < x.size + 6 + (nb s.mn).size + 1 + (nb s.mx).size + 4 + (slb s.ul s.us s.uw).size := by omega
        have u7 : ¬ 9223372036854775807 < x.size + 6 + (nb s.mn).size + 1 + (nb s.mx).size + 4 + (slb s.ul s.us s.uw).size + 6 := by omega
        have u8 : ¬ 9223372036854775807 < x.size + 6 + (nb s.mn).size + 1 + (nb s.mx).size + 4 + (slb s.ul s.us s.uw).size + 6 + (slb s.dl s.ds s.dw).size := by omega
        have u9 : ¬ 9223372036854775807 < x.size + 6 + (nb s.mn).size + 1 + (nb s.mx).size + 4 + (slb s.ul s.us s.uw).size + 6 + (slb s.dl s.ds s.dw).size + 1 := by omega
        go_wp2
        have HBx := Aside0.mk (below_drew1 (below_alloc HB.out (.cells #[.slice U s.ul.length cu, .int .i64 s.us, .int .i64 s.uw, .slice D s.dl.length cd, .int .i64 s.ds, .int .i64 s.dw, .int .i64 s.mn, .int .i64 s.mx] 45 (0, 0))))
        go_region_held3 (fun w' => w'.cell? ⟨wr.heap.size, 0, none⟩ = some (.slice U s.ul.length cu) ∧ w'.cell? ⟨wr.heap.size, 1, none⟩ = some (.int .i64 s.us) ∧ w'.cell? ⟨wr.heap.size, 2, none⟩ = some (.int .i64 s.uw) ∧ w'.cell? ⟨wr.heap.size, 3, none⟩ = some (.slice D s.dl.length cd) ∧ w'.cell? ⟨wr.heap.size, 4, none⟩ = some (.int .i64 s.ds) ∧ w'.cell? ⟨wr.heap.size, 5, none⟩ = some (.int .i64 s.dw) ∧ w'.cell? ⟨wr.heap.size, 6, none⟩ = some (.int .i64 s.mn) ∧ w'.cell? ⟨wr.heap.size, 7, none⟩ = some (.int .i64 s.mx)) ((first | (go_split_ands; (repeat (any_goals apply And.intro)) <;> (refine pw_cell_below (by assumption) ?_; assumption)) | go_keep)) (first | (go_at_call 20; (with_reducible refine (spec_l01Num.calls _ _ _ _ E4.out).mono ?_); rintro e w6 ⟨rfl, hb6⟩; have HB6 := Aside0.mk (below_step HBx.out hb6)) | (go_at_call 20; (with_reducible refine (spec_l01Num.calls _ _ _ _ E5.out).mono ?_); rintro e w7 ⟨rfl, hb7⟩; have HB7 := Aside0.mk (below_step HB6.out hb7)) | (go_at_call 41; (with_reducible refine (spec_SideText.good U cu s.ul s.us s.uw _ (HR.out.below HB7.out).u HR.out.cu HU.out).mono ?_); rintro e w8 ⟨rfl, hb8⟩; have HB8 := Aside0.mk (below_step HB7.out hb8)) | (go_at_call 41; (with_reducible refine (spec_SideText.good D cd s.dl s.ds s.dw _ (HR.out.below HB8.out).d HR.out.cd HD.out).mono ?_); rintro e w9 ⟨rfl, hb9⟩; have HB9 := Aside0.mk (below_step HB8.out hb9)))
        go_wp2
        go_ret2
        exact ⟨ret_sb (by simp only [ba_data_append, HX'.out, stb, stl, cl, slb, nb]; simp), HB9.out⟩
set_option maxRecDepth 100000 in
set_option maxHeartbeats 8000000 in
theorem impl_SetupText.bad (s : SU) (G U D : Option Addr) (cg cu cd : Nat) (w : World) (hs : s.Small) (hR : s.Rd w G U D cg cu cd) (h : setB s = false) : Calls Tryz.prog 31 #[s.agg G U D cg cu cd] w fun e w' => e = .returned (.tuple #[.string ⟨#[]⟩, .bool false]) ∧ Below w.heap.size w w' := by
  have hu47 := Tryz.underlying47
  have HR := Aside0.mk hR
  have HO := Aside0.mk (fun w hR => impl_SetupOk.good s G U D cg cu cd w hs hR)
  rw [h] at HO
  clear hR hs
  have HB := Aside0.mk (Below.refl w.heap.size w)
  go_enter Tryz.func31, Tryz.ntmps31
  go_wp2_with (first | ((with_reducible refine gate_dst (N := 1) rfl ?_); refine box_event ?hg (N := 1) ?hd (cs := #[.int .i64 s.d, .int .i64 s.f, .int .i64 s.n, .slice G s.g.length cg, .slice U s.ul.length cu, .int .i64 s.us, .int .i64 s.uw, .slice D s.dl.length cd, .int .i64 s.ds, .int .i64 s.dw, .int .i64 s.mn, .int .i64 s.mx]) (t := 47) ?hr ?_; (case hd => rfl); (case hg => rfl); (case hr => first | (go_simp; done) | (go_simp; rfl)); intro gb hg wb hbox hb; have BKb := Aside0.mk hbox; have GEb := Aside0.mk (bs_ hg (hb0_)); replace HB := Aside0.mk (below_step hb0_ hb); clear hb hbox hg; obtain ⟨⟨bz0, bf0⟩, ⟨bz1, bf1⟩, ⟨bz2, bf2⟩, ⟨bz3, bf3⟩, ⟨bz4, bf4⟩, ⟨bz5, bf5⟩, ⟨bz6, bf6⟩, ⟨bz7, bf7⟩, ⟨bz8, bf8⟩, ⟨bz9, bf9⟩, ⟨bz10, bf10⟩, ⟨bz11, bf11⟩⟩ := bc12_ BKb) | (go_at_call 55; refine (HO.out _ (HR.out.below HB.out)).mono ?_; rintro e w5 ⟨rfl, hb5⟩; replace HB := Aside0.mk (below_step HB.out hb5)))
  go_ret2
  exact ⟨rfl, HB.out⟩
set_option maxRecDepth 100000 in
set_option maxHeartbeats 16000000 in
theorem impl_SetupText.good (s : SU) (G U D : Option Addr) (cg cu cd : Nat) (w : World) (hLd : Laid w) (hs : s.Small) (hR : s.Rd w G U D cg cu cd) (h : setB s = true) : Calls Tryz.prog 31 #[s.agg G U D cg cu cd] w fun e w' => e = .returned (.tuple #[.string (stb s), .bool true]) ∧ Below w.heap.size w w' := by
  obtain ⟨⟨v1, v2⟩, ⟨v3, v4⟩, ⟨v5, v6⟩, hu, hd, ⟨v7, v8⟩, ⟨v9, v10⟩, ⟨v11, v12⟩, hg⟩ := setB_out h
  have hu47 := Tryz.underlying47
  have hu45 := Tryz.underlying45
  have hu43 := Tryz.underlying43
  have hu40 := Tryz.underlying40
  have hu39 := Tryz.underlying39
  have HG := Aside0.mk hg
  have z1 := nb_size_le s.d (by omega) (by omega)
  have z2 := nb_size_le s.f (by omega) (by omega)
  have z3 := nb_size_le s.n (by omega) (by omega)
  have z4 := nb_size_le s.mn (by omega) (by omega)
  have z5 := nb_size_le s.mx (by omega) (by omega)
  have z6 := slb_size _ _ _ hu
  have z7 := slb_size _ _ _ hd
  have E1 := Aside0.mk (num_f s.d (by omega) (by omega))
  have E2 := Aside0.mk (num_f s.f (by omega) (by omega))
  have E3 := Aside0.mk (num_f s.n (by omega) (by omega))
  have E4 := Aside0.mk (num_f s.mn (by omega) (by omega))
  have E5 := Aside0.mk (num_f s.mx (by omega) (by omega))
  have y1 := itoa_le s.d (by omega) (by omega)
  have y2 := itoa_le s.f (by omega) (by omega)
  have y3 := itoa_le s.n (by omega) (by omega)
  have y4 := itoa_le s.mn (by omega) (by omega)
  have y5 := itoa_le s.mx (by omega) (by omega)
  obtain ⟨rw_, hrw⟩ : ∃ b : ByteArray, b = ⟨(cat 32 ([⟨#[114, 117, 108, 101, 115]⟩, nb s.d, nb s.f, nb s.n].map (·.data.toList))).toArray⟩ := ⟨_, rfl⟩
  obtain ⟨cw_, hcw⟩ : ∃ b : ByteArray, b = ⟨(cat 32 ([⟨#[99, 111, 117, 110, 116]⟩, nb s.mn, nb s.mx].map (·.data.toList))).toArray⟩ := ⟨_, rfl⟩
  have hrs : rw_.size ≤ 71 := by rw [hrw]; show (cat 32 [[114, 117, 108, 101, 115], Go.Lib.itoa s.d, Go.Lib.itoa s.f, Go.Lib.itoa s.n]).toArray.size ≤ _; simp [cat]; omega
  have hcs : cw_.size ≤ 71 := by rw [hcw]; show (cat 32 [[99, 111, 117, 110, 116], Go.Lib.itoa s.mn, Go.Lib.itoa s.mx]).toArray.size ≤ _; simp [cat]; omega
  have W1 := Aside0.mk (words_f [⟨#[114, 117, 108, 101, 115]⟩, nb s.d, nb s.f, nb s.n] (by simp) (by simp [cat, nb]; omega))
  have W2 := Aside0.mk (words_f [⟨#[99, 111, 117, 110, 116]⟩, nb s.mn, nb s.mx] (by simp) (by simp [cat, nb]; omega))
  rw [← hrw] at W1
  rw [← hcw] at W2
  have HRW : Aside0 (rw_.data.toList ++ [10] = rl s) := ⟨by rw [hrw]; simp [rl, cat, nb]⟩
  have HCW : Aside0 (cw_.data.toList ++ [10] = cl s) := ⟨by rw [hcw]; simp [cl, cat, nb]⟩
  clear hrw hcw y1 y2 y3 y4 y5
  have t1 : ¬ 9223372036854775807 < rw_.size + 1 := by omega
  have t2 : ¬ 9223372036854775807 < cw_.size + 1 := by omega
  have HLd := Aside0.mk hLd
  clear hLd
  have HR := Aside0.mk hR
  have HO := Aside0.mk (fun w hR => impl_SetupOk.good s G U D cg cu cd w hs hR)
  rw [h] at HO
  have HU := Aside0.mk hu
  have HD := Aside0.mk hd
  clear hR hs hg hu hd
  have HB := Aside0.mk (Below.refl w.heap.size w)
  go_enter Tryz.func31, Tryz.ntmps31
  go_wp2_with (first | ((with_reducible refine gate_dst (N := 1) rfl ?_); refine box_event ?hg (N := 1) ?hd (cs := #[.int .i64 s.d, .int .i64 s.f, .int .i64 s.n, .slice G s.g.length cg, .slice U s.ul.length cu, .int .i64 s.us, .int .i64 s.uw, .slice D s.dl.length cd, .int .i64 s.ds, .int .i64 s.dw, .int .i64 s.mn, .int .i64 s.mx]) (t := 47) ?hr ?_; (case hd => rfl); (case hg => rfl); (case hr => first | (go_simp; done) | (go_simp; rfl)); intro gb hg wb hbox hb; have BKb := Aside0.mk hbox; have GEb := Aside0.mk (bs_ hg (hb0_)); replace HB := Aside0.mk (below_step hb0_ hb); clear hb hbox hg; obtain ⟨⟨bz0, bf0⟩, ⟨bz1, bf1⟩, ⟨bz2, bf2⟩, ⟨bz3, bf3⟩, ⟨bz4, bf4⟩, ⟨bz5, bf5⟩, ⟨bz6, bf6⟩, ⟨bz7, bf7⟩, ⟨bz8, bf8⟩, ⟨bz9, bf9⟩, ⟨bz10, bf10⟩, ⟨bz11, bf11⟩⟩ := bc12_ BKb) | (go_at_call 55; refine (HO.out _ (HR.out.below HB.out)).mono ?_; rintro e w5 ⟨rfl, hb5⟩; replace BKb := bb_ BKb hb5; replace HB := Aside0.mk (below_step HB.out hb5); obtain ⟨⟨bz0, bf0⟩, ⟨bz1, bf1⟩, ⟨bz2, bf2⟩, ⟨bz3, bf3⟩, ⟨bz4, bf4⟩, ⟨bz5, bf5⟩, ⟨bz6, bf6⟩, ⟨bz7, bf7⟩, ⟨bz8, bf8⟩, ⟨bz9, bf9⟩, ⟨bz10, bf10⟩, ⟨bz11, bf11⟩⟩ := bc12_ BKb))
  have HBx := Aside0.mk (below_drew1 HB.out)
  go_region_held3 (fun w' => w'.cell? ⟨gb, 0, none⟩ = some (.int .i64 s.d) ∧ w'.cell? ⟨gb, 1, none⟩ = some (.int .i64 s.f) ∧ w'.cell? ⟨gb, 2, none⟩ = some (.int .i64 s.n)) ((first | (go_split_ands; refine ⟨?_, ?_, ?_⟩ <;> (refine pw_cell_below (by assumption) ?_; assumption)) | go_keep)) (first | (go_at_call 27; (with_reducible refine (impl_number.calls _ _ _ (Laid.below HBx.out HLd.out) E1.out).mono ?_); rintro e w6 ⟨rfl, hb6⟩; have HB6 := Aside0.mk (below_step HBx.out hb6)) | (go_at_call 27; (with_reducible refine (impl_number.calls _ _ _ (Laid.below HB6.out HLd.out) E2.out).mono ?_); rintro e w7 ⟨rfl, hb7⟩; have HB7 := Aside0.mk (below_step HB6.out hb7)) | (go_at_call 27; (with_reducible refine (impl_number.calls _ _ _ (Laid.below HB7.out HLd.out) E3.out).mono ?_); rintro e w8 ⟨rfl, hb8⟩; have HB8 := Aside0.mk (below_step HB7.out hb8)) | (go_at_call 28; (refine (impl_words.calls _ 4 [⟨#[114, 117, 108, 101, 115]⟩, nb s.d, nb s.f, nb s.n] _ _ (C_lit _ _ _ (by simp)) (by simp) W1.out).mono ?_); rintro e w9 ⟨rfl, hb9⟩; have HB9 := Aside0.mk (below_step (below_alloc HB8.out _) hb9)))
  replace BKb := Aside0.mk (blk_below (blk_alloc (blk_below (blk_below (blk_below (blk_drew BKb.out) hb6) hb7) hb8) _) hb9)
  replace HB := HB9
  clear HB6 HB7 HB8 HB9 HBx
  obtain ⟨⟨bz0, bf0⟩, ⟨bz1, bf1⟩, ⟨bz2, bf2⟩, ⟨bz3, bf3⟩, ⟨bz4, bf4⟩, ⟨bz5, bf5⟩, ⟨bz6, bf6⟩, ⟨bz7, bf7⟩, ⟨bz8, bf8⟩, ⟨bz9, bf9⟩, ⟨bz10, bf10⟩, ⟨bz11, bf11⟩⟩ := bc12_ BKb
  go_wp2
  go_loopg [4, 28] (s.g.length + 1) (fun kq v4 v5 w' => ∃ (n : Nat) (x : ByteArray), v5 = .int .i64 (n : Int) ∧ v4 = .string x ∧ Aside0 (kq + n = s.g.length + 1 ∧ n ≤ s.g.length) ∧ Aside0 (x.data.toList = rl s ++ ((s.g.take n).map gll).flatten ∧ x.size ≤ 100 + 100 * n) ∧ Aside0 (w'.heap[gb]? = some (.cells #[.int .i64 s.d, .int .i64 s.f, .int .i64 s.n, .slice G s.g.length cg, .slice U s.ul.length cu, .int .i64 s.us, .int .i64 s.uw, .slice D s.dl.length cd, .int .i64 s.ds, .int .i64 s.dw, .int .i64 s.mn, .int .i64 s.mx] 47 (0, 0))) ∧ Aside0 (Below w.heap.size w w'))
  case atStart => exact ⟨0, _, rfl, rfl, ⟨by omega, by omega⟩, ⟨by rw [← HRW.out]; simp [ba_data_append], by simp only [ByteArray.size_append]; show rw_.size + 1 ≤ _; omega⟩, BKb, HB⟩
  case round =>
    clear BKb HB
    obtain ⟨n, x, rfl, rfl, HK, HX, BKb, HB⟩ := hrel
    obtain ⟨⟨bz0, bf0⟩, ⟨bz1, bf1⟩, ⟨bz2, bf2⟩, ⟨bz3, bf3⟩, ⟨bz4, bf4⟩, ⟨bz5, bf5⟩, ⟨bz6, bf6⟩, ⟨bz7, bf7⟩, ⟨bz8, bf8⟩, ⟨bz9, bf9⟩, ⟨bz10, bf10⟩, ⟨bz11, bf11⟩⟩ := bc12_ BKb
    have qx := HX.out.2
    have qn := HK.out.2
    cases gk with
    | zero => exact absurd HK.out.1 (by have := HK.out.2; omega)
    | succ k1 =>
      by_cases hlt : n < s.g.length
      · obtain ⟨ad, e0, hx0, hx1, hx2⟩ := at_T90 (HR.out.below HB.out).g (n : Int) (by omega) (by omega)
        subst e0
        simp only [Int.toNat_natCast] at hx0 hx1 hx2
        have d1 : decide ((n : Int) < (s.g.length : Int)) = true := decide_eq_true (by omega)
        have d2 : decide (n < s.g.length) = true := decide_eq_true hlt
        have HLT := Aside0.mk hlt
        have qg := glb_size _ (HG.out n hlt)
        have HGN := Aside0.mk (fun w hL => impl_GoalLine.good (rd_T90 s.g n) w hL (HG.out n hlt))
        have HBa := Aside0.mk (below_alloc HB.out (.cells #[.string (rd_T90 s.g n).f0, .int .i64 (rd_T90 s.g n).f1, .int .i64 (rd_T90 s.g n).f2] 90 (0, 0)))
        have u1 : ¬ 9223372036854775807 < 5 + (glb (rd_T90 s.g n)).size := by omega
        have u2 : ¬ 9223372036854775807 < 5 + (glb (rd_T90 s.g n)).size + 1 := by omega
        have u3 : ¬ 9223372036854775807 < x.size + (5 + (glb (rd_T90 s.g n)).size + 1) := by omega
        go_wp2_with (go_at_call 56; refine (HGN.out _ (Laid.below HBa.out HLd.out)).mono ?_; rintro e w9 ⟨rfl, hb9⟩)
        go_roundg k1
        case measure => omega
        case rel => exact ⟨n + 1, _, rfl, rfl, ⟨by have := HK.out; omega, by have := HLT.out; omega⟩, ⟨by rw [gll_step s.g n HLT.out, ← List.append_assoc, ← HX.out.1]; simp [glb, ba_data_append], by simp only [ByteArray.size_append]; show x.size + (5 + _ + 1) ≤ _; omega⟩, ⟨blk_below (blk_alloc BKb.out _) hb9⟩, ⟨below_step HBa.out hb9⟩⟩
      · have en : n = s.g.length := by have := HK.out; omega
        have hx := HX.out.1
        rw [en, List.take_length] at hx
        have HX' := Aside0.mk hx
        have d1 : decide ((n : Int) < (s.g.length : Int)) = false := decide_eq_false (by omega)
        have d2 : decide (n < s.g.length) = false := decide_eq_false (by omega)
        clear hx en
        have u0 : ¬ 9223372036854775807 < x.size + (cw_.size + 1) := by omega
        have u1 : ¬ 9223372036854775807 < x.size + (cw_.size + 1) + 3 := by omega
        have u2 : ¬ 9223372036854775807 < x.size + (cw_.size + 1) + 3 + (slb s.ul s.us s.uw).size := by omega
        have u3 : ¬ 9223372036854775807 < x.size + (cw_.size + 1) + 3 + (slb s.ul s.us s.uw).size + 6 := by omega
        have u4 : ¬ 9223372036854775807 < x.size + (cw_.size + 1) + 3 + (slb s.ul s.us s.uw).size + 6 + (slb s.dl s.ds s.dw).size := by omega
        have u5 : ¬ 9223372036854775807 < x.size + (cw_.size + 1) + 3 + (slb s.ul s.us s.uw).size + 6 + (slb s.dl s.ds s.dw).size + 1 := by omega
        have HBx := Aside0.mk (below_drew1 HB.out)
        go_wp2
        go_region_held3 (fun w' => w'.cell? ⟨gb, 4, none⟩ = some (.slice U s.ul.length cu) ∧ w'.cell? ⟨gb, 5, none⟩ = some (.int .i64 s.us) ∧ w'.cell? ⟨gb, 6, none⟩ = some (.int .i64 s.uw) ∧ w'.cell? ⟨gb, 7, none⟩ = some (.slice D s.dl.length cd) ∧ w'.cell? ⟨gb, 8, none⟩ = some (.int .i64 s.ds) ∧ w'.cell? ⟨gb, 9, none⟩ = some (.int .i64 s.dw) ∧ w'.cell? ⟨gb, 10, none⟩ = some (.int .i64 s.mn) ∧ w'.cell? ⟨gb, 11, none⟩ = some (.int .i64 s.mx)) ((first | (go_split_ands; (repeat (any_goals apply And.intro)) <;> (refine pw_cell_below (by assumption) ?_; assumption)) | go_keep)) (first | (go_at_call 27; (with_reducible refine (impl_number.calls _ _ _ (Laid.below HBx.out HLd.out) E4.out).mono ?_); rintro e w6 ⟨rfl, hb6⟩; have HB6 := Aside0.mk (below_step HBx.out hb6)) | (go_at_call 27; (with_reducible refine (impl_number.calls _ _ _ (Laid.below HB6.out HLd.out) E5.out).mono ?_); rintro e w7 ⟨rfl, hb7⟩; have HB7 := Aside0.mk (below_step HB6.out hb7)) | (go_at_call 28; (refine (impl_words.calls _ 3 [⟨#[99, 111, 117, 110, 116]⟩, nb s.mn, nb s.mx] _ _ (C_lit _ _ _ (by simp)) (by simp) W2.out).mono ?_); rintro e w8 ⟨rfl, hb8⟩; have HB8 := Aside0.mk (below_step (below_alloc HB7.out _) hb8)))
        replace HBx := Aside0.mk (below_drew1 HB8.out)
        clear HB6 HB7
        go_wp2
        go_region_held3 (fun w' => w'.cell? ⟨gb, 4, none⟩ = some (.slice U s.ul.length cu) ∧ w'.cell? ⟨gb, 5, none⟩ = some (.int .i64 s.us) ∧ w'.cell? ⟨gb, 6, none⟩ = some (.int .i64 s.uw) ∧ w'.cell? ⟨gb, 7, none⟩ = some (.slice D s.dl.length cd) ∧ w'.cell? ⟨gb, 8, none⟩ = some (.int .i64 s.ds) ∧ w'.cell? ⟨gb, 9, none⟩ = some (.int .i64 s.dw)) ((first | (go_split_ands; (repeat (any_goals apply And.intro)) <;> (refine pw_cell_below (by assumption) ?_; assumption)) | go_keep)) (first | (go_at_call 57; (with_reducible refine (impl_SideText.good U cu s.ul s.us s.uw _ (Laid.below HBx.out HLd.out) (HR.out.below HBx.out).u HR.out.cu HU.out).mono ?_); rintro e w9 ⟨rfl, hb9⟩; have HB9 := Aside0.mk (below_step HBx.out hb9)) | (go_at_call 57; (with_reducible refine (impl_SideText.good D cd s.dl s.ds s.dw _ (Laid.below HB9.out HLd.out) (HR.out.below HB9.out).d HR.out.cd HD.out).mono ?_); rintro e w10 ⟨rfl, hb10⟩; have HB10 := Aside0.mk (below_step HB9.out hb10)))
        go_wp2
        go_ret2
        exact ⟨ret_sb (by simp only [ba_data_append, HX'.out, stb, stl, ← HCW.out, slb]; simp), HB10.out⟩
def emptyB (s : SU) : Bool := (s.d == 0 && (s.f == 0 && s.n == 0)) && (decide (s.g.length = 0) && ((decide (s.ul.length = 0) && (s.us == 0 && s.uw == 0)) && ((decide (s.dl.length = 0) && (s.ds == 0 && s.dw == 0)) && (s.mn == 0 && s.mx == 0))))
theorem nil_C {α : Type} (k : Kd α) (w : World) : Kd.C k w none ([] : List α).length [] := ⟨rfl, by simp, fun h => absurd h (Nat.lt_irrefl 0)⟩
theorem goals_f (l : List S90) : impl_Goal.f 5 l [] = some (decide (l.length = 0)) := by
  unfold impl_Goal.f
  by_cases h : l.length = 0
  · rw [if_pos (by simp [h]), impl_Goal.l0, if_neg (by omega)]
    simp [h]
  · rw [if_neg (by simp; intro e; exact h (by simp [e]))]
    simp [h]
theorem pols_f (l : List S118) : impl_Policy.f 5 l [] = some (decide (l.length = 0)) := by
  unfold impl_Policy.f
  by_cases h : l.length = 0
  · rw [if_pos (by simp [h]), impl_Policy.l0, if_neg (by omega)]
    simp [h]
  · rw [if_neg (by simp; intro e; exact h (by simp [e]))]
    simp [h]
theorem side_f (l : List S118) (a b : Int) : impl_sameSide.f 5 l a b [] 0 0 = some (decide (l.length = 0) && (a == 0 && b == 0)) := by
  unfold impl_sameSide.f
  rw [pols_f]
  by_cases h1 : a = 0
  · by_cases h2 : b = 0
    · simp [h1, h2]
    · simp [h1, h2]
  · simp [h1]
theorem noside_f (l : List S118) (a b : Int) : spec_l10NoSide.f l a b = some (decide (l.length = 0) && (a == 0 && b == 0)) := by
  unfold spec_l10NoSide.f
  by_cases h : l.length = 0
  · rw [if_pos (by omega)]
    by_cases h1 : a = 0 <;> simp [h, h1]
  · rw [if_neg (by omega)]
    simp [h]
theorem empty_f (s : SU) : spec_l10Empty.f s.d s.f s.n s.g s.ul s.us s.uw s.dl s.ds s.dw s.mn s.mx = some (emptyB s) := by
  unfold spec_l10Empty.f emptyB
  rw [noside_f, noside_f]
  cases (s.d == 0 && (s.f == 0 && s.n == 0)) with
  | false => rfl
  | true =>
    rw [if_pos rfl]
    by_cases h : s.g.length = 0
    · rw [if_pos (by omega), Option.bind_some, decide_eq_true h]
      cases (decide (s.ul.length = 0) && (s.us == 0 && s.uw == 0)) with
      | false => rfl
      | true =>
        rw [if_pos rfl, Option.bind_some]
        cases (decide (s.dl.length = 0) && (s.ds == 0 && s.dw == 0)) with
        | false => rfl
        | true =>
          rw [if_pos rfl]
          by_cases h1 : s.mn = 0 <;> simp [h1]
    · rw [if_neg (by omega), decide_eq_false h]
      rfl
theorem goalsCall (A : Option Addr) (c : Nat) (l : List S90) (r : Bool) (w : World) (hr : Kd.C k90 w A l.length l) (hc : l.length ≤ c) (h : decide (l.length = 0) = r) : Calls Tryz.prog 58 #[.slice A l.length c, .slice none 0 0] w fun e w' => e = .returned (.bool r) ∧ Drawn0 w w' :=
  impl_Goal.calls 5 A c l none 0 [] r w hr hc (nil_C _ _) (Nat.zero_le _) (by rw [goals_f, h])
theorem sideCall (A : Option Addr) (c : Nat) (l : List S118) (a b : Int) (r : Bool) (w : World) (hr : Kd.C k118 w A l.length l) (hc : l.length ≤ c) (h : (decide (l.length = 0) && (a == 0 && b == 0)) = r) : Calls Tryz.prog 59 #[.agg #[.slice A l.length c, .int .i64 a, .int .i64 b], .agg #[.slice none 0 0, .int .i64 0, .int .i64 0]] w fun e w' => e = .returned (.bool r) ∧ Below w.heap.size w w' :=
  impl_sameSide.calls 5 A c l a b none 0 [] 0 0 r w hr hc (nil_C _ _) (Nat.zero_le _) (by rw [side_f, h])
theorem new2_ (W : World) (o1 o2 : Obj) : ((W.alloc o1).alloc o2).heap[W.heap.size + 1]? = some o2 := by
  have h := heap_alloc_new (W.alloc o1) o2
  rwa [show (W.alloc o1).heap.size = W.heap.size + 1 by simp] at h
set_option maxRecDepth 100000 in
set_option maxHeartbeats 16000000 in
theorem impl_sameSetup.good (s : SU) (G U D : Option Addr) (cg cu cd : Nat) (w : World) (hR : s.Rd w G U D cg cu cd) : Calls Tryz.prog 32 #[s.agg G U D cg cu cd, .agg #[.int .i64 0, .int .i64 0, .int .i64 0, .slice none 0 0, .slice none 0 0, .int .i64 0, .int .i64 0, .slice none 0 0, .int .i64 0, .int .i64 0, .int .i64 0, .int .i64 0]] w fun e w' => e = .returned (.bool (emptyB s)) ∧ Below w.heap.size w w' := by
  have hu47 := Tryz.underlying47
  have hu45 := Tryz.underlying45
  have hu43 := Tryz.underlying43
  have hu39 := Tryz.underlying39
  have HR := Aside0.mk hR
  clear hR
  have HB := Aside0.mk (Below.refl w.heap.size w)
  go_enter Tryz.func32, Tryz.ntmps32
  go_wp2_with (first | ((with_reducible refine gate_dst (N := 2) rfl ?_); refine box_event ?hg (N := 2) ?hd (cs := #[.int .i64 s.d, .int .i64 s.f, .int .i64 s.n, .slice G s.g.length cg, .slice U s.ul.length cu, .int .i64 s.us, .int .i64 s.uw, .slice D s.dl.length cd, .int .i64 s.ds, .int .i64 s.dw, .int .i64 s.mn, .int .i64 s.mx]) (t := 47) ?hr ?_; (case hd => rfl); (case hg => rfl); (case hr => first | (go_simp; done) | (go_simp; rfl)); intro gb hg wb hbox hb; have BKb := Aside0.mk hbox; have GEb := Aside0.mk (bs_ hg (hb0_)); replace HB := Aside0.mk (below_step hb0_ hb); clear hb hbox hg; obtain ⟨⟨bz0, bf0⟩, ⟨bz1, bf1⟩, ⟨bz2, bf2⟩, ⟨bz3, bf3⟩, ⟨bz4, bf4⟩, ⟨bz5, bf5⟩, ⟨bz6, bf6⟩, ⟨bz7, bf7⟩, ⟨bz8, bf8⟩, ⟨bz9, bf9⟩, ⟨bz10, bf10⟩, ⟨bz11, bf11⟩⟩ := bc12_ BKb) | (((with_reducible refine gate_dst (N := 3) rfl ?_); refine box_event ?hg (N := 3) ?hd (cs := #[.int .i64 0, .int .i64 0, .int .i64 0, .slice none 0 0, .slice none 0 0, .int .i64 0, .int .i64 0, .slice none 0 0, .int .i64 0, .int .i64 0, .int .i64 0, .int .i64 0]) (t := 47) ?hr ?_; (case hd => rfl); (case hg => rfl); (case hr => first | (go_simp; done) | (go_simp; rfl)); intro gz hg wz hbox hb; have BKz := Aside0.mk hbox; have GEz := Aside0.mk (bs_ hg (hb0_)); replace HB := Aside0.mk (below_step hb0_ hb); replace BKb := bb_ BKb hb; clear hb hbox hg; obtain ⟨⟨zz0, zf0⟩, ⟨zz1, zf1⟩, ⟨zz2, zf2⟩, ⟨zz3, zf3⟩, ⟨zz4, zf4⟩, ⟨zz5, zf5⟩, ⟨zz6, zf6⟩, ⟨zz7, zf7⟩, ⟨zz8, zf8⟩, ⟨zz9, zf9⟩, ⟨zz10, zf10⟩, ⟨zz11, zf11⟩⟩ := bc12_ BKz)))
  obtain ⟨⟨bz0, bf0⟩, ⟨bz1, bf1⟩, ⟨bz2, bf2⟩, ⟨bz3, bf3⟩, ⟨bz4, bf4⟩, ⟨bz5, bf5⟩, ⟨bz6, bf6⟩, ⟨bz7, bf7⟩, ⟨bz8, bf8⟩, ⟨bz9, bf9⟩, ⟨bz10, bf10⟩, ⟨bz11, bf11⟩⟩ := bc12_ BKb
  go_cut [5, 6] (fun v5 v6 w' => ∃ b5 b6 : Nat, v5 = .pointer (some ⟨b5, 0, none⟩) ∧ v6 = .pointer (some ⟨b6, 0, none⟩) ∧ Aside0 (w'.heap[b5]? = some (.cells #[.slice U s.ul.length cu, .int .i64 s.us, .int .i64 s.uw, .slice D s.dl.length cd, .int .i64 s.ds, .int .i64 s.dw, .int .i64 s.mn, .int .i64 s.mx] 45 (0, 0))) ∧ Aside0 (w'.heap[b6]? = some (.cells #[.slice none 0 0, .int .i64 0, .int .i64 0, .slice none 0 0, .int .i64 0, .int .i64 0, .int .i64 0, .int .i64 0] 45 (0, 0))) ∧ Aside0 (w'.heap[gb]? = some (.cells #[.int .i64 s.d, .int .i64 s.f, .int .i64 s.n, .slice G s.g.length cg, .slice U s.ul.length cu, .int .i64 s.us, .int .i64 s.uw, .slice D s.dl.length cd, .int .i64 s.ds, .int .i64 s.dw, .int .i64 s.mn, .int .i64 s.mx] 47 (0, 0))) ∧ Aside0 (w'.heap[gz]? = some (.cells #[.int .i64 0, .int .i64 0, .int .i64 0, .slice none 0 0, .slice none 0 0, .int .i64 0, .int .i64 0, .slice none 0 0, .int .i64 0, .int .i64 0, .int .i64 0, .int .i64 0] 47 (0, 0))) ∧ Aside0 (Below w.heap.size w w'))
  case first =>
    go_region_held3 (fun w' => w'.cell? ⟨gb, 4, none⟩ = some (.slice U s.ul.length cu) ∧ w'.cell? ⟨gb, 5, none⟩ = some (.int .i64 s.us) ∧ w'.cell? ⟨gb, 6, none⟩ = some (.int .i64 s.uw) ∧ w'.cell? ⟨gb, 7, none⟩ = some (.slice D s.dl.length cd) ∧ w'.cell? ⟨gb, 8, none⟩ = some (.int .i64 s.ds) ∧ w'.cell? ⟨gb, 9, none⟩ = some (.int .i64 s.dw) ∧ w'.cell? ⟨gb, 10, none⟩ = some (.int .i64 s.mn) ∧ w'.cell? ⟨gb, 11, none⟩ = some (.int .i64 s.mx) ∧ w'.cell? ⟨gz, 4, none⟩ = some (.slice none 0 0) ∧ w'.cell? ⟨gz, 5, none⟩ = some (.int .i64 0) ∧ w'.cell? ⟨gz, 6, none⟩ = some (.int .i64 0) ∧ w'.cell? ⟨gz, 7, none⟩ = some (.slice none 0 0) ∧ w'.cell? ⟨gz, 8, none⟩ = some (.int .i64 0) ∧ w'.cell? ⟨gz, 9, none⟩ = some (.int .i64 0) ∧ w'.cell? ⟨gz, 10, none⟩ = some (.int .i64 0) ∧ w'.cell? ⟨gz, 11, none⟩ = some (.int .i64 0)) (go_keep) (fail)
    all_goals
      go_wp2
      go_meet
      case rel => exact ⟨_, _, rfl, rfl, ⟨blk_drew (by first | exact new2_ _ _ _ | exact blk_alloc (heap_alloc_new _ _) _)⟩, ⟨blk_drew (by first | exact new2_ _ _ _ | exact blk_alloc (heap_alloc_new _ _) _)⟩, ⟨blk_drew (blk_alloc (blk_alloc BKb.out _) _)⟩, ⟨blk_drew (blk_alloc (blk_alloc BKz.out _) _)⟩, ⟨below_drew1 (below_alloc (below_alloc HB.out _) _)⟩⟩
  case rest =>
    clear BKb BKz HB
    obtain ⟨b5, b6, rfl, rfl, BK5, BK6, BKb, BKz, HB⟩ := hcut
    obtain ⟨⟨bz0, bf0⟩, ⟨bz1, bf1⟩, ⟨bz2, bf2⟩, ⟨bz3, bf3⟩, ⟨bz4, bf4⟩, ⟨bz5, bf5⟩, ⟨bz6, bf6⟩, ⟨bz7, bf7⟩, ⟨bz8, bf8⟩, ⟨bz9, bf9⟩, ⟨bz10, bf10⟩, ⟨bz11, bf11⟩⟩ := bc12_ BKb
    obtain ⟨⟨zz0, zf0⟩, ⟨zz1, zf1⟩, ⟨zz2, zf2⟩, ⟨zz3, zf3⟩, ⟨zz4, zf4⟩, ⟨zz5, zf5⟩, ⟨zz6, zf6⟩, ⟨zz7, zf7⟩, ⟨zz8, zf8⟩, ⟨zz9, zf9⟩, ⟨zz10, zf10⟩, ⟨zz11, zf11⟩⟩ := bc12_ BKz
    obtain ⟨⟨c5z0, c5f0⟩, ⟨c5z1, c5f1⟩, ⟨c5z2, c5f2⟩, ⟨c5z3, c5f3⟩, ⟨c5z4, c5f4⟩, ⟨c5z5, c5f5⟩, ⟨c5z6, c5f6⟩, ⟨c5z7, c5f7⟩⟩ := bc8_ BK5
    obtain ⟨⟨c6z0, c6f0⟩, ⟨c6z1, c6f1⟩, ⟨c6z2, c6f2⟩, ⟨c6z3, c6f3⟩, ⟨c6z4, c6f4⟩, ⟨c6z5, c6f5⟩, ⟨c6z6, c6f6⟩, ⟨c6z7, c6f7⟩⟩ := bc8_ BK6
    obtain ⟨r2, G2⟩ : ∃ r, Aside0 (decide (s.g.length = 0) = r) := ⟨_, ⟨rfl⟩⟩
    obtain ⟨r3, G3⟩ : ∃ r, Aside0 ((decide (s.ul.length = 0) && (s.us == 0 && s.uw == 0)) = r) := ⟨_, ⟨rfl⟩⟩
    obtain ⟨r4, G4⟩ : ∃ r, Aside0 ((decide (s.dl.length = 0) && (s.ds == 0 && s.dw == 0)) = r) := ⟨_, ⟨rfl⟩⟩
    have E0 : Aside0 (emptyB s = ((s.d == 0 && (s.f == 0 && s.n == 0)) && (decide (s.g.length = 0) && ((decide (s.ul.length = 0) && (s.us == 0 && s.uw == 0)) && ((decide (s.dl.length = 0) && (s.ds == 0 && s.dw == 0)) && (s.mn == 0 && s.mx == 0)))))) := ⟨rfl⟩
    rw [G2.out] at E0
    rw [G3.out] at E0
    rw [G4.out] at E0
    cases h1 : (s.d == 0 && (s.f == 0 && s.n == 0)) with
    | false =>
      rw [h1] at E0
      go_wp2
      go_ret
      exact ⟨by rw [E0.out]; rfl, HB.out⟩
    | true =>
      rw [h1] at E0
      cases r2 with
      | false =>
        go_wp2_with (first | (go_at_call 58; (with_reducible refine (goalsCall _ _ _ _ _ (HR.out.below HB.out).g HR.out.cg G2.out).mono ?_); rintro e w' ⟨rfl, ⟨nd, rfl⟩⟩) | (go_at_call 59; (with_reducible refine (sideCall _ _ _ _ _ _ _ (HR.out.below (pw_below_drewN HB.out _)).u HR.out.cu G3.out).mono ?_); rintro e w8 ⟨rfl, hb8⟩; have HB8 := Aside0.mk (below_step (pw_below_drewN HB.out _) hb8); replace BK5 := Aside0.mk (blk_below (blk_drewN BK5.out _) hb8); replace BK6 := Aside0.mk (blk_below (blk_drewN BK6.out _) hb8); obtain ⟨⟨c5z0, c5f0⟩, ⟨c5z1, c5f1⟩, ⟨c5z2, c5f2⟩, ⟨c5z3, c5f3⟩, ⟨c5z4, c5f4⟩, ⟨c5z5, c5f5⟩, ⟨c5z6, c5f6⟩, ⟨c5z7, c5f7⟩⟩ := bc8_ BK5; obtain ⟨⟨c6z0, c6f0⟩, ⟨c6z1, c6f1⟩, ⟨c6z2, c6f2⟩, ⟨c6z3, c6f3⟩, ⟨c6z4, c6f4⟩, ⟨c6z5, c6f5⟩, ⟨c6z6, c6f6⟩, ⟨c6z7, c6f7⟩⟩ := bc8_ BK6) | (go_at_call 59; (with_reducible refine (sideCall _ _ _ _ _ _ _ (HR.out.below HB8.out).d HR.out.cd G4.out).mono ?_); rintro e w9 ⟨rfl, hb9⟩; have HB9 := Aside0.mk (below_step HB8.out hb9); replace BK5 := Aside0.mk (blk_below BK5.out hb9); replace BK6 := Aside0.mk (blk_below BK6.out hb9); obtain ⟨⟨c5z0, c5f0⟩, ⟨c5z1, c5f1⟩, ⟨c5z2, c5f2⟩, ⟨c5z3, c5f3⟩, ⟨c5z4, c5f4⟩, ⟨c5z5, c5f5⟩, ⟨c5z6, c5f6⟩, ⟨c5z7, c5f7⟩⟩ := bc8_ BK5; obtain ⟨⟨c6z0, c6f0⟩, ⟨c6z1, c6f1⟩, ⟨c6z2, c6f2⟩, ⟨c6z3, c6f3⟩, ⟨c6z4, c6f4⟩, ⟨c6z5, c6f5⟩, ⟨c6z6, c6f6⟩, ⟨c6z7, c6f7⟩⟩ := bc8_ BK6))
        go_ret
        exact ⟨by rw [E0.out]; rfl, pw_below_drewN HB.out _⟩
      | true =>
        cases r3 with
        | false =>
          go_wp2_with (first | (go_at_call 58; (with_reducible refine (goalsCall _ _ _ _ _ (HR.out.below HB.out).g HR.out.cg G2.out).mono ?_); rintro e w' ⟨rfl, ⟨nd, rfl⟩⟩) | (go_at_call 59; (with_reducible refine (sideCall _ _ _ _ _ _ _ (HR.out.below (pw_below_drewN HB.out _)).u HR.out.cu G3.out).mono ?_); rintro e w8 ⟨rfl, hb8⟩; have HB8 := Aside0.mk (below_step (pw_below_drewN HB.out _) hb8); replace BK5 := Aside0.mk (blk_below (blk_drewN BK5.out _) hb8); replace BK6 := Aside0.mk (blk_below (blk_drewN BK6.out _) hb8); obtain ⟨⟨c5z0, c5f0⟩, ⟨c5z1, c5f1⟩, ⟨c5z2, c5f2⟩, ⟨c5z3, c5f3⟩, ⟨c5z4, c5f4⟩, ⟨c5z5, c5f5⟩, ⟨c5z6, c5f6⟩, ⟨c5z7, c5f7⟩⟩ := bc8_ BK5; obtain ⟨⟨c6z0, c6f0⟩, ⟨c6z1, c6f1⟩, ⟨c6z2, c6f2⟩, ⟨c6z3, c6f3⟩, ⟨c6z4, c6f4⟩, ⟨c6z5, c6f5⟩, ⟨c6z6, c6f6⟩, ⟨c6z7, c6f7⟩⟩ := bc8_ BK6) | (go_at_call 59; (with_reducible refine (sideCall _ _ _ _ _ _ _ (HR.out.below HB8.out).d HR.out.cd G4.out).mono ?_); rintro e w9 ⟨rfl, hb9⟩; have HB9 := Aside0.mk (below_step HB8.out hb9); replace BK5 := Aside0.mk (blk_below BK5.out hb9); replace BK6 := Aside0.mk (blk_below BK6.out hb9); obtain ⟨⟨c5z0, c5f0⟩, ⟨c5z1, c5f1⟩, ⟨c5z2, c5f2⟩, ⟨c5z3, c5f3⟩, ⟨c5z4, c5f4⟩, ⟨c5z5, c5f5⟩, ⟨c5z6, c5f6⟩, ⟨c5z7, c5f7⟩⟩ := bc8_ BK5; obtain ⟨⟨c6z0, c6f0⟩, ⟨c6z1, c6f1⟩, ⟨c6z2, c6f2⟩, ⟨c6z3, c6f3⟩, ⟨c6z4, c6f4⟩, ⟨c6z5, c6f5⟩, ⟨c6z6, c6f6⟩, ⟨c6z7, c6f7⟩⟩ := bc8_ BK6))
          go_ret
          exact ⟨by rw [E0.out]; rfl, HB8.out⟩
        | true =>
          cases r4 with
          | false =>
            go_wp2_with (first | (go_at_call 58; (with_reducible refine (goalsCall _ _ _ _ _ (HR.out.below HB.out).g HR.out.cg G2.out).mono ?_); rintro e w' ⟨rfl, ⟨nd, rfl⟩⟩) | (go_at_call 59; (with_reducible refine (sideCall _ _ _ _ _ _ _ (HR.out.below (pw_below_drewN HB.out _)).u HR.out.cu G3.out).mono ?_); rintro e w8 ⟨rfl, hb8⟩; have HB8 := Aside0.mk (below_step (pw_below_drewN HB.out _) hb8); replace BK5 := Aside0.mk (blk_below (blk_drewN BK5.out _) hb8); replace BK6 := Aside0.mk (blk_below (blk_drewN BK6.out _) hb8); obtain ⟨⟨c5z0, c5f0⟩, ⟨c5z1, c5f1⟩, ⟨c5z2, c5f2⟩, ⟨c5z3, c5f3⟩, ⟨c5z4, c5f4⟩, ⟨c5z5, c5f5⟩, ⟨c5z6, c5f6⟩, ⟨c5z7, c5f7⟩⟩ := bc8_ BK5; obtain ⟨⟨c6z0, c6f0⟩, ⟨c6z1, c6f1⟩, ⟨c6z2, c6f2⟩, ⟨c6z3, c6f3⟩, ⟨c6z4, c6f4⟩, ⟨c6z5, c6f5⟩, ⟨c6z6, c6f6⟩, ⟨c6z7, c6f7⟩⟩ := bc8_ BK6) | (go_at_call 59; (with_reducible refine (sideCall _ _ _ _ _ _ _ (HR.out.below HB8.out).d HR.out.cd G4.out).mono ?_); rintro e w9 ⟨rfl, hb9⟩; have HB9 := Aside0.mk (below_step HB8.out hb9); replace BK5 := Aside0.mk (blk_below BK5.out hb9); replace BK6 := Aside0.mk (blk_below BK6.out hb9); obtain ⟨⟨c5z0, c5f0⟩, ⟨c5z1, c5f1⟩, ⟨c5z2, c5f2⟩, ⟨c5z3, c5f3⟩, ⟨c5z4, c5f4⟩, ⟨c5z5, c5f5⟩, ⟨c5z6, c5f6⟩, ⟨c5z7, c5f7⟩⟩ := bc8_ BK5; obtain ⟨⟨c6z0, c6f0⟩, ⟨c6z1, c6f1⟩, ⟨c6z2, c6f2⟩, ⟨c6z3, c6f3⟩, ⟨c6z4, c6f4⟩, ⟨c6z5, c6f5⟩, ⟨c6z6, c6f6⟩, ⟨c6z7, c6f7⟩⟩ := bc8_ BK6))
            go_ret
            exact ⟨by rw [E0.out]; rfl, HB9.out⟩
          | true =>
            cases h5 : (s.mn == 0) with
            | false =>
              rw [h5] at E0
              go_wp2_with (first | (go_at_call 58; (with_reducible refine (goalsCall _ _ _ _ _ (HR.out.below HB.out).g HR.out.cg G2.out).mono ?_); rintro e w' ⟨rfl, ⟨nd, rfl⟩⟩) | (go_at_call 59; (with_reducible refine (sideCall _ _ _ _ _ _ _ (HR.out.below (pw_below_drewN HB.out _)).u HR.out.cu G3.out).mono ?_); rintro e w8 ⟨rfl, hb8⟩; have HB8 := Aside0.mk (below_step (pw_below_drewN HB.out _) hb8); replace BK5 := Aside0.mk (blk_below (blk_drewN BK5.out _) hb8); replace BK6 := Aside0.mk (blk_below (blk_drewN BK6.out _) hb8); obtain ⟨⟨c5z0, c5f0⟩, ⟨c5z1, c5f1⟩, ⟨c5z2, c5f2⟩, ⟨c5z3, c5f3⟩, ⟨c5z4, c5f4⟩, ⟨c5z5, c5f5⟩, ⟨c5z6, c5f6⟩, ⟨c5z7, c5f7⟩⟩ := bc8_ BK5; obtain ⟨⟨c6z0, c6f0⟩, ⟨c6z1, c6f1⟩, ⟨c6z2, c6f2⟩, ⟨c6z3, c6f3⟩, ⟨c6z4, c6f4⟩, ⟨c6z5, c6f5⟩, ⟨c6z6, c6f6⟩, ⟨c6z7, c6f7⟩⟩ := bc8_ BK6) | (go_at_call 59; (with_reducible refine (sideCall _ _ _ _ _ _ _ (HR.out.below HB8.out).d HR.out.cd G4.out).mono ?_); rintro e w9 ⟨rfl, hb9⟩; have HB9 := Aside0.mk (below_step HB8.out hb9); replace BK5 := Aside0.mk (blk_below BK5.out hb9); replace BK6 := Aside0.mk (blk_below BK6.out hb9); obtain ⟨⟨c5z0, c5f0⟩, ⟨c5z1, c5f1⟩, ⟨c5z2, c5f2⟩, ⟨c5z3, c5f3⟩, ⟨c5z4, c5f4⟩, ⟨c5z5, c5f5⟩, ⟨c5z6, c5f6⟩, ⟨c5z7, c5f7⟩⟩ := bc8_ BK5; obtain ⟨⟨c6z0, c6f0⟩, ⟨c6z1, c6f1⟩, ⟨c6z2, c6f2⟩, ⟨c6z3, c6f3⟩, ⟨c6z4, c6f4⟩, ⟨c6z5, c6f5⟩, ⟨c6z6, c6f6⟩, ⟨c6z7, c6f7⟩⟩ := bc8_ BK6))
              go_ret
              exact ⟨by rw [E0.out]; rfl, HB9.out⟩
            | true =>
              rw [h5] at E0
              go_wp2_with (first | (go_at_call 58; (with_reducible refine (goalsCall _ _ _ _ _ (HR.out.below HB.out).g HR.out.cg G2.out).mono ?_); rintro e w' ⟨rfl, ⟨nd, rfl⟩⟩) | (go_at_call 59; (with_reducible refine (sideCall _ _ _ _ _ _ _ (HR.out.below (pw_below_drewN HB.out _)).u HR.out.cu G3.out).mono ?_); rintro e w8 ⟨rfl, hb8⟩; have HB8 := Aside0.mk (below_step (pw_below_drewN HB.out _) hb8); replace BK5 := Aside0.mk (blk_below (blk_drewN BK5.out _) hb8); replace BK6 := Aside0.mk (blk_below (blk_drewN BK6.out _) hb8); obtain ⟨⟨c5z0, c5f0⟩, ⟨c5z1, c5f1⟩, ⟨c5z2, c5f2⟩, ⟨c5z3, c5f3⟩, ⟨c5z4, c5f4⟩, ⟨c5z5, c5f5⟩, ⟨c5z6, c5f6⟩, ⟨c5z7, c5f7⟩⟩ := bc8_ BK5; obtain ⟨⟨c6z0, c6f0⟩, ⟨c6z1, c6f1⟩, ⟨c6z2, c6f2⟩, ⟨c6z3, c6f3⟩, ⟨c6z4, c6f4⟩, ⟨c6z5, c6f5⟩, ⟨c6z6, c6f6⟩, ⟨c6z7, c6f7⟩⟩ := bc8_ BK6) | (go_at_call 59; (with_reducible refine (sideCall _ _ _ _ _ _ _ (HR.out.below HB8.out).d HR.out.cd G4.out).mono ?_); rintro e w9 ⟨rfl, hb9⟩; have HB9 := Aside0.mk (below_step HB8.out hb9); replace BK5 := Aside0.mk (blk_below BK5.out hb9); replace BK6 := Aside0.mk (blk_below BK6.out hb9); obtain ⟨⟨c5z0, c5f0⟩, ⟨c5z1, c5f1⟩, ⟨c5z2, c5f2⟩, ⟨c5z3, c5f3⟩, ⟨c5z4, c5f4⟩, ⟨c5z5, c5f5⟩, ⟨c5z6, c5f6⟩, ⟨c5z7, c5f7⟩⟩ := bc8_ BK5; obtain ⟨⟨c6z0, c6f0⟩, ⟨c6z1, c6f1⟩, ⟨c6z2, c6f2⟩, ⟨c6z3, c6f3⟩, ⟨c6z4, c6f4⟩, ⟨c6z5, c6f5⟩, ⟨c6z6, c6f6⟩, ⟨c6z7, c6f7⟩⟩ := bc8_ BK6))
              go_ret
              exact ⟨by rw [E0.out]; rfl, HB9.out⟩
end Go.Proofs.YtcjeblikejoogaaGreatDoor.PFnExactOpLine
