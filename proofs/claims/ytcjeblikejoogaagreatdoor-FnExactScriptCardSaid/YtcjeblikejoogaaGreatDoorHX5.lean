/-
  The reference's OpLine ends with the plain line of its operation and changes no older memory.
  Conditions: the hypotheses of each theorem; none beside.
-/
import Derived.Test.YtcjeblikejoogaaGreatDoorHX4
namespace Go.Proofs.YtcjeblikejoogaaGreatDoor.PFnExactOpLine
open Go.RowKit Go.Proofs.YtcjeblikejoogaaGreatDoorW.PrintWords Go.Proofs.YtcjeblikejoogaaGreatDoorW.PrintLast Go.Proofs.YtcjeblikejoogaaGreatDoorW.PrintMore
set_option linter.unusedVariables false
set_option linter.unusedSimpArgs false
attribute [local go_sem high] eqA39 eqA90 eqA118
theorem spec_l10Empty.good (s : SU) (G U D : Option Addr) (cg cu cd : Nat) (w : World) (hR : s.Rd w G U D cg cu cd) : Calls Tryz.prog 17 #[s.agg G U D cg cu cd] w fun e w' => e = .returned (.bool (emptyB s)) ∧ Below w.heap.size w w' := by
  obtain ⟨r1, r2, r3, r4, r5, r6⟩ := hR
  exact spec_l10Empty.calls s.d s.f s.n G cg s.g U cu s.ul s.us s.uw D cd s.dl s.ds s.dw s.mn s.mx (emptyB s) w r1 r2 r3 r4 r5 r6 (empty_f s)
theorem LineIs.ne {o : OP} {ln : ByteArray} (h : LineIs o ln) : ln.size ≠ 0 := by
  rcases h with ⟨_, e⟩ | ⟨_, _, e⟩ | ⟨_, _, e⟩ | ⟨_, e⟩ | ⟨_, e⟩ <;> rw [e, mkB_size] <;> simp
theorem LineIs.line {o : OP} {ln : ByteArray} (h : LineIs o ln) (hl : 200 < ln.size) (ho : o.Small) : opLine o = none := by
  have hi := itoa_le o.a ho.a.1 ho.a.2
  have hmk : ∀ l, (mkB l).data.toList = l := fun l => rfl
  rcases h with ⟨hk, e⟩ | ⟨hk, hc, e⟩ | ⟨hk, hs, e⟩ | ⟨hk, e⟩ | ⟨hk, e⟩
  · exfalso
    rw [e, mkB_size] at hl
    rcases hk with hk | hk | hk <;> simp [hk, verbL] at hl <;> omega
  · refine opLine_long o ln ?_ hl
    rw [e, hmk, lineOf, if_neg (by omega), if_pos hk, if_neg (by rw [hc]; simp)]
  · refine opLine_long o ln ?_ hl
    rw [e, hmk, lineOf, if_neg (by omega), if_neg (by omega), if_pos hk, if_pos hs]
  · exfalso
    rw [e] at hl
    exact absurd hl (by decide)
  · exfalso
    rw [e] at hl
    exact absurd hl (by decide)
theorem empty_toList {t : ByteArray} (h : t.size = 0) : t.toList.isEmpty = true := by
  rw [Go.Lib.toList_data]
  cases hh : t.data.toList with
  | nil => rfl
  | cons _ _ => rw [← data_length, hh] at h; simp at h
theorem full_toList {t : ByteArray} (h : t.size ≠ 0) : t.toList.isEmpty = false := by
  rw [Go.Lib.toList_data]
  cases hh : t.data.toList with
  | nil => exact absurd (by rw [← data_length, hh]; rfl) h
  | cons _ _ => rfl
set_option maxRecDepth 100000 in
set_option maxHeartbeats 16000000 in
theorem spec_OpLine.good (o : OP) (P G U D : Option Addr) (cp cg cu cd : Nat) (w : World) (ho : o.Small) (hR : o.s.Rd w G U D cg cu cd) : Calls Tryz.prog 6 #[o.agg P G U D cp cg cu cd] w fun e w' => e = .returned (ansV (opLine o)) ∧ Below w.heap.size w w' := by
  have HO := Aside0.mk ho
  obtain ⟨⟨k1, k2⟩, ⟨a1, a2⟩, ht, hp, hs⟩ := ho
  have hu49 := Tryz.underlying49
  have hu47 := Tryz.underlying47
  have hu63 := Tryz.underlying63
  have hu65 := Tryz.underlying65
  have HR := Aside0.mk hR
  have HS := Aside0.mk hs
  clear hR hs
  have HB := Aside0.mk (Below.refl w.heap.size w)
  go_enter Tryz.func6, Tryz.ntmps6
  go_upto_region 1 with (first | ((with_reducible refine gate_dst (N := 1) rfl ?_); refine box_event ?hg (N := 1) ?hd (cs := #[.int .i64 o.k, .int .i64 o.a, .string o.t, .slice P o.p.length cp, .int .i64 o.s.d, .int .i64 o.s.f, .int .i64 o.s.n, .slice G o.s.g.length cg, .slice U o.s.ul.length cu, .int .i64 o.s.us, .int .i64 o.s.uw, .slice D o.s.dl.length cd, .int .i64 o.s.ds, .int .i64 o.s.dw, .int .i64 o.s.mn, .int .i64 o.s.mx]) (t := 49) ?hr ?_; (case hd => rfl); (case hg => rfl); (case hr => first | (go_simp; done) | (go_simp; rfl)); intro gb hg wb hbox hb; have BKb := Aside0.mk hbox; have GEb := Aside0.mk (bs_ hg (hb0_)); replace HB := Aside0.mk (below_step hb0_ hb); clear hb hbox hg; obtain ⟨⟨bz0, bf0⟩, ⟨bz1, bf1⟩, ⟨bz2, bf2⟩, ⟨bz3, bf3⟩, ⟨bz4, bf4⟩, ⟨bz5, bf5⟩, ⟨bz6, bf6⟩, ⟨bz7, bf7⟩, ⟨bz8, bf8⟩, ⟨bz9, bf9⟩, ⟨bz10, bf10⟩, ⟨bz11, bf11⟩, ⟨bz12, bf12⟩, ⟨bz13, bf13⟩, ⟨bz14, bf14⟩, ⟨bz15, bf15⟩⟩ := bc16_ BKb))
  go_cut [35] (fun v35 w' => ∃ pb : Bool, v35 = .bool pb ∧ Aside0 (preB o = !pb) ∧ Aside0 (w'.heap[gb]? = some (.cells #[.int .i64 o.k, .int .i64 o.a, .string o.t, .slice P o.p.length cp, .int .i64 o.s.d, .int .i64 o.s.f, .int .i64 o.s.n, .slice G o.s.g.length cg, .slice U o.s.ul.length cu, .int .i64 o.s.us, .int .i64 o.s.uw, .slice D o.s.dl.length cd, .int .i64 o.s.ds, .int .i64 o.s.dw, .int .i64 o.s.mn, .int .i64 o.s.mx] 49 (0, 0))) ∧ Aside0 (Below w.heap.size w w'))
  case first =>
    have H17 : Aside0 (Calls Tryz.prog 17 #[o.s.agg G U D cg cu cd] wb fun e w' => e = .returned (.bool (emptyB o.s)) ∧ Below wb.heap.size wb w') := ⟨spec_l10Empty.good o.s G U D cg cu cd _ (HR.out.below HB.out)⟩
    by_cases h3 : o.p.length = 0
    rotate_left
    · have h3' : decide (0 < o.p.length) = true := decide_eq_true (Nat.pos_of_ne_zero h3)
      have h3'' : 0 < o.p.length := Nat.pos_of_ne_zero h3
      have hp0 : Aside0 (preB o = !true) := ⟨by rw [preB, decide_eq_false h3]; simp⟩
      go_wp2
      go_meet
      case rel => exact ⟨true, rfl, hp0, BKb, HB⟩
    have h3' : decide (0 < o.p.length) = false := decide_eq_false (by omega)
    have h3'' : ¬ 0 < o.p.length := by omega
    by_cases hk1 : o.k = 1
    · have hn3 : ¬ o.k = 3 := by omega
      have hb1 : (o.k != 1) = false := by simp [hk1]
      have hb3 : (o.k != 3) = true := by simp [hn3]
      have hp0 : Aside0 (preB o = emptyB o.s) := ⟨by rw [preB, decide_eq_true h3, decide_eq_true hk1, decide_eq_false hn3]; simp⟩
      generalize emptyB o.s = es at hp0 H17
      cases es with
      | false =>
        go_wp2_with (first | (go_at_call 17; refine H17.out.mono ?_; rintro e w4 ⟨rfl, hb⟩))
        go_meet
        case rel => exact ⟨true, rfl, hp0, ⟨blk_below BKb.out hb⟩, ⟨below_step HB.out hb⟩⟩
      | true =>
        go_wp2_with (first | (go_at_call 17; refine H17.out.mono ?_; rintro e w4 ⟨rfl, hb⟩))
        go_meet
        case rel => exact ⟨false, rfl, hp0, ⟨blk_below BKb.out hb⟩, ⟨below_step HB.out hb⟩⟩
    · have hb1 : (o.k != 1) = true := by simp [hk1]
      by_cases ht0 : o.t.size = 0
      rotate_left
      · have ht1 := full_toList ht0
        have hp0 : Aside0 (preB o = !true) := ⟨by rw [preB, decide_eq_false ht0, decide_eq_false hk1]; simp⟩
        go_wp2
        go_meet
        case rel => exact ⟨true, rfl, hp0, BKb, HB⟩
      have ht1 := empty_toList ht0
      by_cases hn3 : o.k = 3
      · have hb3 : (o.k != 3) = false := by simp [hn3]
        have hp0 : Aside0 (preB o = !false) := ⟨by rw [preB, decide_eq_true h3, decide_eq_true ht0, decide_eq_true hn3]; simp⟩
        clear ht0
        go_wp2
        go_meet
        case rel => exact ⟨false, rfl, hp0, BKb, HB⟩
      · have hb3 : (o.k != 3) = true := by simp [hn3]
        have hp0 : Aside0 (preB o = emptyB o.s) := ⟨by rw [preB, decide_eq_true h3, decide_eq_true ht0, decide_eq_false hn3]; simp⟩
        clear ht0
        generalize emptyB o.s = es at hp0 H17
        cases es with
        | false =>
          go_wp2_with (first | (go_at_call 17; refine H17.out.mono ?_; rintro e w4 ⟨rfl, hb⟩))
          go_meet
          case rel => exact ⟨true, rfl, hp0, ⟨blk_below BKb.out hb⟩, ⟨below_step HB.out hb⟩⟩
        | true =>
          go_wp2_with (first | (go_at_call 17; refine H17.out.mono ?_; rintro e w4 ⟨rfl, hb⟩))
          go_meet
          case rel => exact ⟨false, rfl, hp0, ⟨blk_below BKb.out hb⟩, ⟨below_step HB.out hb⟩⟩
  case rest =>
    clear BKb HB GEb bz0 bf0 bz1 bf1 bz2 bf2 bz3 bf3 bz4 bf4 bz5 bf5 bz6 bf6 bz7 bf7 bz8 bf8 bz9 bf9 bz10 bf10 bz11 bf11 bz12 bf12 bz13 bf13 bz14 bf14 bz15 bf15
    obtain ⟨pb, rfl, HP, BKb, HB⟩ := hcut
    cases pb with
    | true =>
      have hno := opLine_no o (by rw [restB_pre, HP.out]; simp)
      go_wp2
      go_ret2
      exact ⟨by first | (rw [hno]; rfl) | rfl, HB.out⟩
    | false =>
      replace HP : Aside0 (preB o = true) := HP
      obtain ⟨⟨bz0, bf0⟩, ⟨bz1, bf1⟩, ⟨bz2, bf2⟩, ⟨bz3, bf3⟩, ⟨bz4, bf4⟩, ⟨bz5, bf5⟩, ⟨bz6, bf6⟩, ⟨bz7, bf7⟩, ⟨bz8, bf8⟩, ⟨bz9, bf9⟩, ⟨bz10, bf10⟩, ⟨bz11, bf11⟩, ⟨bz12, bf12⟩, ⟨bz13, bf13⟩, ⟨bz14, bf14⟩, ⟨bz15, bf15⟩⟩ := bc16_ BKb
      go_upto_block 0 with (fail)
      go_cut [4, 5, 6, 7, 8, 37] (fun v4 v5 v6 v7 v8 v37 w' => ∃ ln : ByteArray, v4 = .string ln ∧ Aside0 ((LineIs o ln ∨ (ln.size = 0 ∧ opLine o = none)) ∧ ln.size ≤ 5000000) ∧ Aside0 (w'.heap[gb]? = some (.cells #[.int .i64 o.k, .int .i64 o.a, .string o.t, .slice P o.p.length cp, .int .i64 o.s.d, .int .i64 o.s.f, .int .i64 o.s.n, .slice G o.s.g.length cg, .slice U o.s.ul.length cu, .int .i64 o.s.us, .int .i64 o.s.uw, .slice D o.s.dl.length cd, .int .i64 o.s.ds, .int .i64 o.s.dw, .int .i64 o.s.mn, .int .i64 o.s.mx] 49 (0, 0))) ∧ Aside0 (Below w.heap.size w w'))
      case first =>
        by_cases hk : o.k = 0 ∨ o.k = 4 ∨ o.k = 5
        · obtain ⟨v0, hv0, hkx, hvb⟩ : ∃ v0 : Nat, v0 < 3 ∧ (∀ n : Nat, n < 3 → ((rdOf 0 ([0, 4, 5] : List Int) (n : Int) == o.k) = decide (n = v0))) ∧ rdOf ByteArray.empty vbs (v0 : Int) = mkB (verbL o.k) := by
            rcases hk with hk | hk | hk
            · refine ⟨0, by omega, fun n hn => ?_, by rw [hk]; rfl⟩
              obtain rfl | rfl | rfl : n = 0 ∨ n = 1 ∨ n = 2 := by omega
              all_goals (rw [hk]; rfl)
            · refine ⟨1, by omega, fun n hn => ?_, by rw [hk]; rfl⟩
              obtain rfl | rfl | rfl : n = 0 ∨ n = 1 ∨ n = 2 := by omega
              all_goals (rw [hk]; rfl)
            · refine ⟨2, by omega, fun n hn => ?_, by rw [hk]; rfl⟩
              obtain rfl | rfl | rfl : n = 0 ∨ n = 1 ∨ n = 2 := by omega
              all_goals (rw [hk]; rfl)
          have hvz : (mkB (verbL o.k)).size ≤ 6 := by rw [mkB_size]; rcases hk with hk | hk | hk <;> rw [hk] <;> decide
          have V := Aside0.mk vbs_f
          have K := Aside0.mk kinds_f
          have KX := Aside0.mk hkx
          have VB := Aside0.mk hvb
          have VZ := Aside0.mk hvz
          have NF := Aside0.mk (l01Num_f o.a a1 a2 50 (by omega) (by omega))
          have NZ := Aside0.mk (nb_size_le o.a a1 a2)
          have hkk := Aside0.mk hk
          have E1 : Aside0 ((LineIs o (mkB (verbL o.k ++ 32 :: Go.Lib.itoa o.a)) ∨ ((mkB (verbL o.k ++ 32 :: Go.Lib.itoa o.a)).size = 0 ∧ opLine o = none)) ∧ (mkB (verbL o.k ++ 32 :: Go.Lib.itoa o.a)).size ≤ 5000000) := ⟨Or.inl (Or.inl ⟨hk, rfl⟩), by rw [mkB_size] at hvz ⊢; have := itoa_le o.a a1 a2; simp; omega⟩
          clear hkx hvb hvz
          have HV0 := Aside0.mk hv0
          go_upto_region 5 with (fail)
          go_cut [37, 38] (fun v37 v38 w' => ∃ b : Bool, v37 = .int .i64 o.k ∧ v38 = .bool b ∧ Aside0 (b = (o.k == 0)) ∧ Aside0 (w'.heap[gb]? = some (.cells #[.int .i64 o.k, .int .i64 o.a, .string o.t, .slice P o.p.length cp, .int .i64 o.s.d, .int .i64 o.s.f, .int .i64 o.s.n, .slice G o.s.g.length cg, .slice U o.s.ul.length cu, .int .i64 o.s.us, .int .i64 o.s.uw, .slice D o.s.dl.length cd, .int .i64 o.s.ds, .int .i64 o.s.dw, .int .i64 o.s.mn, .int .i64 o.s.mx] 49 (0, 0))) ∧ Aside0 (Below w.heap.size w w'))
          case first =>
            clear hk
            cases hq : (o.k == 0) with
            | true =>
              go_wp2
              go_meet
              case rel => exact ⟨true, rfl, rfl, ⟨hq.symm⟩, BKb, HB⟩
            | false =>
              go_wp2
              go_meet
              case rel => exact ⟨false, rfl, rfl, ⟨hq.symm⟩, BKb, HB⟩
          case rest =>
          clear BKb HB hk bz0 bf0 bz1 bf1 bz2 bf2 bz3 bf3 bz4 bf4 bz5 bf5 bz6 bf6 bz7 bf7 bz8 bf8 bz9 bf9 bz10 bf10 bz11 bf11 bz12 bf12 bz13 bf13 bz14 bf14 bz15 bf15
          obtain ⟨b38, rfl, rfl, HQ, BKb, HB⟩ := hcut
          go_upto_if 38 with (fail)
          go_cut [37, 38, 40, 41] (fun v37 v38 v40 v41 w' => v38 = .bool true ∧ Aside0 (w'.heap[gb]? = some (.cells #[.int .i64 o.k, .int .i64 o.a, .string o.t, .slice P o.p.length cp, .int .i64 o.s.d, .int .i64 o.s.f, .int .i64 o.s.n, .slice G o.s.g.length cg, .slice U o.s.ul.length cu, .int .i64 o.s.us, .int .i64 o.s.uw, .slice D o.s.dl.length cd, .int .i64 o.s.ds, .int .i64 o.s.dw, .int .i64 o.s.mn, .int .i64 o.s.mx] 49 (0, 0))) ∧ Aside0 (Below w.heap.size w w'))
          case first =>
            rcases hkk.out with hk | hk | hk
            · obtain rfl : b38 = true := HQ.out.trans (by rw [hk]; rfl)
              go_wp2
              go_meet
              case rel => exact ⟨rfl, BKb, HB⟩
            · obtain rfl : b38 = false := HQ.out.trans (by rw [hk]; rfl)
              go_wp2
              go_meet
              case rel => exact ⟨rfl, BKb, HB⟩
            · obtain rfl : b38 = false := HQ.out.trans (by rw [hk]; rfl)
              go_wp2
              go_meet
              case rel => exact ⟨rfl, BKb, HB⟩
          case rest =>
            clear BKb HB HQ
            obtain ⟨rfl, BKb, HB⟩ := hcut
            go_wp2
            go_loopg [4, 5] 4 (fun kq v4 v5 w' => ∃ (n : Nat) (l4 : ByteArray), v4 = .string l4 ∧ v5 = .int .i64 (n : Int) ∧ Aside0 (kq + n = 4 ∧ n ≤ 3) ∧ Aside0 (v0 < n → l4 = mkB (verbL o.k ++ 32 :: Go.Lib.itoa o.a)) ∧ Aside0 (w'.heap[gb]? = some (.cells #[.int .i64 o.k, .int .i64 o.a, .string o.t, .slice P o.p.length cp, .int .i64 o.s.d, .int .i64 o.s.f, .int .i64 o.s.n, .slice G o.s.g.length cg, .slice U o.s.ul.length cu, .int .i64 o.s.us, .int .i64 o.s.uw, .slice D o.s.dl.length cd, .int .i64 o.s.ds, .int .i64 o.s.dw, .int .i64 o.s.mn, .int .i64 o.s.mx] 49 (0, 0))) ∧ Aside0 (Below w.heap.size w w'))
            case atStart => exact ⟨0, ⟨#[]⟩, rfl, rfl, ⟨by omega, by omega⟩, ⟨fun h => absurd h (by omega)⟩, BKb, HB⟩
            case round =>
              clear BKb HB
              obtain ⟨n, l4, rfl, rfl, HK, HL, BKb, HB⟩ := hrel
              cases gk with
              | zero => exact absurd HK.out.1 (by have := HK.out; omega)
              | succ k1 =>
                by_cases hlt : n < 3
                · have d1 : decide ((n : Int) < 3) = true := decide_eq_true (by omega)
                  obtain ⟨x0, y0⟩ := bc_ BKb 0
                  obtain ⟨x1, y1⟩ := bc_ BKb 1
                  have hkl : n < ([0, 4, 5] : List Int).length := hlt
                  have hnl : n < vbs.length := hlt
                  go_upto_region 11 with (fail)
                  go_cut [52] from 42 to 61 (fun v52 w' => ∃ bq : Bool, v52 = .bool bq ∧ Aside0 (bq = decide (n = v0)) ∧ Aside0 (w'.heap[gb]? = some (.cells #[.int .i64 o.k, .int .i64 o.a, .string o.t, .slice P o.p.length cp, .int .i64 o.s.d, .int .i64 o.s.f, .int .i64 o.s.n, .slice G o.s.g.length cg, .slice U o.s.ul.length cu, .int .i64 o.s.us, .int .i64 o.s.uw, .slice D o.s.dl.length cd, .int .i64 o.s.ds, .int .i64 o.s.dw, .int .i64 o.s.mn, .int .i64 o.s.mx] 49 (0, 0))) ∧ Aside0 (Below w.heap.size w w'))
                  case first =>
                    have hq := KX.out n hlt
                    go_region_with (first | (go_at_call 18; (with_reducible refine (spec_l10Kinds.calls _ _ K.out).mono ?_); rintro e w7 ⟨vv, rfl, ho, hb⟩; replace BKb := Aside0.mk (blk_below (blk_drew BKb.out) hb); replace HB := Aside0.mk (below_step (below_drew1 HB.out) hb); obtain ⟨g7, c7, e7, _, _⟩ := R_open ho (by decide); subst e7; have hy := (Kd.R_cell (0 : Int) ho (n : Int) (by omega) (by show (n : Int) < 3; omega)).1; rw [Int.toNat_natCast] at hy; clear ho hb; obtain ⟨p0, q0⟩ := bc_ BKb 0))
                    all_goals (go_wp2_with (fail); go_meet)
                    all_goals (case rel => exact ⟨_, rfl, ⟨rfl⟩, BKb, HB⟩)
                  case rest =>
                    clear BKb HB x0 y0 x1 y1
                    obtain ⟨bq, rfl, HBQ, BKb, HB⟩ := hcut
                    cases bq with
                    | true =>
                      have hnv : n = v0 := of_decide_eq_true HBQ.out.symm
                      obtain ⟨x1, y1⟩ := bc_ BKb 1
                      have HNV := Aside0.mk hnv
                      have hxv : rdOf ByteArray.empty vbs (n : Int) = mkB (verbL o.k) := by rw [hnv]; exact VB.out
                      have HXV := Aside0.mk hxv
                      have s1 : ¬ 9223372036854775807 < (mkB (verbL o.k)).size + 1 := by have := VZ.out; omega
                      have s2 : ¬ 9223372036854775807 < (mkB (verbL o.k)).size + 1 + (nb o.a).size := by have := VZ.out; have := NZ.out; omega
                      clear hnv hxv
                      go_upto_region 12 with (fail)
                      go_region_with (first | (go_at_call 19; (with_reducible refine (spec_l10Verbs.calls _ _ V.out).mono ?_); rintro e w7 ⟨vv, rfl, ho, hb⟩; replace BKb := Aside0.mk (blk_below (blk_drew BKb.out) hb); replace HB := Aside0.mk (below_step (below_drew1 HB.out) hb); obtain ⟨g7, c7, e7, _, _⟩ := R_open ho (by decide); subst e7; have hy := (Kd.R_cell ByteArray.empty ho (n : Int) (by omega) (by show (n : Int) < 3; omega)).1; rw [Int.toNat_natCast, HXV.out] at hy; clear ho hb; obtain ⟨p0, q0⟩ := bc_ BKb 1) | (go_at_call 20; (with_reducible refine (spec_l01Num.calls _ _ _ _ NF.out).mono ?_); rintro e w8 ⟨rfl, hb⟩; replace hy := pw_cell_below hb hy; replace BKb := Aside0.mk (blk_below BKb.out hb); replace HB := Aside0.mk (below_step HB.out hb); clear hb; obtain ⟨p2, q2⟩ := bc_ BKb 1))
                      all_goals
                        go_wp2_with (fail)
                        go_roundg k1
                        case measure => omega
                        case rel => exact ⟨n + 1, _, rfl, rfl, ⟨by have := HK.out; omega, by omega⟩, ⟨fun _ => ba_ext (by rw [ba_data_append, ba_data_append]; show (verbL o.k ++ [32]) ++ Go.Lib.itoa o.a = _; simp [mkB])⟩, BKb, HB⟩
                    | false =>
                      have HNV : Aside0 (¬ n = v0) := ⟨of_decide_eq_false HBQ.out.symm⟩
                      go_wp2
                      go_roundg k1
                      case measure => omega
                      case rel => exact ⟨n + 1, l4, rfl, rfl, ⟨by have := HK.out; omega, by omega⟩, ⟨fun h => HL.out (by have := HNV.out; omega)⟩, BKb, HB⟩
                · obtain rfl : n = 3 := by have := HK.out; omega
                  have hl4 := HL.out HV0.out
                  subst hl4
                  have d1 : decide ((3 : Int) < 3) = false := rfl
                  go_wp2
                  go_meet
                  case rel => exact ⟨_, rfl, E1, BKb, HB⟩
        · have m1 : ¬ (o.k = 0) := fun e => hk (Or.inl e)
          have m2 : ¬ (o.k = 4) := fun e => hk (Or.inr (Or.inl e))
          have m3 : ¬ (o.k = 5) := fun e => hk (Or.inr (Or.inr e))
          by_cases h1 : o.k = 1
          · clear hk
            go_wp2
            go_loopg [6] (o.t.size + 1) (fun kq v6 w' => ∃ x : Int, v6 = .int .i64 x ∧ Aside0 (0 ≤ x ∧ x ≤ o.t.size ∧ kq + x.toNat = o.t.size + 1) ∧ Aside0 (∀ j : Nat, j < x.toNat → bt o.t (j : Int) ≠ 59) ∧ Aside0 (w'.heap[gb]? = some (.cells #[.int .i64 o.k, .int .i64 o.a, .string o.t, .slice P o.p.length cp, .int .i64 o.s.d, .int .i64 o.s.f, .int .i64 o.s.n, .slice G o.s.g.length cg, .slice U o.s.ul.length cu, .int .i64 o.s.us, .int .i64 o.s.uw, .slice D o.s.dl.length cd, .int .i64 o.s.ds, .int .i64 o.s.dw, .int .i64 o.s.mn, .int .i64 o.s.mx] 49 (0, 0))) ∧ Aside0 (Below w.heap.size w w'))
            case atStart => exact ⟨0, rfl, ⟨by omega, by omega, by show _ + (0 : Int).toNat = _; simp⟩, ⟨fun j hj => absurd hj (by simp)⟩, BKb, HB⟩
            case round =>
              clear BKb HB bz0 bf0 bz1 bf1 bz2 bf2 bz3 bf3 bz4 bf4 bz5 bf5 bz6 bf6 bz7 bf7 bz8 bf8 bz9 bf9 bz10 bf10 bz11 bf11 bz12 bf12 bz13 bf13 bz14 bf14 bz15 bf15
              obtain ⟨x, rfl, HK, HN, BKb, HB⟩ := hrel
              obtain ⟨x2, y2⟩ := bc_ BKb 2
              cases gk with
              | zero => exact absurd HK.out.2.2 (by have := HK.out; omega)
              | succ k1 =>
                by_cases hlt : x < (o.t.size : Int)
                · have d1 : decide (x < (o.t.size : Int)) = true := decide_eq_true hlt
                  have p49 : 0 ≤ x := HK.out.1
                  have q49 : x < (o.t.size : Int) := hlt
                  have HX := Aside0.mk (And.intro p49 hlt)
                  have hx49 := bt_at o.t x
                  clear hlt
                  by_cases c50 : bt o.t x = 59
                  · have hno : opLine o = none := by
                      have hm : (59 : UInt8) ∈ o.t.data.toList := by
                        have hb := bt_nat o.t x.toNat (by omega)
                        rw [Int.toNat_of_nonneg HX.out.1, c50] at hb
                        have hl : x.toNat < o.t.data.toList.length := by rw [data_length]; omega
                        rw [List.getD_eq_getElem?_getD, List.getElem?_eq_getElem hl, Option.getD_some] at hb
                        have : o.t.data.toList[x.toNat] = 59 := UInt8.toNat_inj.mp (by have : ((59 : UInt8).toNat : Int) = 59 := rfl; omega)
                        rw [← this]
                        exact List.getElem_mem hl
                      rw [opLine, lineOf, if_neg (by omega), if_pos h1, if_pos (List.contains_iff_mem.mpr hm)]
                    have c50b0 : (bt o.t x == 59) = true := beq_iff_eq.mpr c50
                    clear c50
                    replace p49 := eq_true p49
                    replace q49 := eq_true q49
                    go_wp2
                    go_ret2
                    exact ⟨by first | (rw [hno]; rfl) | rfl, HB.out⟩
                  · have c50b0 : (bt o.t x == 59) = false := beq_eq_false_iff_ne.mpr c50
                    have HC := Aside0.mk c50
                    replace p49 := eq_true p49
                    replace q49 := eq_true q49
                    go_wp2
                    go_roundg k1
                    case measure => omega
                    case rel =>
                      have hw : wrap64 (x + 1) = x + 1 := w64 (by have := HX.out; omega) (by have := HX.out; omega)
                      exact ⟨wrap64 (x + 1), (rs_), ⟨by rw [hw]; have := HX.out; omega, by rw [hw]; have := HX.out; omega, by rw [hw]; have := HX.out; have := HK.out; omega⟩, ⟨fun j hj => by
                        rw [hw] at hj
                        by_cases e : j < x.toNat
                        · exact HN.out j e
                        · have : (j : Int) = x := by have := HX.out; omega
                          rw [this]; exact HC.out⟩, BKb, HB⟩
                · have d1 : decide (x < (o.t.size : Int)) = false := decide_eq_false hlt
                  have hc : o.t.data.toList.contains 59 = false := by
                    cases hh : o.t.data.toList.contains 59 with
                    | false => rfl
                    | true =>
                      obtain ⟨j, hj, he⟩ := List.getElem_of_mem (List.contains_iff_mem.mp hh)
                      rw [data_length] at hj
                      refine absurd ?_ (HN.out j (by have := HK.out; omega))
                      rw [bt_nat o.t j hj, List.getD_eq_getElem?_getD, List.getElem?_eq_getElem (by rw [data_length]; exact hj), Option.getD_some, he]
                      rfl
                  have N2 : Aside0 (spec_l10Swap.f o.t 10 59 = some ⟨(swb 10 59 o.t.data.toList).toArray⟩) := ⟨swap_f o.t (by omega) 10 59⟩
                  obtain ⟨tb, htb⟩ : ∃ b : ByteArray, b = ⟨(swb 10 59 o.t.data.toList).toArray⟩ := ⟨_, rfl⟩
                  have htl : tb.data.toList = swb 10 59 o.t.data.toList := by rw [htb]
                  have hts : tb.size = o.t.size := by rw [← data_length, htl, swb_len, data_length]
                  rw [← htb] at N2
                  have s1 : ¬ 9223372036854775807 < 7 + tb.size := by omega
                  have E1 : Aside0 ((LineIs o ((⟨#[115, 99, 114, 97, 112, 101, 32]⟩ : ByteArray) ++ tb) ∨ (((⟨#[115, 99, 114, 97, 112, 101, 32]⟩ : ByteArray) ++ tb).size = 0 ∧ opLine o = none)) ∧ ((⟨#[115, 99, 114, 97, 112, 101, 32]⟩ : ByteArray) ++ tb).size ≤ 5000000) := ⟨Or.inl (Or.inr (Or.inl ⟨h1, hc, ba_ext (by rw [ba_data_append, htl]; first | done | rfl)⟩)), by rw [ByteArray.size_append]; show 7 + tb.size ≤ _; omega⟩
                  clear htb htl hts hc hlt
                  go_wp2_with (first | (go_at_call 21; (with_reducible refine (spec_l10Swap.calls _ _ _ _ _ N2.out).mono ?_); rintro e w5 ⟨rfl, hb⟩; replace HB := (⟨below_step HB.out hb⟩ : Aside0 (Below w.heap.size w w5)); replace BKb := (⟨blk_below BKb.out hb⟩ : Aside0 (w5.heap[gb]? = _)); clear hb))
                  go_meet
                  case rel => exact ⟨_, rfl, E1, BKb, HB⟩
          · by_cases h3 : o.k = 3
            · clear hk
              cases hset : setB o.s with
              | false =>
                have hno : opLine o = none := by rw [opLine, lineOf, if_neg (by omega), if_neg h1, if_pos h3, if_neg (by rw [hset]; simp)]
                go_wp2_with (first | (go_at_call 22; (with_reducible refine (spec_SetupText.bad o.s G U D cg cu cd _ HS.out (HR.out.below HB.out) hset).mono ?_); rintro e w6 ⟨rfl, hb⟩))
                go_ret2
                exact ⟨by rw [hno]; rfl, below_step HB.out hb⟩
              | true =>
                have hsz := stb_size o.s hset
                have N2 : Aside0 (spec_l10Swap.f (stb o.s) 10 59 = some ⟨(swb 10 59 (stb o.s).data.toList).toArray⟩) := ⟨swap_f (stb o.s) (by omega) 10 59⟩
                obtain ⟨tb, htb⟩ : ∃ b : ByteArray, b = ⟨(swb 10 59 (stb o.s).data.toList).toArray⟩ := ⟨_, rfl⟩
                have htl : tb.data.toList = swb 10 59 (stl o.s) := by rw [htb]; rfl
                have hts : tb.size = (stb o.s).size := by rw [← data_length, htl, swb_len, ← data_length]; rfl
                rw [← htb] at N2
                have s1 : ¬ 9223372036854775807 < 6 + tb.size := by omega
                have E1 : Aside0 ((LineIs o ((⟨#[115, 101, 116, 117, 112, 32]⟩ : ByteArray) ++ tb) ∨ (((⟨#[115, 101, 116, 117, 112, 32]⟩ : ByteArray) ++ tb).size = 0 ∧ opLine o = none)) ∧ ((⟨#[115, 101, 116, 117, 112, 32]⟩ : ByteArray) ++ tb).size ≤ 5000000) := ⟨Or.inl (Or.inr (Or.inr (Or.inl ⟨h3, hset, ba_ext (by rw [ba_data_append, htl]; first | done | rfl)⟩))), by rw [ByteArray.size_append]; show 6 + tb.size ≤ _; omega⟩
                clear htb htl hts
                go_wp2_with (first | (go_at_call 22; (with_reducible refine (spec_SetupText.good o.s G U D cg cu cd _ HS.out (HR.out.below HB.out) hset).mono ?_); rintro e w6 ⟨rfl, hb⟩; replace HB := (⟨below_step HB.out hb⟩ : Aside0 (Below w.heap.size w w6)); replace BKb := (⟨blk_below BKb.out hb⟩ : Aside0 (w6.heap[gb]? = _)); clear hb) | (go_at_call 21; (with_reducible refine (spec_l10Swap.calls _ _ _ _ _ N2.out).mono ?_); rintro e w5 ⟨rfl, hb⟩; replace HB := (⟨by first | exact below_step HB.out hb | exact below_step (pw_below_drewN HB.out _) hb⟩ : Aside0 (Below w.heap.size w w5)); replace BKb := (⟨by first | exact blk_below BKb.out hb | exact blk_below (blk_drewN BKb.out _) hb⟩ : Aside0 (w5.heap[gb]? = _)); clear hb))
                go_meet
                case rel => exact ⟨_, rfl, E1, BKb, HB⟩
            · by_cases h6 : o.k = 6
              · clear hk
                have E1 : Aside0 ((LineIs o ⟨#[114, 101, 115, 116, 97, 114, 116]⟩ ∨ ((⟨#[114, 101, 115, 116, 97, 114, 116]⟩ : ByteArray).size = 0 ∧ opLine o = none)) ∧ (⟨#[114, 101, 115, 116, 97, 114, 116]⟩ : ByteArray).size ≤ 5000000) := ⟨Or.inl (Or.inr (Or.inr (Or.inr (Or.inl ⟨h6, rfl⟩)))), by decide⟩
                go_wp2
                go_meet
                case rel => exact ⟨_, rfl, E1, BKb, HB⟩
              · by_cases h7 : o.k = 7
                · clear hk
                  have E1 : Aside0 ((LineIs o ⟨#[108, 111, 111, 107]⟩ ∨ ((⟨#[108, 111, 111, 107]⟩ : ByteArray).size = 0 ∧ opLine o = none)) ∧ (⟨#[108, 111, 111, 107]⟩ : ByteArray).size ≤ 5000000) := ⟨Or.inl (Or.inr (Or.inr (Or.inr (Or.inr ⟨h7, rfl⟩)))), by decide⟩
                  go_wp2
                  go_meet
                  case rel => exact ⟨_, rfl, E1, BKb, HB⟩
                · have hno : opLine o = none := by rw [opLine, lineOf, if_neg hk, if_neg h1, if_neg h3, if_neg h6, if_neg h7]
                  clear hk
                  have E1 : Aside0 ((LineIs o ⟨#[]⟩ ∨ ((⟨#[]⟩ : ByteArray).size = 0 ∧ opLine o = none)) ∧ (⟨#[]⟩ : ByteArray).size ≤ 5000000) := ⟨Or.inr ⟨rfl, hno⟩, by decide⟩
                  go_wp2
                  go_meet
                  case rel => exact ⟨_, rfl, E1, BKb, HB⟩
      case rest =>
        clear BKb HB bz0 bf0 bz1 bf1 bz2 bf2 bz3 bf3 bz4 bf4 bz5 bf5 bz6 bf6 bz7 bf7 bz8 bf8 bz9 bf9 bz10 bf10 bz11 bf11 bz12 bf12 bz13 bf13 bz14 bf14 bz15 bf15
        obtain ⟨ln, rfl, HL, BKb, HB⟩ := hcut
        by_cases h0 : ln.size = 0
        · have hno : opLine o = none := by
            rcases HL.out.1 with h | h
            · exact absurd h0 h.ne
            · exact h.2
          have h1 := empty_toList h0
          have h2 : (ln.toList == []) = true := by simpa using h1
          clear h0
          go_wp2
          go_ret2
          exact ⟨by first | (rw [hno]; rfl) | rfl, HB.out⟩
        have h1 := full_toList h0
        have h2 : (ln.toList == []) = false := by simpa using h1
        have HI : Aside0 (LineIs o ln) := ⟨HL.out.1.resolve_right (fun h => h0 h.1)⟩
        by_cases h5 : ln.size ≤ 200
        rotate_left
        · have hno := HI.out.line (by omega) HO.out
          have h5' : decide (200 < ln.size) = true := decide_eq_true (by omega)
          have h5'' : 200 < ln.size := by omega
          have hln := HL.out.2
          clear h0
          go_wp2
          go_ret2
          exact ⟨by first | (rw [hno]; rfl) | rfl, HB.out⟩
        have h5' : decide (200 < ln.size) = false := decide_eq_false (by omega)
        have h5'' : ¬ (200 < ln.size) := by omega
        obtain ⟨x, fine, hP, hA⟩ := line_parsed o HO.out ln HI.out HP.out h5
        have PP := Aside0.mk hP
        have AA := Aside0.mk hA
        clear hP hA h0
        go_upto_region 32 with (first | (go_at_call 23; refine (PP.out _).mono ?_; rintro e w5 ⟨o2, P2, G2, U2, D2, cp2, cg2, cu2, cd2, rfl, hx, hb⟩; replace HB := Aside0.mk (below_step HB.out hb); replace BKb := Aside0.mk (blk_below BKb.out hb); have HX := Aside0.mk hx; clear hb hx))
        have BK9 := Aside0.mk (heap_alloc_new w5 (.cells #[.int .i64 o2.k, .int .i64 o2.a, .string o2.t, .slice P2 o2.p.length cp2, .int .i64 o2.s.d, .int .i64 o2.s.f, .int .i64 o2.s.n, .slice G2 o2.s.g.length cg2, .slice U2 o2.s.ul.length cu2, .int .i64 o2.s.us, .int .i64 o2.s.uw, .slice D2 o2.s.dl.length cd2, .int .i64 o2.s.ds, .int .i64 o2.s.dw, .int .i64 o2.s.mn, .int .i64 o2.s.mx] 49 (0, 0)))
        replace BKb := Aside0.mk (blk_alloc BKb.out (.cells #[.int .i64 o2.k, .int .i64 o2.a, .string o2.t, .slice P2 o2.p.length cp2, .int .i64 o2.s.d, .int .i64 o2.s.f, .int .i64 o2.s.n, .slice G2 o2.s.g.length cg2, .slice U2 o2.s.ul.length cu2, .int .i64 o2.s.us, .int .i64 o2.s.uw, .slice D2 o2.s.dl.length cd2, .int .i64 o2.s.ds, .int .i64 o2.s.dw, .int .i64 o2.s.mn, .int .i64 o2.s.mx] 49 (0, 0)))
        replace HB := Aside0.mk (below_alloc HB.out (.cells #[.int .i64 o2.k, .int .i64 o2.a, .string o2.t, .slice P2 o2.p.length cp2, .int .i64 o2.s.d, .int .i64 o2.s.f, .int .i64 o2.s.n, .slice G2 o2.s.g.length cg2, .slice U2 o2.s.ul.length cu2, .int .i64 o2.s.us, .int .i64 o2.s.uw, .slice D2 o2.s.dl.length cd2, .int .i64 o2.s.ds, .int .i64 o2.s.dw, .int .i64 o2.s.mn, .int .i64 o2.s.mx] 49 (0, 0)))
        generalize w5.alloc (.cells #[.int .i64 o2.k, .int .i64 o2.a, .string o2.t, .slice P2 o2.p.length cp2, .int .i64 o2.s.d, .int .i64 o2.s.f, .int .i64 o2.s.n, .slice G2 o2.s.g.length cg2, .slice U2 o2.s.ul.length cu2, .int .i64 o2.s.us, .int .i64 o2.s.uw, .slice D2 o2.s.dl.length cd2, .int .i64 o2.s.ds, .int .i64 o2.s.dw, .int .i64 o2.s.mn, .int .i64 o2.s.mx] 49 (0, 0)) = w6 at BK9 BKb HB ⊢
        generalize w5.heap.size = b9 at BK9 ⊢
        obtain ⟨x1, y1⟩ := bc_ BKb 1
        obtain ⟨x2, y2⟩ := bc_ BK9 1
        cases fine with
        | false =>
          have hno : opLine o = none := by rw [AA.out, if_neg (by simp)]
          go_wp2
          go_ret2
          exact ⟨by first | (rw [hno]; rfl) | rfl, HB.out⟩
        | true =>
          by_cases hxa : x = o.a
          · have hq : (o2.a != o.a) = false := by rw [HX.out rfl, hxa]; simp
            have hy : opLine o = some ln := by rw [AA.out, if_pos ⟨rfl, hxa⟩]
            clear hxa
            go_wp2
            go_ret2
            exact ⟨by first | (rw [hy]; rfl) | rfl, HB.out⟩
          · have hq : (o2.a != o.a) = true := by rw [HX.out rfl]; simpa using hxa
            have hno : opLine o = none := by rw [AA.out, if_neg (fun h => hxa h.2)]
            clear hxa
            go_wp2
            go_ret2
            exact ⟨by first | (rw [hno]; rfl) | rfl, HB.out⟩
end Go.Proofs.YtcjeblikejoogaaGreatDoor.PFnExactOpLine
