/-
  The program's OpLine ends with the plain line of its operation and changes no older memory.
  Conditions: the hypotheses of each theorem; none beside.
-/
import Derived.Test.YtcjeblikejoogaaGreatDoorHPure
namespace Go.Proofs.YtcjeblikejoogaaGreatDoor.PFnExactOpLine
open Go.RowKit Go.Proofs.YtcjeblikejoogaaGreatDoorW.PrintWords Go.Proofs.YtcjeblikejoogaaGreatDoorW.PrintLast Go.Proofs.YtcjeblikejoogaaGreatDoorW.PrintMore
set_option linter.unusedVariables false
set_option linter.unusedSimpArgs false
attribute [local go_sem high] eqA39 eqA90 eqA118
theorem stb_size (s : SU) (h : setB s = true) : (stb s).size ≤ 1500 := by
  obtain ⟨⟨v1, v2⟩, ⟨v3, v4⟩, ⟨v5, v6⟩, hu, hd, ⟨v7, v8⟩, ⟨v9, v10⟩, ⟨v11, v12⟩, hg⟩ := setB_out h
  have y1 := itoa_le s.d (by omega) (by omega)
  have y2 := itoa_le s.f (by omega) (by omega)
  have y3 := itoa_le s.n (by omega) (by omega)
  have y4 := itoa_le s.mn (by omega) (by omega)
  have y5 := itoa_le s.mx (by omega) (by omega)
  have z6 : (sl s.ul s.us s.uw).length ≤ 250 := by have := slb_size _ _ _ hu; rw [← data_length] at this; exact this
  have z7 : (sl s.dl s.ds s.dw).length ≤ 250 := by have := slb_size _ _ _ hd; rw [← data_length] at this; exact this
  have hk : ∀ n, n ≤ s.g.length → (((s.g.take n).map gll).flatten).length ≤ 86 * n := by
    intro n
    induction n with
    | zero => intro _; simp
    | succ n ih =>
      intro hn
      have h1 := ih (by omega)
      have h2 : (gl (rd_T90 s.g n)).length ≤ 80 := by have := glb_size _ (hg n (by omega)); rw [← data_length] at this; exact this
      rw [gll_step s.g n (by omega), List.length_append, List.length_append, List.length_append]
      simp only [List.length_cons, List.length_nil]
      omega
  have h3 := hk s.g.length (Nat.le_refl _)
  rw [List.take_length] at h3
  rw [← data_length]
  show (stl s).length ≤ 1500
  unfold stl rl cl
  simp only [List.length_append, List.length_cons, List.length_nil]
  omega
theorem opLine_no (o : OP) (h : restB o = false) : opLine o = none := by
  unfold opLine
  cases lineOf o with
  | none => rfl
  | some l => simp [h]
theorem opLine_long (o : OP) (b : ByteArray) (h : lineOf o = some b.data.toList) (hb : 200 < b.size) : opLine o = none := by
  unfold opLine
  rw [h]
  have : ¬ b.data.toList.length ≤ 200 := by rw [data_length]; omega
  simp only [if_neg this]
  split <;> rfl
theorem opLine_yes (o : OP) (b : ByteArray) (h : lineOf o = some b.data.toList) (hr : restB o = true) (hb : b.size ≤ 200) : opLine o = some b := by
  unfold opLine
  rw [h]
  have : b.data.toList.length ≤ 200 := by rw [data_length]; omega
  simp only [if_pos this, if_pos hr]
set_option maxRecDepth 100000 in
set_option maxHeartbeats 16000000 in
theorem impl_OpLine.good (o : OP) (P G U D : Option Addr) (cp cg cu cd : Nat) (w : World) (hLd : Laid w) (ho : o.Small) (hR : o.s.Rd w G U D cg cu cd) : Calls Tryz.prog 8 #[o.agg P G U D cp cg cu cd] w fun e w' => e = .returned (ansV (opLine o)) ∧ Below w.heap.size w w' := by
  obtain ⟨⟨k1, k2⟩, ⟨a1, a2⟩, ht, hp, hs⟩ := ho
  have hu49 := Tryz.underlying49
  have hu47 := Tryz.underlying47
  have HR := Aside0.mk hR
  have HS := Aside0.mk hs
  have HLd := Aside0.mk hLd
  clear hR hs hLd
  have HB := Aside0.mk (Below.refl w.heap.size w)
  go_enter Tryz.func8, Tryz.ntmps8
  go_upto_region 2 with (first | ((with_reducible refine gate_dst (N := 1) rfl ?_); refine box_event ?hg (N := 1) ?hd (cs := #[.int .i64 o.k, .int .i64 o.a, .string o.t, .slice P o.p.length cp, .int .i64 o.s.d, .int .i64 o.s.f, .int .i64 o.s.n, .slice G o.s.g.length cg, .slice U o.s.ul.length cu, .int .i64 o.s.us, .int .i64 o.s.uw, .slice D o.s.dl.length cd, .int .i64 o.s.ds, .int .i64 o.s.dw, .int .i64 o.s.mn, .int .i64 o.s.mx]) (t := 49) ?hr ?_; (case hd => rfl); (case hg => rfl); (case hr => first | (go_simp; done) | (go_simp; rfl)); intro gb hg wb hbox hb; have BKb := Aside0.mk hbox; have GEb := Aside0.mk (bs_ hg (hb0_)); replace HB := Aside0.mk (below_step hb0_ hb); clear hb hbox hg; obtain ⟨⟨bz0, bf0⟩, ⟨bz1, bf1⟩, ⟨bz2, bf2⟩, ⟨bz3, bf3⟩, ⟨bz4, bf4⟩, ⟨bz5, bf5⟩, ⟨bz6, bf6⟩, ⟨bz7, bf7⟩, ⟨bz8, bf8⟩, ⟨bz9, bf9⟩, ⟨bz10, bf10⟩, ⟨bz11, bf11⟩, ⟨bz12, bf12⟩, ⟨bz13, bf13⟩, ⟨bz14, bf14⟩, ⟨bz15, bf15⟩⟩ := bc16_ BKb))
  go_cut [5] (fun v5 w' => ∃ gr : Nat, v5 = .pointer (some ⟨gr, 0, none⟩) ∧ Aside0 (gb < gr) ∧ Aside0 (w.heap.size ≤ gr) ∧ Aside0 (w'.heap[gr]? = some (.cells #[.int .i64 o.k, .int .i64 o.a, .string o.t, .slice P o.p.length cp, .int .i64 o.s.d, .int .i64 o.s.f, .int .i64 o.s.n, .slice G o.s.g.length cg, .slice U o.s.ul.length cu, .int .i64 o.s.us, .int .i64 o.s.uw, .slice D o.s.dl.length cd, .int .i64 o.s.ds, .int .i64 o.s.dw, .int .i64 o.s.mn, .int .i64 o.s.mx] 49 (0, 0))) ∧ Aside0 (w'.heap[gb]? = some (.cells #[.int .i64 o.k, .int .i64 o.a, .string o.t, .slice P o.p.length cp, .int .i64 o.s.d, .int .i64 o.s.f, .int .i64 o.s.n, .slice G o.s.g.length cg, .slice U o.s.ul.length cu, .int .i64 o.s.us, .int .i64 o.s.uw, .slice D o.s.dl.length cd, .int .i64 o.s.ds, .int .i64 o.s.dw, .int .i64 o.s.mn, .int .i64 o.s.mx] 49 (0, 0))) ∧ Aside0 (Below w.heap.size w w'))
  case first =>
    go_wp2
    go_meet
    case rel => exact ⟨_, rfl, ⟨blk_lt BKb.out⟩, ⟨below_size HB.out⟩, ⟨heap_alloc_new _ _⟩, ⟨blk_alloc BKb.out _⟩, ⟨below_alloc HB.out _⟩⟩
  case rest =>
    clear BKb HB
    obtain ⟨gr, rfl, HN, GEr, BKr, BKb, HB⟩ := hcut
    obtain ⟨⟨bz0, bf0⟩, ⟨bz1, bf1⟩, ⟨bz2, bf2⟩, ⟨bz3, bf3⟩, ⟨bz4, bf4⟩, ⟨bz5, bf5⟩, ⟨bz6, bf6⟩, ⟨bz7, bf7⟩, ⟨bz8, bf8⟩, ⟨bz9, bf9⟩, ⟨bz10, bf10⟩, ⟨bz11, bf11⟩, ⟨bz12, bf12⟩, ⟨bz13, bf13⟩, ⟨bz14, bf14⟩, ⟨bz15, bf15⟩⟩ := bc16_ BKb
    obtain ⟨⟨rz0, rf0⟩, ⟨rz1, rf1⟩, ⟨rz2, rf2⟩, ⟨rz3, rf3⟩, ⟨rz4, rf4⟩, ⟨rz5, rf5⟩, ⟨rz6, rf6⟩, ⟨rz7, rf7⟩, ⟨rz8, rf8⟩, ⟨rz9, rf9⟩, ⟨rz10, rf10⟩, ⟨rz11, rf11⟩, ⟨rz12, rf12⟩, ⟨rz13, rf13⟩, ⟨rz14, rf14⟩, ⟨rz15, rf15⟩⟩ := bc16_ BKr
    have hn1 : gr ≠ gb := Nat.ne_of_gt HN.out
    have hn2 : gb ≠ gr := Nat.ne_of_lt HN.out
    go_upto_block 0 with (fail)
    have BKr2 : Aside0 ((wc.setCell ⟨gr, 0, none⟩ (.int .i64 0)).heap[gr]? = some (.cells #[.int .i64 0, .int .i64 o.a, .string o.t, .slice P o.p.length cp, .int .i64 o.s.d, .int .i64 o.s.f, .int .i64 o.s.n, .slice G o.s.g.length cg, .slice U o.s.ul.length cu, .int .i64 o.s.us, .int .i64 o.s.uw, .slice D o.s.dl.length cd, .int .i64 o.s.ds, .int .i64 o.s.dw, .int .i64 o.s.mn, .int .i64 o.s.mx] 49 (0, 0))) := ⟨bp_ BKr⟩
    have BKb2 : Aside0 ((wc.setCell ⟨gr, 0, none⟩ (.int .i64 0)).heap[gb]? = some (.cells #[.int .i64 o.k, .int .i64 o.a, .string o.t, .slice P o.p.length cp, .int .i64 o.s.d, .int .i64 o.s.f, .int .i64 o.s.n, .slice G o.s.g.length cg, .slice U o.s.ul.length cu, .int .i64 o.s.us, .int .i64 o.s.uw, .slice D o.s.dl.length cd, .int .i64 o.s.ds, .int .i64 o.s.dw, .int .i64 o.s.mn, .int .i64 o.s.mx] 49 (0, 0))) := ⟨blk_far BKb.out hn2 _⟩
    have HB2 : Aside0 (Below w.heap.size w (wc.setCell ⟨gr, 0, none⟩ (.int .i64 0))) := ⟨below_set HB.out GEr.out⟩
    generalize wc.setCell ⟨gr, 0, none⟩ (.int .i64 0) = w3 at BKr2 BKb2 HB2 ⊢
    clear BKr BKb HB bz0 bf0 rz0 rf0 bz1 bf1 rz1 rf1 bz2 bf2 rz2 rf2 bz3 bf3 rz3 rf3 bz4 bf4 rz4 rf4 bz5 bf5 rz5 rf5 bz6 bf6 rz6 rf6 bz7 bf7 rz7 rf7 bz8 bf8 rz8 rf8 bz9 bf9 rz9 rf9 bz10 bf10 rz10 rf10 bz11 bf11 rz11 rf11 bz12 bf12 rz12 rf12 bz13 bf13 rz13 rf13 bz14 bf14 rz14 rf14 bz15 bf15 rz15 rf15
    go_cut [4, 14] (fun v4 v14 w' => ∃ (ln : ByteArray) (ra : Int) (rt : ByteArray) (s1 : SU) (G1 U1 D1 : Option Addr) (cg1 cu1 cd1 : Nat), v4 = .string ln ∧ Aside0 (lineOf o = some ln.data.toList ∧ ln.size ≤ 5000000) ∧ Aside0 (restB o = ((ra == 0) && (decide (rt.size = 0) && (decide (o.p.length = 0) && emptyB s1)))) ∧ Aside0 (s1.Rd w' G1 U1 D1 cg1 cu1 cd1) ∧ Aside0 (w'.heap[gr]? = some (.cells #[.int .i64 0, .int .i64 ra, .string rt, .slice P o.p.length cp, .int .i64 s1.d, .int .i64 s1.f, .int .i64 s1.n, .slice G1 s1.g.length cg1, .slice U1 s1.ul.length cu1, .int .i64 s1.us, .int .i64 s1.uw, .slice D1 s1.dl.length cd1, .int .i64 s1.ds, .int .i64 s1.dw, .int .i64 s1.mn, .int .i64 s1.mx] 49 (0, 0))) ∧ Aside0 (Below w.heap.size w w'))
    case first =>
      have BKr := BKr2
      have BKb := BKb2
      have HB := HB2
      clear BKr2 BKb2 HB2
      by_cases hk : o.k = 0 ∨ o.k = 4 ∨ o.k = 5
      · have z1 := nb_size_le o.a a1 a2
        have N1 := Aside0.mk (num_f o.a a1 a2)
        obtain ⟨ok, hok⟩ : ∃ ok, ok = decide (dlen o.a ≤ 10) := ⟨_, rfl⟩
        have N2 := Aside0.mk (readNumber_f o.a a1 a2)
        rw [← hok] at N2
        have N3 : Aside0 (∀ vb : ByteArray, vb.size ≤ 10 → impl_words.f [vb, nb o.a] = some ⟨(cat 32 [vb.data.toList, Go.Lib.itoa o.a]).toArray⟩) := ⟨fun vb hv => words_f [vb, nb o.a] (by simp) (by have := itoa_le o.a a1 a2; have : vb.data.toList.length ≤ 10 := (by rw [data_length]; exact hv); simp [cat, nb]; omega)⟩
        have E1 : Aside0 (lineOf o = if ok = true then some (verbL o.k ++ 32 :: Go.Lib.itoa o.a) else none) := ⟨by rw [hok, lineOf, if_pos hk]; by_cases h : dlen o.a ≤ 10 <;> simp [h]⟩
        have E2 : Aside0 (restB o = (((0 : Int) == 0) && (decide (o.t.size = 0) && (decide (o.p.length = 0) && emptyB o.s)))) := ⟨by rw [restB]; rcases hk with h | h | h <;> simp [h]⟩
        clear hok
        obtain ⟨x0, y0⟩ := bc_ BKb 0
        have l1 : gb < w3.heap.size := blk_lt BKb.out
        have l2 : gb ≠ w3.heap.size := Nat.ne_of_lt l1
        obtain ⟨x1, y1⟩ := bc_ BKb 1
        obtain ⟨x2, y2⟩ := bc_ BKr 1
        cases ok with
        | false =>
          rcases hk with hk | hk | hk
          all_goals
            go_wp2_with (first | (go_at_call 27; (with_reducible refine (impl_number.calls _ _ _ ?ld N1.out).mono ?_); (case ld => first | exact Laid.below HB.out HLd.out | exact Laid.below (below_alloc HB.out _) HLd.out); rintro e w5 ⟨rfl, hb⟩; replace HB := (⟨by first | exact below_step HB.out hb | exact below_step (below_alloc HB.out _) hb⟩ : Aside0 (Below w.heap.size w w5)); replace BKr := (⟨by first | exact blk_below BKr.out hb | exact blk_below (blk_alloc BKr.out _) hb⟩ : Aside0 (w5.heap[gr]? = _)); replace BKb := (⟨by first | exact blk_below BKb.out hb | exact blk_below (blk_alloc BKb.out _) hb⟩ : Aside0 (w5.heap[gb]? = _)); clear hb; obtain ⟨p1, q1⟩ := bc_ BKb 1; obtain ⟨p2, q2⟩ := bc_ BKr 1) | (go_at_call 26; (with_reducible refine (impl_readNumber.calls _ _ _ _ ?ld N2.out).mono ?_); (case ld => first | exact Laid.below HB.out HLd.out | exact Laid.below (below_alloc HB.out _) HLd.out); rintro e w6 ⟨rfl, hb⟩; replace HB := (⟨by first | exact below_step HB.out hb | exact below_step (below_alloc HB.out _) hb⟩ : Aside0 (Below w.heap.size w w6)); replace BKr := (⟨by first | exact blk_below BKr.out hb | exact blk_below (blk_alloc BKr.out _) hb⟩ : Aside0 (w6.heap[gr]? = _)); replace BKb := (⟨by first | exact blk_below BKb.out hb | exact blk_below (blk_alloc BKb.out _) hb⟩ : Aside0 (w6.heap[gb]? = _)); clear hb; obtain ⟨p1, q1⟩ := bc_ BKb 1; obtain ⟨p2, q2⟩ := bc_ BKr 1))
            go_ret2
            exact ⟨by rw [opLine, E1.out]; rfl, HB.out⟩
        | true =>
          rcases hk with hk | hk | hk
          all_goals
            go_wp2_with (first | (go_at_call 27; (with_reducible refine (impl_number.calls _ _ _ ?ld N1.out).mono ?_); (case ld => first | exact Laid.below HB.out HLd.out | exact Laid.below (below_alloc HB.out _) HLd.out); rintro e w5 ⟨rfl, hb⟩; replace HB := (⟨by first | exact below_step HB.out hb | exact below_step (below_alloc HB.out _) hb⟩ : Aside0 (Below w.heap.size w w5)); replace BKr := (⟨by first | exact blk_below BKr.out hb | exact blk_below (blk_alloc BKr.out _) hb⟩ : Aside0 (w5.heap[gr]? = _)); replace BKb := (⟨by first | exact blk_below BKb.out hb | exact blk_below (blk_alloc BKb.out _) hb⟩ : Aside0 (w5.heap[gb]? = _)); clear hb; obtain ⟨p1, q1⟩ := bc_ BKb 1; obtain ⟨p2, q2⟩ := bc_ BKr 1) | (go_at_call 26; (with_reducible refine (impl_readNumber.calls _ _ _ _ ?ld N2.out).mono ?_); (case ld => first | exact Laid.below HB.out HLd.out | exact Laid.below (below_alloc HB.out _) HLd.out); rintro e w6 ⟨rfl, hb⟩; replace HB := (⟨by first | exact below_step HB.out hb | exact below_step (below_alloc HB.out _) hb⟩ : Aside0 (Below w.heap.size w w6)); replace BKr := (⟨by first | exact blk_below BKr.out hb | exact blk_below (blk_alloc BKr.out _) hb⟩ : Aside0 (w6.heap[gr]? = _)); replace BKb := (⟨by first | exact blk_below BKb.out hb | exact blk_below (blk_alloc BKb.out _) hb⟩ : Aside0 (w6.heap[gb]? = _)); clear hb; obtain ⟨p1, q1⟩ := bc_ BKb 1; obtain ⟨p2, q2⟩ := bc_ BKr 1) | (go_at_call 28; (refine (impl_words.calls _ 2 [_, nb o.a] _ _ (C_lit _ _ _ (by simp)) (by simp) (N3.out _ (by decide))).mono ?_); rintro e w7 ⟨rfl, hb⟩; replace HB := (⟨by first | exact below_step HB.out hb | exact below_step (below_alloc HB.out _) hb⟩ : Aside0 (Below w.heap.size w w7)); replace BKr := (⟨by first | exact blk_below BKr.out hb | exact blk_below (blk_alloc BKr.out _) hb⟩ : Aside0 (w7.heap[gr]? = _)); replace BKb := (⟨by first | exact blk_below BKb.out hb | exact blk_below (blk_alloc BKb.out _) hb⟩ : Aside0 (w7.heap[gb]? = _)); clear hb; obtain ⟨p1, q1⟩ := bc_ BKb 1; obtain ⟨p2, q2⟩ := bc_ BKr 1))
            go_meet
            case rel => exact ⟨_, 0, o.t, o.s, G, U, D, cg, cu, cd, rfl, ⟨by rw [E1.out]; simp [verbL, hk, cat], by have := itoa_le o.a a1 a2; show (cat 32 [_, Go.Lib.itoa o.a]).toArray.size ≤ _; simp [cat]; omega⟩, E2, ⟨HR.out.below (below_set HB.out GEr.out)⟩, ⟨bp_ BKr⟩, ⟨below_set HB.out GEr.out⟩⟩
      · by_cases h1 : o.k = 1
        · have E1 : Aside0 (lineOf o = if o.t.data.toList.contains 59 = true then none else some ([115, 99, 114, 97, 112, 101, 32] ++ swb 10 59 o.t.data.toList)) := ⟨by rw [lineOf, if_neg hk, if_pos h1]⟩
          have N1 := Aside0.mk (contains_f o.t)
          have N2 := Aside0.mk (replaceAll_f o.t (by omega))
          have E2 : Aside0 (restB o = ((o.a == 0) && (decide ((⟨#[]⟩ : ByteArray).size = 0) && (decide (o.p.length = 0) && emptyB o.s)))) := ⟨by rw [restB, show decide ((⟨#[]⟩ : ByteArray).size = 0) = true from rfl]; simp [h1]⟩
          obtain ⟨x2, y2⟩ := bc_ BKb 2
          have m1 : ¬ (o.k = 0) := fun e => hk (Or.inl e)
          obtain ⟨tb, htb⟩ : ∃ b : ByteArray, b = ⟨(swb 10 59 o.t.data.toList).toArray⟩ := ⟨_, rfl⟩
          have htl : tb.data.toList = swb 10 59 o.t.data.toList := by rw [htb]
          have hts : tb.size = o.t.size := by rw [← data_length, htl, swb_len, data_length]
          rw [← htb] at N2
          have HTL := Aside0.mk htl
          have s1 : ¬ 9223372036854775807 < 7 + tb.size := by omega
          have s2 : tb.size ≤ 1048576 := by omega
          clear htb htl hts hk
          generalize o.t.data.toList.contains 59 = cb at N1 E1
          cases cb with
          | true =>
            go_wp2_with (first | (go_at_call 29; (with_reducible refine (strings_Contains.calls _ _ _ _ N1.out).mono ?_); rintro e w' ⟨rfl, ⟨nd, rfl⟩⟩))
            go_ret2
            exact ⟨by rw [opLine, E1.out]; rfl, pw_below_drewN HB.out _⟩
          | false =>
            go_wp2_with (first | (go_at_call 29; (with_reducible refine (strings_Contains.calls _ _ _ _ N1.out).mono ?_); rintro e w' ⟨rfl, ⟨nd, rfl⟩⟩) | (go_at_call 30; (with_reducible refine (strings_ReplaceAll.calls _ _ _ _ _ ?ld N2.out).mono ?_); (case ld => first | exact Laid.below HB.out HLd.out | exact Laid.below (pw_below_drewN HB.out _) HLd.out); rintro e w5 ⟨rfl, hb⟩; replace HB := (⟨by first | exact below_step HB.out hb | exact below_step (pw_below_drewN HB.out _) hb⟩ : Aside0 (Below w.heap.size w w5)); replace BKr := (⟨by first | exact blk_below BKr.out hb | exact blk_below (blk_drewN BKr.out _) hb⟩ : Aside0 (w5.heap[gr]? = _)); clear hb; obtain ⟨p2, q2⟩ := bc_ BKr 2))
            go_meet
            case rel => exact ⟨_, o.a, ⟨#[]⟩, o.s, G, U, D, cg, cu, cd, rfl, ⟨by rw [E1.out, ba_data_append, HTL.out]; rfl, by rw [ByteArray.size_append]; show 7 + tb.size ≤ _; omega⟩, E2, ⟨HR.out.below (below_set HB.out GEr.out)⟩, ⟨bp_ BKr⟩, ⟨below_set HB.out GEr.out⟩⟩
        · by_cases h3 : o.k = 3
          · have E1 : Aside0 (lineOf o = if setB o.s = true then some ([115, 101, 116, 117, 112, 32] ++ swb 10 59 (stl o.s)) else none) := ⟨by rw [lineOf, if_neg hk, if_neg h1, if_pos h3]⟩
            have m1 : ¬ (o.k = 0) := fun e => hk (Or.inl e)
            have m2 : ¬ (o.k = 4) := fun e => hk (Or.inr (Or.inl e))
            have m3 : ¬ (o.k = 5) := fun e => hk (Or.inr (Or.inr e))
            clear hk
            obtain ⟨⟨bz0, bf0⟩, ⟨bz1, bf1⟩, ⟨bz2, bf2⟩, ⟨bz3, bf3⟩, ⟨bz4, bf4⟩, ⟨bz5, bf5⟩, ⟨bz6, bf6⟩, ⟨bz7, bf7⟩, ⟨bz8, bf8⟩, ⟨bz9, bf9⟩, ⟨bz10, bf10⟩, ⟨bz11, bf11⟩, ⟨bz12, bf12⟩, ⟨bz13, bf13⟩, ⟨bz14, bf14⟩, ⟨bz15, bf15⟩⟩ := bc16_ BKb
            cases hset : setB o.s with
            | false =>
              rw [hset] at E1
              go_wp2_with (first | (go_at_call 31; (with_reducible refine (impl_SetupText.bad o.s G U D cg cu cd _ HS.out (HR.out.below HB.out) hset).mono ?_); rintro e w6 ⟨rfl, hb⟩; replace HB := (⟨below_step HB.out hb⟩ : Aside0 (Below w.heap.size w w6)); replace BKr := (⟨blk_below BKr.out hb⟩ : Aside0 (w6.heap[gr]? = _)); clear hb))
              go_ret2
              exact ⟨by rw [opLine, E1.out]; rfl, HB.out⟩
            | true =>
              rw [hset] at E1
              have E2 : Aside0 (restB o = ((o.a == 0) && (decide (o.t.size = 0) && (decide (o.p.length = 0) && emptyB zeroSU)))) := ⟨by rw [restB, show emptyB zeroSU = true from rfl]; simp [h3]⟩
              have N2 := Aside0.mk (replaceAll_f (stb o.s) (by have := stb_size o.s hset; omega))
              obtain ⟨tb, htb⟩ : ∃ b : ByteArray, b = ⟨(swb 10 59 (stb o.s).data.toList).toArray⟩ := ⟨_, rfl⟩
              have htl : tb.data.toList = swb 10 59 (stl o.s) := by rw [htb]; rfl
              have hts : tb.size = (stb o.s).size := by rw [← data_length, htl, swb_len, ← data_length]; rfl
              have hsz := stb_size o.s hset
              rw [← htb] at N2
              have HTL := Aside0.mk htl
              have s1 : ¬ 9223372036854775807 < 6 + tb.size := by omega
              have s2 : tb.size ≤ 1048576 := by omega
              clear htb htl hts
              go_wp2_with (first | (go_at_call 31; (with_reducible refine (impl_SetupText.good o.s G U D cg cu cd _ (Laid.below HB.out HLd.out) HS.out (HR.out.below HB.out) hset).mono ?_); rintro e w6 ⟨rfl, hb⟩; replace HB := (⟨below_step HB.out hb⟩ : Aside0 (Below w.heap.size w w6)); replace BKr := (⟨blk_below BKr.out hb⟩ : Aside0 (w6.heap[gr]? = _)); clear hb) | (go_at_call 30; (with_reducible refine (strings_ReplaceAll.calls _ _ _ _ _ ?ld N2.out).mono ?_); (case ld => first | exact Laid.below HB.out HLd.out | exact Laid.below (pw_below_drewN HB.out _) HLd.out); rintro e w5 ⟨rfl, hb⟩; replace HB := (⟨by first | exact below_step HB.out hb | exact below_step (pw_below_drewN HB.out _) hb⟩ : Aside0 (Below w.heap.size w w5)); replace BKr := (⟨by first | exact blk_below BKr.out hb | exact blk_below (blk_drewN BKr.out _) hb⟩ : Aside0 (w5.heap[gr]? = _)); clear hb; obtain ⟨⟨rz0, rf0⟩, ⟨rz1, rf1⟩, ⟨rz2, rf2⟩, ⟨rz3, rf3⟩, ⟨rz4, rf4⟩, ⟨rz5, rf5⟩, ⟨rz6, rf6⟩, ⟨rz7, rf7⟩, ⟨rz8, rf8⟩, ⟨rz9, rf9⟩, ⟨rz10, rf10⟩, ⟨rz11, rf11⟩, ⟨rz12, rf12⟩, ⟨rz13, rf13⟩, ⟨rz14, rf14⟩, ⟨rz15, rf15⟩⟩ := bc16_ BKr))
              go_meet
              case rel => exact ⟨_, o.a, o.t, zeroSU, none, none, none, 0, 0, 0, rfl, ⟨by rw [E1.out, ba_data_append, HTL.out]; rfl, by rw [ByteArray.size_append]; show 6 + tb.size ≤ _; omega⟩, E2, ⟨⟨nil_C _ _, Nat.le_refl _, nil_C _ _, Nat.le_refl _, nil_C _ _, Nat.le_refl _⟩⟩, ⟨(bp_ BKr : (_ : Option Obj) = some (.cells #[.int .i64 0, .int .i64 o.a, .string o.t, .slice P o.p.length cp, .int .i64 0, .int .i64 0, .int .i64 0, .slice none 0 0, .slice none 0 0, .int .i64 0, .int .i64 0, .slice none 0 0, .int .i64 0, .int .i64 0, .int .i64 0, .int .i64 0] 49 (0, 0)))⟩, ⟨hb1_ GEr⟩⟩
          · have m1 : ¬ (o.k = 0) := fun e => hk (Or.inl e)
            have m2 : ¬ (o.k = 4) := fun e => hk (Or.inr (Or.inl e))
            have m3 : ¬ (o.k = 5) := fun e => hk (Or.inr (Or.inr e))
            have E2 : Aside0 (restB o = ((o.a == 0) && (decide (o.t.size = 0) && (decide (o.p.length = 0) && emptyB o.s)))) := ⟨by rw [restB]; simp [h1, h3, m1, m2, m3]⟩
            by_cases h6 : o.k = 6
            · have E1 : Aside0 (lineOf o = some [114, 101, 115, 116, 97, 114, 116]) := ⟨by rw [lineOf, if_neg hk, if_neg h1, if_neg h3, if_pos h6]⟩
              clear hk
              go_wp2
              go_meet
              case rel => exact ⟨_, o.a, o.t, o.s, G, U, D, cg, cu, cd, rfl, ⟨E1.out, by decide⟩, E2, ⟨HR.out.below HB.out⟩, BKr, HB⟩
            · by_cases h7 : o.k = 7
              · have E1 : Aside0 (lineOf o = some [108, 111, 111, 107]) := ⟨by rw [lineOf, if_neg hk, if_neg h1, if_neg h3, if_neg h6, if_pos h7]⟩
                clear hk
                go_wp2
                go_meet
                case rel => exact ⟨_, o.a, o.t, o.s, G, U, D, cg, cu, cd, rfl, ⟨E1.out, by decide⟩, E2, ⟨HR.out.below HB.out⟩, BKr, HB⟩
              · have E1 : Aside0 (lineOf o = none) := ⟨by rw [lineOf, if_neg hk, if_neg h1, if_neg h3, if_neg h6, if_neg h7]⟩
                clear hk
                go_wp2
                go_ret2
                exact ⟨by rw [opLine, E1.out]; rfl, HB.out⟩
    case rest =>
      clear BKr2 BKb2 HB2
      obtain ⟨ln, ra, rt, s1, G1, U1, D1, cg1, cu1, cd1, rfl, H1, H2, H3, BKr, HB⟩ := hcut
      obtain ⟨⟨rz0, rf0⟩, ⟨rz1, rf1⟩, ⟨rz2, rf2⟩, ⟨rz3, rf3⟩, ⟨rz4, rf4⟩, ⟨rz5, rf5⟩, ⟨rz6, rf6⟩, ⟨rz7, rf7⟩, ⟨rz8, rf8⟩, ⟨rz9, rf9⟩, ⟨rz10, rf10⟩, ⟨rz11, rf11⟩, ⟨rz12, rf12⟩, ⟨rz13, rf13⟩, ⟨rz14, rf14⟩, ⟨rz15, rf15⟩⟩ := bc16_ BKr
      have hln := H1.out.2
      have H4 : Aside0 (Calls Tryz.prog 32 #[s1.agg G1 U1 D1 cg1 cu1 cd1, .agg #[.int .i64 0, .int .i64 0, .int .i64 0, .slice none 0 0, .slice none 0 0, .int .i64 0, .int .i64 0, .slice none 0 0, .int .i64 0, .int .i64 0, .int .i64 0, .int .i64 0]] wc fun e w' => e = .returned (.bool (emptyB s1)) ∧ Below wc.heap.size wc w') := ⟨impl_sameSetup.good s1 G1 U1 D1 cg1 cu1 cd1 _ H3.out⟩
      have HP := Aside0.mk hp
      clear hp
      cases h1 : (ra == 0) with
      | false =>
        have h1' : (ra != 0) = true := by simp [bne, h1]
        have hno := opLine_no o (by rw [H2.out, h1]; rfl)
        go_wp2
        go_ret2
        exact ⟨by rw [hno]; rfl, HB.out⟩
      | true =>
        have h1' : (ra != 0) = false := by simp [bne, h1]
        by_cases h2 : rt.size = 0
        rotate_left
        · have h2' : rt.toList.isEmpty = false := by rw [Go.Lib.toList_data]; cases hh : rt.data.toList with
            | nil => exact absurd (by rw [← data_length, hh]; rfl) h2
            | cons _ _ => rfl
          have hno := opLine_no o (by rw [H2.out, decide_eq_false h2]; simp)
          clear h2
          go_wp2
          go_ret2
          exact ⟨by rw [hno]; rfl, HB.out⟩
        have h2' : rt = ⟨#[]⟩ := by
          apply ba_ext
          cases hh : rt.data.toList with
          | nil => rfl
          | cons _ _ => rw [← data_length, hh] at h2; simp at h2
        have h2'' : rt.toList.isEmpty = true := by rw [h2', Go.Lib.toList_data]; rfl
        have E2 := Aside0.mk h2
        clear h2 h2'
        by_cases h3 : o.p.length = 0
        rotate_left
        · have h3' : decide (0 < o.p.length) = true := decide_eq_true (Nat.pos_of_ne_zero h3)
          have hno := opLine_no o (by rw [H2.out, decide_eq_false h3]; simp)
          have h3'' : 0 < o.p.length := Nat.pos_of_ne_zero h3
          go_wp2
          go_ret2
          exact ⟨by rw [hno]; rfl, HB.out⟩
        have E3 := Aside0.mk h3
        generalize hes : emptyB s1 = es at H4
        cases es with
        | false =>
          have hno := opLine_no o (by rw [H2.out, hes]; simp)
          go_wp2_with (first | (go_at_call 32; refine H4.out.mono ?_; rintro e w4 ⟨rfl, hb⟩))
          go_ret2
          exact ⟨by rw [hno]; rfl, below_step HB.out hb⟩
        | true =>
          by_cases h5 : ln.size ≤ 200
          · have hyes := opLine_yes o ln H1.out.1 (by rw [H2.out, hes, h1, decide_eq_true E2.out, decide_eq_true E3.out]; rfl) h5
            have h5' : decide (200 < ln.size) = false := decide_eq_false (by omega)
            have h5'' : ¬ (200 < ln.size) := by omega
            go_wp2_with (first | (go_at_call 32; refine H4.out.mono ?_; rintro e w4 ⟨rfl, hb⟩))
            go_ret2
            exact ⟨by rw [hyes]; rfl, below_step HB.out hb⟩
          · have hno := opLine_long o ln H1.out.1 (by omega)
            have h5' : decide (200 < ln.size) = true := decide_eq_true (by omega)
            have h5'' : 200 < ln.size := by omega
            go_wp2_with (first | (go_at_call 32; refine H4.out.mono ?_; rintro e w4 ⟨rfl, hb⟩))
            go_ret2
            exact ⟨by rw [hno]; rfl, below_step HB.out hb⟩
end Go.Proofs.YtcjeblikejoogaaGreatDoor.PFnExactOpLine
