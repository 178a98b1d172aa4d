/-
  slices.Sorted(slices.Values(list)) and PercentileOf at this translation: the list's elements in order, read at the percentile's place. Every list of at most 300 values; every other one answers 0 and false.
  The walks of slices.Values and of a loop over it are worked proofs of the guide (GgSlicesIterAtTheDump, GgPosAtTheDump), turned to this translation.
-/
import Derived.RangeFuncBox
import Derived.RangeFuncLeaves
import Derived.Shelf.Abstract
import Derived.WalkKit
import Derived.OwnWalkIn
import Derived.TacticsInMore
import Derived.LoopNIn
import Derived.LoopIn
import Derived.Maps.AppendAt
import Derived.Shelf.SlIterI.Sorted
import Derived.OpenShut
import Derived.Deep.QuietTactic
import Derived.BigQuiet
import Derived.Test.YtlkglpnccddeeaaShelf
import Derived.Test.YtlkglpnccddeeaaWMore
namespace Go.Proofs.Ytlkglpnccddeeaa.Pct
open Go.RowKit Go.Shelf Go.Proofs.YtlkglpnccddeeaaW.PrintWords Go.Proofs.YtlkglpnccddeeaaW.PrintLast Go.Proofs.YtlkglpnccddeeaaW.PrintMore

section
attribute [local go_sem] Oper.semAt_some

/-- What has come when k rounds are over. -/
def upto {α : Type} (f : Nat → α) (k : Nat) : List α := (List.range k).map f
theorem upto_succ {α : Type} (f : Nat → α) (k : Nat) : upto f (k + 1) = upto f k ++ [f k] := by simp [upto, List.range_succ]
theorem upto_length {α : Type} (f : Nat → α) (k : Nat) : (upto f k).length = k := by simp [upto]
theorem upto_all (zs : List Int) : upto (fun j => zs[j]?.getD 0) zs.length = zs := by
  apply List.ext_getElem
  · simp [upto]
  · intro i h1 h2
    simp [upto, h2]
theorem upto_take (zs : List Int) {k : Nat} (hk : k ≤ zs.length) : upto (fun j => zs[j]?.getD 0) k = zs.take k := by
  apply List.ext_getElem
  · simp [upto, hk]
  · intro i h1 h2
    have : i < zs.length := by simp [upto] at h1; omega
    simp [upto, this]

set_option maxRecDepth 100000 in
set_option maxHeartbeats 2000000 in
/-- slices.Values's closure, for every loop body that keeps what lay below n₀. -/
theorem values1_in (F : Fence) (n : Nat) (h7 : F.fn 81) (hro : F.round = none) (hn : 1 ≤ n) (l Bs n₀ b off len cap : Nat) (zs : List Int) (hreach : len * 8 ≤ 140737488351232) (hb : b < n₀) (J Jx : List Int → World → Prop)
    (hY : ∀ pre x W, J pre W → pre.length < len → YieldAt F (n - 1) Try.prog l #[.int .i64 x] W fun e W' =>
      (e = .returned (.bool true) ∧ J (pre ++ [x]) W' ∧ Below n₀ W W') ∨ (e = .returned (.bool false) ∧ Jx (pre ++ [x]) W'))
    (W : World) (hBs : W.cell? ⟨Bs, 0, none⟩ = some (.slice (some ⟨b, off, none⟩) len cap)) (hc : ∀ j, j < len → W.cell? ⟨b, off + j, none⟩ = some (.int .i64 (zs[j]?.getD 0))) (h0 : J [] W) :
    CallsIn F n Try.prog 81 #[.func (.yield l) #[] #[], .pointer (some ⟨Bs, 0, none⟩)] W fun e W' => (∃ v, e = .returned v) ∧
      ((∃ ys, ys = upto (fun j => zs[j]?.getD 0) len ∧ J ys W') ∨ (∃ pre, (∃ k, k ≤ len ∧ pre = upto (fun j => zs[j]?.getD 0) k) ∧ Jx pre W')) := by
  refine callsIn_of_wp Try.func81 rfl h7 ?_ hro
  simp only [Try.ntmps81, List.size_toArray, List.length_cons, List.length_nil, Nat.reduceAdd, Nat.reduceSub, Array.replicate_succ, Array.replicate_zero, List.push_toArray, List.append_toArray, List.nil_append, List.cons_append]
  gi_wp2
  gi_loopw [7] (fun i wr => ∃ k : Nat, k ≤ len ∧ i = .int .i64 k ∧ J (upto (fun j => zs[j]?.getD 0) k) wr ∧ Below n₀ W wr)
    (fun i _ => len - (intOf i).toNat)
  case atStart => exact ⟨0, Nat.zero_le _, rfl, h0, Below.refl _ _⟩
  case round =>
    obtain ⟨k, hk, rfl, hJs, hnx⟩ := hrel
    have hcx : k < len → wr.cell? ⟨b, off + k, none⟩ = some (.int .i64 (zs[k]?.getD 0)) := fun h => (hnx.cell (p := ⟨b, off + k, none⟩) hb).trans (hc k h)
    by_cases hlt : k < len
    · obtain ⟨fn, tmps, assign, body, hy, hR⟩ := hY _ (zs[k]?.getD 0) wr hJs (by rw [upto_length]; exact hlt)
      have hcx' := hcx hlt
      gi_wp2
      refine hR.mono ?_
      rintro e W3 (⟨rfl, hJ3, hk3⟩ | ⟨rfl, hJx3⟩)
      · gi_wp2
        go_roundw
        case rel => exact ⟨k + 1, by omega, by simp, by rw [upto_succ]; exact hJ3, hnx.trans hk3⟩
        case measure => simp [intOf]; omega
      · gi_wp2
        refine bodyPost_ret (results_none rfl _ _ _) rfl ?_
        exact ⟨⟨_, rfl⟩, .inr ⟨_, ⟨k + 1, by omega, (upto_succ _ _).symm⟩, hJx3⟩⟩
    · obtain rfl : k = len := by omega
      gi_wp2
      go_end0
      exact ⟨⟨_, rfl⟩, .inl ⟨_, rfl, hJs⟩⟩

set_option maxHeartbeats 1000000 in
/-- slices.Values(s): the slice value is boxed; the function value captures the box. -/
theorem values_in (F : Fence) (n : Nat) (h5 : F.fn 60) (hro : F.round = none) (a : Option Addr) (len cap : Nat) (w : World) :
    CallsIn F n Try.prog 60 #[.slice a len cap] w fun e w' => e = .returned (.func (.func 81) #[] #[.pointer (some ⟨w.heap.size, 0, none⟩)]) ∧ w' = w.alloc (.cells #[.slice a len cap] 22) := by
  refine callsIn_of_wp Try.func60 rfl h5 ?_ hro
  simp only [Try.ntmps60, List.size_toArray, List.length_cons, List.length_nil, Nat.reduceAdd, Nat.reduceSub, Array.replicate_succ, Array.replicate_zero, List.push_toArray, List.append_toArray, List.nil_append, List.cons_append]
  gi_wp2
  go_ret
  exact ⟨rfl, rfl⟩

/-- slices.Values(s), of a list that lies at an address. -/
theorem values_stops (F : Fence) (n : Nat) (h7 : F.fn 81) (hro : F.round = none) (hn : 1 ≤ n) (Bs n₀ b off cap : Nat) (zs : List Int) (hreach : zs.length * 8 ≤ 140737488351232) (w : World) (hBs : Bs < w.heap.size) (hn₀ : n₀ ≤ w.heap.size)
    (hc : w.cell? ⟨Bs, 0, none⟩ = some (.slice (some ⟨b, off, none⟩) zs.length cap)) (hb : b < n₀) (hI : ∀ j, j < zs.length → w.cell? ⟨b, off + j, none⟩ = some (.int .i64 (zs[j]?.getD 0))) :
    SeqStopsK F n Try.prog 81 #[.pointer (some ⟨Bs, 0, none⟩)] (fun x : Int => #[Value.int .i64 x]) (Below n₀) (fun ys => ys = zs) (fun pre => pre <+: zs) zs.length w := fun l J Jx W hW _ _ hY h0 => by
  have hc' := (hW.cell (p := ⟨Bs, 0, none⟩) hBs).trans hc
  have hcs : ∀ j, j < zs.length → W.cell? ⟨b, off + j, none⟩ = some (.int .i64 (zs[j]?.getD 0)) := fun j hj => (hW.cell (p := ⟨b, off + j, none⟩) (by omega : b < w.heap.size)).trans (hI j hj)
  refine (values1_in F n h7 hro hn l Bs n₀ b off zs.length cap zs hreach hb J Jx hY W hc' hcs h0).mono ?_
  rintro e W' ⟨he, ⟨ys, rfl, hj⟩ | ⟨pre, ⟨k, hk, rfl⟩, hj⟩⟩
  · exact ⟨he, .inl ⟨_, upto_all zs, hj⟩⟩
  · exact ⟨he, .inr ⟨_, by rw [upto_take zs hk]; exact List.take_prefix _ _, hj⟩⟩

theorem infoI : (Try.prog.info? 3).map (fun i => (i.zero, i.size, i.bytes)) = some (some (.int .i64 0), 1, 8) := by kernel_rfl

set_option maxRecDepth 100000 in
set_option maxHeartbeats 2000000 in
/-- slices.AppendSeq(nil, slices.Values(zs)): a slice of the call's own that holds zs. -/
theorem append_in (F : Fence) (n : Nat) (h3 : F.fn 97) (h5 : F.fn 81) (hro : F.round = none) (hn : 3 ≤ n) (Bs b off cap : Nat) (zs : List Int) (hreach : zs.length * 8 ≤ 140737488351232) (w : World) (hBs : Bs < w.heap.size)
    (hcB : w.cell? ⟨Bs, 0, none⟩ = some (.slice (some ⟨b, off, none⟩) zs.length cap)) (hb : b < w.heap.size) (hI : ∀ j, j < zs.length → w.cell? ⟨b, off + j, none⟩ = some (.int .i64 (zs[j]?.getD 0))) :
    CallsIn F n Try.prog 97 #[.slice none 0 0, .func (.func 81) #[] #[.pointer (some ⟨Bs, 0, none⟩)]] w fun e W' => ∃ v, e = .returned v ∧ W'.ownsRow w.heap.size 3 1 v zs.length (zs.map (Value.int .i64)) ∧ Below w.heap.size w W' := by
  have h1 : 1 ≤ n := by omega
  obtain ⟨i0, hi, hz0, hz1, hz2⟩ := info_parts infoI
  refine callsIn_of_wp_marks Try.func97 rfl h3 ?_ hro
  simp only [Try.ntmps97, List.size_toArray, List.length_cons, List.length_nil, Nat.reduceAdd, Nat.reduceSub, Array.replicate_succ, Array.replicate_zero, List.push_toArray, List.append_toArray, List.nil_append, List.cons_append]
  gi_wp2
  have bO := Boxed.new w 22 (.slice none 0 0)
  have hB0 : Below w.heap.size w (w.alloc (.cells #[.slice none 0 0] 22)) := (Below.refl _ w).alloc (Nat.le_refl _) _
  refine wpIn_rangeFunc_ownG hro h1 (gf := 81) (lb := #[.pointer (some ⟨Bs, 0, none⟩)]) rfl h5 (enters_of Try.func81 (by kernel_rfl) rfl)
    (values_stops F (n - 1) h5 hro (by omega) Bs w.heap.size b off cap zs hreach _ (by simp; omega) (by simp) ((hB0.cell (p := ⟨Bs, 0, none⟩) hBs).trans hcB) hb (fun j hj => (hB0.cell (p := ⟨b, off + j, none⟩) hb).trans (hI j hj))) belowK_t (belowK_b (by simp)) (Below.refl _ _) (fun _ => rfl)
    (fun pre W => (∃ v, Boxed W w.heap.size 22 v ∧ W.ownsRow w.heap.size 3 1 v pre.length (pre.map (Value.int .i64)) ∧ (v = .slice none 0 0 ↔ pre = [])) ∧ Below w.heap.size w W)
    (fun _ _ _ => False)
    (OwnFrom.and (Own.from (holdsRow_own w.heap.size w.heap.size 22 3 1 (fun pre => pre.length) (fun pre => pre.map (Value.int .i64)) (fun pre v => v = .slice none 0 0 ↔ pre = [])) _) (ownFrom_below (Nat.le_refl _) (by simp)))
    (fun _ _ _ _ _ hs _ _ => hs)
    ⟨⟨_, bO, World.ownsRow_nil _ _ _ _, by simp⟩, hB0⟩
    (fun x => { tmps := #[.slice none 0 0, .func (.func 81) #[] #[.pointer (some ⟨Bs, 0, none⟩)], .pointer (some ⟨w.heap.size, 0, none⟩), undef, .slice none 0 0, .int .i64 x, .func (.func 81) #[] #[.pointer (some ⟨Bs, 0, none⟩)], .int .i64 x, undef, undef, undef, undef, undef], defers := [] }) ?assign ?body ?done ?stop
  case assign =>
    intro l x W K hK
    gi_wp2
    exact hK
  case body =>
    rintro l pre x W ⟨⟨v, hv, hrow, hnil⟩, hB⟩ hlt
    have hc := hv.cell
    gi_wp2_with (gi_at_builtin; refine wpListIn_append_own _ rfl _ _ 22 rfl w.heap.size 3 i0 (.int .i64 0) 1 8 Try.underlying22 hi hz0 hz1 hz2 rfl (by decide) _ _ _ rfl (hrow.alloc _) ⟨W.heap.size, 0, none⟩ 1 1 [.int .i64 x] rfl rfl (cell_one_new _ _ _) (by simp [Value.oneCell']) (by unfold maxLen; omega) (by omega) (by have := hB.size; simp; omega) ?_; intro v' w1 hown' hgrow _; obtain ⟨g', cap', rfl⟩ := ownsRow_succ hown'; obtain ⟨hv1, hv2, hr2, hk2, hb2⟩ := hv.appended (by decide) hrow hB.size (Nat.le_refl _) hown' hgrow; have hc1 := hv1.cell; have hf1 := hv1.frozen)
    exact ⟨hk2.from _, hb2, ⟨_, hv2, by simpa using hr2, by simp⟩, hB.trans hb2⟩
  case done =>
    rintro D ys W hD rfl ⟨⟨v, hv, hrow, hnil⟩, hB⟩ hK
    have hc := hv.cell
    gi_wp2
    refine ⟨by simp, .inl ⟨_, _, rfl, run_takeDeferred hK, ?_⟩⟩
    exact ⟨_, results_tmp rfl _ _ _, v, rfl, ownsRow_putObj hrow _ hK rfl, hB.trans (belowK_b (w := w) (Nat.le_refl _) W D _ _ (by simp at hD; omega) hK rfl rfl)⟩
  case stop =>
    rintro D c pre W _ _ h _
    exact h.elim
end

set_option maxHeartbeats 1000000 in
/-- slices.Collect(slices.Values(zs)). -/
theorem collect_calls (Bs b off cap : Nat) (zs : List Int) (hreach : zs.length * 8 ≤ 140737488351232) (w : World) (hBs : Bs < w.heap.size)
    (hcB : w.cell? ⟨Bs, 0, none⟩ = some (.slice (some ⟨b, off, none⟩) zs.length cap)) (hb : b < w.heap.size) (hI : ∀ j, j < zs.length → w.cell? ⟨b, off + j, none⟩ = some (.int .i64 (zs[j]?.getD 0))) :
    Calls Try.prog 79 #[.func (.func 81) #[] #[.pointer (some ⟨Bs, 0, none⟩)]] w fun e W' => ∃ v, e = .returned v ∧ W'.ownsRow w.heap.size 3 1 v zs.length (zs.map (Value.int .i64)) ∧ Below w.heap.size w W' := by
  have HX := Aside0.mk ((callsIn_wide (n := 3)).1 (append_in Fence.wide 3 trivial trivial rfl (by omega) Bs b off cap zs hreach w hBs hcB hb hI))
  clear hcB hI hBs hb hreach
  go_enter Try.func79, Try.ntmps79
  go_wp2_with (go_at_call 97; refine HX.out.mono ?_; rintro e w' ⟨v, rfl, hrow, hB⟩)
  go_ret
  exact ⟨v, rfl, hrow, hB⟩

open Go.Sort in
set_option maxHeartbeats 1000000 in
/-- slices.Sorted(slices.Values(zs)), zs not empty. -/
theorem sorted_calls (Bs b off cap : Nat) (zs : List Int) (hz0 : zs ≠ []) (hreach : zs.length * 8 ≤ 140737488351232) (w : World) (hBs : Bs < w.heap.size)
    (hcB : w.cell? ⟨Bs, 0, none⟩ = some (.slice (some ⟨b, off, none⟩) zs.length cap)) (hb : b < w.heap.size) (hI : ∀ j, j < zs.length → w.cell? ⟨b, off + j, none⟩ = some (.int .i64 (zs[j]?.getD 0))) :
    Calls Try.prog 59 #[.func (.func 81) #[] #[.pointer (some ⟨Bs, 0, none⟩)]] w fun e W' => ∃ v, e = .returned v ∧ W'.ownsRow w.heap.size 3 1 v zs.length ((zs.mergeSort fun x y => decide (x ≤ y)).map (Value.int .i64)) ∧ Below w.heap.size w W' := by
  have HX := Aside0.mk (collect_calls Bs b off cap zs hreach w hBs hcB hb hI)
  clear hcB hI hBs hb
  go_enter Try.func59, Try.ntmps59
  go_wp2_with (go_at_call 79; refine HX.out.mono ?_; rintro e W ⟨v, rfl, hrow, hB⟩)
  rcases hrow.2 with ⟨rfl, hz⟩ | ⟨gb, cap, cur, rfl, hbase, hgb, r1, r2, r3, r4⟩
  · exact absurd (List.eq_nil_of_length_eq_zero hz) hz0
  · have hH : Holds (Value.int .i64) W gb 0 zs.toArray := holds_of_block_i hgb (by simpa using r4)
    have hgl : gb < W.heap.size := (Array.getElem?_eq_some_iff.1 hgb).1
    have cS := Try.slices_Sort_int gb 0 cap zs W hH hgl (by omega)
    go_wp2_with (go_at_call 80; refine cS.mono ?_; rintro e w' ⟨rfl, nn, os, rfl⟩)
    go_ret
    exact ⟨_, rfl, ownsRow_sorted_i (by simp) hbase hgb r1 r2 r3, hB.grown (grownBy_sorted_i _) hB.size (fun j hj => by cases hj; exact hbase)⟩

def bad (x : Int) : Bool := !(decide (-1000000000 ≤ x) && decide (x ≤ 1000000000))
def idxFrom : List Int → Nat → Int
  | [], _ => -1
  | x :: t, n => bif bad x then (n : Int) else idxFrom t (n + 1)
theorem idx_yes (l : List Int) (n : Nat) (h : n < l.length) (hb : bad (rd l (n : Int)) = true) : idxFrom (l.drop n) n = (n : Int) := by
  have e : l.drop n = rd l (n : Int) :: l.drop (n + 1) := by
    rw [List.drop_eq_getElem_cons h]
    simp [rd, List.getD, h]
  rw [e, idxFrom, hb]
  rfl
theorem idx_no (l : List Int) (n : Nat) (h : n < l.length) (hb : bad (rd l (n : Int)) = false) : idxFrom (l.drop n) n = idxFrom (l.drop (n + 1)) (n + 1) := by
  have e : l.drop n = rd l (n : Int) :: l.drop (n + 1) := by
    rw [List.drop_eq_getElem_cons h]
    simp [rd, List.getD, h]
  rw [e, idxFrom, hb]
  rfl

theorem closure_any (x : Int) (w : World) : Calls Try.prog 63 #[.int .i64 x] w fun e w' => e = .returned (.bool (bad x)) ∧ w = w' := by
  by_cases h1 : -1000000000 ≤ x
  · by_cases h2 : x ≤ 1000000000
    · have hb : bad x = false := by simp [bad, h1, h2]
      have HB := Aside0.mk hb
      clear hb
      go_enter Try.func63, Try.ntmps63
      go_wp2
      go_ret
      rw [HB.out]
      exact ⟨rfl, rfl⟩
    · have hb : bad x = true := by simp [bad, h2]
      have HB := Aside0.mk hb
      clear hb
      go_enter Try.func63, Try.ntmps63
      go_wp2
      go_ret
      rw [HB.out]
      exact ⟨rfl, rfl⟩
  · have hb : bad x = true := by simp [bad, h1]
    have HB := Aside0.mk hb
    clear hb
    go_enter Try.func63, Try.ntmps63
    go_wp2
    go_ret
    rw [HB.out]
    exact ⟨rfl, rfl⟩

theorem closure_calls (x : Int) (b : Bool) (w : World) (h : bad x = b) : Calls Try.prog 63 #[.int .i64 x] w fun e w' => e = .returned (.bool b) ∧ w = w' := by
  rw [← h]
  exact closure_any x w

set_option maxHeartbeats 400000 in
theorem idx_calls (A0 : Option Addr) (c0 : Nat) (l0 : List Int) (w : World) (hr0 : Kd.C (Kd.int .i64) w A0 l0.length l0) (hc0 : l0.length ≤ c0) (hl : l0.length ≤ 300) :
    Calls Try.prog 82 #[.slice A0 l0.length c0, .func (.func 63) #[] #[]] w fun e w' => e = .returned (.int .i64 (idxFrom l0 0)) ∧ w = w' := by
  have HR0 := Aside0.mk hr0
  have HC0 := Aside0.mk hc0
  clear hr0 hc0
  go_enter Try.func82, Try.ntmps82
  go_wp2
  go_loop [8] (fun v8 => ∃ n : Nat, n ≤ l0.length ∧ v8 = .int .i64 (n : Int) ∧ Aside0 (idxFrom l0 0 = idxFrom (l0.drop n) n)) (fun v8 => l0.length - (intOf v8).toNat)
  case atStart => exact ⟨0, Nat.zero_le _, rfl, ⟨rfl⟩⟩
  case round =>
    obtain ⟨n, hn, rfl, HI⟩ := hrel
    by_cases hlt : n < l0.length
    · obtain ⟨ad, e, hx⟩ := Kd.at_int HR0.out (n : Int) (by omega) (by omega)
      cases e
      rw [Int.toNat_natCast] at hx
      cases hb : bad (rd l0 (n : Int)) with
      | true =>
        have HB := Aside0.mk hb
        have HE := Aside0.mk (HI.out.trans (idx_yes l0 n hlt hb))
        clear hb HI
        go_wp2_with (go_at_call 63; refine (closure_calls _ true _ HB.out).mono ?_; rintro e w' ⟨rfl, rfl⟩)
        go_ret
        rw [HE.out]
        exact ⟨rfl, rfl⟩
      | false =>
        have HB := Aside0.mk hb
        have HE := Aside0.mk (HI.out.trans (idx_no l0 n hlt hb))
        clear hb HI
        go_wp2_with (go_at_call 63; refine (closure_calls _ false _ HB.out).mono ?_; rintro e w' ⟨rfl, rfl⟩)
        go_round
        case rel => exact ⟨n + 1, by omega, by go_num, ⟨HE.out⟩⟩
        case measure => simp [intOf]; omega
    · have HE := Aside0.mk HI.out
      have e : l0.drop n = [] := List.drop_eq_nil_of_le (by omega)
      clear HI
      rw [e] at HE
      clear e
      go_wp2
      go_ret
      rw [HE.out]
      exact ⟨rfl, rfl⟩

theorem idx_any : ∀ (l : List Int) (n : Nat), decide (0 ≤ idxFrom l n) = l.any bad
  | [], _ => rfl
  | x :: t, n => by
    rw [idxFrom, List.any_cons, ← idx_any t (n + 1)]
    cases bad x with
    | true =>
      simp
    | false => rfl

set_option maxHeartbeats 400000 in
theorem has_calls (A0 : Option Addr) (c0 : Nat) (l0 : List Int) (w : World) (hr0 : Kd.C (Kd.int .i64) w A0 l0.length l0) (hc0 : l0.length ≤ c0) (hl : l0.length ≤ 300) (b : Bool) (hb : l0.any bad = b) :
    Calls Try.prog 62 #[.slice A0 l0.length c0, .func (.func 63) #[] #[]] w fun e w' => e = .returned (.bool b) ∧ w = w' := by
  have HI := Aside0.mk ((idx_any l0 0).trans hb)
  have HX := Aside0.mk (idx_calls A0 c0 l0 w hr0 hc0 hl)
  clear hr0 hc0 hb
  generalize idxFrom l0 0 = r at HI HX
  cases b with
  | true =>
    have h1 : decide (0 ≤ r) = true := HI.out
    clear HI
    go_enter Try.func62, Try.ntmps62
    go_wp2_with (go_at_call 82; refine HX.out.mono ?_; rintro e w' ⟨rfl, rfl⟩)
    go_ret
    exact ⟨rfl, rfl⟩
  | false =>
    have h1 : decide (0 ≤ r) = false := HI.out
    clear HI
    go_enter Try.func62, Try.ntmps62
    go_wp2_with (go_at_call 82; refine HX.out.mono ?_; rintro e w' ⟨rfl, rfl⟩)
    go_ret
    exact ⟨rfl, rfl⟩

/-- Are there at most 300, all of them values? -/
def areB (l : List Int) : Bool := decide (l.length ≤ 300) && !l.any bad
def impl_areValues.f (l0 : List Int) : Option Bool := some (areB l0)
set_option maxHeartbeats 400000 in
theorem impl_areValues.plain (A0 : Option Addr) (c0 : Nat) (l0 : List Int) (r : Bool) (w : World) (hr0 : Kd.C (Kd.int .i64) w A0 l0.length l0) (hc0 : l0.length ≤ c0) (h : impl_areValues.f l0 = some r) :
    Calls Try.prog 43 #[.slice A0 l0.length c0] w fun e w' => e = .returned (.bool r) ∧ w = w' := by
  have HH := Aside0.mk (Option.some.inj h)
  clear h
  by_cases hl : l0.length ≤ 300
  · cases hb : l0.any bad with
    | true =>
      have HX := Aside0.mk (has_calls A0 c0 l0 w hr0 hc0 hl true hb)
      have HR : Aside0 (r = false) := ⟨by rw [← HH.out, areB, hb]; simp⟩
      have h1 : (l0.length : Int) ≤ 300 := by omega
      clear HH hr0 hc0 hl hb
      go_enter Try.func43, Try.ntmps43
      go_wp2_with (go_at_call 62; refine HX.out.mono ?_; rintro e w' ⟨rfl, rfl⟩)
      go_ret
      rw [HR.out]
      exact ⟨rfl, rfl⟩
    | false =>
      have HX := Aside0.mk (has_calls A0 c0 l0 w hr0 hc0 hl false hb)
      have HR : Aside0 (r = true) := ⟨by rw [← HH.out, areB, hb, decide_eq_true hl]; rfl⟩
      have h1 : (l0.length : Int) ≤ 300 := by omega
      clear HH hr0 hc0 hl hb
      go_enter Try.func43, Try.ntmps43
      go_wp2_with (go_at_call 62; refine HX.out.mono ?_; rintro e w' ⟨rfl, rfl⟩)
      go_ret
      rw [HR.out]
      exact ⟨rfl, rfl⟩
  · have HR : Aside0 (r = false) := ⟨by rw [← HH.out, areB, decide_eq_false hl]; rfl⟩
    have h1 : decide (l0.length ≤ 300) = false := decide_eq_false hl
    have h2 : ¬ ((l0.length : Int) ≤ 300) := by omega
    clear HH hr0 hc0
    go_enter Try.func43, Try.ntmps43
    go_wp2
    go_ret
    rw [HR.out]
    exact ⟨rfl, rfl⟩
theorem impl_areValues.calls (A0 : Option Addr) (c0 : Nat) (l0 : List Int) (r : Bool) (w : World) (hr0 : Kd.C (Kd.int .i64) w A0 l0.length l0) (hc0 : l0.length ≤ c0) (h : impl_areValues.f l0 = some r) :
    Calls Try.prog 43 #[.slice A0 l0.length c0] w fun e w' => e = .returned (.bool r) ∧ Drawn0 w w' := by
  refine (impl_areValues.plain A0 c0 l0 r w hr0 hc0 h).mono ?_
  rintro e w' ⟨he, rfl⟩
  exact ⟨he, Drawn0.refl _⟩

theorem in_calls (a lo hi : Int) (b : Bool) (w : World) (h : (decide (lo ≤ a) && decide (a ≤ hi)) = b) : Calls Try.prog 47 #[.int .i64 a, .int .i64 lo, .int .i64 hi] w fun e w' => e = .returned (.bool b) ∧ w = w' := by
  have HB := Aside0.mk h
  clear h
  by_cases h1 : lo ≤ a
  · by_cases h2 : a ≤ hi
    · have e : b = true := by rw [← HB.out]; simp [h1, h2]
      subst e
      clear HB
      go_enter Try.func47, Try.ntmps47
      go_wp2
      go_ret
      exact ⟨rfl, rfl⟩
    · have e : b = false := by rw [← HB.out]; simp [h2]
      subst e
      clear HB
      go_enter Try.func47, Try.ntmps47
      go_wp2
      go_ret
      exact ⟨rfl, rfl⟩
  · have e : b = false := by rw [← HB.out]; simp [h1]
    subst e
    clear HB
    go_enter Try.func47, Try.ntmps47
    go_wp2
    go_ret
    exact ⟨rfl, rfl⟩

theorem list_at {w : World} {A : Option Addr} {l : List Int} (h : Kd.C (Kd.int .i64) w A l.length l) (hp : 0 < l.length) :
    ∃ b off, A = some ⟨b, off, none⟩ ∧ b < w.heap.size ∧ ∀ j, j < l.length → w.cell? ⟨b, off + j, none⟩ = some (.int .i64 (l[j]?.getD 0)) := by
  obtain ⟨ad, rfl, h0⟩ := Kd.at_int h 0 (Int.le_refl _) (by omega)
  have hb := World.block_lt_of_cell? w _ h0
  have hc : ∀ i, i < l.length → w.cell? (ad.add i) = some (.int .i64 (l.getD i 0)) := by
    intro i hi
    obtain ⟨ad', e, hi'⟩ := Kd.at_int h (i : Int) (by omega) (by omega)
    cases e
    exact hi'
  obtain ⟨b, off, rfl, hx⟩ := ints_at hc hp
  refine ⟨b, off, rfl, hb, fun j hj => ?_⟩
  rw [hx j hj]
  rfl

/-- The list, sorted as the library sorts it. -/
def srt (l : List Int) : List Int := l.mergeSort fun x y => decide (x ≤ y)
theorem srt_length (l : List Int) : (srt l).length = l.length := List.length_mergeSort l
/-- Is there an answer? -/
def fine (l : List Int) (p : Int) : Bool := !l.isEmpty && (areB l && (decide (0 ≤ p) && decide (p ≤ 1000)))
/-- Where the percentile lies. -/
def place (n : Nat) (p : Int) : Nat := (n - 1) * p.toNat / 1000
def pctF (l : List Int) (p : Int) : Option (Int × Bool) := some (if fine l p = true then ((srt l).getD (place l.length p) 0, true) else (0, false))

theorem place_lt (n : Nat) (p : Int) (hn : 0 < n) (hp : p ≤ 1000) : place n p < n := by
  unfold place
  have h : (n - 1) * p.toNat ≤ (n - 1) * 1000 := Nat.mul_le_mul_left _ (by omega)
  omega

theorem srt_reads {w : World} {base : Nat} {v : Value} {l : List Int} (hp : 0 < l.length) (h : w.ownsRow base 3 1 v l.length ((l.mergeSort fun x y => decide (x ≤ y)).map (Value.int .i64))) (i : Nat) (hi : i < l.length) :
    ∃ ad c, v = .slice (some ad) l.length c ∧ w.cell? (ad.add i) = some (.int .i64 ((srt l).getD i 0)) := by
  obtain ⟨A, c, rfl, hr⟩ := own_reads (k := .i64) (xs := srt l) h
  obtain ⟨ad, rfl, hc⟩ := hr.2.2 hp
  exact ⟨ad, c, rfl, hc i hi⟩
theorem sorted_at (Bs b off cap : Nat) (zs : List Int) (hp : 0 < zs.length) (hreach : zs.length * 8 ≤ 140737488351232) (w : World) (hBs : Bs < w.heap.size)
    (hcB : w.cell? ⟨Bs, 0, none⟩ = some (.slice (some ⟨b, off, none⟩) zs.length cap)) (hb : b < w.heap.size) (hI : ∀ j, j < zs.length → w.cell? ⟨b, off + j, none⟩ = some (.int .i64 (zs[j]?.getD 0))) (i : Nat) (r : Int) (hi : i < zs.length) (hr : (srt zs).getD i 0 = r) :
    Calls Try.prog 59 #[.func (.func 81) #[] #[.pointer (some ⟨Bs, 0, none⟩)]] w fun e W' => ∃ ad c, e = .returned (.slice (some ad) zs.length c) ∧ Aside0 (W'.cell? (ad.add i) = some (.int .i64 r)) ∧ Aside0 (Below w.heap.size w W') := by
  refine (sorted_calls Bs b off cap zs (List.length_pos_iff.1 hp) hreach w hBs hcB hb hI).mono ?_
  rintro e W' ⟨v, rfl, hrow, hB⟩
  obtain ⟨ad, c, rfl, hx⟩ := srt_reads hp hrow i hi
  rw [hr] at hx
  exact ⟨ad, c, rfl, ⟨hx⟩, ⟨hB⟩⟩

set_option maxHeartbeats 2000000 in
theorem percentile_no (A0 : Option Addr) (c0 : Nat) (l0 : List Int) (p : Int) (w : World) (hr0 : Kd.C (Kd.int .i64) w A0 l0.length l0) (hc0 : l0.length ≤ c0) (h : fine l0 p = false) :
    Calls Try.prog 38 #[.slice A0 l0.length c0, .int .i64 p] w fun e w' => e = .returned (.tuple #[.int .i64 0, .bool false]) ∧ w = w' := by
  have HF := Aside0.mk h
  clear h
  by_cases h0 : l0.length = 0
  · have hz : ((l0.length : Int) == 0) = true := by rw [h0]; rfl
    clear h0 HF hr0
    go_enter Try.func38, Try.ntmps38
    go_wp2
    go_ret2
    exact ⟨rfl, rfl⟩
  have hz : ((l0.length : Int) == 0) = false := beq_eq_false_iff_ne.2 (by omega)
  have he : l0.isEmpty = false := by cases l0 with | nil => exact absurd rfl h0 | cons x t => rfl
  cases ha : areB l0 with
  | false =>
    have HA := Aside0.mk (impl_areValues.plain A0 c0 l0 false w hr0 hc0 (by rw [impl_areValues.f, ha]))
    clear h0 HF hr0 ha he
    go_enter Try.func38, Try.ntmps38
    go_wp2_with (go_at_call 43; refine HA.out.mono ?_; rintro e w' ⟨rfl, rfl⟩)
    go_ret2
    exact ⟨rfl, rfl⟩
  | true =>
    have HA := Aside0.mk (impl_areValues.plain A0 c0 l0 true w hr0 hc0 (by rw [impl_areValues.f, ha]))
    have hi : (decide (0 ≤ p) && decide (p ≤ 1000)) = false := by
      have := HF.out
      rw [fine, he, ha] at this
      simpa using this
    have HI := Aside0.mk (in_calls p 0 1000 false w hi)
    clear h0 HF hr0 ha he hi
    go_enter Try.func38, Try.ntmps38
    go_wp2_with (first | (go_at_call 43; refine HA.out.mono ?_; rintro e w' ⟨rfl, rfl⟩) | (go_at_call 47; refine HI.out.mono ?_; rintro e w' ⟨rfl, rfl⟩))
    go_ret2
    exact ⟨rfl, rfl⟩

/-- Nothing wraps. -/
theorem place_eq (n : Nat) (p : Int) (hn : 0 < n) (h : n ≤ 300) (hp0 : 0 ≤ p) (hp1 : p ≤ 1000) : wrap64 (Int.tdiv (wrap64 (((n : Int) - 1) * p)) 1000) = ((place n p : Nat) : Int) := by
  have h1 : ((n : Int) - 1) * p = (((n - 1) * p.toNat : Nat) : Int) := by
    rw [Int.natCast_mul, Int.toNat_of_nonneg hp0]
    congr 1
    omega
  have h2 : (n - 1) * p.toNat ≤ 300 * 1000 := Nat.mul_le_mul (by omega) (by omega)
  unfold place
  rw [h1]
  generalize (n - 1) * p.toNat = m at h2 ⊢
  have e1 : wrap64 (m : Int) = (m : Int) := by
    unfold wrap64
    omega
  rw [e1, Int.tdiv_eq_ediv_of_nonneg (by omega)]
  unfold wrap64
  omega

set_option maxHeartbeats 2000000 in
theorem percentile_yes (A0 : Option Addr) (c0 : Nat) (l0 : List Int) (p r : Int) (w : World) (hr0 : Kd.C (Kd.int .i64) w A0 l0.length l0) (hc0 : l0.length ≤ c0) (h : fine l0 p = true) (hr : (srt l0).getD (place l0.length p) 0 = r) :
    Calls Try.prog 38 #[.slice A0 l0.length c0, .int .i64 p] w fun e w' => e = .returned (.tuple #[.int .i64 r, .bool true]) ∧ Below w.heap.size w w' := by
  have hF := h
  unfold fine at hF
  simp only [Bool.and_eq_true, Bool.not_eq_true', decide_eq_true_eq] at hF
  obtain ⟨he, ha, hp0, hp1⟩ := hF
  have hne : l0 ≠ [] := by
    rintro rfl
    exact absurd he (by decide)
  have hpos : 0 < l0.length := List.length_pos_iff.2 hne
  have hlen : l0.length ≤ 300 := by
    have := ha
    unfold areB at this
    simp only [Bool.and_eq_true, decide_eq_true_eq] at this
    exact this.1
  have HA := Aside0.mk (impl_areValues.plain A0 c0 l0 true w hr0 hc0 (by rw [impl_areValues.f, ha]))
  have HI := Aside0.mk (in_calls p 0 1000 true w (by rw [decide_eq_true hp0, decide_eq_true hp1]; rfl))
  obtain ⟨b, off, rfl, hb, hc⟩ := list_at hr0 hpos
  have HV := Aside0.mk ((callsIn_wide (n := 1)).1 (values_in Fence.wide 1 trivial rfl (some ⟨b, off, none⟩) l0.length c0 w))
  have hB0 : Below w.heap.size w (w.alloc (.cells #[.slice (some ⟨b, off, none⟩) l0.length c0] 22)) := (Below.refl _ w).alloc (Nat.le_refl _) _
  have HS := Aside0.mk (sorted_at w.heap.size b off c0 l0 hpos (by omega) (w.alloc (.cells #[.slice (some ⟨b, off, none⟩) l0.length c0] 22)) (by simp) (by simp) (by simp; omega)
    (fun j hj => (hB0.cell (p := ⟨b, off + j, none⟩) hb).trans (hc j hj)) (place l0.length p) r (place_lt l0.length p hpos hp1) hr)
  have HB0 := Aside0.mk hB0
  have hz : ((l0.length : Int) == 0) = false := beq_eq_false_iff_ne.2 (by omega)
  obtain ⟨i, hi⟩ : ∃ i, place l0.length p = i := ⟨_, rfl⟩
  have hq := place_lt l0.length p hpos hp1
  have hE := place_eq l0.length p hpos hlen hp0 hp1
  rw [hi] at HS hq hE
  clear h he ha hne hr0 hB0 hc hr hi
  go_enter Try.func38, Try.ntmps38
  go_wp2_with (first | (go_at_call 43; refine HA.out.mono ?_; rintro e w' ⟨rfl, rfl⟩) | (go_at_call 47; refine HI.out.mono ?_; rintro e w' ⟨rfl, rfl⟩) | (go_at_call 60; refine HV.out.mono ?_; rintro e w' ⟨rfl, rfl⟩) | (go_at_call 59; refine HS.out.mono ?_; rintro e w' ⟨ad, c, rfl, hrow, hbel⟩; have hx := hrow.out))
  go_ret2
  exact ⟨rfl, HB0.out.trans (hbel.out.mono (by simp))⟩

theorem percentile_calls (A0 : Option Addr) (c0 : Nat) (l0 : List Int) (a1 : Int) (r1 : Int) (r2 : Bool) (w : World) (hr0 : Kd.C (Kd.int .i64) w A0 l0.length l0) (hc0 : l0.length ≤ c0) (h : pctF l0 a1 = some (r1, r2)) :
    Calls Try.prog 38 #[.slice A0 l0.length c0, .int .i64 a1] w fun e w' => e = .returned (.tuple #[.int .i64 r1, .bool r2]) ∧ Below w.heap.size w w' := by
  unfold pctF at h
  cases hf : fine l0 a1 with
  | true =>
    rw [hf, if_pos rfl] at h
    simp only [Option.some.injEq, Prod.mk.injEq] at h
    obtain ⟨h, rfl⟩ := h
    exact percentile_yes A0 c0 l0 a1 r1 w hr0 hc0 hf h
  | false =>
    rw [hf, if_neg (by simp)] at h
    simp only [Option.some.injEq, Prod.mk.injEq] at h
    obtain ⟨rfl, rfl⟩ := h
    refine (percentile_no A0 c0 l0 a1 w hr0 hc0 hf).mono ?_
    rintro e w' ⟨he, rfl⟩
    exact ⟨he, Below.refl _ _⟩

end Go.Proofs.Ytlkglpnccddeeaa.Pct
