/-
  What an argument that came in reads as, kind by kind: from the datum's reading ('DataW.trod') to the printed kinds ('Kd'). For structs, strings and slices of these.
-/
import Derived.Test.YtcjeblikejoogaaGreatDoorWMore
import Derived.ProofKit
import Derived.ChangeArms
import Derived.Deep.Slices
namespace Go.Proofs.YtcjeblikejoogaaGreatDoor.Opens
open Go.RowKit Go.Proofs.YtcjeblikejoogaaGreatDoorW.PrintWords
set_option linter.unusedVariables false
structure Opens {α : Type} (P : Program) (w : World) (d : Kd α) (t : TypeId) (G : α → Prop) : Prop where
  out : ∀ {H : Type} (enc : TypeId × Value → H) (base : Nat) (spare : Nat → Bool) (held : Bool) (fuel : Nat) (cs : List Value) (x : DataW H × List MemPlace),
    DataW.trod enc P w base spare held fuel t cs = some x → ∃ y, d.K w y cs ∧ G y
structure OpensF {α : Type} (P : Program) (w : World) (d : Kd α) (o : Nat) (fs : List Field) (G : α → Prop) : Prop where
  out : ∀ {H : Type} (enc : TypeId × Value → H) (base : Nat) (spare : Nat → Bool) (held : Bool) (fuel : Nat) (cs : List Value),
    cs.length = o + d.sz → (∀ f, f ∈ fs → ∃ y, DataW.trod enc P w base spare held fuel f.type ((cs.drop f.offset).take (P.cellsOf f.type)) = some y) → ∃ y, d.K w y (cs.drop o) ∧ G y
variable {P : Program} {w : World}
theorem opens_int {k : IntKind} {t : TypeId} (ht : P.underlying t = some (.int k)) : Opens P w (Kd.int k) t (fun n => (Lit.int k n).wf = true) := by
  refine ⟨fun {H} enc base spare held fuel cs x hx => ?_⟩
  obtain ⟨n, rfl, _, hw⟩ := DataW.trod_int ht hx
  exact ⟨n, rfl, hw⟩
theorem opens_bool {t : TypeId} (ht : P.underlying t = some .bool) : Opens P w Kd.bool t (fun _ => True) := by
  refine ⟨fun {H} enc base spare held fuel cs x hx => ?_⟩
  obtain ⟨b, rfl, _⟩ := DataW.trod_bool ht hx
  exact ⟨b, rfl, trivial⟩
theorem opens_string {t : TypeId} (ht : P.underlying t = some .string) : Opens P w Kd.string t (fun s => s.size ≤ maxLen) := by
  refine ⟨fun {H} enc base spare held fuel cs x hx => ?_⟩
  obtain ⟨s, rfl, _, hs⟩ := DataW.trod_string ht hx
  exact ⟨s, rfl, hs⟩
theorem pick_rows {α : Type} {Q : Nat → α → Prop} {len : Nat} (key : ∀ i, i < len → ∃ y : α, Q i y) : ∃ ys : List α, ys.length = len ∧ ∀ j p, ys[j]? = some p → Q j p := by
  induction len with
  | zero => exact ⟨[], rfl, fun j p hp => by simp at hp⟩
  | succ len ih =>
    obtain ⟨ys, hy1, hy2⟩ := ih (fun i hi => key i (by omega))
    obtain ⟨y, k1⟩ := key len (by omega)
    refine ⟨ys ++ [y], by simp [hy1], fun j p hp => ?_⟩
    by_cases hj : j < ys.length
    · rw [List.getElem?_append_left hj] at hp
      exact hy2 j p hp
    · have : j = ys.length := by
        have h9 := (List.getElem?_eq_some_iff.1 hp).1
        simp at h9
        omega
      subst this
      simp at hp
      subst hp
      rw [hy1]
      exact k1
theorem opens_slice {α : Type} (q : Nat) {d : Kd α} {t e : TypeId} {G : α → Prop} (ht : P.underlying t = some (.slice e)) (he : P.cellsOf e = d.sz) (h : Opens P w d e G) :
    Opens P w (Kd.slice q d) t (fun xs => xs.length ≤ maxLen ∧ ∀ x ∈ xs, G x) := by
  refine ⟨fun {H} enc base spare held fuel cs x hx => ?_⟩
  rcases Deep.open_slice ht hx with ⟨rfl, _⟩ | ⟨a, len, cap, m, n, D, Pl, rfl, _, hl, hc, hm, _, hel⟩
  · exact ⟨[], ⟨none, 0, rfl, Nat.le_refl _, Kd.C_nil d w⟩, Nat.zero_le _, by simp⟩
  · have hlm : len ≤ m := by rw [hm]; split <;> omega
    have key : ∀ i, i < len → ∃ y : α, ∃ c, w.cells? base (a.add (i * P.cellsOf e)) (P.cellsOf e) = some c ∧ d.K w y c ∧ G y := by
      intro i hi
      obtain ⟨c, h1, h2⟩ := hel i (by omega)
      obtain ⟨y, h3, h4⟩ := h.out enc base spare held n c _ h2
      exact ⟨y, c, h1, h3, h4⟩
    have pick := pick_rows key
    obtain ⟨ys, rfl, hy⟩ := pick
    refine ⟨ys, ⟨some a, cap, rfl, hl, rfl, ?_, fun _ => ⟨a, rfl, fun j p hp => ?_⟩⟩, by omega, fun y hy' => ?_⟩
    · unfold maxLen at hc
      omega
    · obtain ⟨c, k1, k2, _⟩ := hy j p hp
      obtain ⟨_, k4, k5⟩ := World.cells?_some k1
      refine ⟨c, d.K_len k2, k2, fun i u hu => ?_⟩
      have hi : i < c.length := (List.getElem?_eq_some_iff.1 hu).1
      have := k5 i (by have := d.K_len k2; omega)
      rw [Deep.add_add, he] at this
      rw [this, hu]
    · obtain ⟨j, hj, rfl⟩ := List.mem_iff_getElem.1 hy'
      obtain ⟨_, _, _, k3⟩ := hy j _ (List.getElem?_eq_getElem hj)
      exact k3
theorem opensF_one {α : Type} {d : Kd α} {o : Nat} {f : Field} {G : α → Prop} (ho : f.offset = o) (hs : P.cellsOf f.type = d.sz) (h : Opens P w d f.type G) : OpensF P w d o [f] G := by
  refine ⟨fun {H} enc base spare held fuel cs hl hf => ?_⟩
  obtain ⟨y, hy⟩ := hf f (by simp)
  rw [ho, hs, List.take_of_length_le (by simp; omega)] at hy
  exact h.out enc base spare held fuel _ y hy
theorem opensF_cons {α β : Type} {a : Kd α} {b : Kd β} {o : Nat} {f : Field} {fs : List Field} {G : α → Prop} {G' : β → Prop} (ho : f.offset = o) (hs : P.cellsOf f.type = a.sz) (h : Opens P w a f.type G)
    (hb : OpensF P w b (o + a.sz) fs G') : OpensF P w (Kd.pair a b) o (f :: fs) (fun x => G x.1 ∧ G' x.2) := by
  refine ⟨fun {H} enc base spare held fuel cs hl hf => ?_⟩
  have hl' : cs.length = o + (a.sz + b.sz) := hl
  obtain ⟨y, hy⟩ := hf f (by simp)
  rw [ho, hs] at hy
  obtain ⟨u, h1, h2⟩ := h.out enc base spare held fuel _ y hy
  obtain ⟨v, h3, h4⟩ := hb.out enc base spare held fuel cs (by omega) (fun g hg => hf g (List.mem_cons_of_mem _ hg))
  refine ⟨(u, v), ⟨(cs.drop o).take a.sz, cs.drop (o + a.sz), ?_, h1, h3⟩, h2, h4⟩
  rw [← List.drop_drop, List.take_append_drop]
theorem opens_struct {α : Type} {d : Kd α} {t : TypeId} {fs : List Field} {G : α → Prop} (ht : P.underlying t = some (.struct fs.toArray)) (hs : P.cellsOf t = d.sz) (h : OpensF P w d 0 fs G) : Opens P w d t G := by
  refine ⟨fun {H} enc base spare held fuel cs x hx => ?_⟩
  obtain ⟨xs, n, _, _, hl, hlen, hf⟩ := DataW.trod_struct ht hx
  have := h.out enc base spare held n cs (by omega) (fun f hf' => by
    obtain ⟨i, hi, rfl⟩ := List.mem_iff_getElem.1 hf'
    have e := hf i fs[i] (by simp [hi])
    have hlen' : xs.length = fs.length := by simpa using hlen
    rw [List.getElem?_eq_getElem (by omega)] at e
    exact ⟨_, e⟩)
  simpa using this
theorem opens_iso {α β : Type} {d : Kd α} {t : TypeId} {G : α → Prop} {f : β → α} (g : α → β) (hg : ∀ y, f (g y) = y) (h : Opens P w d t G) : Opens P w (Kd.iso d f) t (fun x => G (f x)) := by
  refine ⟨fun {H} enc base spare held fuel cs x hx => ?_⟩
  obtain ⟨y, h1, h2⟩ := h.out enc base spare held fuel cs x hx
  refine ⟨g y, ?_, ?_⟩
  · show d.K w (f (g y)) cs
    rw [hg]
    exact h1
  · show G (f (g y))
    rw [hg]
    exact h2
end Go.Proofs.YtcjeblikejoogaaGreatDoor.Opens
