/-
  The law's own copies and comparison of operations, and the walk of the law FnExactOpLine: it ends with true and changes no older memory.
  Conditions: the hypotheses of each theorem; none beside.
-/
import Derived.Test.YtcjeblikejoogaaGreatDoorHX5
import Derived.Test.YtcjeblikejoogaaGreatDoorPureOps
namespace Go.Proofs.YtcjeblikejoogaaGreatDoor.PFnExactOpLine
open Go.RowKit Go.Proofs.YtcjeblikejoogaaGreatDoorW.PrintWords Go.Proofs.YtcjeblikejoogaaGreatDoorW.PrintLast Go.Proofs.YtcjeblikejoogaaGreatDoorW.PrintMore
set_option linter.unusedVariables false
set_option linter.unusedSimpArgs false
attribute [local go_sem high] eqA39 eqA90 eqA118
open Go.Proofs.YtcjeblikejoogaaGreatDoor.Pure.OpsOf
abbrev S34.agg (x : S34) (P G U D : Option Addr) (cp cg cu cd : Nat) : Value := .agg #[.int .i64 x.f0, .int .i64 x.f1, .string x.f2, .slice P x.f3.length cp, .int .i64 x.f4.f0.f0, .int .i64 x.f4.f0.f1, .int .i64 x.f4.f0.f2, .slice G x.f4.f1.length cg, .slice U x.f4.f2.f0.f0.length cu, .int .i64 x.f4.f2.f0.f1, .int .i64 x.f4.f2.f0.f2, .slice D x.f4.f2.f1.f0.length cd, .int .i64 x.f4.f2.f1.f1, .int .i64 x.f4.f2.f1.f2, .int .i64 x.f4.f2.f2, .int .i64 x.f4.f2.f3]
structure S34.Rd (x : S34) (w : World) (P G U D : Option Addr) (cp cg cu cd : Nat) : Prop where
  p : Kd.C k83 w P x.f3.length x.f3
  cp : x.f3.length ≤ cp
  g : Kd.C k111 w G x.f4.f1.length x.f4.f1
  cg : x.f4.f1.length ≤ cg
  u : Kd.C k155 w U x.f4.f2.f0.f0.length x.f4.f2.f0.f0
  cu : x.f4.f2.f0.f0.length ≤ cu
  d : Kd.C k155 w D x.f4.f2.f1.f0.length x.f4.f2.f1.f0
  cd : x.f4.f2.f1.f0.length ≤ cd
theorem S34.Rd.below {x : S34} {w w' : World} {P G U D : Option Addr} {cp cg cu cd : Nat} (h : x.Rd w P G U D cp cg cu cd) (b : Below w.heap.size w w') : x.Rd w' P G U D cp cg cu cd := ⟨Kd.C_below h.p b, h.cp, Kd.C_below h.g b, h.cg, Kd.C_below h.u b, h.cu, Kd.C_below h.d b, h.cd⟩
def opOf (x : S49) : OP := ⟨x.f0, x.f1, x.f2, x.f3, ⟨x.f4.f0.f0, x.f4.f0.f1, x.f4.f0.f2, x.f4.f1, x.f4.f2.f0.f0, x.f4.f2.f0.f1, x.f4.f2.f0.f2, x.f4.f2.f1.f0, x.f4.f2.f1.f1, x.f4.f2.f1.f2, x.f4.f2.f2, x.f4.f2.f3⟩⟩
structure OP.Rd (o : OP) (w : World) (P G U D : Option Addr) (cp cg cu cd : Nat) : Prop where
  p : Kd.C k95 w P o.p.length o.p
  cp : o.p.length ≤ cp
  s : o.s.Rd w G U D cg cu cd
theorem OP.Rd.below {o : OP} {w w' : World} {P G U D : Option Addr} {cp cg cu cd : Nat} (h : o.Rd w P G U D cp cg cu cd) (b : Below w.heap.size w w') : o.Rd w' P G U D cp cg cu cd := ⟨Kd.C_below h.p b, h.cp, h.s.below b⟩
theorem wf_le {n : Int} (h : (Lit.int .i64 n).wf = true) : -9223372036854775808 ≤ n ∧ n ≤ 9223372036854775807 := by simpa [Lit.wf, IntKind.min, IntKind.max, IntKind.signed, IntKind.bits] using h
theorem small_of (x : S34) (hx : OkOp x) (hs : SmallOp x) : (opOf (cvOp x)).Small := by
  obtain ⟨h0, h1, _⟩ := hx
  obtain ⟨s1, s2, s3, s4, s5, s6⟩ := hs
  refine ⟨wf_le h0, wf_le h1, s1, ?_, ?_⟩
  · simpa [opOf, cvOp] using s2
  · refine ⟨by simpa [opOf, cvOp] using s3, by simpa [opOf, cvOp] using s5, by simpa [opOf, cvOp] using s6, fun i hi => ?_⟩
    have hi' : i < x.f4.f1.length := by simpa [opOf, cvOp] using hi
    have e : rd_T90 (opOf (cvOp x)).s.g i = cvGoal (x.f4.f1.getD i z111) := by
      show (x.f4.f1.map cvGoal).getD i z90 = _
      exact cvGoal_get _ _ hi'
    rw [e]
    refine s4 _ ?_
    rw [show x.f4.f1.getD i z111 = x.f4.f1[i] by simp [List.getD, hi']]
    exact List.getElem_mem hi'
theorem ansV_is (r : Option ByteArray) : ∃ (b : ByteArray) (ok : Bool), ansV r = .tuple #[.string b, .bool ok] := by
  cases r with
  | none => exact ⟨_, _, rfl⟩
  | some b => exact ⟨_, _, rfl⟩
end Go.Proofs.YtcjeblikejoogaaGreatDoor.PFnExactOpLine
