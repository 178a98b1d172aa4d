/-
  No cell of these rows narrows 'for every input' (looked for: loops, veiled, ifaces, maps, wideKeys, modest, calm, conditions, laid).
  DERIVED. THE GIVEN ROWS OF THIS SEAT. 9 by the template 'for every input the law returns true; each argument reads behind the call as it read before'; 0 by the template 'total and deterministic' (their statements: YtlkglpnccddeeaaTotals.lean).
  GIVEN WITH THE SEED: the statements are not yours to turn. If you find one false, say at which input.
  Laid BY PROGRAM, IN A SANDBOX (cutbox-rows.mjs): the forced cells as the released guide's own fill.sh prints them over the translation 99b606f89f484e47… (all of the seat's roots in one cut). By AI agents, Wed Nov 11 2026. No macro, syntax, notation, axiom, sorry.
-/
import Derived.Test.YtlkglpnccddeeaaChecked
import GoSem.Claim
import GoSem.ClaimJoined
import GoSem.ClaimMapViews
import Derived.JoinedTies
import Derived.KernelRfl
namespace Go.Proofs.Ytlkglpnccddeeaa
/- THE CELL 'sum', in the pinned program and in every row, IS THE sha256 OF THE DUMP (.gsa) THAT YtlkglpnccddeeaaProg.lean LOADS. Nothing in Lean hashes anything: it is a label: what it is worth is what the hold of that sum in a sandbox is worth. -/
noncomputable def Try.pinned : Pinned := { name := "ytlkglpnccddeeaa", sum := "99b606f89f484e47feff5cd37bc560c5b5676fdc7fdd55d164e8cd5460359b3d", checked := Try.checked }
namespace Rows
def none {H : Type} : Left H := { results := [], args := [] }

/-- 'laws.FnExactClipSpikes': WHATEVER THE INPUT: true; the input reads as it did. -/
def fnExactClipSpikesSpec : ChangeSpec := { name := "fnExactClipSpikes", fn := fun _ => fun
  | [d1, d2] => { results := [.lit (.bool true)], args := [d1, d2] }
  | _ => none }
def fnExactClipSpikesRow : OpenClaim := { program := "ytlkglpnccddeeaa", sum := "99b606f89f484e47feff5cd37bc560c5b5676fdc7fdd55d164e8cd5460359b3d", func := "loop.example/g00808/laws.FnExactClipSpikes", spec := "fnExactClipSpikes", unfollowed := true, recurses := true, apart := false }
def FnExactClipSpikesSaid : Prop := fnExactClipSpikesRow.holds Try.pinned (OpenSpec.ofChange fnExactClipSpikesSpec)

/-- ITS FALSE NEIGHBOUR: 'it returns false'. Refute it at one input. -/
def fnExactClipSpikesWrong : ChangeSpec := { name := "fnExactClipSpikes", fn := fun _ => fun
  | [d1, d2] => { results := [.lit (.bool false)], args := [d1, d2] }
  | _ => none }
def FnExactClipSpikesWrongFalsely : Prop := fnExactClipSpikesRow.holds Try.pinned (OpenSpec.ofChange fnExactClipSpikesWrong)

/-- 'laws.FnExactRangeOf': WHATEVER THE INPUT: true; the input reads as it did. -/
def fnExactRangeOfSpec : ChangeSpec := { name := "fnExactRangeOf", fn := fun _ => fun
  | [d] => { results := [.lit (.bool true)], args := [d] }
  | _ => none }
def fnExactRangeOfRow : OpenClaim := { program := "ytlkglpnccddeeaa", sum := "99b606f89f484e47feff5cd37bc560c5b5676fdc7fdd55d164e8cd5460359b3d", func := "loop.example/g00808/laws.FnExactRangeOf", spec := "fnExactRangeOf", unfollowed := true, recurses := true, apart := false }
def FnExactRangeOfSaid : Prop := fnExactRangeOfRow.holds Try.pinned (OpenSpec.ofChange fnExactRangeOfSpec)

/-- ITS FALSE NEIGHBOUR: 'it returns false'. Refute it at one input. -/
def fnExactRangeOfWrong : ChangeSpec := { name := "fnExactRangeOf", fn := fun _ => fun
  | [d] => { results := [.lit (.bool false)], args := [d] }
  | _ => none }
def FnExactRangeOfWrongFalsely : Prop := fnExactRangeOfRow.holds Try.pinned (OpenSpec.ofChange fnExactRangeOfWrong)

/-- 'laws.FnExactWindowMax': WHATEVER THE INPUT: true; the input reads as it did. -/
def fnExactWindowMaxSpec : ChangeSpec := { name := "fnExactWindowMax", fn := fun _ => fun
  | [d1, d2] => { results := [.lit (.bool true)], args := [d1, d2] }
  | _ => none }
def fnExactWindowMaxRow : OpenClaim := { program := "ytlkglpnccddeeaa", sum := "99b606f89f484e47feff5cd37bc560c5b5676fdc7fdd55d164e8cd5460359b3d", func := "loop.example/g00808/laws.FnExactWindowMax", spec := "fnExactWindowMax", unfollowed := true, recurses := true, apart := false }
def FnExactWindowMaxSaid : Prop := fnExactWindowMaxRow.holds Try.pinned (OpenSpec.ofChange fnExactWindowMaxSpec)

/-- ITS FALSE NEIGHBOUR: 'it returns false'. Refute it at one input. -/
def fnExactWindowMaxWrong : ChangeSpec := { name := "fnExactWindowMax", fn := fun _ => fun
  | [d1, d2] => { results := [.lit (.bool false)], args := [d1, d2] }
  | _ => none }
def FnExactWindowMaxWrongFalsely : Prop := fnExactWindowMaxRow.holds Try.pinned (OpenSpec.ofChange fnExactWindowMaxWrong)

/-- 'laws.FnExactFlatWithin': WHATEVER THE INPUT: true; the input reads as it did. -/
def fnExactFlatWithinSpec : ChangeSpec := { name := "fnExactFlatWithin", fn := fun _ => fun
  | [d1, d2] => { results := [.lit (.bool true)], args := [d1, d2] }
  | _ => none }
def fnExactFlatWithinRow : OpenClaim := { program := "ytlkglpnccddeeaa", sum := "99b606f89f484e47feff5cd37bc560c5b5676fdc7fdd55d164e8cd5460359b3d", func := "loop.example/g00808/laws.FnExactFlatWithin", spec := "fnExactFlatWithin", unfollowed := true, recurses := true, apart := false }
def FnExactFlatWithinSaid : Prop := fnExactFlatWithinRow.holds Try.pinned (OpenSpec.ofChange fnExactFlatWithinSpec)

/-- ITS FALSE NEIGHBOUR: 'it returns false'. Refute it at one input. -/
def fnExactFlatWithinWrong : ChangeSpec := { name := "fnExactFlatWithin", fn := fun _ => fun
  | [d1, d2] => { results := [.lit (.bool false)], args := [d1, d2] }
  | _ => none }
def FnExactFlatWithinWrongFalsely : Prop := fnExactFlatWithinRow.holds Try.pinned (OpenSpec.ofChange fnExactFlatWithinWrong)

/-- 'laws.FnExactForecastOf': WHATEVER THE INPUT: true; the input reads as it did. -/
def fnExactForecastOfSpec : ChangeSpec := { name := "fnExactForecastOf", fn := fun _ => fun
  | [d1, d2] => { results := [.lit (.bool true)], args := [d1, d2] }
  | _ => none }
def fnExactForecastOfRow : OpenClaim := { program := "ytlkglpnccddeeaa", sum := "99b606f89f484e47feff5cd37bc560c5b5676fdc7fdd55d164e8cd5460359b3d", func := "loop.example/g00808/laws.FnExactForecastOf", spec := "fnExactForecastOf", apart := false }
def FnExactForecastOfSaid : Prop := fnExactForecastOfRow.holds Try.pinned (OpenSpec.ofChange fnExactForecastOfSpec)

/-- ITS FALSE NEIGHBOUR: 'it returns false'. Refute it at one input. -/
def fnExactForecastOfWrong : ChangeSpec := { name := "fnExactForecastOf", fn := fun _ => fun
  | [d1, d2] => { results := [.lit (.bool false)], args := [d1, d2] }
  | _ => none }
def FnExactForecastOfWrongFalsely : Prop := fnExactForecastOfRow.holds Try.pinned (OpenSpec.ofChange fnExactForecastOfWrong)

/-- 'laws.FnWindows': WHATEVER THE INPUT: true; the input reads as it did. -/
def fnWindowsSpec : ChangeSpec := { name := "fnWindows", fn := fun _ => fun
  | [d] => { results := [.lit (.bool true)], args := [d] }
  | _ => none }
def fnWindowsRow : OpenClaim := { program := "ytlkglpnccddeeaa", sum := "99b606f89f484e47feff5cd37bc560c5b5676fdc7fdd55d164e8cd5460359b3d", func := "loop.example/g00808/laws.FnWindows", spec := "fnWindows", unfollowed := true, recurses := true, apart := false }
def FnWindowsSaid : Prop := fnWindowsRow.holds Try.pinned (OpenSpec.ofChange fnWindowsSpec)

/-- ITS FALSE NEIGHBOUR: 'it returns false'. Refute it at one input. -/
def fnWindowsWrong : ChangeSpec := { name := "fnWindows", fn := fun _ => fun
  | [d] => { results := [.lit (.bool false)], args := [d] }
  | _ => none }
def FnWindowsWrongFalsely : Prop := fnWindowsRow.holds Try.pinned (OpenSpec.ofChange fnWindowsWrong)

/-- 'laws.FnExactOpsOf': WHATEVER THE INPUT: true; the input reads as it did. -/
def fnExactOpsOfSpec : ChangeSpec := { name := "fnExactOpsOf", fn := fun _ => fun
  | [d1, d2] => { results := [.lit (.bool true)], args := [d1, d2] }
  | _ => none }
def fnExactOpsOfRow : OpenClaim := { program := "ytlkglpnccddeeaa", sum := "99b606f89f484e47feff5cd37bc560c5b5676fdc7fdd55d164e8cd5460359b3d", func := "loop.example/g00808/laws.FnExactOpsOf", spec := "fnExactOpsOf", apart := false }
def FnExactOpsOfSaid : Prop := fnExactOpsOfRow.holds Try.pinned (OpenSpec.ofChange fnExactOpsOfSpec)

/-- ITS FALSE NEIGHBOUR: 'it returns false'. Refute it at one input. -/
def fnExactOpsOfWrong : ChangeSpec := { name := "fnExactOpsOf", fn := fun _ => fun
  | [d1, d2] => { results := [.lit (.bool false)], args := [d1, d2] }
  | _ => none }
def FnExactOpsOfWrongFalsely : Prop := fnExactOpsOfRow.holds Try.pinned (OpenSpec.ofChange fnExactOpsOfWrong)

/-- 'laws.FnExactPercentileOf': WHATEVER THE INPUT: true; the input reads as it did. -/
def fnExactPercentileOfSpec : ChangeSpec := { name := "fnExactPercentileOf", fn := fun _ => fun
  | [d1, d2] => { results := [.lit (.bool true)], args := [d1, d2] }
  | _ => none }
def fnExactPercentileOfRow : OpenClaim := { program := "ytlkglpnccddeeaa", sum := "99b606f89f484e47feff5cd37bc560c5b5676fdc7fdd55d164e8cd5460359b3d", func := "loop.example/g00808/laws.FnExactPercentileOf", spec := "fnExactPercentileOf", unfollowed := true, recurses := true, apart := false }
def FnExactPercentileOfSaid : Prop := fnExactPercentileOfRow.holds Try.pinned (OpenSpec.ofChange fnExactPercentileOfSpec)

/-- ITS FALSE NEIGHBOUR: 'it returns false'. Refute it at one input. -/
def fnExactPercentileOfWrong : ChangeSpec := { name := "fnExactPercentileOf", fn := fun _ => fun
  | [d1, d2] => { results := [.lit (.bool false)], args := [d1, d2] }
  | _ => none }
def FnExactPercentileOfWrongFalsely : Prop := fnExactPercentileOfRow.holds Try.pinned (OpenSpec.ofChange fnExactPercentileOfWrong)

/-- 'laws.FnExactMedianOf': WHATEVER THE INPUT: true; the input reads as it did. -/
def fnExactMedianOfSpec : ChangeSpec := { name := "fnExactMedianOf", fn := fun _ => fun
  | [d] => { results := [.lit (.bool true)], args := [d] }
  | _ => none }
def fnExactMedianOfRow : OpenClaim := { program := "ytlkglpnccddeeaa", sum := "99b606f89f484e47feff5cd37bc560c5b5676fdc7fdd55d164e8cd5460359b3d", func := "loop.example/g00808/laws.FnExactMedianOf", spec := "fnExactMedianOf", unfollowed := true, recurses := true, apart := false }
def FnExactMedianOfSaid : Prop := fnExactMedianOfRow.holds Try.pinned (OpenSpec.ofChange fnExactMedianOfSpec)

/-- ITS FALSE NEIGHBOUR: 'it returns false'. Refute it at one input. -/
def fnExactMedianOfWrong : ChangeSpec := { name := "fnExactMedianOf", fn := fun _ => fun
  | [d] => { results := [.lit (.bool false)], args := [d] }
  | _ => none }
def FnExactMedianOfWrongFalsely : Prop := fnExactMedianOfRow.holds Try.pinned (OpenSpec.ofChange fnExactMedianOfWrong)

/- THE SECOND FORM. 'bulk': how many values and letters a reading holds, each counted each time it is reached (what is shared counts as often as it is met; a slice's spare places count too). A statement '..UptoSaid' is the law's where the arguments, and the package variables that the reading takes, are together of bulk at most 1048576: NARROWER than '..Said'. Prove '..Said' where nothing that the law and all that it calls make is longer than what came in: it says more and counts as full. Else prove '..UptoSaid'. A law counts once. -/
mutual
def uptoBulk {H : Type} : DataW H → Nat
  | .lit (.string bytes) => bytes.length + 1
  | .lit _ => 1
  | .nil => 1
  | .ptr d => uptoBulk d + 1
  | .slice elems spare => uptoBulkAll elems + uptoBulkAll spare + 1
  | .agg parts => uptoBulkAll parts + 1
  | .iface _ d => uptoBulk d + 1
  | .map entries => uptoBulkEntries entries + 1
  | .held _ => 1
def uptoBulkAll {H : Type} : List (DataW H) → Nat
  | [] => 0
  | d :: r => uptoBulk d + uptoBulkAll r
def uptoBulkEntries {H : Type} : List (Lit × DataW H) → Nat
  | [] => 0
  | x :: r => uptoBulkEntry x + uptoBulkEntries r
def uptoBulkEntry {H : Type} : Lit × DataW H → Nat
  | (.string bytes, d) => bytes.length + uptoBulk d + 1
  | (_, d) => uptoBulk d + 1
 end
def uptoSmall : (H : Type) → List (DataW H) → Bool := fun _ ds => decide (uptoBulkAll ds ≤ 1048576)
def OpenSpec.upto (s : _root_.Go.ChangeSpec) : _root_.Go.OpenSpec := { _root_.Go.OpenSpec.ofChange s with cond := some uptoSmall }

/-- 'laws.FnExactClipSpikes', WHERE WHAT IT READS IS OF BULK AT MOST 1048576: true; the input reads as it did. -/
def fnExactClipSpikesUptoRow : OpenClaim := { program := "ytlkglpnccddeeaa", sum := "99b606f89f484e47feff5cd37bc560c5b5676fdc7fdd55d164e8cd5460359b3d", func := "loop.example/g00808/laws.FnExactClipSpikes", spec := "fnExactClipSpikes", unfollowed := true, recurses := true, apart := false, narrowed := true }
def FnExactClipSpikesUptoSaid : Prop := fnExactClipSpikesUptoRow.holds Try.pinned (OpenSpec.upto fnExactClipSpikesSpec)

/-- 'laws.FnExactRangeOf', WHERE WHAT IT READS IS OF BULK AT MOST 1048576: true; the input reads as it did. -/
def fnExactRangeOfUptoRow : OpenClaim := { program := "ytlkglpnccddeeaa", sum := "99b606f89f484e47feff5cd37bc560c5b5676fdc7fdd55d164e8cd5460359b3d", func := "loop.example/g00808/laws.FnExactRangeOf", spec := "fnExactRangeOf", unfollowed := true, recurses := true, apart := false, narrowed := true }
def FnExactRangeOfUptoSaid : Prop := fnExactRangeOfUptoRow.holds Try.pinned (OpenSpec.upto fnExactRangeOfSpec)

/-- 'laws.FnExactWindowMax', WHERE WHAT IT READS IS OF BULK AT MOST 1048576: true; the input reads as it did. -/
def fnExactWindowMaxUptoRow : OpenClaim := { program := "ytlkglpnccddeeaa", sum := "99b606f89f484e47feff5cd37bc560c5b5676fdc7fdd55d164e8cd5460359b3d", func := "loop.example/g00808/laws.FnExactWindowMax", spec := "fnExactWindowMax", unfollowed := true, recurses := true, apart := false, narrowed := true }
def FnExactWindowMaxUptoSaid : Prop := fnExactWindowMaxUptoRow.holds Try.pinned (OpenSpec.upto fnExactWindowMaxSpec)

/-- 'laws.FnExactFlatWithin', WHERE WHAT IT READS IS OF BULK AT MOST 1048576: true; the input reads as it did. -/
def fnExactFlatWithinUptoRow : OpenClaim := { program := "ytlkglpnccddeeaa", sum := "99b606f89f484e47feff5cd37bc560c5b5676fdc7fdd55d164e8cd5460359b3d", func := "loop.example/g00808/laws.FnExactFlatWithin", spec := "fnExactFlatWithin", unfollowed := true, recurses := true, apart := false, narrowed := true }
def FnExactFlatWithinUptoSaid : Prop := fnExactFlatWithinUptoRow.holds Try.pinned (OpenSpec.upto fnExactFlatWithinSpec)

/-- 'laws.FnExactForecastOf', WHERE WHAT IT READS IS OF BULK AT MOST 1048576: true; the input reads as it did. -/
def fnExactForecastOfUptoRow : OpenClaim := { program := "ytlkglpnccddeeaa", sum := "99b606f89f484e47feff5cd37bc560c5b5676fdc7fdd55d164e8cd5460359b3d", func := "loop.example/g00808/laws.FnExactForecastOf", spec := "fnExactForecastOf", apart := false, narrowed := true }
def FnExactForecastOfUptoSaid : Prop := fnExactForecastOfUptoRow.holds Try.pinned (OpenSpec.upto fnExactForecastOfSpec)

/-- 'laws.FnWindows', WHERE WHAT IT READS IS OF BULK AT MOST 1048576: true; the input reads as it did. -/
def fnWindowsUptoRow : OpenClaim := { program := "ytlkglpnccddeeaa", sum := "99b606f89f484e47feff5cd37bc560c5b5676fdc7fdd55d164e8cd5460359b3d", func := "loop.example/g00808/laws.FnWindows", spec := "fnWindows", unfollowed := true, recurses := true, apart := false, narrowed := true }
def FnWindowsUptoSaid : Prop := fnWindowsUptoRow.holds Try.pinned (OpenSpec.upto fnWindowsSpec)

/-- 'laws.FnExactOpsOf', WHERE WHAT IT READS IS OF BULK AT MOST 1048576: true; the input reads as it did. -/
def fnExactOpsOfUptoRow : OpenClaim := { program := "ytlkglpnccddeeaa", sum := "99b606f89f484e47feff5cd37bc560c5b5676fdc7fdd55d164e8cd5460359b3d", func := "loop.example/g00808/laws.FnExactOpsOf", spec := "fnExactOpsOf", apart := false, narrowed := true }
def FnExactOpsOfUptoSaid : Prop := fnExactOpsOfUptoRow.holds Try.pinned (OpenSpec.upto fnExactOpsOfSpec)

/-- 'laws.FnExactPercentileOf', WHERE WHAT IT READS IS OF BULK AT MOST 1048576: true; the input reads as it did. -/
def fnExactPercentileOfUptoRow : OpenClaim := { program := "ytlkglpnccddeeaa", sum := "99b606f89f484e47feff5cd37bc560c5b5676fdc7fdd55d164e8cd5460359b3d", func := "loop.example/g00808/laws.FnExactPercentileOf", spec := "fnExactPercentileOf", unfollowed := true, recurses := true, apart := false, narrowed := true }
def FnExactPercentileOfUptoSaid : Prop := fnExactPercentileOfUptoRow.holds Try.pinned (OpenSpec.upto fnExactPercentileOfSpec)

/-- 'laws.FnExactMedianOf', WHERE WHAT IT READS IS OF BULK AT MOST 1048576: true; the input reads as it did. -/
def fnExactMedianOfUptoRow : OpenClaim := { program := "ytlkglpnccddeeaa", sum := "99b606f89f484e47feff5cd37bc560c5b5676fdc7fdd55d164e8cd5460359b3d", func := "loop.example/g00808/laws.FnExactMedianOf", spec := "fnExactMedianOf", unfollowed := true, recurses := true, apart := false, narrowed := true }
def FnExactMedianOfUptoSaid : Prop := fnExactMedianOfUptoRow.holds Try.pinned (OpenSpec.upto fnExactMedianOfSpec)

end Rows
end Go.Proofs.Ytlkglpnccddeeaa
