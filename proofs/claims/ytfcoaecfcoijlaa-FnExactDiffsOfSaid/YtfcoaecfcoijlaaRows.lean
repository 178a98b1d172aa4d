/-
  No cell of these rows narrows 'for every input' (looked for: loops, veiled, ifaces, maps, wideKeys, modest, calm, conditions, laid).
  DERIVED. THE GIVEN ROWS OF THIS SEAT. 12 by the template 'for every input the law returns true; each argument reads behind the call as it read before'; 0 by the template 'total and deterministic' (their statements: YtfcoaecfcoijlaaTotals.lean).
  GIVEN WITH THE SEED: the statements are not yours to turn. If you find one false, say at which input.
  Laid BY PROGRAM, IN A SANDBOX (cutbox-rows.mjs): the forced cells as the released guide's own fill.sh prints them over the translation 9a44af916e86dedd… (all of the seat's roots in one cut). By AI agents, Wed Nov 11 2026. No macro, syntax, notation, axiom, sorry.
-/
import Derived.Test.YtfcoaecfcoijlaaChecked
import GoSem.Claim
import GoSem.ClaimJoined
import GoSem.ClaimMapViews
import Derived.JoinedTies
import Derived.KernelRfl
namespace Go.Proofs.Ytfcoaecfcoijlaa
/- THE CELL 'sum', in the pinned program and in every row, IS THE sha256 OF THE DUMP (.gsa) THAT YtfcoaecfcoijlaaProg.lean LOADS. Nothing in Lean hashes anything: it is a label: what it is worth is what the hold of that sum in a sandbox is worth. -/
noncomputable def Try.pinned : Pinned := { name := "ytfcoaecfcoijlaa", sum := "9a44af916e86dedddf48ac6681878baf26f176fb9d91684e3cbd83489278a5c4", checked := Try.checked }
namespace Rows
def none {H : Type} : Left H := { results := [], args := [] }

/-- 'laws.FnExactRunsUp': WHATEVER THE INPUT: true; the input reads as it did. -/
def fnExactRunsUpSpec : ChangeSpec := { name := "fnExactRunsUp", fn := fun _ => fun
  | [d] => { results := [.lit (.bool true)], args := [d] }
  | _ => none }
def fnExactRunsUpRow : OpenClaim := { program := "ytfcoaecfcoijlaa", sum := "9a44af916e86dedddf48ac6681878baf26f176fb9d91684e3cbd83489278a5c4", func := "loop.example/g00808/laws.FnExactRunsUp", spec := "fnExactRunsUp", apart := false }
def FnExactRunsUpSaid : Prop := fnExactRunsUpRow.holds Try.pinned (OpenSpec.ofChange fnExactRunsUpSpec)

/-- ITS FALSE NEIGHBOUR: 'it returns false'. Refute it at one input. -/
def fnExactRunsUpWrong : ChangeSpec := { name := "fnExactRunsUp", fn := fun _ => fun
  | [d] => { results := [.lit (.bool false)], args := [d] }
  | _ => none }
def FnExactRunsUpWrongFalsely : Prop := fnExactRunsUpRow.holds Try.pinned (OpenSpec.ofChange fnExactRunsUpWrong)

/-- 'laws.FnExactFirstMove': WHATEVER THE INPUT: true; the input reads as it did. -/
def fnExactFirstMoveSpec : ChangeSpec := { name := "fnExactFirstMove", fn := fun _ => fun
  | [d] => { results := [.lit (.bool true)], args := [d] }
  | _ => none }
def fnExactFirstMoveRow : OpenClaim := { program := "ytfcoaecfcoijlaa", sum := "9a44af916e86dedddf48ac6681878baf26f176fb9d91684e3cbd83489278a5c4", func := "loop.example/g00808/laws.FnExactFirstMove", spec := "fnExactFirstMove", apart := false }
def FnExactFirstMoveSaid : Prop := fnExactFirstMoveRow.holds Try.pinned (OpenSpec.ofChange fnExactFirstMoveSpec)

/-- ITS FALSE NEIGHBOUR: 'it returns false'. Refute it at one input. -/
def fnExactFirstMoveWrong : ChangeSpec := { name := "fnExactFirstMove", fn := fun _ => fun
  | [d] => { results := [.lit (.bool false)], args := [d] }
  | _ => none }
def FnExactFirstMoveWrongFalsely : Prop := fnExactFirstMoveRow.holds Try.pinned (OpenSpec.ofChange fnExactFirstMoveWrong)

/-- 'laws.FnExactNeverFell': WHATEVER THE INPUT: true; the input reads as it did. -/
def fnExactNeverFellSpec : ChangeSpec := { name := "fnExactNeverFell", fn := fun _ => fun
  | [d] => { results := [.lit (.bool true)], args := [d] }
  | _ => none }
def fnExactNeverFellRow : OpenClaim := { program := "ytfcoaecfcoijlaa", sum := "9a44af916e86dedddf48ac6681878baf26f176fb9d91684e3cbd83489278a5c4", func := "loop.example/g00808/laws.FnExactNeverFell", spec := "fnExactNeverFell", apart := false }
def FnExactNeverFellSaid : Prop := fnExactNeverFellRow.holds Try.pinned (OpenSpec.ofChange fnExactNeverFellSpec)

/-- ITS FALSE NEIGHBOUR: 'it returns false'. Refute it at one input. -/
def fnExactNeverFellWrong : ChangeSpec := { name := "fnExactNeverFell", fn := fun _ => fun
  | [d] => { results := [.lit (.bool false)], args := [d] }
  | _ => none }
def FnExactNeverFellWrongFalsely : Prop := fnExactNeverFellRow.holds Try.pinned (OpenSpec.ofChange fnExactNeverFellWrong)

/-- 'laws.FnExactNeverRose': WHATEVER THE INPUT: true; the input reads as it did. -/
def fnExactNeverRoseSpec : ChangeSpec := { name := "fnExactNeverRose", fn := fun _ => fun
  | [d] => { results := [.lit (.bool true)], args := [d] }
  | _ => none }
def fnExactNeverRoseRow : OpenClaim := { program := "ytfcoaecfcoijlaa", sum := "9a44af916e86dedddf48ac6681878baf26f176fb9d91684e3cbd83489278a5c4", func := "loop.example/g00808/laws.FnExactNeverRose", spec := "fnExactNeverRose", apart := false }
def FnExactNeverRoseSaid : Prop := fnExactNeverRoseRow.holds Try.pinned (OpenSpec.ofChange fnExactNeverRoseSpec)

/-- ITS FALSE NEIGHBOUR: 'it returns false'. Refute it at one input. -/
def fnExactNeverRoseWrong : ChangeSpec := { name := "fnExactNeverRose", fn := fun _ => fun
  | [d] => { results := [.lit (.bool false)], args := [d] }
  | _ => none }
def FnExactNeverRoseWrongFalsely : Prop := fnExactNeverRoseRow.holds Try.pinned (OpenSpec.ofChange fnExactNeverRoseWrong)

/-- 'laws.FnExactMovesWithin': WHATEVER THE INPUT: true; the input reads as it did. -/
def fnExactMovesWithinSpec : ChangeSpec := { name := "fnExactMovesWithin", fn := fun _ => fun
  | [d1, d2, d3] => { results := [.lit (.bool true)], args := [d1, d2, d3] }
  | _ => none }
def fnExactMovesWithinRow : OpenClaim := { program := "ytfcoaecfcoijlaa", sum := "9a44af916e86dedddf48ac6681878baf26f176fb9d91684e3cbd83489278a5c4", func := "loop.example/g00808/laws.FnExactMovesWithin", spec := "fnExactMovesWithin", apart := false }
def FnExactMovesWithinSaid : Prop := fnExactMovesWithinRow.holds Try.pinned (OpenSpec.ofChange fnExactMovesWithinSpec)

/-- ITS FALSE NEIGHBOUR: 'it returns false'. Refute it at one input. -/
def fnExactMovesWithinWrong : ChangeSpec := { name := "fnExactMovesWithin", fn := fun _ => fun
  | [d1, d2, d3] => { results := [.lit (.bool false)], args := [d1, d2, d3] }
  | _ => none }
def FnExactMovesWithinWrongFalsely : Prop := fnExactMovesWithinRow.holds Try.pinned (OpenSpec.ofChange fnExactMovesWithinWrong)

/-- 'laws.FnExactDiffsOf': WHATEVER THE INPUT: true; the input reads as it did. -/
def fnExactDiffsOfSpec : ChangeSpec := { name := "fnExactDiffsOf", fn := fun _ => fun
  | [d] => { results := [.lit (.bool true)], args := [d] }
  | _ => none }
def fnExactDiffsOfRow : OpenClaim := { program := "ytfcoaecfcoijlaa", sum := "9a44af916e86dedddf48ac6681878baf26f176fb9d91684e3cbd83489278a5c4", func := "loop.example/g00808/laws.FnExactDiffsOf", spec := "fnExactDiffsOf", unfollowed := true, recurses := true, apart := false }
def FnExactDiffsOfSaid : Prop := fnExactDiffsOfRow.holds Try.pinned (OpenSpec.ofChange fnExactDiffsOfSpec)

/-- ITS FALSE NEIGHBOUR: 'it returns false'. Refute it at one input. -/
def fnExactDiffsOfWrong : ChangeSpec := { name := "fnExactDiffsOf", fn := fun _ => fun
  | [d] => { results := [.lit (.bool false)], args := [d] }
  | _ => none }
def FnExactDiffsOfWrongFalsely : Prop := fnExactDiffsOfRow.holds Try.pinned (OpenSpec.ofChange fnExactDiffsOfWrong)

/-- 'laws.FnExactWritesChain': WHATEVER THE INPUT: true; the input reads as it did. -/
def fnExactWritesChainSpec : ChangeSpec := { name := "fnExactWritesChain", fn := fun _ => fun
  | [d1, d2] => { results := [.lit (.bool true)], args := [d1, d2] }
  | _ => none }
def fnExactWritesChainRow : OpenClaim := { program := "ytfcoaecfcoijlaa", sum := "9a44af916e86dedddf48ac6681878baf26f176fb9d91684e3cbd83489278a5c4", func := "loop.example/g00808/laws.FnExactWritesChain", spec := "fnExactWritesChain", apart := false }
def FnExactWritesChainSaid : Prop := fnExactWritesChainRow.holds Try.pinned (OpenSpec.ofChange fnExactWritesChainSpec)

/-- ITS FALSE NEIGHBOUR: 'it returns false'. Refute it at one input. -/
def fnExactWritesChainWrong : ChangeSpec := { name := "fnExactWritesChain", fn := fun _ => fun
  | [d1, d2] => { results := [.lit (.bool false)], args := [d1, d2] }
  | _ => none }
def FnExactWritesChainWrongFalsely : Prop := fnExactWritesChainRow.holds Try.pinned (OpenSpec.ofChange fnExactWritesChainWrong)

/-- 'laws.FnExactSmoothOf': WHATEVER THE INPUT: true; the input reads as it did. -/
def fnExactSmoothOfSpec : ChangeSpec := { name := "fnExactSmoothOf", fn := fun _ => fun
  | [d1, d2] => { results := [.lit (.bool true)], args := [d1, d2] }
  | _ => none }
def fnExactSmoothOfRow : OpenClaim := { program := "ytfcoaecfcoijlaa", sum := "9a44af916e86dedddf48ac6681878baf26f176fb9d91684e3cbd83489278a5c4", func := "loop.example/g00808/laws.FnExactSmoothOf", spec := "fnExactSmoothOf", apart := false }
def FnExactSmoothOfSaid : Prop := fnExactSmoothOfRow.holds Try.pinned (OpenSpec.ofChange fnExactSmoothOfSpec)

/-- ITS FALSE NEIGHBOUR: 'it returns false'. Refute it at one input. -/
def fnExactSmoothOfWrong : ChangeSpec := { name := "fnExactSmoothOf", fn := fun _ => fun
  | [d1, d2] => { results := [.lit (.bool false)], args := [d1, d2] }
  | _ => none }
def FnExactSmoothOfWrongFalsely : Prop := fnExactSmoothOfRow.holds Try.pinned (OpenSpec.ofChange fnExactSmoothOfWrong)

/-- 'laws.FnExactFlapsIn': WHATEVER THE INPUT: true; the input reads as it did. -/
def fnExactFlapsInSpec : ChangeSpec := { name := "fnExactFlapsIn", fn := fun _ => fun
  | [d1, d2] => { results := [.lit (.bool true)], args := [d1, d2] }
  | _ => none }
def fnExactFlapsInRow : OpenClaim := { program := "ytfcoaecfcoijlaa", sum := "9a44af916e86dedddf48ac6681878baf26f176fb9d91684e3cbd83489278a5c4", func := "loop.example/g00808/laws.FnExactFlapsIn", spec := "fnExactFlapsIn", apart := false }
def FnExactFlapsInSaid : Prop := fnExactFlapsInRow.holds Try.pinned (OpenSpec.ofChange fnExactFlapsInSpec)

/-- ITS FALSE NEIGHBOUR: 'it returns false'. Refute it at one input. -/
def fnExactFlapsInWrong : ChangeSpec := { name := "fnExactFlapsIn", fn := fun _ => fun
  | [d1, d2] => { results := [.lit (.bool false)], args := [d1, d2] }
  | _ => none }
def FnExactFlapsInWrongFalsely : Prop := fnExactFlapsInRow.holds Try.pinned (OpenSpec.ofChange fnExactFlapsInWrong)

/-- 'laws.FnExactSlopeOf': WHATEVER THE INPUT: true; the input reads as it did. -/
def fnExactSlopeOfSpec : ChangeSpec := { name := "fnExactSlopeOf", fn := fun _ => fun
  | [d] => { results := [.lit (.bool true)], args := [d] }
  | _ => none }
def fnExactSlopeOfRow : OpenClaim := { program := "ytfcoaecfcoijlaa", sum := "9a44af916e86dedddf48ac6681878baf26f176fb9d91684e3cbd83489278a5c4", func := "loop.example/g00808/laws.FnExactSlopeOf", spec := "fnExactSlopeOf", apart := false }
def FnExactSlopeOfSaid : Prop := fnExactSlopeOfRow.holds Try.pinned (OpenSpec.ofChange fnExactSlopeOfSpec)

/-- ITS FALSE NEIGHBOUR: 'it returns false'. Refute it at one input. -/
def fnExactSlopeOfWrong : ChangeSpec := { name := "fnExactSlopeOf", fn := fun _ => fun
  | [d] => { results := [.lit (.bool false)], args := [d] }
  | _ => none }
def FnExactSlopeOfWrongFalsely : Prop := fnExactSlopeOfRow.holds Try.pinned (OpenSpec.ofChange fnExactSlopeOfWrong)

/-- 'laws.FnExactFellBetween': WHATEVER THE INPUT: true; the input reads as it did. -/
def fnExactFellBetweenSpec : ChangeSpec := { name := "fnExactFellBetween", fn := fun _ => fun
  | [d1, d2, d3] => { results := [.lit (.bool true)], args := [d1, d2, d3] }
  | _ => none }
def fnExactFellBetweenRow : OpenClaim := { program := "ytfcoaecfcoijlaa", sum := "9a44af916e86dedddf48ac6681878baf26f176fb9d91684e3cbd83489278a5c4", func := "loop.example/g00808/laws.FnExactFellBetween", spec := "fnExactFellBetween", apart := false }
def FnExactFellBetweenSaid : Prop := fnExactFellBetweenRow.holds Try.pinned (OpenSpec.ofChange fnExactFellBetweenSpec)

/-- ITS FALSE NEIGHBOUR: 'it returns false'. Refute it at one input. -/
def fnExactFellBetweenWrong : ChangeSpec := { name := "fnExactFellBetween", fn := fun _ => fun
  | [d1, d2, d3] => { results := [.lit (.bool false)], args := [d1, d2, d3] }
  | _ => none }
def FnExactFellBetweenWrongFalsely : Prop := fnExactFellBetweenRow.holds Try.pinned (OpenSpec.ofChange fnExactFellBetweenWrong)

/-- 'laws.FnExactRoseBetween': WHATEVER THE INPUT: true; the input reads as it did. -/
def fnExactRoseBetweenSpec : ChangeSpec := { name := "fnExactRoseBetween", fn := fun _ => fun
  | [d1, d2, d3] => { results := [.lit (.bool true)], args := [d1, d2, d3] }
  | _ => none }
def fnExactRoseBetweenRow : OpenClaim := { program := "ytfcoaecfcoijlaa", sum := "9a44af916e86dedddf48ac6681878baf26f176fb9d91684e3cbd83489278a5c4", func := "loop.example/g00808/laws.FnExactRoseBetween", spec := "fnExactRoseBetween", apart := false }
def FnExactRoseBetweenSaid : Prop := fnExactRoseBetweenRow.holds Try.pinned (OpenSpec.ofChange fnExactRoseBetweenSpec)

/-- ITS FALSE NEIGHBOUR: 'it returns false'. Refute it at one input. -/
def fnExactRoseBetweenWrong : ChangeSpec := { name := "fnExactRoseBetween", fn := fun _ => fun
  | [d1, d2, d3] => { results := [.lit (.bool false)], args := [d1, d2, d3] }
  | _ => none }
def FnExactRoseBetweenWrongFalsely : Prop := fnExactRoseBetweenRow.holds Try.pinned (OpenSpec.ofChange fnExactRoseBetweenWrong)

/- THE SECOND FORM. 'bulk': how many values and letters a reading holds, each counted each time it is reached (what is shared counts as often as it is met; a slice's spare places count too). A statement '..UptoSaid' is the law's where the arguments, and the package variables that the reading takes, are together of bulk at most 1048576: NARROWER than '..Said'. Prove '..Said' where nothing that the law and all that it calls make is longer than what came in: it says more and counts as full. Else prove '..UptoSaid'. A law counts once. -/
mutual
def uptoBulk {H : Type} : DataW H → Nat
  | .lit (.string bytes) => bytes.length + 1
  | .lit _ => 1
  | .nil => 1
  | .ptr d => uptoBulk d + 1
  | .slice elems spare => uptoBulkAll elems + uptoBulkAll spare + 1
  | .agg parts => uptoBulkAll parts + 1
  | .iface _ d => uptoBulk d + 1
  | .map entries => uptoBulkEntries entries + 1
  | .held _ => 1
def uptoBulkAll {H : Type} : List (DataW H) → Nat
  | [] => 0
  | d :: r => uptoBulk d + uptoBulkAll r
def uptoBulkEntries {H : Type} : List (Lit × DataW H) → Nat
  | [] => 0
  | x :: r => uptoBulkEntry x + uptoBulkEntries r
def uptoBulkEntry {H : Type} : Lit × DataW H → Nat
  | (.string bytes, d) => bytes.length + uptoBulk d + 1
  | (_, d) => uptoBulk d + 1
 end
def uptoSmall : (H : Type) → List (DataW H) → Bool := fun _ ds => decide (uptoBulkAll ds ≤ 1048576)
def OpenSpec.upto (s : _root_.Go.ChangeSpec) : _root_.Go.OpenSpec := { _root_.Go.OpenSpec.ofChange s with cond := some uptoSmall }

/-- 'laws.FnExactRunsUp', WHERE WHAT IT READS IS OF BULK AT MOST 1048576: true; the input reads as it did. -/
def fnExactRunsUpUptoRow : OpenClaim := { program := "ytfcoaecfcoijlaa", sum := "9a44af916e86dedddf48ac6681878baf26f176fb9d91684e3cbd83489278a5c4", func := "loop.example/g00808/laws.FnExactRunsUp", spec := "fnExactRunsUp", apart := false, narrowed := true }
def FnExactRunsUpUptoSaid : Prop := fnExactRunsUpUptoRow.holds Try.pinned (OpenSpec.upto fnExactRunsUpSpec)

/-- 'laws.FnExactFirstMove', WHERE WHAT IT READS IS OF BULK AT MOST 1048576: true; the input reads as it did. -/
def fnExactFirstMoveUptoRow : OpenClaim := { program := "ytfcoaecfcoijlaa", sum := "9a44af916e86dedddf48ac6681878baf26f176fb9d91684e3cbd83489278a5c4", func := "loop.example/g00808/laws.FnExactFirstMove", spec := "fnExactFirstMove", apart := false, narrowed := true }
def FnExactFirstMoveUptoSaid : Prop := fnExactFirstMoveUptoRow.holds Try.pinned (OpenSpec.upto fnExactFirstMoveSpec)

/-- 'laws.FnExactNeverFell', WHERE WHAT IT READS IS OF BULK AT MOST 1048576: true; the input reads as it did. -/
def fnExactNeverFellUptoRow : OpenClaim := { program := "ytfcoaecfcoijlaa", sum := "9a44af916e86dedddf48ac6681878baf26f176fb9d91684e3cbd83489278a5c4", func := "loop.example/g00808/laws.FnExactNeverFell", spec := "fnExactNeverFell", apart := false, narrowed := true }
def FnExactNeverFellUptoSaid : Prop := fnExactNeverFellUptoRow.holds Try.pinned (OpenSpec.upto fnExactNeverFellSpec)

/-- 'laws.FnExactNeverRose', WHERE WHAT IT READS IS OF BULK AT MOST 1048576: true; the input reads as it did. -/
def fnExactNeverRoseUptoRow : OpenClaim := { program := "ytfcoaecfcoijlaa", sum := "9a44af916e86dedddf48ac6681878baf26f176fb9d91684e3cbd83489278a5c4", func := "loop.example/g00808/laws.FnExactNeverRose", spec := "fnExactNeverRose", apart := false, narrowed := true }
def FnExactNeverRoseUptoSaid : Prop := fnExactNeverRoseUptoRow.holds Try.pinned (OpenSpec.upto fnExactNeverRoseSpec)

/-- 'laws.FnExactMovesWithin', WHERE WHAT IT READS IS OF BULK AT MOST 1048576: true; the input reads as it did. -/
def fnExactMovesWithinUptoRow : OpenClaim := { program := "ytfcoaecfcoijlaa", sum := "9a44af916e86dedddf48ac6681878baf26f176fb9d91684e3cbd83489278a5c4", func := "loop.example/g00808/laws.FnExactMovesWithin", spec := "fnExactMovesWithin", apart := false, narrowed := true }
def FnExactMovesWithinUptoSaid : Prop := fnExactMovesWithinUptoRow.holds Try.pinned (OpenSpec.upto fnExactMovesWithinSpec)

/-- 'laws.FnExactDiffsOf', WHERE WHAT IT READS IS OF BULK AT MOST 1048576: true; the input reads as it did. -/
def fnExactDiffsOfUptoRow : OpenClaim := { program := "ytfcoaecfcoijlaa", sum := "9a44af916e86dedddf48ac6681878baf26f176fb9d91684e3cbd83489278a5c4", func := "loop.example/g00808/laws.FnExactDiffsOf", spec := "fnExactDiffsOf", unfollowed := true, recurses := true, apart := false, narrowed := true }
def FnExactDiffsOfUptoSaid : Prop := fnExactDiffsOfUptoRow.holds Try.pinned (OpenSpec.upto fnExactDiffsOfSpec)

/-- 'laws.FnExactWritesChain', WHERE WHAT IT READS IS OF BULK AT MOST 1048576: true; the input reads as it did. -/
def fnExactWritesChainUptoRow : OpenClaim := { program := "ytfcoaecfcoijlaa", sum := "9a44af916e86dedddf48ac6681878baf26f176fb9d91684e3cbd83489278a5c4", func := "loop.example/g00808/laws.FnExactWritesChain", spec := "fnExactWritesChain", apart := false, narrowed := true }
def FnExactWritesChainUptoSaid : Prop := fnExactWritesChainUptoRow.holds Try.pinned (OpenSpec.upto fnExactWritesChainSpec)

/-- 'laws.FnExactSmoothOf', WHERE WHAT IT READS IS OF BULK AT MOST 1048576: true; the input reads as it did. -/
def fnExactSmoothOfUptoRow : OpenClaim := { program := "ytfcoaecfcoijlaa", sum := "9a44af916e86dedddf48ac6681878baf26f176fb9d91684e3cbd83489278a5c4", func := "loop.example/g00808/laws.FnExactSmoothOf", spec := "fnExactSmoothOf", apart := false, narrowed := true }
def FnExactSmoothOfUptoSaid : Prop := fnExactSmoothOfUptoRow.holds Try.pinned (OpenSpec.upto fnExactSmoothOfSpec)

/-- 'laws.FnExactFlapsIn', WHERE WHAT IT READS IS OF BULK AT MOST 1048576: true; the input reads as it did. -/
def fnExactFlapsInUptoRow : OpenClaim := { program := "ytfcoaecfcoijlaa", sum := "9a44af916e86dedddf48ac6681878baf26f176fb9d91684e3cbd83489278a5c4", func := "loop.example/g00808/laws.FnExactFlapsIn", spec := "fnExactFlapsIn", apart := false, narrowed := true }
def FnExactFlapsInUptoSaid : Prop := fnExactFlapsInUptoRow.holds Try.pinned (OpenSpec.upto fnExactFlapsInSpec)

/-- 'laws.FnExactSlopeOf', WHERE WHAT IT READS IS OF BULK AT MOST 1048576: true; the input reads as it did. -/
def fnExactSlopeOfUptoRow : OpenClaim := { program := "ytfcoaecfcoijlaa", sum := "9a44af916e86dedddf48ac6681878baf26f176fb9d91684e3cbd83489278a5c4", func := "loop.example/g00808/laws.FnExactSlopeOf", spec := "fnExactSlopeOf", apart := false, narrowed := true }
def FnExactSlopeOfUptoSaid : Prop := fnExactSlopeOfUptoRow.holds Try.pinned (OpenSpec.upto fnExactSlopeOfSpec)

/-- 'laws.FnExactFellBetween', WHERE WHAT IT READS IS OF BULK AT MOST 1048576: true; the input reads as it did. -/
def fnExactFellBetweenUptoRow : OpenClaim := { program := "ytfcoaecfcoijlaa", sum := "9a44af916e86dedddf48ac6681878baf26f176fb9d91684e3cbd83489278a5c4", func := "loop.example/g00808/laws.FnExactFellBetween", spec := "fnExactFellBetween", apart := false, narrowed := true }
def FnExactFellBetweenUptoSaid : Prop := fnExactFellBetweenUptoRow.holds Try.pinned (OpenSpec.upto fnExactFellBetweenSpec)

/-- 'laws.FnExactRoseBetween', WHERE WHAT IT READS IS OF BULK AT MOST 1048576: true; the input reads as it did. -/
def fnExactRoseBetweenUptoRow : OpenClaim := { program := "ytfcoaecfcoijlaa", sum := "9a44af916e86dedddf48ac6681878baf26f176fb9d91684e3cbd83489278a5c4", func := "loop.example/g00808/laws.FnExactRoseBetween", spec := "fnExactRoseBetween", apart := false, narrowed := true }
def FnExactRoseBetweenUptoSaid : Prop := fnExactRoseBetweenUptoRow.holds Try.pinned (OpenSpec.upto fnExactRoseBetweenSpec)

end Rows
end Go.Proofs.Ytfcoaecfcoijlaa
