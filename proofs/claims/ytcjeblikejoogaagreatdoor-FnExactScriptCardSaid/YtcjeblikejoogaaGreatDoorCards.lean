/-
  DERIVED. GIVEN WITH THE SEED: THE CARDS: each row of YtcjeblikejoogaaGreatDoorRows.lean that lists a variable, with what it lists TIED to the program's text (the seventh form; the later family's looks); each row that meets fmt, with fmt's text TOLD by the authors' own Lean function (tested against real Go, not proved from fmt's source: count such statements apart). THE CARD IS WHAT COUNTS. Prove the row's statement (the work); the ties are given (YtcjeblikejoogaaGreatDoorTie.lean); close each card by the builder's one call (the guide's Derived/Test/ToyasCard.lean, 'card_holds'). Laid BY PROGRAM, IN A SANDBOX (cutbox-door.mjs). By AI agents, Wed Nov 11 2026. No macro, syntax, notation, axiom, sorry.
-/
import Derived.Test.YtcjeblikejoogaaGreatDoorRows
import GoSem.ClaimSeven
namespace Go.Proofs.YtcjeblikejoogaaGreatDoor
namespace Rows

/-- THE TIED CARD OF 'laws.FnExactOpLine'. -/
def fnExactOpLineCard : Claim7 := { stood := { row := fnExactOpLineRow, standIns := [], harness := (true, "af8b64f022729688c2731dd09fedc661e78b21dcead837dd79ffa2d0d4fcb116"), looks := true }, kinds := [], alts := [], laidByText := true, laidKinds := [.data, .data, .data, .data, .sentinel, .sentinel, .pinned], laidTests := true, laidLooks := .later }
def FnExactOpLineCardSaid : Prop := Claim7.holds Tryz.pinned (.plain (OpenSpec.ofChange fnExactOpLineSpec)) fnExactOpLineCard

/-- THE TIED CARD OF 'laws.FnExactScript'. -/
def fnExactScriptCard : Claim7 := { stood := { row := fnExactScriptRow, standIns := [], harness := (true, "af8b64f022729688c2731dd09fedc661e78b21dcead837dd79ffa2d0d4fcb116"), looks := true }, kinds := [], alts := [], laidByText := true, laidKinds := [.data, .data, .data, .data, .sentinel, .sentinel, .pinned], laidTests := true, laidLooks := .later }
def FnExactScriptCardSaid : Prop := Claim7.holds Tryz.pinned (.plain (OpenSpec.ofChange fnExactScriptSpec)) fnExactScriptCard

/-- THE SECOND FORM's CARD OF 'laws.FnExactOpLine'. -/
def fnExactOpLineUptoCard : Claim7 := { stood := { row := fnExactOpLineUptoRow, standIns := [], harness := (true, "af8b64f022729688c2731dd09fedc661e78b21dcead837dd79ffa2d0d4fcb116"), looks := true }, kinds := [], alts := [], laidByText := true, laidKinds := [.data, .data, .data, .data, .sentinel, .sentinel, .pinned], laidTests := true, laidLooks := .later }
def FnExactOpLineUptoCardSaid : Prop := Claim7.holds Tryz.pinned (.plain (OpenSpec.upto fnExactOpLineSpec)) fnExactOpLineUptoCard

/-- THE SECOND FORM's CARD OF 'laws.FnExactScript'. -/
def fnExactScriptUptoCard : Claim7 := { stood := { row := fnExactScriptUptoRow, standIns := [], harness := (true, "af8b64f022729688c2731dd09fedc661e78b21dcead837dd79ffa2d0d4fcb116"), looks := true }, kinds := [], alts := [], laidByText := true, laidKinds := [.data, .data, .data, .data, .sentinel, .sentinel, .pinned], laidTests := true, laidLooks := .later }
def FnExactScriptUptoCardSaid : Prop := Claim7.holds Tryz.pinned (.plain (OpenSpec.upto fnExactScriptSpec)) fnExactScriptUptoCard
end Rows
end Go.Proofs.YtcjeblikejoogaaGreatDoor
