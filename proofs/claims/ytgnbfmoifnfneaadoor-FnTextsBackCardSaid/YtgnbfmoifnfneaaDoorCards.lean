/-
  DERIVED. GIVEN WITH THE SEED: THE CARDS: each row of YtgnbfmoifnfneaaDoorRows.lean that lists a variable, with what it lists TIED to the program's text (the seventh form; the later family's looks); each row that meets fmt, with fmt's text TOLD by the authors' own Lean function (tested against real Go, not proved from fmt's source: count such statements apart). THE CARD IS WHAT COUNTS. Prove the row's statement (the work); the ties are given (YtgnbfmoifnfneaaDoorTie.lean); close each card by the builder's one call (the guide's Derived/Test/ToyasCard.lean, 'card_holds'). Laid BY PROGRAM, IN A SANDBOX (cutbox-door.mjs). By AI agents, Wed Nov 11 2026. No macro, syntax, notation, axiom, sorry.
-/
import Derived.Test.YtgnbfmoifnfneaaDoorRows
import GoSem.ClaimSeven
namespace Go.Proofs.YtgnbfmoifnfneaaDoor
namespace Rows

/-- THE TIED CARD OF 'laws.FnExactReqRead'. -/
def fnExactReqReadCard : Claim7 := { stood := { row := fnExactReqReadRow, standIns := [], harness := (true, "d18961f14d46b598d219db3f349c663a19e9f61f69d9c49a8f7b7d6fef8e1434"), looks := true }, kinds := [], alts := [], laidByText := true, laidKinds := [.data, .data, .data, .data, .sentinel, .sentinel, .data, .pinned], laidTests := true, laidLooks := .later }
def FnExactReqReadCardSaid : Prop := Claim7.holds Tryd.pinned (.plain (OpenSpec.ofChange fnExactReqReadSpec)) fnExactReqReadCard

/-- THE TIED CARD OF 'laws.FnTextsBack'. -/
def fnTextsBackCard : Claim7 := { stood := { row := fnTextsBackRow, standIns := [], harness := (true, "d18961f14d46b598d219db3f349c663a19e9f61f69d9c49a8f7b7d6fef8e1434"), looks := true }, kinds := [], alts := [], laidByText := true, laidKinds := [.data, .data, .data, .data, .sentinel, .sentinel, .data, .pinned], laidTests := true, laidLooks := .later }
def FnTextsBackCardSaid : Prop := Claim7.holds Tryd.pinned (.plain (OpenSpec.ofChange fnTextsBackSpec)) fnTextsBackCard

/-- THE SECOND FORM's CARD OF 'laws.FnExactReqRead'. -/
def fnExactReqReadUptoCard : Claim7 := { stood := { row := fnExactReqReadUptoRow, standIns := [], harness := (true, "d18961f14d46b598d219db3f349c663a19e9f61f69d9c49a8f7b7d6fef8e1434"), looks := true }, kinds := [], alts := [], laidByText := true, laidKinds := [.data, .data, .data, .data, .sentinel, .sentinel, .data, .pinned], laidTests := true, laidLooks := .later }
def FnExactReqReadUptoCardSaid : Prop := Claim7.holds Tryd.pinned (.plain (OpenSpec.upto fnExactReqReadSpec)) fnExactReqReadUptoCard

/-- THE SECOND FORM's CARD OF 'laws.FnTextsBack'. -/
def fnTextsBackUptoCard : Claim7 := { stood := { row := fnTextsBackUptoRow, standIns := [], harness := (true, "d18961f14d46b598d219db3f349c663a19e9f61f69d9c49a8f7b7d6fef8e1434"), looks := true }, kinds := [], alts := [], laidByText := true, laidKinds := [.data, .data, .data, .data, .sentinel, .sentinel, .data, .pinned], laidTests := true, laidLooks := .later }
def FnTextsBackUptoCardSaid : Prop := Claim7.holds Tryd.pinned (.plain (OpenSpec.upto fnTextsBackSpec)) fnTextsBackUptoCard
end Rows
end Go.Proofs.YtgnbfmoifnfneaaDoor
