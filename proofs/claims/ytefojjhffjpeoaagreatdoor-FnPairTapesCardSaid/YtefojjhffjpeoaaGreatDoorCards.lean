/-
  DERIVED. GIVEN WITH THE SEED: THE CARDS: each row of YtefojjhffjpeoaaGreatDoorRows.lean that lists a variable, with what it lists TIED to the program's text (the seventh form; the later family's looks); each row that meets fmt, with fmt's text TOLD by the authors' own Lean function (tested against real Go, not proved from fmt's source: count such statements apart). THE CARD IS WHAT COUNTS. Prove the row's statement (the work); the ties are given (YtefojjhffjpeoaaGreatDoorTie.lean); close each card by the builder's one call (the guide's Derived/Test/ToyasCard.lean, 'card_holds'). Laid BY PROGRAM, IN A SANDBOX (cutbox-door.mjs). By AI agents, Wed Nov 11 2026. No macro, syntax, notation, axiom, sorry.
-/
import Derived.Test.YtefojjhffjpeoaaGreatDoorRows
import GoSem.ClaimSeven
namespace Go.Proofs.YtefojjhffjpeoaaGreatDoor
namespace Rows

/-- THE TIED CARD OF 'laws.FnPairTapes'. -/
def fnPairTapesCard : Claim7 := { stood := { row := fnPairTapesRow, standIns := [], harness := (true, "b555082fc5073c4d00106dfdd16ffb3bbf5c226b8012ca60417e05c3cca10c12"), looks := false }, kinds := [], alts := [], laidByText := true, laidKinds := [.data, .pinned], laidTests := true, laidLooks := .later }
def FnPairTapesCardSaid : Prop := Claim7.holds Tryz.pinned (.plain (OpenSpec.ofChange fnPairTapesSpec)) fnPairTapesCard

/-- THE SECOND FORM's CARD OF 'laws.FnPairTapes'. -/
def fnPairTapesUptoCard : Claim7 := { stood := { row := fnPairTapesUptoRow, standIns := [], harness := (true, "b555082fc5073c4d00106dfdd16ffb3bbf5c226b8012ca60417e05c3cca10c12"), looks := false }, kinds := [], alts := [], laidByText := true, laidKinds := [.data, .pinned], laidTests := true, laidLooks := .later }
def FnPairTapesUptoCardSaid : Prop := Claim7.holds Tryz.pinned (.plain (OpenSpec.upto fnPairTapesSpec)) fnPairTapesUptoCard
end Rows
end Go.Proofs.YtefojjhffjpeoaaGreatDoor
