/-
  DERIVED. GIVEN WITH THE SEED: THE CARDS: each row of YtppopmajclmhjaaGreatDoorRows.lean that lists a variable, with what it lists TIED to the program's text (the seventh form; the later family's looks); each row that meets fmt, with fmt's text TOLD by the authors' own Lean function (tested against real Go, not proved from fmt's source: count such statements apart). THE CARD IS WHAT COUNTS. Prove the row's statement (the work); the ties are given (YtppopmajclmhjaaGreatDoorTie.lean); close each card by the builder's one call (the guide's Derived/Test/ToyasCard.lean, 'card_holds'). Laid BY PROGRAM, IN A SANDBOX (cutbox-door.mjs). By AI agents, Wed Nov 11 2026. No macro, syntax, notation, axiom, sorry.
-/
import Derived.Test.YtppopmajclmhjaaGreatDoorRows
import GoSem.ClaimSeven
namespace Go.Proofs.YtppopmajclmhjaaGreatDoor
namespace Rows

/-- THE TIED CARD OF 'laws.FnExactSessLeaves'. -/
def fnExactSessLeavesCard : Claim7 := { stood := { row := fnExactSessLeavesRow, standIns := [], harness := (true, "7d1608dd648b2839aa6f4b4f8b16b77d65eb829d43884c5f473d5abbeae17d67"), looks := false }, kinds := [], alts := [], laidByText := true, laidKinds := [.data, .pinned], laidTests := true, laidLooks := .later }
def FnExactSessLeavesCardSaid : Prop := Claim7.holds Tryz.pinned (.plain (OpenSpec.ofChange fnExactSessLeavesSpec)) fnExactSessLeavesCard

/-- THE TIED CARD OF 'laws.FnExactSessPair'. -/
def fnExactSessPairCard : Claim7 := { stood := { row := fnExactSessPairRow, standIns := [], harness := (true, "7d1608dd648b2839aa6f4b4f8b16b77d65eb829d43884c5f473d5abbeae17d67"), looks := false }, kinds := [], alts := [], laidByText := true, laidKinds := [.data, .pinned], laidTests := true, laidLooks := .later }
def FnExactSessPairCardSaid : Prop := Claim7.holds Tryz.pinned (.plain (OpenSpec.ofChange fnExactSessPairSpec)) fnExactSessPairCard

/-- THE TIED CARD OF 'laws.FnPairTapes'. -/
def fnPairTapesCard : Claim7 := { stood := { row := fnPairTapesRow, standIns := [], harness := (true, "7d1608dd648b2839aa6f4b4f8b16b77d65eb829d43884c5f473d5abbeae17d67"), looks := false }, kinds := [], alts := [], laidByText := true, laidKinds := [.data, .pinned], laidTests := true, laidLooks := .later }
def FnPairTapesCardSaid : Prop := Claim7.holds Tryz.pinned (.plain (OpenSpec.ofChange fnPairTapesSpec)) fnPairTapesCard

/-- THE SECOND FORM's CARD OF 'laws.FnExactSessLeaves'. -/
def fnExactSessLeavesUptoCard : Claim7 := { stood := { row := fnExactSessLeavesUptoRow, standIns := [], harness := (true, "7d1608dd648b2839aa6f4b4f8b16b77d65eb829d43884c5f473d5abbeae17d67"), looks := false }, kinds := [], alts := [], laidByText := true, laidKinds := [.data, .pinned], laidTests := true, laidLooks := .later }
def FnExactSessLeavesUptoCardSaid : Prop := Claim7.holds Tryz.pinned (.plain (OpenSpec.upto fnExactSessLeavesSpec)) fnExactSessLeavesUptoCard

/-- THE SECOND FORM's CARD OF 'laws.FnExactSessPair'. -/
def fnExactSessPairUptoCard : Claim7 := { stood := { row := fnExactSessPairUptoRow, standIns := [], harness := (true, "7d1608dd648b2839aa6f4b4f8b16b77d65eb829d43884c5f473d5abbeae17d67"), looks := false }, kinds := [], alts := [], laidByText := true, laidKinds := [.data, .pinned], laidTests := true, laidLooks := .later }
def FnExactSessPairUptoCardSaid : Prop := Claim7.holds Tryz.pinned (.plain (OpenSpec.upto fnExactSessPairSpec)) fnExactSessPairUptoCard

/-- THE SECOND FORM's CARD OF 'laws.FnPairTapes'. -/
def fnPairTapesUptoCard : Claim7 := { stood := { row := fnPairTapesUptoRow, standIns := [], harness := (true, "7d1608dd648b2839aa6f4b4f8b16b77d65eb829d43884c5f473d5abbeae17d67"), looks := false }, kinds := [], alts := [], laidByText := true, laidKinds := [.data, .pinned], laidTests := true, laidLooks := .later }
def FnPairTapesUptoCardSaid : Prop := Claim7.holds Tryz.pinned (.plain (OpenSpec.upto fnPairTapesSpec)) fnPairTapesUptoCard
end Rows
end Go.Proofs.YtppopmajclmhjaaGreatDoor
