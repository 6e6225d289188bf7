/-
  DERIVED. GIVEN WITH THE SEED: THE CARDS: each row of YtfeikakkfnnaoaaGreatDoorRows.lean that lists a variable, with what it lists TIED to the program's text (the seventh form; the later family's looks); each row that meets fmt, with fmt's text TOLD by the authors' own Lean function (tested against real Go, not proved from fmt's source: count such statements apart). THE CARD IS WHAT COUNTS. Prove the row's statement (the work); the ties are given (YtfeikakkfnnaoaaGreatDoorTie.lean); close each card by the builder's one call (the guide's Derived/Test/ToyasCard.lean, 'card_holds'). Laid BY PROGRAM, IN A SANDBOX (cutbox-door.mjs). By AI agents, Wed Nov 11 2026. No macro, syntax, notation, axiom, sorry.
-/
import Derived.Test.YtfeikakkfnnaoaaGreatDoorRows
import GoSem.ClaimSeven
namespace Go.Proofs.YtfeikakkfnnaoaaGreatDoor
namespace Rows

/-- THE TIED CARD OF 'laws.FnBookAdd'. -/
def fnBookAddCard : Claim7 := { stood := { row := fnBookAddRow, standIns := [], harness := (true, "3a438265edd09d6592fd9e77f2797c9243b0163355778d036b35ec28ae373fba"), looks := false }, kinds := [], alts := [], laidByText := true, laidKinds := [.data, .pinned], laidTests := true, laidLooks := .later }
def FnBookAddCardSaid : Prop := Claim7.holds Tryz.pinned (.plain (OpenSpec.ofChange fnBookAddSpec)) fnBookAddCard

/-- THE TIED CARD OF 'laws.FnExactBookDo'. -/
def fnExactBookDoCard : Claim7 := { stood := { row := fnExactBookDoRow, standIns := [], harness := (true, "3a438265edd09d6592fd9e77f2797c9243b0163355778d036b35ec28ae373fba"), looks := false }, kinds := [], alts := [], laidByText := true, laidKinds := [.data, .pinned], laidTests := true, laidLooks := .later }
def FnExactBookDoCardSaid : Prop := Claim7.holds Tryz.pinned (.plain (OpenSpec.ofChange fnExactBookDoSpec)) fnExactBookDoCard

/-- THE TIED CARD OF 'laws.FnBookKept'. -/
def fnBookKeptCard : Claim7 := { stood := { row := fnBookKeptRow, standIns := [], harness := (true, "3a438265edd09d6592fd9e77f2797c9243b0163355778d036b35ec28ae373fba"), looks := false }, kinds := [], alts := [], laidByText := true, laidKinds := [.data, .pinned], laidTests := true, laidLooks := .later }
def FnBookKeptCardSaid : Prop := Claim7.holds Tryz.pinned (.plain (OpenSpec.ofChange fnBookKeptSpec)) fnBookKeptCard

/-- THE TIED CARD OF 'laws.FnExactBookRun'. -/
def fnExactBookRunCard : Claim7 := { stood := { row := fnExactBookRunRow, standIns := [], harness := (true, "3a438265edd09d6592fd9e77f2797c9243b0163355778d036b35ec28ae373fba"), looks := false }, kinds := [], alts := [], laidByText := true, laidKinds := [.data, .pinned], laidTests := true, laidLooks := .later }
def FnExactBookRunCardSaid : Prop := Claim7.holds Tryz.pinned (.plain (OpenSpec.ofChange fnExactBookRunSpec)) fnExactBookRunCard

/-- THE SECOND FORM's CARD OF 'laws.FnBookAdd'. -/
def fnBookAddUptoCard : Claim7 := { stood := { row := fnBookAddUptoRow, standIns := [], harness := (true, "3a438265edd09d6592fd9e77f2797c9243b0163355778d036b35ec28ae373fba"), looks := false }, kinds := [], alts := [], laidByText := true, laidKinds := [.data, .pinned], laidTests := true, laidLooks := .later }
def FnBookAddUptoCardSaid : Prop := Claim7.holds Tryz.pinned (.plain (OpenSpec.upto fnBookAddSpec)) fnBookAddUptoCard

/-- THE SECOND FORM's CARD OF 'laws.FnExactBookDo'. -/
def fnExactBookDoUptoCard : Claim7 := { stood := { row := fnExactBookDoUptoRow, standIns := [], harness := (true, "3a438265edd09d6592fd9e77f2797c9243b0163355778d036b35ec28ae373fba"), looks := false }, kinds := [], alts := [], laidByText := true, laidKinds := [.data, .pinned], laidTests := true, laidLooks := .later }
def FnExactBookDoUptoCardSaid : Prop := Claim7.holds Tryz.pinned (.plain (OpenSpec.upto fnExactBookDoSpec)) fnExactBookDoUptoCard

/-- THE SECOND FORM's CARD OF 'laws.FnBookKept'. -/
def fnBookKeptUptoCard : Claim7 := { stood := { row := fnBookKeptUptoRow, standIns := [], harness := (true, "3a438265edd09d6592fd9e77f2797c9243b0163355778d036b35ec28ae373fba"), looks := false }, kinds := [], alts := [], laidByText := true, laidKinds := [.data, .pinned], laidTests := true, laidLooks := .later }
def FnBookKeptUptoCardSaid : Prop := Claim7.holds Tryz.pinned (.plain (OpenSpec.upto fnBookKeptSpec)) fnBookKeptUptoCard

/-- THE SECOND FORM's CARD OF 'laws.FnExactBookRun'. -/
def fnExactBookRunUptoCard : Claim7 := { stood := { row := fnExactBookRunUptoRow, standIns := [], harness := (true, "3a438265edd09d6592fd9e77f2797c9243b0163355778d036b35ec28ae373fba"), looks := false }, kinds := [], alts := [], laidByText := true, laidKinds := [.data, .pinned], laidTests := true, laidLooks := .later }
def FnExactBookRunUptoCardSaid : Prop := Claim7.holds Tryz.pinned (.plain (OpenSpec.upto fnExactBookRunSpec)) fnExactBookRunUptoCard
end Rows
end Go.Proofs.YtfeikakkfnnaoaaGreatDoor
