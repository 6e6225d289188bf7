/-
  DERIVED. GIVEN WITH THE SEED: THE CARDS: each row of YtbpffdhkeinmcaaDoorRows.lean that lists a variable, with what it lists TIED to the program's text (the seventh form; the later family's looks); each row that meets fmt, with fmt's text TOLD by the authors' own Lean function (tested against real Go, not proved from fmt's source: count such statements apart). THE CARD IS WHAT COUNTS. Prove the row's statement (the work); the ties are given (YtbpffdhkeinmcaaDoorTie.lean); close each card by the builder's one call (the guide's Derived/Test/ToyasCard.lean, 'card_holds'). Laid BY PROGRAM, IN A SANDBOX (cutbox-door.mjs). By AI agents, Wed Nov 11 2026. No macro, syntax, notation, axiom, sorry.
-/
import Derived.Test.YtbpffdhkeinmcaaDoorRows
import GoSem.ClaimSeven
namespace Go.Proofs.YtbpffdhkeinmcaaDoor
namespace Rows

/-- THE TIED CARD OF 'laws.FnExactConfText'. -/
def fnExactConfTextCard : Claim7 := { stood := { row := fnExactConfTextRow, standIns := [], harness := (true, "f22bd34586d2bb4018e28307eeaabc56296fedd275b73fee48c4937404386608"), looks := true }, kinds := [], alts := [], laidByText := true, laidKinds := [.data, .data, .data], laidTests := true, laidLooks := .later }
def FnExactConfTextCardSaid : Prop := Claim7.holds Tryd.pinned (.plain (OpenSpec.ofChange fnExactConfTextSpec)) fnExactConfTextCard

/-- THE TIED CARD OF 'laws.FnExactReqText'. -/
def fnExactReqTextCard : Claim7 := { stood := { row := fnExactReqTextRow, standIns := [], harness := (true, "f22bd34586d2bb4018e28307eeaabc56296fedd275b73fee48c4937404386608"), looks := true }, kinds := [], alts := [], laidByText := true, laidKinds := [.data, .data, .data, .data], laidTests := true, laidLooks := .later }
def FnExactReqTextCardSaid : Prop := Claim7.holds Tryd.pinned (.plain (OpenSpec.ofChange fnExactReqTextSpec)) fnExactReqTextCard

/-- THE TIED CARD OF 'laws.FnExactReplyLine'. -/
def fnExactReplyLineCard : Claim7 := { stood := { row := fnExactReplyLineRow, standIns := [], harness := (true, "f22bd34586d2bb4018e28307eeaabc56296fedd275b73fee48c4937404386608"), looks := true }, kinds := [], alts := [], laidByText := true, laidKinds := [.data, .data, .data], laidTests := true, laidLooks := .later }
def FnExactReplyLineCardSaid : Prop := Claim7.holds Tryd.pinned (.plain (OpenSpec.ofChange fnExactReplyLineSpec)) fnExactReplyLineCard

/-- THE TIED CARD OF 'laws.FnExactSessIds'. -/
def fnExactSessIdsCard : Claim7 := { stood := { row := fnExactSessIdsRow, standIns := [], harness := (true, "f22bd34586d2bb4018e28307eeaabc56296fedd275b73fee48c4937404386608"), looks := true }, kinds := [], alts := [], laidByText := true, laidKinds := [.data, .pinned], laidTests := true, laidLooks := .later }
def FnExactSessIdsCardSaid : Prop := Claim7.holds Tryd.pinned (.plain (OpenSpec.ofChange fnExactSessIdsSpec)) fnExactSessIdsCard

/-- THE TIED CARD OF 'laws.FnIdsBook'. -/
def fnIdsBookCard : Claim7 := { stood := { row := fnIdsBookRow, standIns := [], harness := (true, "f22bd34586d2bb4018e28307eeaabc56296fedd275b73fee48c4937404386608"), looks := true }, kinds := [], alts := [], laidByText := true, laidKinds := [.data, .pinned], laidTests := true, laidLooks := .later }
def FnIdsBookCardSaid : Prop := Claim7.holds Tryd.pinned (.plain (OpenSpec.ofChange fnIdsBookSpec)) fnIdsBookCard

/-- THE TIED CARD OF 'laws.FnExactConfRead'. -/
def fnExactConfReadCard : Claim7 := { stood := { row := fnExactConfReadRow, standIns := [], harness := (true, "f22bd34586d2bb4018e28307eeaabc56296fedd275b73fee48c4937404386608"), looks := true }, kinds := [], alts := [], laidByText := true, laidKinds := [.data, .data, .data, .data, .sentinel, .sentinel, .pinned], laidTests := true, laidLooks := .later }
def FnExactConfReadCardSaid : Prop := Claim7.holds Tryd.pinned (.plain (OpenSpec.ofChange fnExactConfReadSpec)) fnExactConfReadCard

/-- THE SECOND FORM's CARD OF 'laws.FnExactConfText'. -/
def fnExactConfTextUptoCard : Claim7 := { stood := { row := fnExactConfTextUptoRow, standIns := [], harness := (true, "f22bd34586d2bb4018e28307eeaabc56296fedd275b73fee48c4937404386608"), looks := true }, kinds := [], alts := [], laidByText := true, laidKinds := [.data, .data, .data], laidTests := true, laidLooks := .later }
def FnExactConfTextUptoCardSaid : Prop := Claim7.holds Tryd.pinned (.plain (OpenSpec.upto fnExactConfTextSpec)) fnExactConfTextUptoCard

/-- THE SECOND FORM's CARD OF 'laws.FnExactReqText'. -/
def fnExactReqTextUptoCard : Claim7 := { stood := { row := fnExactReqTextUptoRow, standIns := [], harness := (true, "f22bd34586d2bb4018e28307eeaabc56296fedd275b73fee48c4937404386608"), looks := true }, kinds := [], alts := [], laidByText := true, laidKinds := [.data, .data, .data, .data], laidTests := true, laidLooks := .later }
def FnExactReqTextUptoCardSaid : Prop := Claim7.holds Tryd.pinned (.plain (OpenSpec.upto fnExactReqTextSpec)) fnExactReqTextUptoCard

/-- THE SECOND FORM's CARD OF 'laws.FnExactReplyLine'. -/
def fnExactReplyLineUptoCard : Claim7 := { stood := { row := fnExactReplyLineUptoRow, standIns := [], harness := (true, "f22bd34586d2bb4018e28307eeaabc56296fedd275b73fee48c4937404386608"), looks := true }, kinds := [], alts := [], laidByText := true, laidKinds := [.data, .data, .data], laidTests := true, laidLooks := .later }
def FnExactReplyLineUptoCardSaid : Prop := Claim7.holds Tryd.pinned (.plain (OpenSpec.upto fnExactReplyLineSpec)) fnExactReplyLineUptoCard

/-- THE SECOND FORM's CARD OF 'laws.FnExactSessIds'. -/
def fnExactSessIdsUptoCard : Claim7 := { stood := { row := fnExactSessIdsUptoRow, standIns := [], harness := (true, "f22bd34586d2bb4018e28307eeaabc56296fedd275b73fee48c4937404386608"), looks := true }, kinds := [], alts := [], laidByText := true, laidKinds := [.data, .pinned], laidTests := true, laidLooks := .later }
def FnExactSessIdsUptoCardSaid : Prop := Claim7.holds Tryd.pinned (.plain (OpenSpec.upto fnExactSessIdsSpec)) fnExactSessIdsUptoCard

/-- THE SECOND FORM's CARD OF 'laws.FnIdsBook'. -/
def fnIdsBookUptoCard : Claim7 := { stood := { row := fnIdsBookUptoRow, standIns := [], harness := (true, "f22bd34586d2bb4018e28307eeaabc56296fedd275b73fee48c4937404386608"), looks := true }, kinds := [], alts := [], laidByText := true, laidKinds := [.data, .pinned], laidTests := true, laidLooks := .later }
def FnIdsBookUptoCardSaid : Prop := Claim7.holds Tryd.pinned (.plain (OpenSpec.upto fnIdsBookSpec)) fnIdsBookUptoCard

/-- THE SECOND FORM's CARD OF 'laws.FnExactConfRead'. -/
def fnExactConfReadUptoCard : Claim7 := { stood := { row := fnExactConfReadUptoRow, standIns := [], harness := (true, "f22bd34586d2bb4018e28307eeaabc56296fedd275b73fee48c4937404386608"), looks := true }, kinds := [], alts := [], laidByText := true, laidKinds := [.data, .data, .data, .data, .sentinel, .sentinel, .pinned], laidTests := true, laidLooks := .later }
def FnExactConfReadUptoCardSaid : Prop := Claim7.holds Tryd.pinned (.plain (OpenSpec.upto fnExactConfReadSpec)) fnExactConfReadUptoCard
end Rows
end Go.Proofs.YtbpffdhkeinmcaaDoor
