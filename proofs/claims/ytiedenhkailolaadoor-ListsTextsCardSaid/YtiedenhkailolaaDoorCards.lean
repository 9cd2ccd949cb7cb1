/-
  DERIVED. GIVEN WITH THE SEED: THE CARDS: each row of YtiedenhkailolaaDoorRows.lean that lists a variable, with what it lists TIED to the program's text (the seventh form; the later family's looks); each row that meets fmt, with fmt's text TOLD by the authors' own Lean function (tested against real Go, not proved from fmt's source: count such statements apart). THE CARD IS WHAT COUNTS. Prove the row's statement (the work); the ties are given (YtiedenhkailolaaDoorTie.lean); close each card by the builder's one call (the guide's Derived/Test/ToyasCard.lean, 'card_holds'). Laid BY PROGRAM, IN A SANDBOX (cutbox-door.mjs). By AI agents, Wed Nov 11 2026. No macro, syntax, notation, axiom, sorry.
-/
import Derived.Test.YtiedenhkailolaaDoorRows
import GoSem.ClaimSeven
namespace Go.Proofs.YtiedenhkailolaaDoor
namespace Rows

/-- THE TIED CARD OF 'spinetlaw17.ListsReads'. -/
def listsReadsCard : Claim7 := { stood := { row := listsReadsRow, standIns := [], harness := (true, "2a8f656e0e562bf78ff29ab30168b3ceec783b08757698b1e0bef79875ce8fa5"), looks := false }, kinds := [], alts := [], laidByText := true, laidKinds := [.data, .pinned], laidTests := true, laidLooks := .later }
def ListsReadsCardSaid : Prop := Claim7.holds Tryd.pinned (.plain (OpenSpec.ofChange listsReadsSpec)) listsReadsCard

/-- THE TIED CARD OF 'spinetlaw17.ListsOrders'. -/
def listsOrdersCard : Claim7 := { stood := { row := listsOrdersRow, standIns := [], harness := (true, "2a8f656e0e562bf78ff29ab30168b3ceec783b08757698b1e0bef79875ce8fa5"), looks := false }, kinds := [], alts := [], laidByText := true, laidKinds := [.data, .pinned], laidTests := true, laidLooks := .later }
def ListsOrdersCardSaid : Prop := Claim7.holds Tryd.pinned (.plain (OpenSpec.ofChange listsOrdersSpec)) listsOrdersCard

/-- THE TIED CARD OF 'spinetlaw17.ListsParts'. -/
def listsPartsCard : Claim7 := { stood := { row := listsPartsRow, standIns := [], harness := (true, "2a8f656e0e562bf78ff29ab30168b3ceec783b08757698b1e0bef79875ce8fa5"), looks := false }, kinds := [], alts := [], laidByText := true, laidKinds := [.data, .pinned], laidTests := true, laidLooks := .later }
def ListsPartsCardSaid : Prop := Claim7.holds Tryd.pinned (.plain (OpenSpec.ofChange listsPartsSpec)) listsPartsCard

/-- THE TIED CARD OF 'spinetlaw17.ListsTexts'. -/
def listsTextsCard : Claim7 := { stood := { row := listsTextsRow, standIns := [], harness := (true, "2a8f656e0e562bf78ff29ab30168b3ceec783b08757698b1e0bef79875ce8fa5"), looks := false }, kinds := [], alts := [], laidByText := true, laidKinds := [.data, .pinned], laidTests := true, laidLooks := .later }
def ListsTextsCardSaid : Prop := Claim7.holds Tryd.pinned (.plain (OpenSpec.ofChange listsTextsSpec)) listsTextsCard

/-- THE SECOND FORM's CARD OF 'spinetlaw17.ListsReads'. -/
def listsReadsUptoCard : Claim7 := { stood := { row := listsReadsUptoRow, standIns := [], harness := (true, "2a8f656e0e562bf78ff29ab30168b3ceec783b08757698b1e0bef79875ce8fa5"), looks := false }, kinds := [], alts := [], laidByText := true, laidKinds := [.data, .pinned], laidTests := true, laidLooks := .later }
def ListsReadsUptoCardSaid : Prop := Claim7.holds Tryd.pinned (.plain (OpenSpec.upto listsReadsSpec)) listsReadsUptoCard

/-- THE SECOND FORM's CARD OF 'spinetlaw17.ListsOrders'. -/
def listsOrdersUptoCard : Claim7 := { stood := { row := listsOrdersUptoRow, standIns := [], harness := (true, "2a8f656e0e562bf78ff29ab30168b3ceec783b08757698b1e0bef79875ce8fa5"), looks := false }, kinds := [], alts := [], laidByText := true, laidKinds := [.data, .pinned], laidTests := true, laidLooks := .later }
def ListsOrdersUptoCardSaid : Prop := Claim7.holds Tryd.pinned (.plain (OpenSpec.upto listsOrdersSpec)) listsOrdersUptoCard

/-- THE SECOND FORM's CARD OF 'spinetlaw17.ListsParts'. -/
def listsPartsUptoCard : Claim7 := { stood := { row := listsPartsUptoRow, standIns := [], harness := (true, "2a8f656e0e562bf78ff29ab30168b3ceec783b08757698b1e0bef79875ce8fa5"), looks := false }, kinds := [], alts := [], laidByText := true, laidKinds := [.data, .pinned], laidTests := true, laidLooks := .later }
def ListsPartsUptoCardSaid : Prop := Claim7.holds Tryd.pinned (.plain (OpenSpec.upto listsPartsSpec)) listsPartsUptoCard

/-- THE SECOND FORM's CARD OF 'spinetlaw17.ListsTexts'. -/
def listsTextsUptoCard : Claim7 := { stood := { row := listsTextsUptoRow, standIns := [], harness := (true, "2a8f656e0e562bf78ff29ab30168b3ceec783b08757698b1e0bef79875ce8fa5"), looks := false }, kinds := [], alts := [], laidByText := true, laidKinds := [.data, .pinned], laidTests := true, laidLooks := .later }
def ListsTextsUptoCardSaid : Prop := Claim7.holds Tryd.pinned (.plain (OpenSpec.upto listsTextsSpec)) listsTextsUptoCard
end Rows
end Go.Proofs.YtiedenhkailolaaDoor
