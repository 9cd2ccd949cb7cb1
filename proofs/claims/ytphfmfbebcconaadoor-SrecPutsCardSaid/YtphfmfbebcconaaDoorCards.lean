/-
  DERIVED. GIVEN WITH THE SEED: THE CARDS: each row of YtphfmfbebcconaaDoorRows.lean that lists a variable, with what it lists TIED to the program's text (the seventh form; the later family's looks); each row that meets fmt, with fmt's text TOLD by the authors' own Lean function (tested against real Go, not proved from fmt's source: count such statements apart). THE CARD IS WHAT COUNTS. Prove the row's statement (the work); the ties are given (YtphfmfbebcconaaDoorTie.lean); close each card by the builder's one call (the guide's Derived/Test/ToyasCard.lean, 'card_holds'). Laid BY PROGRAM, IN A SANDBOX (cutbox-door.mjs). By AI agents, Wed Nov 11 2026. No macro, syntax, notation, axiom, sorry.
-/
import Derived.Test.YtphfmfbebcconaaDoorRows
import GoSem.ClaimSeven
namespace Go.Proofs.YtphfmfbebcconaaDoor
namespace Rows

/-- THE TIED CARD OF 'spinetlaw40.SrecPuts'. -/
def srecPutsCard : Claim7 := { stood := { row := srecPutsRow, standIns := [], harness := (true, "86583eb51b99cb64d2b0910ecf4aac0cb76e87581aab545230f396a05b711002"), looks := false }, kinds := [], alts := [], laidByText := true, laidKinds := [.data, .pinned], laidTests := true, laidLooks := .later }
def SrecPutsCardSaid : Prop := Claim7.holds Tryd.pinned (.plain (OpenSpec.ofChange srecPutsSpec)) srecPutsCard

/-- THE SECOND FORM's CARD OF 'spinetlaw40.SrecPuts'. -/
def srecPutsUptoCard : Claim7 := { stood := { row := srecPutsUptoRow, standIns := [], harness := (true, "86583eb51b99cb64d2b0910ecf4aac0cb76e87581aab545230f396a05b711002"), looks := false }, kinds := [], alts := [], laidByText := true, laidKinds := [.data, .pinned], laidTests := true, laidLooks := .later }
def SrecPutsUptoCardSaid : Prop := Claim7.holds Tryd.pinned (.plain (OpenSpec.upto srecPutsSpec)) srecPutsUptoCard
end Rows
end Go.Proofs.YtphfmfbebcconaaDoor
