/-
  DERIVED. GIVEN WITH THE SEED: THE CARDS: each row of YthooddibdmigmaaDoorRows.lean that lists a variable, with what it lists TIED to the program's text (the seventh form; the later family's looks); each row that meets fmt, with fmt's text TOLD by the authors' own Lean function (tested against real Go, not proved from fmt's source: count such statements apart). THE CARD IS WHAT COUNTS. Prove the row's statement (the work); the ties are given (YthooddibdmigmaaDoorTie.lean); close each card by the builder's one call (the guide's Derived/Test/ToyasCard.lean, 'card_holds'). Laid BY PROGRAM, IN A SANDBOX (cutbox-door.mjs). By AI agents, Wed Nov 11 2026. No macro, syntax, notation, axiom, sorry.
-/
import Derived.Test.YthooddibdmigmaaDoorRows
import GoSem.ClaimSeven
namespace Go.Proofs.YthooddibdmigmaaDoor
namespace Rows

/-- THE TIED CARD OF 'spinetlaw43.LexerAll'. -/
def lexerAllCard : Claim7 := { stood := { row := lexerAllRow, standIns := [], harness := (true, "9d4a50abef508ce9419f48778940af9c68517eebe734fdbf344dbd3e56996786"), looks := false }, kinds := [], alts := [], laidByText := true, laidKinds := [.data, .pinned], laidTests := true, laidLooks := .later }
def LexerAllCardSaid : Prop := Claim7.holds Tryd.pinned (.plain (OpenSpec.ofChange lexerAllSpec)) lexerAllCard

/-- THE TIED CARD OF 'spinetlaw43.LexerCuts'. -/
def lexerCutsCard : Claim7 := { stood := { row := lexerCutsRow, standIns := [], harness := (true, "9d4a50abef508ce9419f48778940af9c68517eebe734fdbf344dbd3e56996786"), looks := false }, kinds := [], alts := [], laidByText := true, laidKinds := [.data, .pinned], laidTests := true, laidLooks := .later }
def LexerCutsCardSaid : Prop := Claim7.holds Tryd.pinned (.plain (OpenSpec.ofChange lexerCutsSpec)) lexerCutsCard

/-- THE SECOND FORM's CARD OF 'spinetlaw43.LexerAll'. -/
def lexerAllUptoCard : Claim7 := { stood := { row := lexerAllUptoRow, standIns := [], harness := (true, "9d4a50abef508ce9419f48778940af9c68517eebe734fdbf344dbd3e56996786"), looks := false }, kinds := [], alts := [], laidByText := true, laidKinds := [.data, .pinned], laidTests := true, laidLooks := .later }
def LexerAllUptoCardSaid : Prop := Claim7.holds Tryd.pinned (.plain (OpenSpec.upto lexerAllSpec)) lexerAllUptoCard

/-- THE SECOND FORM's CARD OF 'spinetlaw43.LexerCuts'. -/
def lexerCutsUptoCard : Claim7 := { stood := { row := lexerCutsUptoRow, standIns := [], harness := (true, "9d4a50abef508ce9419f48778940af9c68517eebe734fdbf344dbd3e56996786"), looks := false }, kinds := [], alts := [], laidByText := true, laidKinds := [.data, .pinned], laidTests := true, laidLooks := .later }
def LexerCutsUptoCardSaid : Prop := Claim7.holds Tryd.pinned (.plain (OpenSpec.upto lexerCutsSpec)) lexerCutsUptoCard
end Rows
end Go.Proofs.YthooddibdmigmaaDoor
