/-
  DERIVED. GIVEN WITH THE SEED: THE CARDS: each row of YthhjooegpjgicaaDoorRows.lean that lists a variable, with what it lists TIED to the program's text (the seventh form; the later family's looks); each row that meets fmt, with fmt's text TOLD by the authors' own Lean function (tested against real Go, not proved from fmt's source: count such statements apart). THE CARD IS WHAT COUNTS. Prove the row's statement (the work); the ties are given (YthhjooegpjgicaaDoorTie.lean); close each card by the builder's one call (the guide's Derived/Test/ToyasCard.lean, 'card_holds'). Laid BY PROGRAM, IN A SANDBOX (cutbox-door.mjs). By AI agents, Wed Nov 11 2026. No macro, syntax, notation, axiom, sorry.
-/
import Derived.Test.YthhjooegpjgicaaDoorRows
import GoSem.ClaimSeven
namespace Go.Proofs.YthhjooegpjgicaaDoor
namespace Rows

/-- THE TIED CARD OF 'spinetlaw31.PinsReads'. -/
def pinsReadsCard : Claim7 := { stood := { row := pinsReadsRow, standIns := [], harness := (true, "795a5d1b5df7442ec29a45f80f45c77e43bfd48cb45719754281181f271f14a0"), looks := false }, kinds := [], alts := [], laidByText := true, laidKinds := [.data, .pinned], laidTests := true, laidLooks := .later }
def PinsReadsCardSaid : Prop := Claim7.holds Tryd.pinned (.plain (OpenSpec.ofChange pinsReadsSpec)) pinsReadsCard

/-- THE TIED CARD OF 'spinetlaw31.PinsTexts'. -/
def pinsTextsCard : Claim7 := { stood := { row := pinsTextsRow, standIns := [], harness := (true, "795a5d1b5df7442ec29a45f80f45c77e43bfd48cb45719754281181f271f14a0"), looks := false }, kinds := [], alts := [], laidByText := true, laidKinds := [.data, .pinned], laidTests := true, laidLooks := .later }
def PinsTextsCardSaid : Prop := Claim7.holds Tryd.pinned (.plain (OpenSpec.ofChange pinsTextsSpec)) pinsTextsCard

/-- THE SECOND FORM's CARD OF 'spinetlaw31.PinsReads'. -/
def pinsReadsUptoCard : Claim7 := { stood := { row := pinsReadsUptoRow, standIns := [], harness := (true, "795a5d1b5df7442ec29a45f80f45c77e43bfd48cb45719754281181f271f14a0"), looks := false }, kinds := [], alts := [], laidByText := true, laidKinds := [.data, .pinned], laidTests := true, laidLooks := .later }
def PinsReadsUptoCardSaid : Prop := Claim7.holds Tryd.pinned (.plain (OpenSpec.upto pinsReadsSpec)) pinsReadsUptoCard

/-- THE SECOND FORM's CARD OF 'spinetlaw31.PinsTexts'. -/
def pinsTextsUptoCard : Claim7 := { stood := { row := pinsTextsUptoRow, standIns := [], harness := (true, "795a5d1b5df7442ec29a45f80f45c77e43bfd48cb45719754281181f271f14a0"), looks := false }, kinds := [], alts := [], laidByText := true, laidKinds := [.data, .pinned], laidTests := true, laidLooks := .later }
def PinsTextsUptoCardSaid : Prop := Claim7.holds Tryd.pinned (.plain (OpenSpec.upto pinsTextsSpec)) pinsTextsUptoCard
end Rows
end Go.Proofs.YthhjooegpjgicaaDoor
