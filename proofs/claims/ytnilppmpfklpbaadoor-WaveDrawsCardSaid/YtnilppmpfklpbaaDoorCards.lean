/-
  DERIVED. GIVEN WITH THE SEED: THE CARDS: each row of YtnilppmpfklpbaaDoorRows.lean that lists a variable, with what it lists TIED to the program's text (the seventh form; the later family's looks); each row that meets fmt, with fmt's text TOLD by the authors' own Lean function (tested against real Go, not proved from fmt's source: count such statements apart). THE CARD IS WHAT COUNTS. Prove the row's statement (the work); the ties are given (YtnilppmpfklpbaaDoorTie.lean); close each card by the builder's one call (the guide's Derived/Test/ToyasCard.lean, 'card_holds'). Laid BY PROGRAM, IN A SANDBOX (cutbox-door.mjs). By AI agents, Wed Nov 11 2026. No macro, syntax, notation, axiom, sorry.
-/
import Derived.Test.YtnilppmpfklpbaaDoorRows
import GoSem.ClaimSeven
namespace Go.Proofs.YtnilppmpfklpbaaDoor
namespace Rows

/-- THE TIED CARD OF 'spinetlaw50.WaveReads'. -/
def waveReadsCard : Claim7 := { stood := { row := waveReadsRow, standIns := [], harness := (true, "1119c0596124d8fc52523c80dcf893b996e4e019c20ae2c4690bdeabedf2d936"), looks := false }, kinds := [], alts := [], laidByText := true, laidKinds := [.data, .pinned], laidTests := true, laidLooks := .later }
def WaveReadsCardSaid : Prop := Claim7.holds Tryd.pinned (.plain (OpenSpec.ofChange waveReadsSpec)) waveReadsCard

/-- THE TIED CARD OF 'spinetlaw50.WaveDraws'. -/
def waveDrawsCard : Claim7 := { stood := { row := waveDrawsRow, standIns := [], harness := (true, "1119c0596124d8fc52523c80dcf893b996e4e019c20ae2c4690bdeabedf2d936"), looks := false }, kinds := [], alts := [], laidByText := true, laidKinds := [.data, .pinned], laidTests := true, laidLooks := .later }
def WaveDrawsCardSaid : Prop := Claim7.holds Tryd.pinned (.plain (OpenSpec.ofChange waveDrawsSpec)) waveDrawsCard

/-- THE SECOND FORM's CARD OF 'spinetlaw50.WaveReads'. -/
def waveReadsUptoCard : Claim7 := { stood := { row := waveReadsUptoRow, standIns := [], harness := (true, "1119c0596124d8fc52523c80dcf893b996e4e019c20ae2c4690bdeabedf2d936"), looks := false }, kinds := [], alts := [], laidByText := true, laidKinds := [.data, .pinned], laidTests := true, laidLooks := .later }
def WaveReadsUptoCardSaid : Prop := Claim7.holds Tryd.pinned (.plain (OpenSpec.upto waveReadsSpec)) waveReadsUptoCard

/-- THE SECOND FORM's CARD OF 'spinetlaw50.WaveDraws'. -/
def waveDrawsUptoCard : Claim7 := { stood := { row := waveDrawsUptoRow, standIns := [], harness := (true, "1119c0596124d8fc52523c80dcf893b996e4e019c20ae2c4690bdeabedf2d936"), looks := false }, kinds := [], alts := [], laidByText := true, laidKinds := [.data, .pinned], laidTests := true, laidLooks := .later }
def WaveDrawsUptoCardSaid : Prop := Claim7.holds Tryd.pinned (.plain (OpenSpec.upto waveDrawsSpec)) waveDrawsUptoCard
end Rows
end Go.Proofs.YtnilppmpfklpbaaDoor
