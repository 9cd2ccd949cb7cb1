/-
  No cell of these rows narrows 'for every input' (looked for: loops, veiled, ifaces, maps, wideKeys, modest, calm, conditions, laid).
  DERIVED. THE GIVEN ROWS OF THIS SEAT. 3 by the template 'for every input the law returns true; each argument reads behind the call as it read before'; 0 by the template 'total and deterministic' (their statements: YtfdadnldlngmeaaTotals.lean).
  GIVEN WITH THE SEED: the statements are not yours to turn. If you find one false, say at which input.
  Laid BY PROGRAM, IN A SANDBOX (cutbox-rows.mjs): the forced cells as the released guide's own fill.sh prints them over the translation e51a3962f24264f9… (all of the seat's roots in one cut). By AI agents, Wed Nov 11 2026. No macro, syntax, notation, axiom, sorry.
-/
import Derived.Test.YtfdadnldlngmeaaChecked
import GoSem.Claim
import GoSem.ClaimJoined
import GoSem.ClaimMapViews
import Derived.JoinedTies
import Derived.KernelRfl
namespace Go.Proofs.Ytfdadnldlngmeaa
/- THE CELL 'sum', in the pinned program and in every row, IS THE sha256 OF THE DUMP (.gsa) THAT YtfdadnldlngmeaaProg.lean LOADS. Nothing in Lean hashes anything: it is a label: what it is worth is what the hold of that sum in a sandbox is worth. -/
noncomputable def Try.pinned : Pinned := { name := "ytfdadnldlngmeaa", sum := "e51a3962f24264f913b154061583d4d28ccb0514bda9b8c67c83b78e6ce104d8", checked := Try.checked }
namespace Rows
def none {H : Type} : Left H := { results := [], args := [] }

/-- 'spinetlaw49.WatchPoints': WHATEVER THE INPUT: true; the input reads as it did. -/
def watchPointsSpec : ChangeSpec := { name := "watchPoints", fn := fun _ => fun
  | [d1, d2] => { results := [.lit (.bool true)], args := [d1, d2] }
  | _ => none }
def watchPointsRow : OpenClaim := { program := "ytfdadnldlngmeaa", sum := "e51a3962f24264f913b154061583d4d28ccb0514bda9b8c67c83b78e6ce104d8", func := "spinet/spinetlaw49.WatchPoints", spec := "watchPoints", unfollowed := true, recurses := true, apart := false }
def WatchPointsSaid : Prop := watchPointsRow.holds Try.pinned (OpenSpec.ofChange watchPointsSpec)

/-- ITS FALSE NEIGHBOUR: 'it returns false'. Refute it at one input. -/
def watchPointsWrong : ChangeSpec := { name := "watchPoints", fn := fun _ => fun
  | [d1, d2] => { results := [.lit (.bool false)], args := [d1, d2] }
  | _ => none }
def WatchPointsWrongFalsely : Prop := watchPointsRow.holds Try.pinned (OpenSpec.ofChange watchPointsWrong)

/-- 'spinetlaw40.SrecLines': WHATEVER THE INPUT: true; the input reads as it did. -/
def srecLinesSpec : ChangeSpec := { name := "srecLines", fn := fun _ => fun
  | [d1, d2] => { results := [.lit (.bool true)], args := [d1, d2] }
  | _ => none }
def srecLinesRow : OpenClaim := { program := "ytfdadnldlngmeaa", sum := "e51a3962f24264f913b154061583d4d28ccb0514bda9b8c67c83b78e6ce104d8", func := "spinet/spinetlaw40.SrecLines", spec := "srecLines", apart := false }
def SrecLinesSaid : Prop := srecLinesRow.holds Try.pinned (OpenSpec.ofChange srecLinesSpec)

/-- ITS FALSE NEIGHBOUR: 'it returns false'. Refute it at one input. -/
def srecLinesWrong : ChangeSpec := { name := "srecLines", fn := fun _ => fun
  | [d1, d2] => { results := [.lit (.bool false)], args := [d1, d2] }
  | _ => none }
def SrecLinesWrongFalsely : Prop := srecLinesRow.holds Try.pinned (OpenSpec.ofChange srecLinesWrong)

/-- 'spinetlaw48.SliceCuts': WHATEVER THE INPUT: true; the input reads as it did. -/
def sliceCutsSpec : ChangeSpec := { name := "sliceCuts", fn := fun _ => fun
  | [d] => { results := [.lit (.bool true)], args := [d] }
  | _ => none }
def sliceCutsRow : OpenClaim := { program := "ytfdadnldlngmeaa", sum := "e51a3962f24264f913b154061583d4d28ccb0514bda9b8c67c83b78e6ce104d8", func := "spinet/spinetlaw48.SliceCuts", spec := "sliceCuts", inPlace := ["internal/abi.NoEscape"], apart := false }
def SliceCutsSaid : Prop := sliceCutsRow.holds Try.pinned (OpenSpec.ofChange sliceCutsSpec)

/-- ITS FALSE NEIGHBOUR: 'it returns false'. Refute it at one input. -/
def sliceCutsWrong : ChangeSpec := { name := "sliceCuts", fn := fun _ => fun
  | [d] => { results := [.lit (.bool false)], args := [d] }
  | _ => none }
def SliceCutsWrongFalsely : Prop := sliceCutsRow.holds Try.pinned (OpenSpec.ofChange sliceCutsWrong)

/- THE SECOND FORM. 'bulk': how many values and letters a reading holds, each counted each time it is reached (what is shared counts as often as it is met; a slice's spare places count too). A statement '..UptoSaid' is the law's where the arguments, and the package variables that the reading takes, are together of bulk at most 1048576: NARROWER than '..Said'. Prove '..Said' where nothing that the law and all that it calls make is longer than what came in: it says more and counts as full. Else prove '..UptoSaid'. A law counts once. -/
mutual
def uptoBulk {H : Type} : DataW H → Nat
  | .lit (.string bytes) => bytes.length + 1
  | .lit _ => 1
  | .nil => 1
  | .ptr d => uptoBulk d + 1
  | .slice elems spare => uptoBulkAll elems + uptoBulkAll spare + 1
  | .agg parts => uptoBulkAll parts + 1
  | .iface _ d => uptoBulk d + 1
  | .map entries => uptoBulkEntries entries + 1
  | .held _ => 1
def uptoBulkAll {H : Type} : List (DataW H) → Nat
  | [] => 0
  | d :: r => uptoBulk d + uptoBulkAll r
def uptoBulkEntries {H : Type} : List (Lit × DataW H) → Nat
  | [] => 0
  | x :: r => uptoBulkEntry x + uptoBulkEntries r
def uptoBulkEntry {H : Type} : Lit × DataW H → Nat
  | (.string bytes, d) => bytes.length + uptoBulk d + 1
  | (_, d) => uptoBulk d + 1
 end
def uptoSmall : (H : Type) → List (DataW H) → Bool := fun _ ds => decide (uptoBulkAll ds ≤ 1048576)
def OpenSpec.upto (s : _root_.Go.ChangeSpec) : _root_.Go.OpenSpec := { _root_.Go.OpenSpec.ofChange s with cond := some uptoSmall }

/-- 'spinetlaw49.WatchPoints', WHERE WHAT IT READS IS OF BULK AT MOST 1048576: true; the input reads as it did. -/
def watchPointsUptoRow : OpenClaim := { program := "ytfdadnldlngmeaa", sum := "e51a3962f24264f913b154061583d4d28ccb0514bda9b8c67c83b78e6ce104d8", func := "spinet/spinetlaw49.WatchPoints", spec := "watchPoints", unfollowed := true, recurses := true, apart := false, narrowed := true }
def WatchPointsUptoSaid : Prop := watchPointsUptoRow.holds Try.pinned (OpenSpec.upto watchPointsSpec)

/-- 'spinetlaw40.SrecLines', WHERE WHAT IT READS IS OF BULK AT MOST 1048576: true; the input reads as it did. -/
def srecLinesUptoRow : OpenClaim := { program := "ytfdadnldlngmeaa", sum := "e51a3962f24264f913b154061583d4d28ccb0514bda9b8c67c83b78e6ce104d8", func := "spinet/spinetlaw40.SrecLines", spec := "srecLines", apart := false, narrowed := true }
def SrecLinesUptoSaid : Prop := srecLinesUptoRow.holds Try.pinned (OpenSpec.upto srecLinesSpec)

/-- 'spinetlaw48.SliceCuts', WHERE WHAT IT READS IS OF BULK AT MOST 1048576: true; the input reads as it did. -/
def sliceCutsUptoRow : OpenClaim := { program := "ytfdadnldlngmeaa", sum := "e51a3962f24264f913b154061583d4d28ccb0514bda9b8c67c83b78e6ce104d8", func := "spinet/spinetlaw48.SliceCuts", spec := "sliceCuts", inPlace := ["internal/abi.NoEscape"], apart := false, narrowed := true }
def SliceCutsUptoSaid : Prop := sliceCutsUptoRow.holds Try.pinned (OpenSpec.upto sliceCutsSpec)

end Rows
end Go.Proofs.Ytfdadnldlngmeaa
