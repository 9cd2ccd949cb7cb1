/- The law SrecLines, proved. Printed by a program of this work. -/
import Derived.Test.YtfdadnldlngmeaaRows
import Derived.Test.YtfdadnldlngmeaaRh
import Derived.Test.YtfdadnldlngmeaaG4
import Derived.Test.YtfdadnldlngmeaaUStx
import Derived.WalkKit
import Derived.ProofKit
import Derived.OpenShut
import Derived.ShutString
import Derived.ChangeOld
import Derived.Below
import Derived.SizedLaws
namespace Go.Proofs.YtfdadnldlngmeaaK.SrecLines
set_option linter.unusedVariables false
set_option linter.unusedSimpArgs false
set_option maxHeartbeats 4000000
open Go.ChangeShapes Go.WideShapes Go.ChangeAt Go.RowKit Go.Proofs.Ytfdadnldlngmeaa Go.Proofs.YtfdadnldlngmeaaK

theorem own : ownKnob Try.prog.godebug = none := by kernel_rfl
theorem laidOut : laidOutB Try.prog = true := by kernel_rfl
def srec_Line.ok (x : srec_Line) : Prop := (okI .i64 x.Kind) ∧ (okI .u16 x.At) ∧ ((∀ a ∈ x.B, okI .u8 a) ∧ x.B.length ≤ maxLen ∧ x.B.length * 1 ≤ reachBytes)
abbrev srec_Line.sh : Sh := .st [.int .i64, .int .u16, .sl 1 (.int .u8)]
theorem srec_Line.dec (xs : List V) (h : Fit srec_Line.sh xs) : ∃ a : srec_Line, xs = srec_Line.v a ∧ srec_Line.ok a := by
  rw [srec_Line.sh, fit_st] at h
  simp only [fitL_cons, fitL_nil] at h
  obtain ⟨_, _, rfl, h0, _, _, rfl, h1, _, _, rfl, h2, rfl⟩ := h
  obtain ⟨a0, rfl, k0⟩ := dec_int h0
  obtain ⟨a1, rfl, k1⟩ := dec_int h1
  obtain ⟨a2, rfl, k2⟩ := (dec_sl (g := (nI .u8)) (ok := (fun a => okI .u8 a)) (b := 1) (fun _ h => dec_int h)) h2
  exact ⟨⟨a0, a1, a2⟩, rfl, k0, k1, k2⟩
theorem shapes : Try.f4.params.toList.map (shp Try.prog 9) = [(srec_Line.sh : Sh), (.str : Sh)].map some := by kernel_rfl

theorem con (xs : List V) (h : FitVs [(srec_Line.sh : Sh), (.str : Sh)] xs) : Con Try.prog 4 xs [] (.s (.bool true)) [] := by
  simp only [FitVs] at h
  obtain ⟨x0, _, rfl, h0, x1, _, rfl, h1, rfl⟩ := h
  obtain ⟨a0, rfl, k0⟩ := arg_st (g := srec_Line.v) (ok := srec_Line.ok) srec_Line.dec h0
  obtain ⟨a1, rfl, k1⟩ := arg_str h1
  exact con_pure (spinetlaw40_SrecLines_ok a0 a1 true (srecLines_true a0 a1 k0.2.1 k0.2.2.1))

set_option maxRecDepth 100000 in
theorem lifted (os : Os) (started : os.Started) (H : Type) (enc : TypeId × Value → H) :
    ReturnsInHanded {} Try.checked os 4 .any (Rows.srecLinesSpec.pre6 enc Try.prog Try.f4 Rows.srecLinesRow.domain false) (Rows.srecLinesSpec.post enc Try.prog Try.f4 false true false false) := by
  refine returnsInHanded_of_change_sized (C := Try.checked) own started (by kernel_rfl) Try.func4
    (ChangeSpec.witness6 (enc := enc) (C := Try.checked) false ⟨#[], #[.agg #[.int .i64 0, .int .u16 0, .slice none 0 0], .string ⟨#[]⟩], []⟩ 8 (by kernel_rfl) (by kernel_rfl) (by kernel_rfl) (by kernel_rfl)) ?_
  intro W base args ds gs before hval0 hW hcnd hwt _
  have hW' := hW
  obtain ⟨p, q, hA, hV, rfl, hfz, hnd⟩ := hW
  have hA' : DataW.TrodAll enc Try.prog W 0 (fun _ => true) true Try.f4.params.toList args.toList ds p := hA
  obtain ⟨rfl, rfl⟩ := trodVars_none hV
  have walk := law_calls (m := 4) (P := Try.prog) (W := W) shapes (fun j t v ht hv => hval0 j t v (by simpa using ht) (by simpa using hv)) hA' hwt con
  refine walk.mono fun e W' ⟨he, bel⟩ => ?_
  subst he
  have kept := trodAll_stays laidOut bel (by kernel_rfl) hA'
  rw [Try.params4] at hA'
  obtain ⟨v0, vs0, d0, ds0, p0, q0, hargs, rfl, rfl, h0, r0⟩ := trodAll_cons hA'
  obtain ⟨v1, vs1, d1, ds1, p1, q1, rfl, rfl, rfl, h1, r1⟩ := trodAll_cons r0
  obtain ⟨rfl, rfl, rfl⟩ := trodAll_nil r1
  obtain rfl : args = #[v0, v1] := by cases args; simp_all
  exact ⟨_, rfl, _, _, _, [], _, [], hW', trodAll_mk1 (shut_bool Try.underlying4 _) , kept, rfl, bel.frame _, fun h => by cases h⟩

theorem over : Rows.srecLinesRow.holds Try.pinned (OpenSpec.ofChange Rows.srecLinesSpec) :=
  OpenClaim.holds_of_wide 4 Try.f4 rfl rfl rfl rfl rfl rfl rfl ⟨rfl, rfl, rfl, rfl, rfl⟩ rfl rfl rfl rfl rfl (by kernel_rfl) Try.func4 (by kernel_rfl)
    (of_decide_eq_true (by kernel_rfl)) (by unfold Func.isWrapper; first | (rw [if_pos (by decide +kernel)]; kernel_rfl) | (rw [if_neg (by decide +kernel)]; exact ⟨rfl, rfl⟩))
    (fun os started H enc _ => lifted os started H enc)
end Go.Proofs.YtfdadnldlngmeaaK.SrecLines
namespace Go.Proofs.Ytfdadnldlngmeaa

/-- The law, under a short name. -/
theorem srecLines_holds : Rows.SrecLinesSaid := YtfdadnldlngmeaaK.SrecLines.over
#print axioms srecLines_holds
end Go.Proofs.Ytfdadnldlngmeaa
