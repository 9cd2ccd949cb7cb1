/- The law DisTexts, proved. Printed by a program of this work. -/
import Derived.Test.YtfcegejpdlbkdaaRows
import Derived.Test.YtfcegejpdlbkdaaRh
import Derived.Test.YtfcegejpdlbkdaaG4
import Derived.Test.YtfcegejpdlbkdaaUDis4
import Derived.WalkKit
import Derived.ProofKit
import Derived.OpenShut
import Derived.ShutString
import Derived.ChangeOld
import Derived.Below
import Derived.SizedLaws
namespace Go.Proofs.YtfcegejpdlbkdaaK.DisTexts
set_option linter.unusedVariables false
set_option linter.unusedSimpArgs false
set_option maxHeartbeats 4000000
open Go.ChangeShapes Go.WideShapes Go.ChangeAt Go.RowKit Go.Proofs.Ytfcegejpdlbkdaa Go.Proofs.YtfcegejpdlbkdaaK

theorem own : ownKnob Try.prog.godebug = none := by kernel_rfl
theorem laidOut : laidOutB Try.prog = true := by kernel_rfl
theorem shapes : Try.f3.params.toList.map (shp Try.prog 9) = [(.sl 1 (.int .u8) : Sh), (.int .u16 : Sh)].map some := by kernel_rfl

theorem con (xs : List V) (h : FitVs [(.sl 1 (.int .u8) : Sh), (.int .u16 : Sh)] xs) : Con Try.prog 3 xs [] (.s (.bool true)) [] := by
  simp only [FitVs] at h
  obtain ⟨x0, _, rfl, h0, x1, _, rfl, h1, rfl⟩ := h
  obtain ⟨a0, rfl, k0⟩ := arg_sl (g := (nI .u8)) (ok := (fun a => okI .u8 a)) (b := 1) (fun _ h => dec_int h) h0
  obtain ⟨a1, rfl, k1⟩ := arg_int h1
  exact con_pure (spinetlaw42_DisTexts_ok a0 a1 true (disTexts_true a0 a1 k0.1 (by have := k0.2.2; omega) (okI_u16 k1).1 (okI_u16 k1).2))

set_option maxRecDepth 100000 in
theorem lifted (os : Os) (started : os.Started) (H : Type) (enc : TypeId × Value → H) :
    ReturnsInHanded {} Try.checked os 3 .any (Rows.disTextsSpec.pre6 enc Try.prog Try.f3 Rows.disTextsRow.domain false) (Rows.disTextsSpec.post enc Try.prog Try.f3 false true false false) := by
  refine returnsInHanded_of_change_sized (C := Try.checked) own started (by kernel_rfl) Try.func3
    (ChangeSpec.witness6 (enc := enc) (C := Try.checked) false ⟨#[], #[.slice none 0 0, .int .u16 0], []⟩ 8 (by kernel_rfl) (by kernel_rfl) (by kernel_rfl) (by kernel_rfl)) ?_
  intro W base args ds gs before hval0 hW hcnd hwt _
  have hgl : ∀ a ∈ GL, ∃ m, W.cell? ⟨a, 0, none⟩ = some (.int .i64 m) := fun a ha => by simp [GL] at ha
  have hW' := hW
  obtain ⟨p, q, hA, hV, rfl, hfz, hnd⟩ := hW
  have hA' : DataW.TrodAll enc Try.prog W 0 (fun _ => true) true Try.f3.params.toList args.toList ds p := hA
  obtain ⟨rfl, rfl⟩ := trodVars_none hV
  have walk := law_calls (m := 3) (P := Try.prog) (W := W) shapes (fun j t v ht hv => hval0 j t v (by simpa using ht) (by simpa using hv)) hA' hwt hgl con
  refine walk.mono fun e W' ⟨he, bel⟩ => ?_
  subst he
  have kept := trodAll_stays laidOut bel (by kernel_rfl) hA'
  rw [Try.params3] at hA'
  obtain ⟨v0, vs0, d0, ds0, p0, q0, hargs, rfl, rfl, h0, r0⟩ := trodAll_cons hA'
  obtain ⟨v1, vs1, d1, ds1, p1, q1, rfl, rfl, rfl, h1, r1⟩ := trodAll_cons r0
  obtain ⟨rfl, rfl, rfl⟩ := trodAll_nil r1
  obtain rfl : args = #[v0, v1] := by cases args; simp_all
  exact ⟨_, rfl, _, _, _, [], _, [], hW', trodAll_mk1 (shut_bool Try.underlying4 _) , kept, rfl, bel.frame _, fun h => by cases h⟩

theorem over : Rows.disTextsRow.holds Try.pinned (OpenSpec.ofChange Rows.disTextsSpec) :=
  OpenClaim.holds_of_wide 3 Try.f3 rfl rfl rfl rfl rfl rfl rfl ⟨rfl, rfl, rfl, rfl, rfl⟩ rfl rfl rfl rfl rfl (by kernel_rfl) Try.func3 (by kernel_rfl)
    (of_decide_eq_true (by kernel_rfl)) (by unfold Func.isWrapper; first | (rw [if_pos (by decide +kernel)]; kernel_rfl) | (rw [if_neg (by decide +kernel)]; exact ⟨rfl, rfl⟩))
    (fun os started H enc _ => lifted os started H enc)
end Go.Proofs.YtfcegejpdlbkdaaK.DisTexts
namespace Go.Proofs.Ytfcegejpdlbkdaa

/-- The law, under a short name. -/
theorem disTexts_holds : Rows.DisTextsSaid := YtfcegejpdlbkdaaK.DisTexts.over
#print axioms disTexts_holds
end Go.Proofs.Ytfcegejpdlbkdaa
