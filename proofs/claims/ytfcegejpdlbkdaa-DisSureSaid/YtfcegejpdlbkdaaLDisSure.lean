/- The law DisSure, proved. Printed by a program of this work. -/
import Derived.Test.YtfcegejpdlbkdaaRows
import Derived.Test.YtfcegejpdlbkdaaRh
import Derived.Test.YtfcegejpdlbkdaaG4
import Derived.Test.YtfcegejpdlbkdaaUDsd
import Derived.WalkKit
import Derived.ProofKit
import Derived.OpenShut
import Derived.ShutString
import Derived.ChangeOld
import Derived.Below
import Derived.SizedLaws
namespace Go.Proofs.YtfcegejpdlbkdaaK.DisSure
set_option linter.unusedVariables false
set_option linter.unusedSimpArgs false
set_option maxHeartbeats 4000000
open Go.ChangeShapes Go.WideShapes Go.ChangeAt Go.RowKit Go.Proofs.Ytfcegejpdlbkdaa Go.Proofs.YtfcegejpdlbkdaaK

theorem own : ownKnob Try.prog.godebug = none := by kernel_rfl
theorem laidOut : laidOutB Try.prog = true := by kernel_rfl
theorem shapes : Try.f4.params.toList.map (shp Try.prog 9) = [(.sl 1 (.int .u8) : Sh), (.sl 1 (.int .u8) : Sh), (.int .u16 : Sh)].map some := by kernel_rfl

theorem con (xs : List V) (h : FitVs [(.sl 1 (.int .u8) : Sh), (.sl 1 (.int .u8) : Sh), (.int .u16 : Sh)] xs) : Con Try.prog 4 xs [] (.s (.bool true)) [] := by
  simp only [FitVs] at h
  obtain ⟨x0, _, rfl, h0, x1, _, rfl, h1, x2, _, rfl, h2, rfl⟩ := h
  obtain ⟨a0, rfl, k0⟩ := arg_sl (g := (nI .u8)) (ok := (fun a => okI .u8 a)) (b := 1) (fun _ h => dec_int h) h0
  obtain ⟨a1, rfl, k1⟩ := arg_sl (g := (nI .u8)) (ok := (fun a => okI .u8 a)) (b := 1) (fun _ h => dec_int h) h1
  obtain ⟨a2, rfl, k2⟩ := arg_int h2
  exact con_pure (spinetlaw42_DisSure_ok a0 a1 a2 true (disSure_true a0 a1 a2 k0.1 (by have := k0.2.2; omega) k1.1 (by have := k1.2.2; omega)))

set_option maxRecDepth 100000 in
theorem lifted (os : Os) (started : os.Started) (H : Type) (enc : TypeId × Value → H) :
    ReturnsInHanded {} Try.checked os 4 .any (Rows.disSureSpec.pre6 enc Try.prog Try.f4 Rows.disSureRow.domain false) (Rows.disSureSpec.post enc Try.prog Try.f4 false true false false) := by
  refine returnsInHanded_of_change_sized (C := Try.checked) own started (by kernel_rfl) Try.func4
    (ChangeSpec.witness6 (enc := enc) (C := Try.checked) false ⟨#[], #[.slice none 0 0, .slice none 0 0, .int .u16 0], []⟩ 8 (by kernel_rfl) (by kernel_rfl) (by kernel_rfl) (by kernel_rfl)) ?_
  intro W base args ds gs before hval0 hW hcnd hwt _
  have hgl : ∀ a ∈ GL, ∃ m, W.cell? ⟨a, 0, none⟩ = some (.int .i64 m) := fun a ha => by simp [GL] at ha
  have hW' := hW
  obtain ⟨p, q, hA, hV, rfl, hfz, hnd⟩ := hW
  have hA' : DataW.TrodAll enc Try.prog W 0 (fun _ => true) true Try.f4.params.toList args.toList ds p := hA
  obtain ⟨rfl, rfl⟩ := trodVars_none hV
  have walk := law_calls (m := 4) (P := Try.prog) (W := W) shapes (fun j t v ht hv => hval0 j t v (by simpa using ht) (by simpa using hv)) hA' hwt hgl con
  refine walk.mono fun e W' ⟨he, bel⟩ => ?_
  subst he
  have kept := trodAll_stays laidOut bel (by kernel_rfl) hA'
  rw [Try.params4] at hA'
  obtain ⟨v0, vs0, d0, ds0, p0, q0, hargs, rfl, rfl, h0, r0⟩ := trodAll_cons hA'
  obtain ⟨v1, vs1, d1, ds1, p1, q1, rfl, rfl, rfl, h1, r1⟩ := trodAll_cons r0
  obtain ⟨v2, vs2, d2, ds2, p2, q2, rfl, rfl, rfl, h2, r2⟩ := trodAll_cons r1
  obtain ⟨rfl, rfl, rfl⟩ := trodAll_nil r2
  obtain rfl : args = #[v0, v1, v2] := by cases args; simp_all
  exact ⟨_, rfl, _, _, _, [], _, [], hW', trodAll_mk1 (shut_bool Try.underlying4 _) , kept, rfl, bel.frame _, fun h => by cases h⟩

theorem over : Rows.disSureRow.holds Try.pinned (OpenSpec.ofChange Rows.disSureSpec) :=
  OpenClaim.holds_of_wide 4 Try.f4 rfl rfl rfl rfl rfl rfl rfl ⟨rfl, rfl, rfl, rfl, rfl⟩ rfl rfl rfl rfl rfl (by kernel_rfl) Try.func4 (by kernel_rfl)
    (of_decide_eq_true (by kernel_rfl)) (by unfold Func.isWrapper; first | (rw [if_pos (by decide +kernel)]; kernel_rfl) | (rw [if_neg (by decide +kernel)]; exact ⟨rfl, rfl⟩))
    (fun os started H enc _ => lifted os started H enc)
end Go.Proofs.YtfcegejpdlbkdaaK.DisSure
namespace Go.Proofs.Ytfcegejpdlbkdaa

/-- The law, under a short name. -/
theorem disSure_holds : Rows.DisSureSaid := YtfcegejpdlbkdaaK.DisSure.over
#print axioms disSure_holds
end Go.Proofs.Ytfcegejpdlbkdaa
