/- The law PrioOnly, proved. -/
import Derived.Test.YtbgdkaahcfmaeaaRows
import Derived.Test.YtbgdkaahcfmaeaaP2
import Derived.Test.YtbgdkaahcfmaeaaKp
import Derived.WalkKit
import Derived.ProofKit
import Derived.OpenShut
import Derived.ShutString
import Derived.ChangeOld
import Derived.Below
import Derived.SizedLaws
namespace Go.Proofs.YtbgdkaahcfmaeaaK.PrioOnly
set_option linter.unusedVariables false
set_option linter.unusedSimpArgs false
open Go.ChangeShapes Go.WideShapes Go.ChangeAt Go.RowKit Go.Proofs.Ytbgdkaahcfmaeaa Go.Proofs.YtbgdkaahcfmaeaaK
open Go.ChangeMaps (open_string shut_string)

theorem own : ownKnob Try.prog.godebug = none := by kernel_rfl
theorem laidOut : laidOutB Try.prog = true := by kernel_rfl

theorem shapes : Try.f4.params.toList.map (shp Try.prog 9) = [Sh.st [.bool, .bool, .bool], .st [.bool, .bool, .bool, .bool, .bool, .bool], .int .u8].map some := by kernel_rfl

theorem con (xs : List V) (h : FitVs [Sh.st [.bool, .bool, .bool], .st [.bool, .bool, .bool, .bool, .bool, .bool], .int .u8] xs) : Con Try.prog 4 xs [] (.s (.bool true)) [] := by
  simp only [FitVs, FitV, FitL, Fit] at h
  obtain ⟨x, ys, rfl, ⟨_, rfl, _, _, rfl, ⟨s0, rfl⟩, _, _, rfl, ⟨s1, rfl⟩, _, _, rfl, ⟨b, rfl⟩, rfl⟩, y, zs, rfl, ⟨_, rfl, _, _, rfl, ⟨a0, rfl⟩, _, _, rfl, ⟨a1, rfl⟩, _, _, rfl, ⟨a2, rfl⟩, _, _, rfl, ⟨a3, rfl⟩, _, _, rfl, ⟨a4, rfl⟩, _, _, rfl, ⟨a5, rfl⟩, rfl⟩, z, us, rfl, ⟨n, hz, hn⟩, rfl⟩ := h
  simp only [List.cons.injEq, and_true] at hz
  subst hz
  have hn' : 0 ≤ n ∧ n ≤ 255 := by simpa [Lit.wf, IntKind.has, IntKind.min, IntKind.max, IntKind.signed, IntKind.bits] using hn
  exact con4 s0 s1 b a0 a1 a2 a3 a4 a5 n hn'.1 (by omega) []

set_option maxRecDepth 100000 in
theorem lifted (os : Os) (started : os.Started) (H : Type) (enc : TypeId × Value → H) :
    ReturnsInHanded {} Try.checked os 4 .any (Rows.prioOnlySpec.pre6 enc Try.prog Try.f4 Rows.prioOnlyRow.domain false) (Rows.prioOnlySpec.post enc Try.prog Try.f4 false true false false) := by
  refine returnsInHanded_of_change (C := Try.checked) own started (by kernel_rfl) Try.func4
    (ChangeSpec.witness6 (enc := enc) (C := Try.checked) false ⟨#[], #[.agg #[.bool false, .bool false, .bool false], .agg #[.bool false, .bool false, .bool false, .bool false, .bool false, .bool false], .int .u8 0], []⟩ 8 (by kernel_rfl) (by kernel_rfl) (by kernel_rfl) (by kernel_rfl)) ?_
  intro W base args ds gs before hval0 hW hcnd _
  have hW' := hW
  obtain ⟨p, q, hA, hV, rfl, hfz, hnd⟩ := hW
  have hA' : DataW.TrodAll enc Try.prog W 0 (fun _ => true) true Try.f4.params.toList args.toList ds p := hA
  obtain ⟨rfl, rfl⟩ := trodVars_none hV
  have walk := law_calls (m := 4) (P := Try.prog) (W := W) shapes (fun j t v ht hv => hval0 j t v (by simpa using ht) (by simpa using hv)) hA' con
  refine walk.mono fun e W' ⟨he, bel⟩ => ?_
  subst he
  have kept := trodAll_stays laidOut bel (by kernel_rfl) hA'
  rw [Try.params4] at hA'
  obtain ⟨v0, vs0, d0, ds0, p0, q0, hargs, rfl, rfl, h0, r0⟩ := trodAll_cons hA'
  obtain ⟨v1, vs1, d1, ds1, p1, q1, rfl, rfl, rfl, h1, r1⟩ := trodAll_cons r0
  obtain ⟨v2, vs2, d2, ds2, p2, q2, rfl, rfl, rfl, h2, r2⟩ := trodAll_cons r1
  obtain ⟨rfl, rfl, rfl⟩ := trodAll_nil r2
  obtain rfl : args = #[v0, v1, v2] := by cases args; simp_all
  exact ⟨_, rfl, _, _, _, [], _, [], hW', trodAll_mk1 (shut_bool Try.underlying4 _), kept, rfl, bel.frame _, fun h => by cases h⟩

theorem over : Rows.prioOnlyRow.holds Try.pinned (OpenSpec.ofChange Rows.prioOnlySpec) :=
  OpenClaim.holds_of_wide 4 Try.f4 rfl rfl rfl rfl rfl rfl rfl ⟨rfl, rfl, rfl, rfl, rfl⟩ rfl rfl rfl rfl rfl (by kernel_rfl) Try.func4 (by kernel_rfl)
    (of_decide_eq_true (by kernel_rfl)) (by unfold Func.isWrapper; first | (rw [if_pos (by decide +kernel)]; kernel_rfl) | (rw [if_neg (by decide +kernel)]; exact ⟨rfl, rfl⟩))
    (fun os started H enc _ => lifted os started H enc)
end Go.Proofs.YtbgdkaahcfmaeaaK.PrioOnly
namespace Go.Proofs.Ytbgdkaahcfmaeaa

/-- The law, under a short name. -/
theorem prioOnly_holds : Rows.PrioOnlySaid := YtbgdkaahcfmaeaaK.PrioOnly.over
#print axioms prioOnly_holds
end Go.Proofs.Ytbgdkaahcfmaeaa
