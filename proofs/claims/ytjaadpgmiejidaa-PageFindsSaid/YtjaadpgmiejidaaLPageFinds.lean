/- The law PageFinds, proved. Printed by a program of this work. -/
import Derived.Test.YtjaadpgmiejidaaRows
import Derived.Test.YtjaadpgmiejidaaRh
import Derived.Test.YtjaadpgmiejidaaG18
import Derived.Test.YtjaadpgmiejidaaUPage
import Derived.WalkKit
import Derived.ProofKit
import Derived.OpenShut
import Derived.ShutString
import Derived.ChangeOld
import Derived.Below
import Derived.SizedLaws
namespace Go.Proofs.YtjaadpgmiejidaaK.PageFinds
set_option linter.unusedVariables false
set_option linter.unusedSimpArgs false
set_option maxHeartbeats 4000000
open Go.ChangeShapes Go.WideShapes Go.ChangeAt Go.RowKit Go.Proofs.Ytjaadpgmiejidaa Go.Proofs.YtjaadpgmiejidaaK

theorem own : ownKnob Try.prog.godebug = none := by kernel_rfl
theorem laidOut : laidOutB Try.prog = true := by kernel_rfl
def api_Entry.ok (x : api_Entry) : Prop := (okI .i64 x.Op) ∧ (okI .i64 x.Mode) ∧ (okI .i64 x.Reg)
abbrev api_Entry.sh : Sh := .st [.int .i64, .int .i64, .int .i64]
theorem api_Entry.dec (xs : List V) (h : Fit api_Entry.sh xs) : ∃ a : api_Entry, xs = api_Entry.v a ∧ api_Entry.ok a := by
  rw [api_Entry.sh, fit_st] at h
  simp only [fitL_cons, fitL_nil] at h
  obtain ⟨_, _, rfl, h0, _, _, rfl, h1, _, _, rfl, h2, rfl⟩ := h
  obtain ⟨a0, rfl, k0⟩ := dec_int h0
  obtain ⟨a1, rfl, k1⟩ := dec_int h1
  obtain ⟨a2, rfl, k2⟩ := dec_int h2
  exact ⟨⟨a0, a1, a2⟩, rfl, k0, k1, k2⟩
theorem shapes : Try.f3.params.toList.map (shp Try.prog 9) = [(api_Entry.sh : Sh)].map some := by kernel_rfl

theorem con (xs : List V) (h : FitVs [(api_Entry.sh : Sh)] xs) : Con Try.prog 3 xs [] (.s (.bool true)) [] := by
  simp only [FitVs] at h
  obtain ⟨x0, _, rfl, h0, rfl⟩ := h
  obtain ⟨a0, rfl, k0⟩ := arg_st (g := api_Entry.v) (ok := api_Entry.ok) api_Entry.dec h0
  exact con_pure (spinetlaw14_PageFinds_ok a0 true (pageFinds_true a0))

set_option maxRecDepth 100000 in
theorem lifted (os : Os) (started : os.Started) (H : Type) (enc : TypeId × Value → H) :
    ReturnsInHanded {} Try.checked os 3 .any (Rows.pageFindsSpec.pre6 enc Try.prog Try.f3 Rows.pageFindsRow.domain false) (Rows.pageFindsSpec.post enc Try.prog Try.f3 false true false false) := by
  refine returnsInHanded_of_change (C := Try.checked) own started (by kernel_rfl) Try.func3
    (ChangeSpec.witness6 (enc := enc) (C := Try.checked) false ⟨#[], #[.agg #[.int .i64 0, .int .i64 0, .int .i64 0]], []⟩ 8 (by kernel_rfl) (by kernel_rfl) (by kernel_rfl) (by kernel_rfl)) ?_
  intro W base args ds gs before hval0 hW hcnd _
  have hW' := hW
  obtain ⟨p, q, hA, hV, rfl, hfz, hnd⟩ := hW
  have hA' : DataW.TrodAll enc Try.prog W 0 (fun _ => true) true Try.f3.params.toList args.toList ds p := hA
  obtain ⟨rfl, rfl⟩ := trodVars_none hV
  have walk := law_calls (m := 3) (P := Try.prog) (W := W) shapes (fun j t v ht hv => hval0 j t v (by simpa using ht) (by simpa using hv)) hA' con
  refine walk.mono fun e W' ⟨he, bel⟩ => ?_
  subst he
  have kept := trodAll_stays laidOut bel (by kernel_rfl) hA'
  rw [Try.params3] at hA'
  obtain ⟨v0, vs0, d0, ds0, p0, q0, hargs, rfl, rfl, h0, r0⟩ := trodAll_cons hA'
  obtain ⟨rfl, rfl, rfl⟩ := trodAll_nil r0
  obtain rfl : args = #[v0] := by cases args; simp_all
  exact ⟨_, rfl, _, _, _, [], _, [], hW', trodAll_mk1 (shut_bool Try.underlying4 _) , kept, rfl, bel.frame _, fun h => by cases h⟩

theorem over : Rows.pageFindsRow.holds Try.pinned (OpenSpec.ofChange Rows.pageFindsSpec) :=
  OpenClaim.holds_of_wide 3 Try.f3 rfl rfl rfl rfl rfl rfl rfl ⟨rfl, rfl, rfl, rfl, rfl⟩ rfl rfl rfl rfl rfl (by kernel_rfl) Try.func3 (by kernel_rfl)
    (of_decide_eq_true (by kernel_rfl)) (by unfold Func.isWrapper; first | (rw [if_pos (by decide +kernel)]; kernel_rfl) | (rw [if_neg (by decide +kernel)]; exact ⟨rfl, rfl⟩))
    (fun os started H enc _ => lifted os started H enc)
end Go.Proofs.YtjaadpgmiejidaaK.PageFinds
namespace Go.Proofs.Ytjaadpgmiejidaa

/-- The law, under a short name. -/
theorem pageFinds_holds : Rows.PageFindsSaid := YtjaadpgmiejidaaK.PageFinds.over
#print axioms pageFinds_holds
end Go.Proofs.Ytjaadpgmiejidaa
