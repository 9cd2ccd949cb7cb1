/- The law AuditChecks, proved. -/
import Derived.Test.YtbgdkaahcfmaeaaRows
import Derived.Test.YtbgdkaahcfmaeaaP7
import Derived.Test.YtbgdkaahcfmaeaaKp
import Derived.WalkKit
import Derived.ProofKit
import Derived.OpenShut
import Derived.ShutString
import Derived.ChangeOld
import Derived.Below
import Derived.SizedLaws
namespace Go.Proofs.YtbgdkaahcfmaeaaK.AuditChecks
set_option linter.unusedVariables false
set_option linter.unusedSimpArgs false
open Go.ChangeShapes Go.WideShapes Go.ChangeAt Go.RowKit Go.Proofs.Ytbgdkaahcfmaeaa Go.Proofs.YtbgdkaahcfmaeaaK
open Go.ChangeMaps (open_string shut_string)

theorem own : ownKnob Try.prog.godebug = none := by kernel_rfl
theorem laidOut : laidOutB Try.prog = true := by kernel_rfl

abbrev recSh : Sh := .st [.int .u16, .int .u8, .bool, .bool, .bool, .bool, .bool, .bool, .bool]

theorem shapes : Try.f6.params.toList.map (shp Try.prog 9) = [Sh.sl recSh].map some := by kernel_rfl

theorem fit_rec (xs : List V) (h : Fit recSh xs) : ∃ r : Rec, xs = r.v ∧ 0 ≤ r.addr ∧ r.addr < 65536 := by
  simp only [recSh, FitL, Fit] at h
  obtain ⟨_, _, rfl, ⟨a, rfl, ha⟩, _, _, rfl, ⟨d, rfl, _⟩, _, _, rfl, ⟨b0, rfl⟩, _, _, rfl, ⟨b1, rfl⟩, _, _, rfl, ⟨b2, rfl⟩, _, _, rfl, ⟨b3, rfl⟩, _, _, rfl, ⟨b4, rfl⟩, _, _, rfl, ⟨b5, rfl⟩, _, _, rfl, ⟨b6, rfl⟩, rfl⟩ := h
  have ha' : 0 ≤ a ∧ a ≤ 65535 := by simpa [Lit.wf, IntKind.has, IntKind.min, IntKind.max, IntKind.signed, IntKind.bits] using ha
  exact ⟨⟨a, d, b0, b1, b2, b3, b4, b5, b6⟩, rfl, ha'.1, by simp only; omega⟩

theorem fit_recs : ∀ (ls : List (List V)), (∀ l ∈ ls, Fit recSh l) → ∃ rs : List Rec, ls = rs.map Rec.v ∧ ∀ r ∈ rs, 0 ≤ r.addr ∧ r.addr < 65536
  | [], _ => ⟨[], rfl, by simp⟩
  | x :: t, h => by
    obtain ⟨r, rfl, hr⟩ := fit_rec x (h x (by simp))
    obtain ⟨rs, rfl, hrs⟩ := fit_recs t fun l hl => h l (by simp [hl])
    exact ⟨r :: rs, rfl, fun q hq => by
      rcases List.mem_cons.1 hq with rfl | hq
      · exact hr
      · exact hrs q hq⟩

theorem con (xs : List V) (h : FitVs [Sh.sl recSh] xs) : Con Try.prog 6 xs [] (.s (.bool true)) [] := by
  simp only [FitVs, FitV] at h
  obtain ⟨x, ys, rfl, hx, rfl⟩ := h
  simp only [Fit] at hx
  obtain ⟨ls, hx, hls, _⟩ := hx
  simp only [List.cons.injEq, and_true] at hx
  subst hx
  obtain ⟨rs, rfl, hrs⟩ := fit_recs ls hls
  refine con6 rs _ ?_ hrs []
  have := Reads.sl (f := Rec.v) (sz := 9) (fun _ => rfl) (fun _ => rfl) rs false
  rw [List.length_map]
  exact this

set_option maxRecDepth 100000 in
theorem lifted (os : Os) (started : os.Started) (H : Type) (enc : TypeId × Value → H) :
    ReturnsInHanded {} Try.checked os 6 .any (Rows.auditChecksSpec.pre6 enc Try.prog Try.f6 Rows.auditChecksRow.domain false) (Rows.auditChecksSpec.post enc Try.prog Try.f6 false true false false) := by
  refine returnsInHanded_of_change (C := Try.checked) own started (by kernel_rfl) Try.func6
    (ChangeSpec.witness6 (enc := enc) (C := Try.checked) false ⟨#[], #[.slice none 0 0], []⟩ 8 (by kernel_rfl) (by kernel_rfl) (by kernel_rfl) (by kernel_rfl)) ?_
  intro W base args ds gs before hval0 hW hcnd _
  have hW' := hW
  obtain ⟨p, q, hA, hV, rfl, hfz, hnd⟩ := hW
  have hA' : DataW.TrodAll enc Try.prog W 0 (fun _ => true) true Try.f6.params.toList args.toList ds p := hA
  obtain ⟨rfl, rfl⟩ := trodVars_none hV
  have walk := law_calls (m := 6) (P := Try.prog) (W := W) shapes (fun j t v ht hv => hval0 j t v (by simpa using ht) (by simpa using hv)) hA' con
  refine walk.mono fun e W' ⟨he, bel⟩ => ?_
  subst he
  have kept := trodAll_stays laidOut bel (by kernel_rfl) hA'
  rw [Try.params6] at hA'
  obtain ⟨v0, vs0, d0, ds0, p0, q0, hargs, rfl, rfl, h0, r0⟩ := trodAll_cons hA'
  obtain ⟨rfl, rfl, rfl⟩ := trodAll_nil r0
  obtain rfl : args = #[v0] := by cases args; simp_all
  exact ⟨_, rfl, _, _, _, [], _, [], hW', trodAll_mk1 (shut_bool Try.underlying4 _), kept, rfl, bel.frame _, fun h => by cases h⟩

theorem over : Rows.auditChecksRow.holds Try.pinned (OpenSpec.ofChange Rows.auditChecksSpec) :=
  OpenClaim.holds_of_wide 6 Try.f6 rfl rfl rfl rfl rfl rfl rfl ⟨rfl, rfl, rfl, rfl, rfl⟩ rfl rfl rfl rfl rfl (by kernel_rfl) Try.func6 (by kernel_rfl)
    (of_decide_eq_true (by kernel_rfl)) (by unfold Func.isWrapper; first | (rw [if_pos (by decide +kernel)]; kernel_rfl) | (rw [if_neg (by decide +kernel)]; exact ⟨rfl, rfl⟩))
    (fun os started H enc _ => lifted os started H enc)
end Go.Proofs.YtbgdkaahcfmaeaaK.AuditChecks
namespace Go.Proofs.Ytbgdkaahcfmaeaa

/-- The law, under a short name. -/
theorem auditChecks_holds : Rows.AuditChecksSaid := YtbgdkaahcfmaeaaK.AuditChecks.over
#print axioms auditChecks_holds
end Go.Proofs.Ytbgdkaahcfmaeaa
