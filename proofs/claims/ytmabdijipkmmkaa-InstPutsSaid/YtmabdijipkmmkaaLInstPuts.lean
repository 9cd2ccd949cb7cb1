/- The law InstPuts, proved. Printed by a program of this work. -/
import Derived.Test.YtmabdijipkmmkaaRows
import Derived.Test.YtmabdijipkmmkaaRh
import Derived.Test.YtmabdijipkmmkaaG9
import Derived.Test.YtmabdijipkmmkaaUPuts
import Derived.WalkKit
import Derived.ProofKit
import Derived.OpenShut
import Derived.ShutString
import Derived.ChangeOld
import Derived.Below
import Derived.SizedLaws
namespace Go.Proofs.YtmabdijipkmmkaaK.InstPuts
set_option linter.unusedVariables false
set_option linter.unusedSimpArgs false
set_option maxHeartbeats 4000000
open Go.ChangeShapes Go.WideShapes Go.ChangeAt Go.RowKit Go.Proofs.Ytmabdijipkmmkaa Go.Proofs.YtmabdijipkmmkaaK

theorem own : ownKnob Try.prog.godebug = none := by kernel_rfl
theorem laidOut : laidOutB Try.prog = true := by kernel_rfl
def api_Entry.ok (x : api_Entry) : Prop := (okI .i64 x.Op) ∧ (okI .i64 x.Mode) ∧ (okI .i64 x.Reg)
abbrev api_Entry.sh : Sh := .st [.int .i64, .int .i64, .int .i64]
theorem api_Entry.dec (xs : List V) (h : Fit api_Entry.sh xs) : ∃ a : api_Entry, xs = api_Entry.v a ∧ api_Entry.ok a := by
  rw [api_Entry.sh, fit_st] at h
  simp only [fitL_cons, fitL_nil] at h
  obtain ⟨_, _, rfl, h0, _, _, rfl, h1, _, _, rfl, h2, rfl⟩ := h
  obtain ⟨a0, rfl, k0⟩ := dec_int h0
  obtain ⟨a1, rfl, k1⟩ := dec_int h1
  obtain ⟨a2, rfl, k2⟩ := dec_int h2
  exact ⟨⟨a0, a1, a2⟩, rfl, k0, k1, k2⟩
def api_Inst.ok (x : api_Inst) : Prop := (okI .i64 x.Page) ∧ (okI .u8 x.Code) ∧ (api_Entry.ok x.Entry) ∧ (okI .u8 x.Post) ∧ (okI .u16 x.Value) ∧ (okI .i64 x.Len)
abbrev api_Inst.sh : Sh := .st [.int .i64, .int .u8, api_Entry.sh, .int .u8, .int .u16, .int .i64]
theorem api_Inst.dec (xs : List V) (h : Fit api_Inst.sh xs) : ∃ a : api_Inst, xs = api_Inst.v a ∧ api_Inst.ok a := by
  rw [api_Inst.sh, fit_st] at h
  simp only [fitL_cons, fitL_nil] at h
  obtain ⟨_, _, rfl, h0, _, _, rfl, h1, _, _, rfl, h2, _, _, rfl, h3, _, _, rfl, h4, _, _, rfl, h5, rfl⟩ := h
  obtain ⟨a0, rfl, k0⟩ := dec_int h0
  obtain ⟨a1, rfl, k1⟩ := dec_int h1
  obtain ⟨a2, rfl, k2⟩ := (api_Entry.dec _) h2
  obtain ⟨a3, rfl, k3⟩ := dec_int h3
  obtain ⟨a4, rfl, k4⟩ := dec_int h4
  obtain ⟨a5, rfl, k5⟩ := dec_int h5
  exact ⟨⟨a0, a1, a2, a3, a4, a5⟩, rfl, k0, k1, k2, k3, k4, k5⟩
theorem shapes : Try.f4.params.toList.map (shp Try.prog 9) = [(api_Inst.sh : Sh), (.sl 1 (.int .u8) : Sh)].map some := by kernel_rfl

theorem con (xs : List V) (h : FitVs [(api_Inst.sh : Sh), (.sl 1 (.int .u8) : Sh)] xs) : Con Try.prog 4 xs [] (.s (.bool true)) [] := by
  simp only [FitVs] at h
  obtain ⟨x0, _, rfl, h0, x1, _, rfl, h1, rfl⟩ := h
  obtain ⟨a0, rfl, k0⟩ := arg_st (g := api_Inst.v) (ok := api_Inst.ok) api_Inst.dec h0
  obtain ⟨a1, rfl, k1⟩ := arg_sl (g := (nI .u8)) (ok := (fun a => okI .u8 a)) (b := 1) (fun _ h => dec_int h) h1
  exact con_pure (spinetlaw18_InstPuts_ok a0 a1 true (instPuts_true a0 a1 k0.2.1 k0.2.2.2.1 k0.2.2.2.2.1 k1.1))

set_option maxRecDepth 100000 in
theorem lifted (os : Os) (started : os.Started) (H : Type) (enc : TypeId × Value → H) :
    ReturnsInHanded {} Try.checked os 4 .any (Rows.instPutsSpec.pre6 enc Try.prog Try.f4 Rows.instPutsRow.domain false) (Rows.instPutsSpec.post enc Try.prog Try.f4 false true false false) := by
  refine returnsInHanded_of_change_sized (C := Try.checked) own started (by kernel_rfl) Try.func4
    (ChangeSpec.witness6 (enc := enc) (C := Try.checked) false ⟨#[], #[.agg #[.int .i64 0, .int .u8 0, .int .i64 0, .int .i64 0, .int .i64 0, .int .u8 0, .int .u16 0, .int .i64 0], .slice none 0 0], []⟩ 8 (by kernel_rfl) (by kernel_rfl) (by kernel_rfl) (by kernel_rfl)) ?_
  intro W base args ds gs before hval0 hW hcnd hwt _
  have hW' := hW
  obtain ⟨p, q, hA, hV, rfl, hfz, hnd⟩ := hW
  have hA' : DataW.TrodAll enc Try.prog W 0 (fun _ => true) true Try.f4.params.toList args.toList ds p := hA
  obtain ⟨rfl, rfl⟩ := trodVars_none hV
  have walk := law_calls (m := 4) (P := Try.prog) (W := W) shapes (fun j t v ht hv => hval0 j t v (by simpa using ht) (by simpa using hv)) hA' hwt con
  refine walk.mono fun e W' ⟨he, bel⟩ => ?_
  subst he
  have kept := trodAll_stays laidOut bel (by kernel_rfl) hA'
  rw [Try.params4] at hA'
  obtain ⟨v0, vs0, d0, ds0, p0, q0, hargs, rfl, rfl, h0, r0⟩ := trodAll_cons hA'
  obtain ⟨v1, vs1, d1, ds1, p1, q1, rfl, rfl, rfl, h1, r1⟩ := trodAll_cons r0
  obtain ⟨rfl, rfl, rfl⟩ := trodAll_nil r1
  obtain rfl : args = #[v0, v1] := by cases args; simp_all
  exact ⟨_, rfl, _, _, _, [], _, [], hW', trodAll_mk1 (shut_bool Try.underlying4 _) , kept, rfl, bel.frame _, fun h => by cases h⟩

theorem over : Rows.instPutsRow.holds Try.pinned (OpenSpec.ofChange Rows.instPutsSpec) :=
  OpenClaim.holds_of_wide 4 Try.f4 rfl rfl rfl rfl rfl rfl rfl ⟨rfl, rfl, rfl, rfl, rfl⟩ rfl rfl rfl rfl rfl (by kernel_rfl) Try.func4 (by kernel_rfl)
    (of_decide_eq_true (by kernel_rfl)) (by unfold Func.isWrapper; first | (rw [if_pos (by decide +kernel)]; kernel_rfl) | (rw [if_neg (by decide +kernel)]; exact ⟨rfl, rfl⟩))
    (fun os started H enc _ => lifted os started H enc)
end Go.Proofs.YtmabdijipkmmkaaK.InstPuts
namespace Go.Proofs.Ytmabdijipkmmkaa

/-- The law, under a short name. -/
theorem instPuts_holds : Rows.InstPutsSaid := YtmabdijipkmmkaaK.InstPuts.over
#print axioms instPuts_holds
end Go.Proofs.Ytmabdijipkmmkaa
