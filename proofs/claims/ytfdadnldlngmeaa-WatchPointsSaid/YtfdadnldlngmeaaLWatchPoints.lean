/- The law WatchPoints, proved. Printed by a program of this work. -/
import Derived.Test.YtfdadnldlngmeaaRows
import Derived.Test.YtfdadnldlngmeaaRh
import Derived.Test.YtfdadnldlngmeaaG4
import Derived.Test.YtfdadnldlngmeaaUWp
import Derived.WalkKit
import Derived.ProofKit
import Derived.OpenShut
import Derived.ShutString
import Derived.ChangeOld
import Derived.Below
import Derived.SizedLaws
namespace Go.Proofs.YtfdadnldlngmeaaK.WatchPoints
set_option linter.unusedVariables false
set_option linter.unusedSimpArgs false
set_option maxHeartbeats 4000000
open Go.ChangeShapes Go.WideShapes Go.ChangeAt Go.RowKit Go.Proofs.Ytfdadnldlngmeaa Go.Proofs.YtfdadnldlngmeaaK

theorem own : ownKnob Try.prog.godebug = none := by kernel_rfl
theorem laidOut : laidOutB Try.prog = true := by kernel_rfl
def watch_Point.ok (x : watch_Point) : Prop := (okI .i64 x.Id) ∧ (okI .i64 x.Kind) ∧ (okI .u16 x.From) ∧ (okI .u16 x.To)
abbrev watch_Point.sh : Sh := .st [.int .i64, .int .i64, .int .u16, .int .u16]
theorem watch_Point.dec (xs : List V) (h : Fit watch_Point.sh xs) : ∃ a : watch_Point, xs = watch_Point.v a ∧ watch_Point.ok a := by
  rw [watch_Point.sh, fit_st] at h
  simp only [fitL_cons, fitL_nil] at h
  obtain ⟨_, _, rfl, h0, _, _, rfl, h1, _, _, rfl, h2, _, _, rfl, h3, rfl⟩ := h
  obtain ⟨a0, rfl, k0⟩ := dec_int h0
  obtain ⟨a1, rfl, k1⟩ := dec_int h1
  obtain ⟨a2, rfl, k2⟩ := dec_int h2
  obtain ⟨a3, rfl, k3⟩ := dec_int h3
  exact ⟨⟨a0, a1, a2, a3⟩, rfl, k0, k1, k2, k3⟩
def spinetlaw49_Op.ok (x : spinetlaw49_Op) : Prop := (True) ∧ (watch_Point.ok x.P)
abbrev spinetlaw49_Op.sh : Sh := .st [.bool, watch_Point.sh]
theorem spinetlaw49_Op.dec (xs : List V) (h : Fit spinetlaw49_Op.sh xs) : ∃ a : spinetlaw49_Op, xs = spinetlaw49_Op.v a ∧ spinetlaw49_Op.ok a := by
  rw [spinetlaw49_Op.sh, fit_st] at h
  simp only [fitL_cons, fitL_nil] at h
  obtain ⟨_, _, rfl, h0, _, _, rfl, h1, rfl⟩ := h
  obtain ⟨a0, rfl, k0⟩ := dec_bool h0
  obtain ⟨a1, rfl, k1⟩ := (watch_Point.dec _) h1
  exact ⟨⟨a0, a1⟩, rfl, k0, k1⟩
def api_Rec.ok (x : api_Rec) : Prop := (okI .u16 x.Addr) ∧ (okI .u8 x.Data) ∧ (True) ∧ (True) ∧ (True) ∧ (True) ∧ (True) ∧ (True) ∧ (True)
abbrev api_Rec.sh : Sh := .st [.int .u16, .int .u8, .bool, .bool, .bool, .bool, .bool, .bool, .bool]
theorem api_Rec.dec (xs : List V) (h : Fit api_Rec.sh xs) : ∃ a : api_Rec, xs = api_Rec.v a ∧ api_Rec.ok a := by
  rw [api_Rec.sh, fit_st] at h
  simp only [fitL_cons, fitL_nil] at h
  obtain ⟨_, _, rfl, h0, _, _, rfl, h1, _, _, rfl, h2, _, _, rfl, h3, _, _, rfl, h4, _, _, rfl, h5, _, _, rfl, h6, _, _, rfl, h7, _, _, rfl, h8, rfl⟩ := h
  obtain ⟨a0, rfl, k0⟩ := dec_int h0
  obtain ⟨a1, rfl, k1⟩ := dec_int h1
  obtain ⟨a2, rfl, k2⟩ := dec_bool h2
  obtain ⟨a3, rfl, k3⟩ := dec_bool h3
  obtain ⟨a4, rfl, k4⟩ := dec_bool h4
  obtain ⟨a5, rfl, k5⟩ := dec_bool h5
  obtain ⟨a6, rfl, k6⟩ := dec_bool h6
  obtain ⟨a7, rfl, k7⟩ := dec_bool h7
  obtain ⟨a8, rfl, k8⟩ := dec_bool h8
  exact ⟨⟨a0, a1, a2, a3, a4, a5, a6, a7, a8⟩, rfl, k0, k1, k2, k3, k4, k5, k6, k7, k8⟩
theorem shapes : Try.f3.params.toList.map (shp Try.prog 9) = [(.sl 32 (spinetlaw49_Op.sh) : Sh), (api_Rec.sh : Sh)].map some := by kernel_rfl

theorem con (xs : List V) (h : FitVs [(.sl 32 (spinetlaw49_Op.sh) : Sh), (api_Rec.sh : Sh)] xs) : Con Try.prog 3 xs [] (.s (.bool true)) [] := by
  simp only [FitVs] at h
  obtain ⟨x0, _, rfl, h0, x1, _, rfl, h1, rfl⟩ := h
  obtain ⟨a0, rfl, k0⟩ := arg_sl (g := spinetlaw49_Op.v) (ok := (fun a => spinetlaw49_Op.ok a)) (b := 32) (fun _ h => (spinetlaw49_Op.dec _) h) h0
  obtain ⟨a1, rfl, k1⟩ := arg_st (g := api_Rec.v) (ok := api_Rec.ok) api_Rec.dec h1
  exact con_pure (spinetlaw49_WatchPoints_ok a0 a1 true (watchPoints_true a0 a1))

set_option maxRecDepth 100000 in
theorem lifted (os : Os) (started : os.Started) (H : Type) (enc : TypeId × Value → H) :
    ReturnsInHanded {} Try.checked os 3 .any (Rows.watchPointsSpec.pre6 enc Try.prog Try.f3 Rows.watchPointsRow.domain false) (Rows.watchPointsSpec.post enc Try.prog Try.f3 false true false false) := by
  refine returnsInHanded_of_change_sized (C := Try.checked) own started (by kernel_rfl) Try.func3
    (ChangeSpec.witness6 (enc := enc) (C := Try.checked) false ⟨#[], #[.slice none 0 0, .agg #[.int .u16 0, .int .u8 0, .bool false, .bool false, .bool false, .bool false, .bool false, .bool false, .bool false]], []⟩ 8 (by kernel_rfl) (by kernel_rfl) (by kernel_rfl) (by kernel_rfl)) ?_
  intro W base args ds gs before hval0 hW hcnd hwt _
  have hgl : ∀ a ∈ GL, ∃ m, W.cell? ⟨a, 0, none⟩ = some (.int .i64 m) := fun a ha => by simp [GL] at ha
  have hW' := hW
  obtain ⟨p, q, hA, hV, rfl, hfz, hnd⟩ := hW
  have hA' : DataW.TrodAll enc Try.prog W 0 (fun _ => true) true Try.f3.params.toList args.toList ds p := hA
  obtain ⟨rfl, rfl⟩ := trodVars_none hV
  have walk := law_calls (m := 3) (P := Try.prog) (W := W) shapes (fun j t v ht hv => hval0 j t v (by simpa using ht) (by simpa using hv)) hA' hwt hgl con
  refine walk.mono fun e W' ⟨he, bel⟩ => ?_
  subst he
  have kept := trodAll_stays laidOut bel (by kernel_rfl) hA'
  rw [Try.params3] at hA'
  obtain ⟨v0, vs0, d0, ds0, p0, q0, hargs, rfl, rfl, h0, r0⟩ := trodAll_cons hA'
  obtain ⟨v1, vs1, d1, ds1, p1, q1, rfl, rfl, rfl, h1, r1⟩ := trodAll_cons r0
  obtain ⟨rfl, rfl, rfl⟩ := trodAll_nil r1
  obtain rfl : args = #[v0, v1] := by cases args; simp_all
  exact ⟨_, rfl, _, _, _, [], _, [], hW', trodAll_mk1 (shut_bool Try.underlying4 _) , kept, rfl, bel.frame _, fun h => by cases h⟩

theorem over : Rows.watchPointsRow.holds Try.pinned (OpenSpec.ofChange Rows.watchPointsSpec) :=
  OpenClaim.holds_of_wide 3 Try.f3 rfl rfl rfl rfl rfl rfl rfl ⟨rfl, rfl, rfl, rfl, rfl⟩ rfl rfl rfl rfl rfl (by kernel_rfl) Try.func3 (by kernel_rfl)
    (of_decide_eq_true (by kernel_rfl)) (by unfold Func.isWrapper; first | (rw [if_pos (by decide +kernel)]; kernel_rfl) | (rw [if_neg (by decide +kernel)]; exact ⟨rfl, rfl⟩))
    (fun os started H enc _ => lifted os started H enc)
end Go.Proofs.YtfdadnldlngmeaaK.WatchPoints
namespace Go.Proofs.Ytfdadnldlngmeaa

/-- The law, under a short name. -/
theorem watchPoints_holds : Rows.WatchPointsSaid := YtfdadnldlngmeaaK.WatchPoints.over
#print axioms watchPoints_holds
end Go.Proofs.Ytfdadnldlngmeaa
