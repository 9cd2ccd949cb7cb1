/- The law ListsParts, proved. Printed by a program of this work. -/
import Derived.Test.YtiedenhkailolaaDoorRows
import Derived.Test.YtiedenhkailolaaDoorRh
import Derived.Test.YtiedenhkailolaaDoorG4
import Derived.Test.YtiedenhkailolaaDoorUPrt
import Derived.WalkKit
import Derived.ProofKit
import Derived.OpenShut
import Derived.ShutString
import Derived.ChangeOld
import Derived.Below
import Derived.SizedLaws
import Derived.Lay
import Derived.LaidMore
import Derived.LaidLaws
import Derived.Test.YtiedenhkailolaaDoorTie
import Derived.Test.YtiedenhkailolaaDoorCards
namespace Go.Proofs.YtiedenhkailolaaDoorK.ListsParts
set_option linter.unusedVariables false
set_option linter.unusedSimpArgs false
set_option maxHeartbeats 4000000
open Go.ChangeShapes Go.WideShapes Go.ChangeAt Go.RowKit Go.Proofs.YtiedenhkailolaaDoor Go.Proofs.YtiedenhkailolaaDoorK

theorem own : ownKnob Tryd.prog.godebug = none := by kernel_rfl
theorem laidOut : laidOutB Tryd.prog = true := by kernel_rfl
def api_Regs.ok (x : api_Regs) : Prop := (okI .u8 x.A) ∧ (okI .u8 x.B) ∧ (okI .u8 x.DP) ∧ (okI .u8 x.CC) ∧ (okI .u16 x.X) ∧ (okI .u16 x.Y) ∧ (okI .u16 x.U) ∧ (okI .u16 x.S) ∧ (okI .u16 x.PC)
abbrev api_Regs.sh : Sh := .st [.int .u8, .int .u8, .int .u8, .int .u8, .int .u16, .int .u16, .int .u16, .int .u16, .int .u16]
theorem api_Regs.dec (xs : List V) (h : Fit api_Regs.sh xs) : ∃ a : api_Regs, xs = api_Regs.v a ∧ api_Regs.ok a := by
  rw [api_Regs.sh, fit_st] at h
  simp only [fitL_cons, fitL_nil] at h
  obtain ⟨_, _, rfl, h0, _, _, rfl, h1, _, _, rfl, h2, _, _, rfl, h3, _, _, rfl, h4, _, _, rfl, h5, _, _, rfl, h6, _, _, rfl, h7, _, _, rfl, h8, rfl⟩ := h
  obtain ⟨a0, rfl, k0⟩ := dec_int h0
  obtain ⟨a1, rfl, k1⟩ := dec_int h1
  obtain ⟨a2, rfl, k2⟩ := dec_int h2
  obtain ⟨a3, rfl, k3⟩ := dec_int h3
  obtain ⟨a4, rfl, k4⟩ := dec_int h4
  obtain ⟨a5, rfl, k5⟩ := dec_int h5
  obtain ⟨a6, rfl, k6⟩ := dec_int h6
  obtain ⟨a7, rfl, k7⟩ := dec_int h7
  obtain ⟨a8, rfl, k8⟩ := dec_int h8
  exact ⟨⟨a0, a1, a2, a3, a4, a5, a6, a7, a8⟩, rfl, k0, k1, k2, k3, k4, k5, k6, k7, k8⟩
def lists_Part.ok (x : lists_Part) : Prop := (okI .i64 x.Reg) ∧ (True)
abbrev lists_Part.sh : Sh := .st [.int .i64, .bool]
theorem lists_Part.dec (xs : List V) (h : Fit lists_Part.sh xs) : ∃ a : lists_Part, xs = lists_Part.v a ∧ lists_Part.ok a := by
  rw [lists_Part.sh, fit_st] at h
  simp only [fitL_cons, fitL_nil] at h
  obtain ⟨_, _, rfl, h0, _, _, rfl, h1, rfl⟩ := h
  obtain ⟨a0, rfl, k0⟩ := dec_int h0
  obtain ⟨a1, rfl, k1⟩ := dec_bool h1
  exact ⟨⟨a0, a1⟩, rfl, k0, k1⟩
theorem shapes : Tryd.f5.params.toList.map (shp Tryd.prog 9) = [(api_Regs.sh : Sh), (lists_Part.sh : Sh), (.int .u8 : Sh)].map some := by kernel_rfl

theorem con (xs : List V) (h : FitVs [(api_Regs.sh : Sh), (lists_Part.sh : Sh), (.int .u8 : Sh)] xs) : Con Tryd.prog 5 xs [] (.s (.bool true)) [] := by
  simp only [FitVs] at h
  obtain ⟨x0, _, rfl, h0, x1, _, rfl, h1, x2, _, rfl, h2, rfl⟩ := h
  obtain ⟨a0, rfl, k0⟩ := arg_st (g := api_Regs.v) (ok := api_Regs.ok) api_Regs.dec h0
  obtain ⟨a1, rfl, k1⟩ := arg_st (g := lists_Part.v) (ok := lists_Part.ok) lists_Part.dec h1
  obtain ⟨a2, rfl, k2⟩ := arg_int h2
  exact con_pure (spinetlaw17_ListsParts_ok a0 a1 a2 true (listsParts_true a0 a1 a2 ⟨okI_u8 k0.1, okI_u8 k0.2.1, okI_u8 k0.2.2.2.1, okI_u8 k0.2.2.1, okI_u16 k0.2.2.2.2.1, okI_u16 k0.2.2.2.2.2.1, okI_u16 k0.2.2.2.2.2.2.1, okI_u16 k0.2.2.2.2.2.2.2.1, okI_u16 k0.2.2.2.2.2.2.2.2⟩ (okI_u8 k2)))

set_option maxRecDepth 100000 in
theorem lifted (os : Os) (started : os.Started) (H : Type) (enc : TypeId × Value → H) :
    ReturnsInHanded {} Tryd.checked os 5 .any (fun w args => (Rows.listsPartsSpec.pre enc Tryd.prog Tryd.f5 Rows.listsPartsRow.domain false w args ∧ laidMetH Tryd.prog Rows.listsPartsRow.laid w) ∧ sizedMet enc Tryd.prog Tryd.f5 (OpenSpec.ofChange Rows.listsPartsSpec) false w args)
      (Rows.listsPartsSpec.post enc Tryd.prog Tryd.f5 false true false false) := by
  refine returnsInHanded_of_change_and (C := Tryd.checked) (X := fun w _ => laidMetH Tryd.prog Rows.listsPartsRow.laid w) (fun _ _ _ hh h => h.of_heap hh) own started (by kernel_rfl) Tryd.func5
    (ChangeSpec.witness_shaped (enc := enc) (C := Tryd.checked) (os := os) (X := fun w _ => laidMetH Tryd.prog Rows.listsPartsRow.laid w) false (World.laidAll Tryd.prog os Rows.listsPartsRow.laid) #[.agg #[.int .u8 0, .int .u8 0, .int .u8 0, .int .u8 0, .int .u16 0, .int .u16 0, .int .u16 0, .int .u16 0, .int .u16 0], .agg #[.int .i64 0, .bool false], .int .u8 0] 8 (World.laidAll_os _ _ _)
      (World.shaped_of_ZipB (by kernel_rfl) (by kernel_rfl)) (by kernel_rfl) (by kernel_rfl) (by kernel_rfl)
      (by rw [MakeChecks.laidMetH_plain _ _ _ (by kernel_rfl)]; exact laidMet_laidAll _ (by kernel_rfl) (by kernel_rfl))) ?_
  intro W base args ds gs before hval0 hW hcnd hwt hL _
  have hW' := hW
  obtain ⟨p, q, hA, hV, rfl, hfz, hnd⟩ := hW
  have hA' : DataW.TrodAll enc Tryd.prog W 0 (fun _ => true) true Tryd.f5.params.toList args.toList ds p := hA
  obtain ⟨rfl, rfl⟩ := trodVars_none hV
  have walk := law_calls (m := 5) (P := Tryd.prog) (W := W) shapes (fun j t v ht hv => hval0 j t v (by simpa using ht) (by simpa using hv)) hA' hwt con
  refine walk.mono fun e W' ⟨he, bel⟩ => ?_
  subst he
  have kept := trodAll_stays laidOut bel (by kernel_rfl) hA'
  rw [Tryd.params5] at hA'
  obtain ⟨v0, vs0, d0, ds0, p0, q0, hargs, rfl, rfl, h0, r0⟩ := trodAll_cons hA'
  obtain ⟨v1, vs1, d1, ds1, p1, q1, rfl, rfl, rfl, h1, r1⟩ := trodAll_cons r0
  obtain ⟨v2, vs2, d2, ds2, p2, q2, rfl, rfl, rfl, h2, r2⟩ := trodAll_cons r1
  obtain ⟨rfl, rfl, rfl⟩ := trodAll_nil r2
  obtain rfl : args = #[v0, v1, v2] := by cases args; simp_all
  exact ⟨_, rfl, _, _, _, [], _, [], hW', trodAll_mk1 (shut_bool Tryd.underlying4 _) , kept, rfl, bel.frame _, fun h => by cases h⟩

theorem over : Rows.listsPartsRow.holds Tryd.pinned (OpenSpec.ofChange Rows.listsPartsSpec) :=
  OpenClaim.holds_of_wide 5 Tryd.f5 rfl rfl rfl rfl rfl rfl rfl ⟨rfl, rfl, rfl, rfl, rfl⟩ rfl rfl rfl rfl rfl (by kernel_rfl) Tryd.func5 (by kernel_rfl)
    (of_decide_eq_true (by kernel_rfl)) (by unfold Func.isWrapper; first | (rw [if_pos (by decide +kernel)]; kernel_rfl) | (rw [if_neg (by decide +kernel)]; exact ⟨rfl, rfl⟩))
    (fun os started H enc _ => lifted os started H enc)
end Go.Proofs.YtiedenhkailolaaDoorK.ListsParts
namespace Go.Proofs.YtiedenhkailolaaDoor

set_option maxRecDepth 100000 in
/-- The law, as a tied card, under a short name. -/
theorem listsParts_holds : Rows.ListsPartsCardSaid :=
  Claim7.holds_tied_plain_at .later [] [.data, .pinned] true (true, "2a8f656e0e562bf78ff29ab30168b3ceec783b08757698b1e0bef79875ce8fa5") false
    YtiedenhkailolaaDoorK.ListsParts.over (fun _ h => by cases h) (by kernel_rfl) (fun _ h => by cases h) listsParts_row_tie rfl ⟨rfl, rfl⟩ (by kernel_rfl) rfl
    (fun f fn hf hfn => by
      obtain rfl : f = 5 := Option.some.inj ((show Tryd.prog.funcNamed "spinet/spinetlaw17.ListsParts" = some 5 by kernel_rfl).symm.trans hf) |>.symm
      obtain rfl : fn = Tryd.f5 := (Option.some.inj (Tryd.func5.symm.trans hfn)).symm
      exact ⟨by kernel_rfl, fun j t ht => by
        rw [Tryd.params5] at ht
        have hm : t ∈ [42, 37, 5] := by simpa using Array.mem_of_getElem? ht
        have hall : ([42, 37, 5].all fun u => !Tryd.prog.wantsStandIn u) = true := by kernel_rfl
        exact (show Tryd.prog.wantsStandIn t = false by simpa using List.all_eq_true.1 hall t hm)⟩)
    (by kernel_rfl)
#print axioms listsParts_holds
end Go.Proofs.YtiedenhkailolaaDoor
