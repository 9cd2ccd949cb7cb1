/- The law PinsTexts, proved. Printed by a program of this work. -/
import Derived.Test.YthhjooegpjgicaaDoorRows
import Derived.Test.YthhjooegpjgicaaDoorRh
import Derived.Test.YthhjooegpjgicaaDoorG6
import Derived.Test.YthhjooegpjgicaaDoorUPtx2
import Derived.WalkKit
import Derived.ProofKit
import Derived.OpenShut
import Derived.ShutString
import Derived.ChangeOld
import Derived.Below
import Derived.SizedLaws
import Derived.Lay
import Derived.LaidMore
import Derived.LaidLaws
import Derived.Test.YthhjooegpjgicaaDoorTie
import Derived.Test.YthhjooegpjgicaaDoorCards
namespace Go.Proofs.YthhjooegpjgicaaDoorK.PinsTexts
set_option linter.unusedVariables false
set_option linter.unusedSimpArgs false
set_option maxHeartbeats 4000000
open Go.ChangeShapes Go.WideShapes Go.ChangeAt Go.RowKit Go.Proofs.YthhjooegpjgicaaDoor Go.Proofs.YthhjooegpjgicaaDoorK

theorem own : ownKnob Tryd.prog.godebug = none := by kernel_rfl
theorem laidOut : laidOutB Tryd.prog = true := by kernel_rfl
def api_Pins.ok (x : api_Pins) : Prop := (True) ∧ (True) ∧ (True) ∧ (True) ∧ (True) ∧ (True)
abbrev api_Pins.sh : Sh := .st [.bool, .bool, .bool, .bool, .bool, .bool]
theorem api_Pins.dec (xs : List V) (h : Fit api_Pins.sh xs) : ∃ a : api_Pins, xs = api_Pins.v a ∧ api_Pins.ok a := by
  rw [api_Pins.sh, fit_st] at h
  simp only [fitL_cons, fitL_nil] at h
  obtain ⟨_, _, rfl, h0, _, _, rfl, h1, _, _, rfl, h2, _, _, rfl, h3, _, _, rfl, h4, _, _, rfl, h5, rfl⟩ := h
  obtain ⟨a0, rfl, k0⟩ := dec_bool h0
  obtain ⟨a1, rfl, k1⟩ := dec_bool h1
  obtain ⟨a2, rfl, k2⟩ := dec_bool h2
  obtain ⟨a3, rfl, k3⟩ := dec_bool h3
  obtain ⟨a4, rfl, k4⟩ := dec_bool h4
  obtain ⟨a5, rfl, k5⟩ := dec_bool h5
  exact ⟨⟨a0, a1, a2, a3, a4, a5⟩, rfl, k0, k1, k2, k3, k4, k5⟩
theorem shapes : Tryd.f4.params.toList.map (shp Tryd.prog 9) = [(.sl 6 (api_Pins.sh) : Sh)].map some := by kernel_rfl

theorem con (xs : List V) (h : FitVs [(.sl 6 (api_Pins.sh) : Sh)] xs) : Con Tryd.prog 4 xs [] (.s (.bool true)) [] := by
  simp only [FitVs] at h
  obtain ⟨x0, _, rfl, h0, rfl⟩ := h
  obtain ⟨a0, rfl, k0⟩ := arg_sl (g := api_Pins.v) (ok := (fun a => api_Pins.ok a)) (b := 6) (fun _ h => (api_Pins.dec _) h) h0
  exact con_pure (spinetlaw31_PinsTexts_ok a0 true (pinsTexts_true a0))

set_option maxRecDepth 100000 in
theorem lifted (os : Os) (started : os.Started) (H : Type) (enc : TypeId × Value → H) :
    ReturnsInHanded {} Tryd.checked os 4 .any (fun w args => (Rows.pinsTextsSpec.pre enc Tryd.prog Tryd.f4 Rows.pinsTextsRow.domain false w args ∧ laidMetH Tryd.prog Rows.pinsTextsRow.laid w) ∧ sizedMet enc Tryd.prog Tryd.f4 (OpenSpec.ofChange Rows.pinsTextsSpec) false w args)
      (Rows.pinsTextsSpec.post enc Tryd.prog Tryd.f4 false true false false) := by
  refine returnsInHanded_of_change_and (C := Tryd.checked) (X := fun w _ => laidMetH Tryd.prog Rows.pinsTextsRow.laid w) (fun _ _ _ hh h => h.of_heap hh) own started (by kernel_rfl) Tryd.func4
    (ChangeSpec.witness_shaped (enc := enc) (C := Tryd.checked) (os := os) (X := fun w _ => laidMetH Tryd.prog Rows.pinsTextsRow.laid w) false (World.laidAll Tryd.prog os Rows.pinsTextsRow.laid) #[.slice none 0 0] 8 (World.laidAll_os _ _ _)
      (World.shaped_of_ZipB (by kernel_rfl) (by kernel_rfl)) (by kernel_rfl) (by kernel_rfl) (by kernel_rfl)
      (by rw [MakeChecks.laidMetH_plain _ _ _ (by kernel_rfl)]; exact laidMet_laidAll _ (by kernel_rfl) (by kernel_rfl))) ?_
  intro W base args ds gs before hval0 hW hcnd hwt hL _
  have hW' := hW
  obtain ⟨p, q, hA, hV, rfl, hfz, hnd⟩ := hW
  have hA' : DataW.TrodAll enc Tryd.prog W 0 (fun _ => true) true Tryd.f4.params.toList args.toList ds p := hA
  obtain ⟨rfl, rfl⟩ := trodVars_none hV
  have walk := law_calls (m := 4) (P := Tryd.prog) (W := W) shapes (fun j t v ht hv => hval0 j t v (by simpa using ht) (by simpa using hv)) hA' hwt con
  refine walk.mono fun e W' ⟨he, bel⟩ => ?_
  subst he
  have kept := trodAll_stays laidOut bel (by kernel_rfl) hA'
  rw [Tryd.params4] at hA'
  obtain ⟨v0, vs0, d0, ds0, p0, q0, hargs, rfl, rfl, h0, r0⟩ := trodAll_cons hA'
  obtain ⟨rfl, rfl, rfl⟩ := trodAll_nil r0
  obtain rfl : args = #[v0] := by cases args; simp_all
  exact ⟨_, rfl, _, _, _, [], _, [], hW', trodAll_mk1 (shut_bool Tryd.underlying4 _) , kept, rfl, bel.frame _, fun h => by cases h⟩

theorem over : Rows.pinsTextsRow.holds Tryd.pinned (OpenSpec.ofChange Rows.pinsTextsSpec) :=
  OpenClaim.holds_of_wide 4 Tryd.f4 rfl rfl rfl rfl rfl rfl rfl ⟨rfl, rfl, rfl, rfl, rfl⟩ rfl rfl rfl rfl rfl (by kernel_rfl) Tryd.func4 (by kernel_rfl)
    (of_decide_eq_true (by kernel_rfl)) (by unfold Func.isWrapper; first | (rw [if_pos (by decide +kernel)]; kernel_rfl) | (rw [if_neg (by decide +kernel)]; exact ⟨rfl, rfl⟩))
    (fun os started H enc _ => lifted os started H enc)
end Go.Proofs.YthhjooegpjgicaaDoorK.PinsTexts
namespace Go.Proofs.YthhjooegpjgicaaDoor

set_option maxRecDepth 100000 in
/-- The law, as a tied card, under a short name. -/
theorem pinsTexts_holds : Rows.PinsTextsCardSaid :=
  Claim7.holds_tied_plain_at .later [] [.data, .pinned] true (true, "795a5d1b5df7442ec29a45f80f45c77e43bfd48cb45719754281181f271f14a0") false
    YthhjooegpjgicaaDoorK.PinsTexts.over (fun _ h => by cases h) (by kernel_rfl) (fun _ h => by cases h) pinsTexts_row_tie rfl ⟨rfl, rfl⟩ (by kernel_rfl) rfl
    (fun f fn hf hfn => by
      obtain rfl : f = 4 := Option.some.inj ((show Tryd.prog.funcNamed "spinet/spinetlaw31.PinsTexts" = some 4 by kernel_rfl).symm.trans hf) |>.symm
      obtain rfl : fn = Tryd.f4 := (Option.some.inj (Tryd.func4.symm.trans hfn)).symm
      exact ⟨by kernel_rfl, fun j t ht => by
        rw [Tryd.params4] at ht
        have hm : t ∈ [22] := by simpa using Array.mem_of_getElem? ht
        have hall : ([22].all fun u => !Tryd.prog.wantsStandIn u) = true := by kernel_rfl
        exact (show Tryd.prog.wantsStandIn t = false by simpa using List.all_eq_true.1 hall t hm)⟩)
    (by kernel_rfl)
#print axioms pinsTexts_holds
end Go.Proofs.YthhjooegpjgicaaDoor
