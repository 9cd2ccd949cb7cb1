/- The law ListsTexts, proved. Printed by a program of this work. -/
import Derived.Test.YtiedenhkailolaaDoorRows
import Derived.Test.YtiedenhkailolaaDoorRh
import Derived.Test.YtiedenhkailolaaDoorG3
import Derived.Test.YtiedenhkailolaaDoorULtx
import Derived.WalkKit
import Derived.ProofKit
import Derived.OpenShut
import Derived.ShutString
import Derived.ChangeOld
import Derived.Below
import Derived.SizedLaws
import Derived.Lay
import Derived.LaidMore
import Derived.LaidLaws
import Derived.Test.YtiedenhkailolaaDoorTie
import Derived.Test.YtiedenhkailolaaDoorCards
namespace Go.Proofs.YtiedenhkailolaaDoorK.ListsTexts
set_option linter.unusedVariables false
set_option linter.unusedSimpArgs false
set_option maxHeartbeats 4000000
open Go.ChangeShapes Go.WideShapes Go.ChangeAt Go.RowKit Go.Proofs.YtiedenhkailolaaDoor Go.Proofs.YtiedenhkailolaaDoorK

theorem own : ownKnob Tryd.prog.godebug = none := by kernel_rfl
theorem laidOut : laidOutB Tryd.prog = true := by kernel_rfl
theorem shapes : Tryd.f6.params.toList.map (shp Tryd.prog 9) = [(.int .u8 : Sh), (.int .i64 : Sh)].map some := by kernel_rfl

theorem con (xs : List V) (h : FitVs [(.int .u8 : Sh), (.int .i64 : Sh)] xs) : Con Tryd.prog 6 xs [] (.s (.bool true)) [] := by
  simp only [FitVs] at h
  obtain ⟨x0, _, rfl, h0, x1, _, rfl, h1, rfl⟩ := h
  obtain ⟨a0, rfl, k0⟩ := arg_int h0
  obtain ⟨a1, rfl, k1⟩ := arg_int h1
  exact con_pure (spinetlaw17_ListsTexts_ok a0 a1 true (listsTexts_true a0 a1 (okI_u8 k0).1 (okI_u8 k0).2))

set_option maxRecDepth 100000 in
theorem lifted (os : Os) (started : os.Started) (H : Type) (enc : TypeId × Value → H) :
    ReturnsInHanded {} Tryd.checked os 6 .any (fun w args => (Rows.listsTextsSpec.pre enc Tryd.prog Tryd.f6 Rows.listsTextsRow.domain false w args ∧ laidMetH Tryd.prog Rows.listsTextsRow.laid w) ∧ sizedMet enc Tryd.prog Tryd.f6 (OpenSpec.ofChange Rows.listsTextsSpec) false w args)
      (Rows.listsTextsSpec.post enc Tryd.prog Tryd.f6 false true false false) := by
  refine returnsInHanded_of_change_and (C := Tryd.checked) (X := fun w _ => laidMetH Tryd.prog Rows.listsTextsRow.laid w) (fun _ _ _ hh h => h.of_heap hh) own started (by kernel_rfl) Tryd.func6
    (ChangeSpec.witness_shaped (enc := enc) (C := Tryd.checked) (os := os) (X := fun w _ => laidMetH Tryd.prog Rows.listsTextsRow.laid w) false (World.laidAll Tryd.prog os Rows.listsTextsRow.laid) #[.int .u8 0, .int .i64 0] 8 (World.laidAll_os _ _ _)
      (World.shaped_of_ZipB (by kernel_rfl) (by kernel_rfl)) (by kernel_rfl) (by kernel_rfl) (by kernel_rfl)
      (by rw [MakeChecks.laidMetH_plain _ _ _ (by kernel_rfl)]; exact laidMet_laidAll _ (by kernel_rfl) (by kernel_rfl))) ?_
  intro W base args ds gs before hval0 hW hcnd hwt hL _
  have hW' := hW
  obtain ⟨p, q, hA, hV, rfl, hfz, hnd⟩ := hW
  have hA' : DataW.TrodAll enc Tryd.prog W 0 (fun _ => true) true Tryd.f6.params.toList args.toList ds p := hA
  obtain ⟨rfl, rfl⟩ := trodVars_none hV
  have walk := law_calls (m := 6) (P := Tryd.prog) (W := W) shapes (fun j t v ht hv => hval0 j t v (by simpa using ht) (by simpa using hv)) hA' hwt con
  refine walk.mono fun e W' ⟨he, bel⟩ => ?_
  subst he
  have kept := trodAll_stays laidOut bel (by kernel_rfl) hA'
  rw [Tryd.params6] at hA'
  obtain ⟨v0, vs0, d0, ds0, p0, q0, hargs, rfl, rfl, h0, r0⟩ := trodAll_cons hA'
  obtain ⟨v1, vs1, d1, ds1, p1, q1, rfl, rfl, rfl, h1, r1⟩ := trodAll_cons r0
  obtain ⟨rfl, rfl, rfl⟩ := trodAll_nil r1
  obtain rfl : args = #[v0, v1] := by cases args; simp_all
  exact ⟨_, rfl, _, _, _, [], _, [], hW', trodAll_mk1 (shut_bool Tryd.underlying4 _) , kept, rfl, bel.frame _, fun h => by cases h⟩

theorem over : Rows.listsTextsRow.holds Tryd.pinned (OpenSpec.ofChange Rows.listsTextsSpec) :=
  OpenClaim.holds_of_wide 6 Tryd.f6 rfl rfl rfl rfl rfl rfl rfl ⟨rfl, rfl, rfl, rfl, rfl⟩ rfl rfl rfl rfl rfl (by kernel_rfl) Tryd.func6 (by kernel_rfl)
    (of_decide_eq_true (by kernel_rfl)) (by unfold Func.isWrapper; first | (rw [if_pos (by decide +kernel)]; kernel_rfl) | (rw [if_neg (by decide +kernel)]; exact ⟨rfl, rfl⟩))
    (fun os started H enc _ => lifted os started H enc)
end Go.Proofs.YtiedenhkailolaaDoorK.ListsTexts
namespace Go.Proofs.YtiedenhkailolaaDoor

set_option maxRecDepth 100000 in
/-- The law, as a tied card, under a short name. -/
theorem listsTexts_holds : Rows.ListsTextsCardSaid :=
  Claim7.holds_tied_plain_at .later [] [.data, .pinned] true (true, "2a8f656e0e562bf78ff29ab30168b3ceec783b08757698b1e0bef79875ce8fa5") false
    YtiedenhkailolaaDoorK.ListsTexts.over (fun _ h => by cases h) (by kernel_rfl) (fun _ h => by cases h) listsTexts_row_tie rfl ⟨rfl, rfl⟩ (by kernel_rfl) rfl
    (fun f fn hf hfn => by
      obtain rfl : f = 6 := Option.some.inj ((show Tryd.prog.funcNamed "spinet/spinetlaw17.ListsTexts" = some 6 by kernel_rfl).symm.trans hf) |>.symm
      obtain rfl : fn = Tryd.f6 := (Option.some.inj (Tryd.func6.symm.trans hfn)).symm
      exact ⟨by kernel_rfl, fun j t ht => by
        rw [Tryd.params6] at ht
        have hm : t ∈ [5, 3] := by simpa using Array.mem_of_getElem? ht
        have hall : ([5, 3].all fun u => !Tryd.prog.wantsStandIn u) = true := by kernel_rfl
        exact (show Tryd.prog.wantsStandIn t = false by simpa using List.all_eq_true.1 hall t hm)⟩)
    (by kernel_rfl)
#print axioms listsTexts_holds
end Go.Proofs.YtiedenhkailolaaDoor
