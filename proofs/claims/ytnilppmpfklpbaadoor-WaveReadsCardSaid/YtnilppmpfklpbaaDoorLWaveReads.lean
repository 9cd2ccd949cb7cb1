/- The law WaveReads, proved. Printed by a program of this work. -/
import Derived.Test.YtnilppmpfklpbaaDoorRows
import Derived.Test.YtnilppmpfklpbaaDoorRh
import Derived.Test.YtnilppmpfklpbaaDoorG4
import Derived.Test.YtnilppmpfklpbaaDoorUWav3
import Derived.WalkKit
import Derived.ProofKit
import Derived.OpenShut
import Derived.ShutString
import Derived.ChangeOld
import Derived.Below
import Derived.SizedLaws
import Derived.Lay
import Derived.LaidMore
import Derived.LaidLaws
import Derived.Test.YtnilppmpfklpbaaDoorTie
import Derived.Test.YtnilppmpfklpbaaDoorCards
namespace Go.Proofs.YtnilppmpfklpbaaDoorK.WaveReads
set_option linter.unusedVariables false
set_option linter.unusedSimpArgs false
set_option maxHeartbeats 4000000
open Go.ChangeShapes Go.WideShapes Go.ChangeAt Go.RowKit Go.Proofs.YtnilppmpfklpbaaDoor Go.Proofs.YtnilppmpfklpbaaDoorK

theorem own : ownKnob Tryd.prog.godebug = none := by kernel_rfl
theorem laidOut : laidOutB Tryd.prog = true := by kernel_rfl
theorem shapes : Tryd.f3.params.toList.map (shp Tryd.prog 9) = [(.str : Sh)].map some := by kernel_rfl

theorem con (xs : List V) (h : FitVs [(.str : Sh)] xs) : Con Tryd.prog 3 xs [] (.s (.bool true)) [] := by
  simp only [FitVs] at h
  obtain ⟨x0, _, rfl, h0, rfl⟩ := h
  obtain ⟨a0, rfl, k0⟩ := arg_str h0
  exact con_pure (spinetlaw50_WaveReads_ok a0 true (waveReads_true a0))

set_option maxRecDepth 100000 in
theorem lifted (os : Os) (started : os.Started) (H : Type) (enc : TypeId × Value → H) :
    ReturnsInHanded {} Tryd.checked os 3 .any (fun w args => (Rows.waveReadsSpec.pre enc Tryd.prog Tryd.f3 Rows.waveReadsRow.domain false w args ∧ laidMetH Tryd.prog Rows.waveReadsRow.laid w) ∧ sizedMet enc Tryd.prog Tryd.f3 (OpenSpec.ofChange Rows.waveReadsSpec) false w args)
      (Rows.waveReadsSpec.post enc Tryd.prog Tryd.f3 false true false false) := by
  refine returnsInHanded_of_change_and (C := Tryd.checked) (X := fun w _ => laidMetH Tryd.prog Rows.waveReadsRow.laid w) (fun _ _ _ hh h => h.of_heap hh) own started (by kernel_rfl) Tryd.func3
    (ChangeSpec.witness_shaped (enc := enc) (C := Tryd.checked) (os := os) (X := fun w _ => laidMetH Tryd.prog Rows.waveReadsRow.laid w) false (World.laidAll Tryd.prog os Rows.waveReadsRow.laid) #[.string ⟨#[]⟩] 8 (World.laidAll_os _ _ _)
      (World.shaped_of_ZipB (by kernel_rfl) (by kernel_rfl)) (by kernel_rfl) (by kernel_rfl) (by kernel_rfl)
      (by rw [MakeChecks.laidMetH_plain _ _ _ (by kernel_rfl)]; exact laidMet_laidAll _ (by kernel_rfl) (by kernel_rfl))) ?_
  intro W base args ds gs before hval0 hW hcnd hwt hL _
  have hW' := hW
  obtain ⟨p, q, hA, hV, rfl, hfz, hnd⟩ := hW
  have hA' : DataW.TrodAll enc Tryd.prog W 0 (fun _ => true) true Tryd.f3.params.toList args.toList ds p := hA
  obtain ⟨rfl, rfl⟩ := trodVars_none hV
  have walk := law_calls (m := 3) (P := Tryd.prog) (W := W) shapes (fun j t v ht hv => hval0 j t v (by simpa using ht) (by simpa using hv)) hA' hwt con
  refine walk.mono fun e W' ⟨he, bel⟩ => ?_
  subst he
  have kept := trodAll_stays laidOut bel (by kernel_rfl) hA'
  rw [Tryd.params3] at hA'
  obtain ⟨v0, vs0, d0, ds0, p0, q0, hargs, rfl, rfl, h0, r0⟩ := trodAll_cons hA'
  obtain ⟨rfl, rfl, rfl⟩ := trodAll_nil r0
  obtain rfl : args = #[v0] := by cases args; simp_all
  exact ⟨_, rfl, _, _, _, [], _, [], hW', trodAll_mk1 (shut_bool Tryd.underlying4 _) , kept, rfl, bel.frame _, fun h => by cases h⟩

theorem over : Rows.waveReadsRow.holds Tryd.pinned (OpenSpec.ofChange Rows.waveReadsSpec) :=
  OpenClaim.holds_of_wide 3 Tryd.f3 rfl rfl rfl rfl rfl rfl rfl ⟨rfl, rfl, rfl, rfl, rfl⟩ rfl rfl rfl rfl rfl (by kernel_rfl) Tryd.func3 (by kernel_rfl)
    (of_decide_eq_true (by kernel_rfl)) (by unfold Func.isWrapper; first | (rw [if_pos (by decide +kernel)]; kernel_rfl) | (rw [if_neg (by decide +kernel)]; exact ⟨rfl, rfl⟩))
    (fun os started H enc _ => lifted os started H enc)
end Go.Proofs.YtnilppmpfklpbaaDoorK.WaveReads
namespace Go.Proofs.YtnilppmpfklpbaaDoor

set_option maxRecDepth 100000 in
/-- The law, as a tied card, under a short name. -/
theorem waveReads_holds : Rows.WaveReadsCardSaid :=
  Claim7.holds_tied_plain_at .later [] [.data, .pinned] true (true, "1119c0596124d8fc52523c80dcf893b996e4e019c20ae2c4690bdeabedf2d936") false
    YtnilppmpfklpbaaDoorK.WaveReads.over (fun _ h => by cases h) (by kernel_rfl) (fun _ h => by cases h) waveReads_row_tie rfl ⟨rfl, rfl⟩ (by kernel_rfl) rfl
    (fun f fn hf hfn => by
      obtain rfl : f = 3 := Option.some.inj ((show Tryd.prog.funcNamed "spinet/spinetlaw50.WaveReads" = some 3 by kernel_rfl).symm.trans hf) |>.symm
      obtain rfl : fn = Tryd.f3 := (Option.some.inj (Tryd.func3.symm.trans hfn)).symm
      exact ⟨by kernel_rfl, fun j t ht => by
        rw [Tryd.params3] at ht
        have hm : t ∈ [9] := by simpa using Array.mem_of_getElem? ht
        have hall : ([9].all fun u => !Tryd.prog.wantsStandIn u) = true := by kernel_rfl
        exact (show Tryd.prog.wantsStandIn t = false by simpa using List.all_eq_true.1 hall t hm)⟩)
    (by kernel_rfl)
#print axioms waveReads_holds
end Go.Proofs.YtnilppmpfklpbaaDoor
