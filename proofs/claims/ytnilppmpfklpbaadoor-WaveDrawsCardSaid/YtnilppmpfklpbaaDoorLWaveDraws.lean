/- The law WaveDraws, proved. Printed by a program of this work. -/
import Derived.Test.YtnilppmpfklpbaaDoorRows
import Derived.Test.YtnilppmpfklpbaaDoorRh
import Derived.Test.YtnilppmpfklpbaaDoorG4
import Derived.Test.YtnilppmpfklpbaaDoorUWdr2
import Derived.WalkKit
import Derived.ProofKit
import Derived.OpenShut
import Derived.ShutString
import Derived.ChangeOld
import Derived.Below
import Derived.SizedLaws
import Derived.Lay
import Derived.LaidMore
import Derived.LaidLaws
import Derived.Test.YtnilppmpfklpbaaDoorTie
import Derived.Test.YtnilppmpfklpbaaDoorCards
namespace Go.Proofs.YtnilppmpfklpbaaDoorK.WaveDraws
set_option linter.unusedVariables false
set_option linter.unusedSimpArgs false
set_option maxHeartbeats 4000000
open Go.ChangeShapes Go.WideShapes Go.ChangeAt Go.RowKit Go.Proofs.YtnilppmpfklpbaaDoor Go.Proofs.YtnilppmpfklpbaaDoorK

theorem own : ownKnob Tryd.prog.godebug = none := by kernel_rfl
theorem laidOut : laidOutB Tryd.prog = true := by kernel_rfl
def api_Rec.ok (x : api_Rec) : Prop := (okI .u16 x.Addr) ∧ (okI .u8 x.Data) ∧ (True) ∧ (True) ∧ (True) ∧ (True) ∧ (True) ∧ (True) ∧ (True)
abbrev api_Rec.sh : Sh := .st [.int .u16, .int .u8, .bool, .bool, .bool, .bool, .bool, .bool, .bool]
theorem api_Rec.dec (xs : List V) (h : Fit api_Rec.sh xs) : ∃ a : api_Rec, xs = api_Rec.v a ∧ api_Rec.ok a := by
  rw [api_Rec.sh, fit_st] at h
  simp only [fitL_cons, fitL_nil] at h
  obtain ⟨_, _, rfl, h0, _, _, rfl, h1, _, _, rfl, h2, _, _, rfl, h3, _, _, rfl, h4, _, _, rfl, h5, _, _, rfl, h6, _, _, rfl, h7, _, _, rfl, h8, rfl⟩ := h
  obtain ⟨a0, rfl, k0⟩ := dec_int h0
  obtain ⟨a1, rfl, k1⟩ := dec_int h1
  obtain ⟨a2, rfl, k2⟩ := dec_bool h2
  obtain ⟨a3, rfl, k3⟩ := dec_bool h3
  obtain ⟨a4, rfl, k4⟩ := dec_bool h4
  obtain ⟨a5, rfl, k5⟩ := dec_bool h5
  obtain ⟨a6, rfl, k6⟩ := dec_bool h6
  obtain ⟨a7, rfl, k7⟩ := dec_bool h7
  obtain ⟨a8, rfl, k8⟩ := dec_bool h8
  exact ⟨⟨a0, a1, a2, a3, a4, a5, a6, a7, a8⟩, rfl, k0, k1, k2, k3, k4, k5, k6, k7, k8⟩
theorem shapes : Tryd.f4.params.toList.map (shp Tryd.prog 9) = [(.sl 10 (api_Rec.sh) : Sh), (.int .i64 : Sh)].map some := by kernel_rfl

theorem con (xs : List V) (h : FitVs [(.sl 10 (api_Rec.sh) : Sh), (.int .i64 : Sh)] xs) : Con Tryd.prog 4 xs [] (.s (.bool true)) [] := by
  simp only [FitVs] at h
  obtain ⟨x0, _, rfl, h0, x1, _, rfl, h1, rfl⟩ := h
  obtain ⟨a0, rfl, k0⟩ := arg_sl (g := api_Rec.v) (ok := (fun a => api_Rec.ok a)) (b := 10) (fun _ h => (api_Rec.dec _) h) h0
  obtain ⟨a1, rfl, k1⟩ := arg_int h1
  exact con_pure (spinetlaw50_WaveDraws_ok a0 a1 true (waveDraws_true a0 a1))

set_option maxRecDepth 100000 in
theorem lifted (os : Os) (started : os.Started) (H : Type) (enc : TypeId × Value → H) :
    ReturnsInHanded {} Tryd.checked os 4 .any (fun w args => (Rows.waveDrawsSpec.pre enc Tryd.prog Tryd.f4 Rows.waveDrawsRow.domain false w args ∧ laidMetH Tryd.prog Rows.waveDrawsRow.laid w) ∧ sizedMet enc Tryd.prog Tryd.f4 (OpenSpec.ofChange Rows.waveDrawsSpec) false w args)
      (Rows.waveDrawsSpec.post enc Tryd.prog Tryd.f4 false true false false) := by
  refine handed_shaped (C := Tryd.checked) (X := fun w _ => laidMetH Tryd.prog Rows.waveDrawsRow.laid w) (fun _ _ _ hh h => h.of_heap hh) own started (by kernel_rfl) Tryd.func4
    (ChangeSpec.witness_shaped (enc := enc) (C := Tryd.checked) (os := os) (X := fun w _ => laidMetH Tryd.prog Rows.waveDrawsRow.laid w) false (World.laidAll Tryd.prog os Rows.waveDrawsRow.laid) #[.slice none 0 0, .int .i64 0] 8 (World.laidAll_os _ _ _)
      (World.shaped_of_ZipB (by kernel_rfl) (by kernel_rfl)) (by kernel_rfl) (by kernel_rfl) (by kernel_rfl)
      (by rw [MakeChecks.laidMetH_plain _ _ _ (by kernel_rfl)]; exact laidMet_laidAll _ (by kernel_rfl) (by kernel_rfl))) ?_
  intro W base args ds gs before hval0 hW hcnd hwt hL hsh
  have hgl : ∀ a ∈ GL, ∃ m, W.cell? ⟨a, 0, none⟩ = some (.int .i64 m) := by
    intro a ha
    simp only [GL, List.mem_cons, List.not_mem_nil, or_false] at ha
    subst ha
    exact cell_of_shapedOpen_int (zero := #[.int .i64 0]) (t := 3) hsh (of_decide_eq_true (by kernel_rfl)) (by kernel_rfl) rfl (by kernel_rfl) (by kernel_rfl) Tryd.underlying3
  have hW' := hW
  obtain ⟨p, q, hA, hV, rfl, hfz, hnd⟩ := hW
  have hA' : DataW.TrodAll enc Tryd.prog W 0 (fun _ => true) true Tryd.f4.params.toList args.toList ds p := hA
  obtain ⟨rfl, rfl⟩ := trodVars_none hV
  have walk := law_calls (m := 4) (P := Tryd.prog) (W := W) shapes (fun j t v ht hv => hval0 j t v (by simpa using ht) (by simpa using hv)) hA' hwt hgl con
  refine walk.mono fun e W' ⟨he, bel⟩ => ?_
  subst he
  have kept := trodAll_stays laidOut bel (by kernel_rfl) hA'
  rw [Tryd.params4] at hA'
  obtain ⟨v0, vs0, d0, ds0, p0, q0, hargs, rfl, rfl, h0, r0⟩ := trodAll_cons hA'
  obtain ⟨v1, vs1, d1, ds1, p1, q1, rfl, rfl, rfl, h1, r1⟩ := trodAll_cons r0
  obtain ⟨rfl, rfl, rfl⟩ := trodAll_nil r1
  obtain rfl : args = #[v0, v1] := by cases args; simp_all
  exact ⟨_, rfl, _, _, _, [], _, [], hW', trodAll_mk1 (shut_bool Tryd.underlying4 _) , kept, rfl, bel.frame _, fun h => by cases h⟩

theorem over : Rows.waveDrawsRow.holds Tryd.pinned (OpenSpec.ofChange Rows.waveDrawsSpec) :=
  OpenClaim.holds_of_wide 4 Tryd.f4 rfl rfl rfl rfl rfl rfl rfl ⟨rfl, rfl, rfl, rfl, rfl⟩ rfl rfl rfl rfl rfl (by kernel_rfl) Tryd.func4 (by kernel_rfl)
    (of_decide_eq_true (by kernel_rfl)) (by unfold Func.isWrapper; first | (rw [if_pos (by decide +kernel)]; kernel_rfl) | (rw [if_neg (by decide +kernel)]; exact ⟨rfl, rfl⟩))
    (fun os started H enc _ => lifted os started H enc)
end Go.Proofs.YtnilppmpfklpbaaDoorK.WaveDraws
namespace Go.Proofs.YtnilppmpfklpbaaDoor

set_option maxRecDepth 100000 in
/-- The law, as a tied card, under a short name. -/
theorem waveDraws_holds : Rows.WaveDrawsCardSaid :=
  Claim7.holds_tied_plain_at .later [] [.data, .pinned] true (true, "1119c0596124d8fc52523c80dcf893b996e4e019c20ae2c4690bdeabedf2d936") false
    YtnilppmpfklpbaaDoorK.WaveDraws.over (fun _ h => by cases h) (by kernel_rfl) (fun _ h => by cases h) waveDraws_row_tie rfl ⟨rfl, rfl⟩ (by kernel_rfl) rfl
    (fun f fn hf hfn => by
      obtain rfl : f = 4 := Option.some.inj ((show Tryd.prog.funcNamed "spinet/spinetlaw50.WaveDraws" = some 4 by kernel_rfl).symm.trans hf) |>.symm
      obtain rfl : fn = Tryd.f4 := (Option.some.inj (Tryd.func4.symm.trans hfn)).symm
      exact ⟨by kernel_rfl, fun j t ht => by
        rw [Tryd.params4] at ht
        have hm : t ∈ [22, 3] := by simpa using Array.mem_of_getElem? ht
        have hall : ([22, 3].all fun u => !Tryd.prog.wantsStandIn u) = true := by kernel_rfl
        exact (show Tryd.prog.wantsStandIn t = false by simpa using List.all_eq_true.1 hall t hm)⟩)
    (by kernel_rfl)
#print axioms waveDraws_holds
end Go.Proofs.YtnilppmpfklpbaaDoor
