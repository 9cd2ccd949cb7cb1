/- The law SrecPuts, proved. Printed by a program of this work. -/
import Derived.Test.YtphfmfbebcconaaDoorRows
import Derived.Test.YtphfmfbebcconaaDoorRh
import Derived.Test.YtphfmfbebcconaaDoorG4
import Derived.Test.YtphfmfbebcconaaDoorUSpC
import Derived.WalkKit
import Derived.ProofKit
import Derived.OpenShut
import Derived.ShutString
import Derived.ChangeOld
import Derived.Below
import Derived.SizedLaws
import Derived.Lay
import Derived.LaidMore
import Derived.LaidLaws
import Derived.Test.YtphfmfbebcconaaDoorTie
import Derived.Test.YtphfmfbebcconaaDoorCards
namespace Go.Proofs.YtphfmfbebcconaaDoorK.SrecPuts
set_option linter.unusedVariables false
set_option linter.unusedSimpArgs false
set_option maxHeartbeats 4000000
open Go.ChangeShapes Go.WideShapes Go.ChangeAt Go.RowKit Go.Proofs.YtphfmfbebcconaaDoor Go.Proofs.YtphfmfbebcconaaDoorK

theorem own : ownKnob Tryd.prog.godebug = none := by kernel_rfl
theorem laidOut : laidOutB Tryd.prog = true := by kernel_rfl
def srec_Piece.ok (x : srec_Piece) : Prop := (okI .u16 x.At) ∧ ((∀ a ∈ x.B, okI .u8 a) ∧ x.B.length ≤ maxLen ∧ x.B.length * 1 ≤ reachBytes)
abbrev srec_Piece.sh : Sh := .st [.int .u16, .sl 1 (.int .u8)]
theorem srec_Piece.dec (xs : List V) (h : Fit srec_Piece.sh xs) : ∃ a : srec_Piece, xs = srec_Piece.v a ∧ srec_Piece.ok a := by
  rw [srec_Piece.sh, fit_st] at h
  simp only [fitL_cons, fitL_nil] at h
  obtain ⟨_, _, rfl, h0, _, _, rfl, h1, rfl⟩ := h
  obtain ⟨a0, rfl, k0⟩ := dec_int h0
  obtain ⟨a1, rfl, k1⟩ := (dec_sl (g := (nI .u8)) (ok := (fun a => okI .u8 a)) (b := 1) (fun _ h => dec_int h)) h1
  exact ⟨⟨a0, a1⟩, rfl, k0, k1⟩
theorem shapes : Tryd.f3.params.toList.map (shp Tryd.prog 9) = [(.int .u16 : Sh), (.sl 32 (srec_Piece.sh) : Sh)].map some := by kernel_rfl

theorem con (xs : List V) (h : FitVs [(.int .u16 : Sh), (.sl 32 (srec_Piece.sh) : Sh)] xs) : Con Tryd.prog 3 xs [] (.s (.bool true)) [] := by
  simp only [FitVs] at h
  obtain ⟨x0, _, rfl, h0, x1, _, rfl, h1, rfl⟩ := h
  obtain ⟨a0, rfl, k0⟩ := arg_int h0
  obtain ⟨a1, rfl, k1⟩ := arg_sl (g := srec_Piece.v) (ok := (fun a => srec_Piece.ok a)) (b := 32) (fun _ h => (srec_Piece.dec _) h) h1
  exact con_pure (spinetlaw40_SrecPuts_ok a0 a1 true (srecPuts_true a0 a1 k0 (fun p hp => (k1.1 p hp).1) (fun p hp => (k1.1 p hp).2.1)))

set_option maxRecDepth 100000 in
theorem lifted (os : Os) (started : os.Started) (H : Type) (enc : TypeId × Value → H) :
    ReturnsInHanded {} Tryd.checked os 3 .any (fun w args => (Rows.srecPutsSpec.pre enc Tryd.prog Tryd.f3 Rows.srecPutsRow.domain false w args ∧ laidMetH Tryd.prog Rows.srecPutsRow.laid w) ∧ sizedMet enc Tryd.prog Tryd.f3 (OpenSpec.ofChange Rows.srecPutsSpec) false w args)
      (Rows.srecPutsSpec.post enc Tryd.prog Tryd.f3 false true false false) := by
  refine returnsInHanded_of_change_and (C := Tryd.checked) (X := fun w _ => laidMetH Tryd.prog Rows.srecPutsRow.laid w) (fun _ _ _ hh h => h.of_heap hh) own started (by kernel_rfl) Tryd.func3
    (ChangeSpec.witness_shaped (enc := enc) (C := Tryd.checked) (os := os) (X := fun w _ => laidMetH Tryd.prog Rows.srecPutsRow.laid w) false (World.laidAll Tryd.prog os Rows.srecPutsRow.laid) #[.int .u16 0, .slice none 0 0] 8 (World.laidAll_os _ _ _)
      (World.shaped_of_ZipB (by kernel_rfl) (by kernel_rfl)) (by kernel_rfl) (by kernel_rfl) (by kernel_rfl)
      (by rw [MakeChecks.laidMetH_plain _ _ _ (by kernel_rfl)]; exact laidMet_laidAll _ (by kernel_rfl) (by kernel_rfl))) ?_
  intro W base args ds gs before hval0 hW hcnd hwt hL _
  have hW' := hW
  obtain ⟨p, q, hA, hV, rfl, hfz, hnd⟩ := hW
  have hA' : DataW.TrodAll enc Tryd.prog W 0 (fun _ => true) true Tryd.f3.params.toList args.toList ds p := hA
  obtain ⟨rfl, rfl⟩ := trodVars_none hV
  have walk := law_calls (m := 3) (P := Tryd.prog) (W := W) shapes (fun j t v ht hv => hval0 j t v (by simpa using ht) (by simpa using hv)) hA' hwt con
  refine walk.mono fun e W' ⟨he, bel⟩ => ?_
  subst he
  have kept := trodAll_stays laidOut bel (by kernel_rfl) hA'
  rw [Tryd.params3] at hA'
  obtain ⟨v0, vs0, d0, ds0, p0, q0, hargs, rfl, rfl, h0, r0⟩ := trodAll_cons hA'
  obtain ⟨v1, vs1, d1, ds1, p1, q1, rfl, rfl, rfl, h1, r1⟩ := trodAll_cons r0
  obtain ⟨rfl, rfl, rfl⟩ := trodAll_nil r1
  obtain rfl : args = #[v0, v1] := by cases args; simp_all
  exact ⟨_, rfl, _, _, _, [], _, [], hW', trodAll_mk1 (shut_bool Tryd.underlying4 _) , kept, rfl, bel.frame _, fun h => by cases h⟩

theorem over : Rows.srecPutsRow.holds Tryd.pinned (OpenSpec.ofChange Rows.srecPutsSpec) :=
  OpenClaim.holds_of_wide 3 Tryd.f3 rfl rfl rfl rfl rfl rfl rfl ⟨rfl, rfl, rfl, rfl, rfl⟩ rfl rfl rfl rfl rfl (by kernel_rfl) Tryd.func3 (by kernel_rfl)
    (of_decide_eq_true (by kernel_rfl)) (by unfold Func.isWrapper; first | (rw [if_pos (by decide +kernel)]; kernel_rfl) | (rw [if_neg (by decide +kernel)]; exact ⟨rfl, rfl⟩))
    (fun os started H enc _ => lifted os started H enc)
end Go.Proofs.YtphfmfbebcconaaDoorK.SrecPuts
namespace Go.Proofs.YtphfmfbebcconaaDoor

set_option maxRecDepth 100000 in
/-- The law, as a tied card, under a short name. -/
theorem srecPuts_holds : Rows.SrecPutsCardSaid :=
  Claim7.holds_tied_plain_at .later [] [.data, .pinned] true (true, "86583eb51b99cb64d2b0910ecf4aac0cb76e87581aab545230f396a05b711002") false
    YtphfmfbebcconaaDoorK.SrecPuts.over (fun _ h => by cases h) (by kernel_rfl) (fun _ h => by cases h) srecPuts_row_tie rfl ⟨rfl, rfl⟩ (by kernel_rfl) rfl
    (fun f fn hf hfn => by
      obtain rfl : f = 3 := Option.some.inj ((show Tryd.prog.funcNamed "spinet/spinetlaw40.SrecPuts" = some 3 by kernel_rfl).symm.trans hf) |>.symm
      obtain rfl : fn = Tryd.f3 := (Option.some.inj (Tryd.func3.symm.trans hfn)).symm
      exact ⟨by kernel_rfl, fun j t ht => by
        rw [Tryd.params3] at ht
        have hm : t ∈ [22, 23] := by simpa using Array.mem_of_getElem? ht
        have hall : ([22, 23].all fun u => !Tryd.prog.wantsStandIn u) = true := by kernel_rfl
        exact (show Tryd.prog.wantsStandIn t = false by simpa using List.all_eq_true.1 hall t hm)⟩)
    (by kernel_rfl)
#print axioms srecPuts_holds
end Go.Proofs.YtphfmfbebcconaaDoor
