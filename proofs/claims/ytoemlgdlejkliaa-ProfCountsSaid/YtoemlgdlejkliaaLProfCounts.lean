/- The law ProfCounts, proved. Printed by a program of this work. -/
import Derived.Test.YtoemlgdlejkliaaRows
import Derived.Test.YtoemlgdlejkliaaRh
import Derived.Test.YtoemlgdlejkliaaG2
import Derived.Test.YtoemlgdlejkliaaUPrd
import Derived.WalkKit
import Derived.ProofKit
import Derived.OpenShut
import Derived.ShutString
import Derived.ChangeOld
import Derived.Below
import Derived.SizedLaws
namespace Go.Proofs.YtoemlgdlejkliaaK.ProfCounts
set_option linter.unusedVariables false
set_option linter.unusedSimpArgs false
set_option maxHeartbeats 4000000
open Go.ChangeShapes Go.WideShapes Go.ChangeAt Go.RowKit Go.Proofs.Ytoemlgdlejkliaa Go.Proofs.YtoemlgdlejkliaaK
theorem own:ownKnob Try.prog.godebug=none:=by kernel_rfl
theorem laidOut:laidOutB Try.prog=true:=by kernel_rfl
def api_Rec.ok (x:api_Rec):Prop:=(okI .u16 x.Addr)∧(okI .u8 x.Data)∧(True)∧(True)∧(True)∧(True)∧(True)∧(True)∧(True)
abbrev api_Rec.sh:Sh:=.st [.int .u16,.int .u8,.bool,.bool,.bool,.bool,.bool,.bool,.bool]
theorem api_Rec.dec (xs:List V) (h:Fit api_Rec.sh xs):∃ a:api_Rec,xs=api_Rec.v a∧api_Rec.ok a:=by
  rw [api_Rec.sh,fit_st] at h
  simp only [fitL_cons,fitL_nil] at h
  obtain ⟨_,_,rfl,h0,_,_,rfl,h1,_,_,rfl,h2,_,_,rfl,h3,_,_,rfl,h4,_,_,rfl,h5,_,_,rfl,h6,_,_,rfl,h7,_,_,rfl,h8,rfl⟩:=h
  obtain ⟨a0,rfl,k0⟩:=dec_int h0
  obtain ⟨a1,rfl,k1⟩:=dec_int h1
  obtain ⟨a2,rfl,k2⟩:=dec_bool h2
  obtain ⟨a3,rfl,k3⟩:=dec_bool h3
  obtain ⟨a4,rfl,k4⟩:=dec_bool h4
  obtain ⟨a5,rfl,k5⟩:=dec_bool h5
  obtain ⟨a6,rfl,k6⟩:=dec_bool h6
  obtain ⟨a7,rfl,k7⟩:=dec_bool h7
  obtain ⟨a8,rfl,k8⟩:=dec_bool h8
  exact ⟨⟨a0,a1,a2,a3,a4,a5,a6,a7,a8⟩,rfl,k0,k1,k2,k3,k4,k5,k6,k7,k8⟩
theorem shapes:Try.f3.params.toList.map (shp Try.prog 9)=[(.sl 24 (.sl 10 (api_Rec.sh)):Sh),(.int .u16:Sh),(.int .i64:Sh)].map some:=by kernel_rfl
theorem con (xs:List V) (h:FitVs [(.sl 24 (.sl 10 (api_Rec.sh)):Sh),(.int .u16:Sh),(.int .i64:Sh)] xs):Con Try.prog 3 xs [] (.s (.bool true)) []:=by
  simp only [FitVs] at h
  obtain ⟨x0,_,rfl,h0,x1,_,rfl,h1,x2,_,rfl,h2,rfl⟩:=h
  obtain ⟨a0,rfl,k0⟩:=arg_sl (g:=sl_api_Rec) (ok:=(fun a=>(∀ b∈a,api_Rec.ok b)∧a.length≤maxLen∧a.length*10≤reachBytes)) (b:=24) (fun _ h=>(dec_sl (g:=api_Rec.v) (ok:=(fun a=>api_Rec.ok a)) (b:=10) (fun _ h=>(api_Rec.dec _) h)) h) h0
  obtain ⟨a1,rfl,k1⟩:=arg_int h1
  obtain ⟨a2,rfl,k2⟩:=arg_int h2
  exact con_pure (spinetlaw53_ProfCounts_ok a0 a1 a2 true (profCounts_true a0 a1 a2 (fun r hr x hx=>okI_u16 ((k0.1 r hr).1 x hx).1) (okI_u16 k1)))
set_option maxRecDepth 100000 in
theorem lifted (os:Os) (started:os.Started) (H:Type) (enc:TypeId × Value→H) :
    ReturnsInHanded {} Try.checked os 3 .any (Rows.profCountsSpec.pre6 enc Try.prog Try.f3 Rows.profCountsRow.domain false) (Rows.profCountsSpec.post enc Try.prog Try.f3 false true false false):=by
  refine returnsInHanded_of_change_sized (C:=Try.checked) own started (by kernel_rfl) Try.func3
    (ChangeSpec.witness6 (enc:=enc) (C:=Try.checked) false ⟨#[],#[.slice none 0 0,.int .u16 0,.int .i64 0],[]⟩ 8 (by kernel_rfl) (by kernel_rfl) (by kernel_rfl) (by kernel_rfl)) ?_
  intro W base args ds gs before hval0 hW hcnd hwt _
  have hgl:∀ a∈GL,∃ m,W.cell? ⟨a,0,none⟩=some (.int .i64 m):=fun a ha=>by simp [GL] at ha
  have hW':=hW
  obtain ⟨p,q,hA,hV,rfl,hfz,hnd⟩:=hW
  have hA':DataW.TrodAll enc Try.prog W 0 (fun _=>true) true Try.f3.params.toList args.toList ds p:=hA
  obtain ⟨rfl,rfl⟩:=trodVars_none hV
  have walk:=law_calls (m:=3) (P:=Try.prog) (W:=W) shapes (fun j t v ht hv=>hval0 j t v (by simpa using ht) (by simpa using hv)) hA' hwt hgl con
  refine walk.mono fun e W' ⟨he,bel⟩ => ?_
  subst he
  have kept:=trodAll_stays laidOut bel (by kernel_rfl) hA'
  rw [Try.params3] at hA'
  obtain ⟨v0,vs0,d0,ds0,p0,q0,hargs,rfl,rfl,h0,r0⟩:=trodAll_cons hA'
  obtain ⟨v1,vs1,d1,ds1,p1,q1,rfl,rfl,rfl,h1,r1⟩:=trodAll_cons r0
  obtain ⟨v2,vs2,d2,ds2,p2,q2,rfl,rfl,rfl,h2,r2⟩:=trodAll_cons r1
  obtain ⟨rfl,rfl,rfl⟩:=trodAll_nil r2
  obtain rfl:args = #[v0,v1,v2]:=by cases args; simp_all
  exact ⟨_,rfl,_,_,_,[],_,[],hW',trodAll_mk1 (shut_bool Try.underlying4 _) , kept,rfl,bel.frame _,fun h=>by cases h⟩
theorem over:Rows.profCountsRow.holds Try.pinned (OpenSpec.ofChange Rows.profCountsSpec) :=
  OpenClaim.holds_of_wide 3 Try.f3 rfl rfl rfl rfl rfl rfl rfl ⟨rfl,rfl,rfl,rfl,rfl⟩ rfl rfl rfl rfl rfl (by kernel_rfl) Try.func3 (by kernel_rfl)
    (of_decide_eq_true (by kernel_rfl)) (by unfold Func.isWrapper; first | (rw [if_pos (by decide +kernel)]; kernel_rfl) | (rw [if_neg (by decide +kernel)]; exact ⟨rfl,rfl⟩))
    (fun os started H enc _=>lifted os started H enc)
end Go.Proofs.YtoemlgdlejkliaaK.ProfCounts
namespace Go.Proofs.Ytoemlgdlejkliaa
/-- The law, under a short name. -/
theorem profCounts_holds:Rows.ProfCountsSaid:=YtoemlgdlejkliaaK.ProfCounts.over
#print axioms profCounts_holds
end Go.Proofs.Ytoemlgdlejkliaa
