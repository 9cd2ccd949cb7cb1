/- The law DisLines, proved. Printed by a program of this work. -/
import Derived.Test.YtfcegejpdlbkdaaGreatRows
import Derived.Test.YtfcegejpdlbkdaaGreatRh
import Derived.Test.YtfcegejpdlbkdaaGreatG5
import Derived.Test.YtfcegejpdlbkdaaGreatUDl
import Derived.WalkKit
import Derived.ProofKit
import Derived.OpenShut
import Derived.ShutString
import Derived.ChangeOld
import Derived.Below
import Derived.SizedLaws
namespace Go.Proofs.YtfcegejpdlbkdaaGreatK.DisLines
set_option linter.unusedVariables false
set_option linter.unusedSimpArgs false
set_option maxHeartbeats 4000000
open Go.ChangeShapes Go.WideShapes Go.ChangeAt Go.RowKit Go.Proofs.YtfcegejpdlbkdaaGreat Go.Proofs.YtfcegejpdlbkdaaGreatK
theorem own:ownKnob Tryz.prog.godebug=none:=by kernel_rfl
theorem laidOut:laidOutB Tryz.prog=true:=by kernel_rfl
def spinetlaw34_World.ok (x:spinetlaw34_World):Prop:=((∀ a∈x.Low,okI .u8 a)∧x.Low.length≤maxLen∧x.Low.length*1≤reachBytes)∧((∀ a∈x.High,okI .u8 a)∧x.High.length≤maxLen∧x.High.length*1≤reachBytes)
abbrev spinetlaw34_World.sh:Sh:=.st [.sl 1 (.int .u8),.sl 1 (.int .u8)]
theorem spinetlaw34_World.dec (xs:List V) (h:Fit spinetlaw34_World.sh xs):∃ a:spinetlaw34_World,xs=spinetlaw34_World.v a∧spinetlaw34_World.ok a:=by
  rw [spinetlaw34_World.sh,fit_st] at h
  simp only [fitL_cons,fitL_nil] at h
  obtain ⟨_,_,rfl,h0,_,_,rfl,h1,rfl⟩:=h
  obtain ⟨a0,rfl,k0⟩:=(dec_sl (g:=(nI .u8)) (ok:=(fun a=>okI .u8 a)) (b:=1) (fun _ h=>dec_int h)) h0
  obtain ⟨a1,rfl,k1⟩:=(dec_sl (g:=(nI .u8)) (ok:=(fun a=>okI .u8 a)) (b:=1) (fun _ h=>dec_int h)) h1
  exact ⟨⟨a0,a1⟩,rfl,k0,k1⟩
theorem shapes:Tryz.f3.params.toList.map (shp Tryz.prog 9)=[(spinetlaw34_World.sh:Sh),(.int .u16:Sh),(.int .i64:Sh)].map some:=by kernel_rfl
theorem con (xs:List V) (h:FitVs [(spinetlaw34_World.sh:Sh),(.int .u16:Sh),(.int .i64:Sh)] xs):Con Tryz.prog 3 xs [] (.s (.bool true)) []:=by
  simp only [FitVs] at h
  obtain ⟨x0,_,rfl,h0,x1,_,rfl,h1,x2,_,rfl,h2,rfl⟩:=h
  obtain ⟨a0,rfl,k0⟩:=arg_st (g:=spinetlaw34_World.v) (ok:=spinetlaw34_World.ok) spinetlaw34_World.dec h0
  obtain ⟨a1,rfl,k1⟩:=arg_int h1
  obtain ⟨a2,rfl,k2⟩:=arg_int h2
  exact con_pure (spinetlaw42_DisLines_ok a0 a1 a2 true (disLines_true a0 a1 a2 k0.1.1 k0.2.1 (okI_u16 k1).1 (okI_u16 k1).2))
set_option maxRecDepth 100000 in
theorem lifted (os:Os) (started:os.Started) (H:Type) (enc:TypeId × Value→H) :
    ReturnsInHanded {} Tryz.checked os 3 .any (Rows.disLinesSpec.pre6 enc Tryz.prog Tryz.f3 Rows.disLinesRow.domain false) (Rows.disLinesSpec.post enc Tryz.prog Tryz.f3 false true false false):=by
  refine returnsInHanded_of_change_sized (C:=Tryz.checked) own started (by kernel_rfl) Tryz.func3
    (ChangeSpec.witness6 (enc:=enc) (C:=Tryz.checked) false ⟨#[],#[.agg #[.slice none 0 0,.slice none 0 0],.int .u16 0,.int .i64 0],[]⟩ 8 (by kernel_rfl) (by kernel_rfl) (by kernel_rfl) (by kernel_rfl)) ?_
  intro W base args ds gs before hval0 hW hcnd hwt _
  have hgl:∀ a∈GL,∃ m,W.cell? ⟨a,0,none⟩=some (.int .i64 m):=fun a ha=>by simp [GL] at ha
  have hW':=hW
  obtain ⟨p,q,hA,hV,rfl,hfz,hnd⟩:=hW
  have hA':DataW.TrodAll enc Tryz.prog W 0 (fun _=>true) true Tryz.f3.params.toList args.toList ds p:=hA
  obtain ⟨rfl,rfl⟩:=trodVars_none hV
  have walk:=law_calls (m:=3) (P:=Tryz.prog) (W:=W) shapes (fun j t v ht hv=>hval0 j t v (by simpa using ht) (by simpa using hv)) hA' hwt hgl con
  refine walk.mono fun e W' ⟨he,bel⟩ => ?_
  subst he
  have kept:=trodAll_stays laidOut bel (by kernel_rfl) hA'
  rw [Tryz.params3] at hA'
  obtain ⟨v0,vs0,d0,ds0,p0,q0,hargs,rfl,rfl,h0,r0⟩:=trodAll_cons hA'
  obtain ⟨v1,vs1,d1,ds1,p1,q1,rfl,rfl,rfl,h1,r1⟩:=trodAll_cons r0
  obtain ⟨v2,vs2,d2,ds2,p2,q2,rfl,rfl,rfl,h2,r2⟩:=trodAll_cons r1
  obtain ⟨rfl,rfl,rfl⟩:=trodAll_nil r2
  obtain rfl:args = #[v0,v1,v2]:=by cases args; simp_all
  exact ⟨_,rfl,_,_,_,[],_,[],hW',trodAll_mk1 (shut_bool Tryz.underlying4 _) , kept,rfl,bel.frame _,fun h=>by cases h⟩
theorem over:Rows.disLinesRow.holds Tryz.pinned (OpenSpec.ofChange Rows.disLinesSpec) :=
  OpenClaim.holds_of_wide 3 Tryz.f3 rfl rfl rfl rfl rfl rfl rfl ⟨rfl,rfl,rfl,rfl,rfl⟩ rfl rfl rfl rfl rfl (by kernel_rfl) Tryz.func3 (by kernel_rfl)
    (of_decide_eq_true (by kernel_rfl)) (by unfold Func.isWrapper; first | (rw [if_pos (by decide +kernel)]; kernel_rfl) | (rw [if_neg (by decide +kernel)]; exact ⟨rfl,rfl⟩))
    (fun os started H enc _=>lifted os started H enc)
end Go.Proofs.YtfcegejpdlbkdaaGreatK.DisLines
namespace Go.Proofs.YtfcegejpdlbkdaaGreat
/-- The law, under a short name. -/
theorem disLines_holds:Rows.DisLinesSaid:=YtfcegejpdlbkdaaGreatK.DisLines.over
#print axioms disLines_holds
end Go.Proofs.YtfcegejpdlbkdaaGreat
