/- The law SymbolsPlays, proved. Printed by a program of this work. -/
import Derived.Test.YtaoomioogojfhaaRows
import Derived.Test.YtaoomioogojfhaaRh
import Derived.Test.YtaoomioogojfhaaG1
import Derived.Test.YtaoomioogojfhaaUSyme
import Derived.WalkKit
import Derived.ProofKit
import Derived.OpenShut
import Derived.ShutString
import Derived.ChangeOld
import Derived.Below
import Derived.SizedLaws
namespace Go.Proofs.YtaoomioogojfhaaK.SymbolsPlays
set_option linter.unusedVariables false
set_option linter.unusedSimpArgs false
set_option maxHeartbeats 4000000
open Go.ChangeShapes Go.WideShapes Go.ChangeAt Go.RowKit Go.Proofs.Ytaoomioogojfhaa Go.Proofs.YtaoomioogojfhaaK
theorem own:ownKnob Try.prog.godebug=none:=by kernel_rfl
theorem laidOut:laidOutB Try.prog=true:=by kernel_rfl
def spinetlaw41_Pair.ok (x:spinetlaw41_Pair):Prop:=(x.Name.size≤reachBytes)∧(okI .u16 x.At)∧(True)
abbrev spinetlaw41_Pair.sh:Sh:=.st [.str,.int .u16,.bool]
theorem spinetlaw41_Pair.dec (xs:List V) (h:Fit spinetlaw41_Pair.sh xs):∃ a:spinetlaw41_Pair,xs=spinetlaw41_Pair.v a∧spinetlaw41_Pair.ok a:=by
  rw [spinetlaw41_Pair.sh,fit_st] at h
  simp only [fitL_cons,fitL_nil] at h
  obtain ⟨_,_,rfl,h0,_,_,rfl,h1,_,_,rfl,h2,rfl⟩:=h
  obtain ⟨a0,rfl,k0⟩:=dec_str h0
  obtain ⟨a1,rfl,k1⟩:=dec_int h1
  obtain ⟨a2,rfl,k2⟩:=dec_bool h2
  exact ⟨⟨a0,a1,a2⟩,rfl,k0,k1,k2⟩
theorem shapes:Try.f3.params.toList.map (shp Try.prog 9)=[(.sl 24 (spinetlaw41_Pair.sh):Sh),(.int .u16:Sh),(.str:Sh)].map some:=by kernel_rfl
theorem con (xs:List V) (h:FitVs [(.sl 24 (spinetlaw41_Pair.sh):Sh),(.int .u16:Sh),(.str:Sh)] xs):Con Try.prog 3 xs [] (.s (.bool true)) []:=by
  simp only [FitVs] at h
  obtain ⟨x0,_,rfl,h0,x1,_,rfl,h1,x2,_,rfl,h2,rfl⟩:=h
  obtain ⟨a0,rfl,k0⟩:=arg_sl (g:=spinetlaw41_Pair.v) (ok:=(fun a=>spinetlaw41_Pair.ok a)) (b:=24) (fun _ h=>(spinetlaw41_Pair.dec _) h) h0
  obtain ⟨a1,rfl,k1⟩:=arg_int h1
  obtain ⟨a2,rfl,k2⟩:=arg_str h2
  exact con_pure (spinetlaw41_SymbolsPlays_ok a0 a1 a2 true (symbolsPlays_true a0 a1 a2 (fun p h=>okI_u16 (k0.1 p h).2.1) (okI_u16 k1)))
set_option maxRecDepth 100000 in
theorem lifted (os:Os) (started:os.Started) (H:Type) (enc:TypeId × Value→H) :
    ReturnsInHanded {} Try.checked os 3 .any (Rows.symbolsPlaysSpec.pre6 enc Try.prog Try.f3 Rows.symbolsPlaysRow.domain false) (Rows.symbolsPlaysSpec.post enc Try.prog Try.f3 false true false false):=by
  refine returnsInHanded_of_change_sized (C:=Try.checked) own started (by kernel_rfl) Try.func3
    (ChangeSpec.witness6 (enc:=enc) (C:=Try.checked) false ⟨#[],#[.slice none 0 0,.int .u16 0,.string ⟨#[]⟩],[]⟩ 8 (by kernel_rfl) (by kernel_rfl) (by kernel_rfl) (by kernel_rfl)) ?_
  intro W base args ds gs before hval0 hW hcnd hwt _
  have hgl:∀ a∈GL,∃ m,W.cell? ⟨a,0,none⟩=some (.int .i64 m):=fun a ha=>by simp [GL] at ha
  have hW':=hW
  obtain ⟨p,q,hA,hV,rfl,hfz,hnd⟩:=hW
  have hA':DataW.TrodAll enc Try.prog W 0 (fun _=>true) true Try.f3.params.toList args.toList ds p:=hA
  obtain ⟨rfl,rfl⟩:=trodVars_none hV
  have walk:=law_calls (m:=3) (P:=Try.prog) (W:=W) shapes (fun j t v ht hv=>hval0 j t v (by simpa using ht) (by simpa using hv)) hA' hwt hgl con
  refine walk.mono fun e W' ⟨he,bel⟩ => ?_
  subst he
  have kept:=trodAll_stays laidOut bel (by kernel_rfl) hA'
  rw [Try.params3] at hA'
  obtain ⟨v0,vs0,d0,ds0,p0,q0,hargs,rfl,rfl,h0,r0⟩:=trodAll_cons hA'
  obtain ⟨v1,vs1,d1,ds1,p1,q1,rfl,rfl,rfl,h1,r1⟩:=trodAll_cons r0
  obtain ⟨v2,vs2,d2,ds2,p2,q2,rfl,rfl,rfl,h2,r2⟩:=trodAll_cons r1
  obtain ⟨rfl,rfl,rfl⟩:=trodAll_nil r2
  obtain rfl:args = #[v0,v1,v2]:=by cases args; simp_all
  exact ⟨_,rfl,_,_,_,[],_,[],hW',trodAll_mk1 (shut_bool Try.underlying4 _) , kept,rfl,bel.frame _,fun h=>by cases h⟩
theorem over:Rows.symbolsPlaysRow.holds Try.pinned (OpenSpec.ofChange Rows.symbolsPlaysSpec) :=
  OpenClaim.holds_of_wide 3 Try.f3 rfl rfl rfl rfl rfl rfl rfl ⟨rfl,rfl,rfl,rfl,rfl⟩ rfl rfl rfl rfl rfl (by kernel_rfl) Try.func3 (by kernel_rfl)
    (of_decide_eq_true (by kernel_rfl)) (by unfold Func.isWrapper; first | (rw [if_pos (by decide +kernel)]; kernel_rfl) | (rw [if_neg (by decide +kernel)]; exact ⟨rfl,rfl⟩))
    (fun os started H enc _=>lifted os started H enc)
end Go.Proofs.YtaoomioogojfhaaK.SymbolsPlays
namespace Go.Proofs.Ytaoomioogojfhaa
/-- The law, under a short name. -/
theorem symbolsPlays_holds:Rows.SymbolsPlaysSaid:=YtaoomioogojfhaaK.SymbolsPlays.over
#print axioms symbolsPlays_holds
end Go.Proofs.Ytaoomioogojfhaa
