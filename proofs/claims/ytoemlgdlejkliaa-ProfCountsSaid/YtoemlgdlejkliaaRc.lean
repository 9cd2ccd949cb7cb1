/- Whole code over a memory of its own: what is reckoned holds of the machine. -/
import Derived.Test.YtoemlgdlejkliaaRb
import Derived.LoopN
namespace Go.Proofs.YtoemlgdlejkliaaK
set_option linter.unusedVariables false
set_option linter.unusedSimpArgs false
open Go.RowKit
/-- A frame and a memory may be told as others. -/
def Shl (L0:Hp) (f:Fr) (L:Hp) (f2:Fr) (L2:Hp):Prop :=
  L0.length≤L.length→L0.length≤L2.length∧∀ ρ G,Emb ρ G L0.length→∀ N im0 w0 im w a,Rel im0 (G L0) w0→Sim N im (G L) w (rnF ρ f) a→Ext im0 (G L0) w0 im (G L) w→∃ im',Sim N im' (G L2) w (rnF ρ f2) a∧Ext im0 (G L0) w0 im' (G L2) w
theorem Shl.refl {L0 f L}:Shl L0 f L f L:=fun h=>⟨h,fun _ _ _ _ _ _ im _ _ _ hs hx=>⟨im,hs,hx⟩⟩
theorem Shl.trans {L0 f L f' L' f'' L''} (h:Shl L0 f L f' L') (k:Shl L0 f' L' f'' L''):Shl L0 f L f'' L'':=fun hl=>by
  obtain ⟨h1,h2⟩:=h hl
  obtain ⟨k1,k2⟩:=k h1
  refine ⟨k1,fun ρ G hE N im0 w0 im w a h0 hs hx => ?_⟩
  obtain ⟨im',hs',hx'⟩:=h2 ρ G hE N im0 w0 im w a h0 hs hx
  exact k2 ρ G hE N im0 w0 im' w a h0 hs' hx'
def vs (L0:Hp) (K:Fr→Hp→Prop) (f:Fr) (L:Hp):Prop:=∃ f2 L2,Shl L0 f L f2 L2∧K f2 L2
theorem vs.self {L0 K f L} (h:K f L):vs L0 K f L:=⟨f,L,Shl.refl,h⟩
def iter (step:(Fr→Hp→Prop)→Fr→Hp→Prop):Nat→Fr→Hp→Prop
  | 0,_,_=>False
  | n+1,f,L=>step (iter step n) f L
def dwv (P:Program) (L0:Hp):IR→(X→Fr→Hp→Prop)→Fr→Hp→Prop
  | .skip,Q,f,L=>Q .normal f L
  | .reg false ops,Q,f,L=>lops L0.length P ops f L (Q .normal)
  | .reg true ops,Q,f,L=>lqops L0.length P ops f L fun f'=>Q .normal f' L
  | .regw ops,Q,f,L=>lwops L0.length P ops f [] L [] (Q .normal)
  | .seq a b,Q,f,L=>dwv P L0 a (X.then (vs L0 (dwv P L0 b Q)) Q) f L
  | .cond c a b,Q,f,L=>andB (asB (ev c f)) (dwv P L0 a Q f L) (dwv P L0 b Q f L)
  | .block id a,Q,f,L=>dwv P L0 a (X.inBlock id Q) f L
  | .loop a,Q,f,L=>∃ n,iter (fun R=>dwv P L0 a (X.then (vs L0 R) Q)) n f L
  | .exit id,Q,f,L=>Q (.exit id) f L
  | .ret,Q,f,L=>Q .ret f L
def AftL (ρ:Nat→Nat) (G:Hp→Hp) (L0:Hp) (N:Nat) (im0:Im) (w0:World) (K:Fr→Hp→Prop) (a:Act) (w:World):Prop :=
  ∃ f L im,K f L∧L0.length≤L.length∧Sim N im (G L) w (rnF ρ f) a∧Ext im0 (G L0) w0 im (G L) w
def PostL (ρ:Nat→Nat) (G:Hp→Hp) (L0:Hp) (N:Nat) (im0:Im) (w0:World) (Q:X→Fr→Hp→Prop):Exit→Act→World→Prop
  | .normal,a,w=>AftL ρ G L0 N im0 w0 (Q .normal) a w
  | .exit id,a,w=>AftL ρ G L0 N im0 w0 (Q (.exit id)) a w
  | .ret,a,w=>AftL ρ G L0 N im0 w0 (Q .ret) a w
  | _,_,_=>False
theorem AftL.of {ρ:Nat→Nat} {G:Hp→Hp} {L0 L:Hp} {N:Nat} {im0 im:Im} {w0 w:World} {K:Fr→Hp→Prop} {a':Act} {w':World} (hx:Ext im0 (G L0) w0 im (G L) w) (h:After N im (G L) w (GK ρ G L0.length K) a' w'):AftL ρ G L0 N im0 w0 K a' w':=by
  obtain ⟨f',H',im',⟨f1,L1,rfl,rfl,hn,hK⟩,hs,hx'⟩:=h
  exact ⟨f1,L1,im',hK,hn,hs,hx.trans hx'⟩
theorem dwv_sound {P:Program} {ws:List FuncId} {N:Nat} {ρ:Nat→Nat} {G:Hp→Hp} {L0:Hp} {im0:Im} {w0:World} (hE:Emb ρ G L0.length) (h0:Rel im0 (G L0) w0):∀ (c:Code) (ir:IR),cC P ws N c=some ir→∀ {f:Fr} {L:Hp} {im:Im} {a:Act} {w:World} {Q:X→Fr→Hp→Prop},L0.length≤L.length→Sim N im (G L) w (rnF ρ f) a→Ext im0 (G L0) w0 im (G L) w→dwv P L0 ir Q f L→c.wp P (PostL ρ G L0 N im0 w0 Q) a w
  | .skip,ir,hc,f,L,im,a,w,Q,hn,hs,hx,h=>by
    simp [cC] at hc; subst hc
    exact wp_skip ⟨f,L,im,h,hn,hs,hx⟩
  | .label _,ir,hc,f,L,im,a,w,Q,hn,hs,hx,h=>by
    simp [cC] at hc; subst hc
    exact wp_label ⟨f,L,im,h,hn,hs,hx⟩
  | .exit id,ir,hc,f,L,im,a,w,Q,hn,hs,hx,h=>by
    simp [cC] at hc; subst hc
    exact wp_exit ⟨f,L,im,h,hn,hs,hx⟩
  | .ret,ir,hc,f,L,im,a,w,Q,hn,hs,hx,h=>by
    simp [cC] at hc; subst hc
    exact wp_ret ⟨f,L,im,h,hn,hs,hx⟩
  | .region id ops draw,ir,hc,f,L,im,a,w,Q,hn,hs,hx,h=>by
    simp only [cC] at hc
    obtain ⟨l,hl,hc⟩:=Option.bind_eq_some_iff.1 hc
    cases draw with
    | false =>
      simp at hc; subst hc
      refine wp_region ?_
      have:=dops_sound (Qn:=fun _ _=>True) (Qe:=PostL ρ G L0 N im0 w0 Q) ops.toList l 0 rfl hl hs (lops_dops hE l hn h) fun a' w' hA=>AftL.of hx hA
      simpa [List.range_eq_range'] using this
    | true =>
      simp only [if_true] at hc
      split at hc
      · rename_i hm
        split at hc
        · rename_i hg
          simp only [Bool.and_eq_true] at hg
          simp at hc; subst hc
          refine qops_sound hm hl hg.1 hs (lqops_qops hE hn l h) fun a' w' hA => ?_
          obtain ⟨f',H',im',⟨⟨f1,rfl,hK⟩,rfl⟩,hs',hx'⟩:=hA
          exact ⟨f1,L,im',hK,hn,hs',hx.trans hx'⟩
        · split at hc
          · rename_i hg
            simp at hc; subst hc
            exact wops_sound hm hl hg hs (lwops_wops hE _ (hs:=[]) (pend:=[]) hn (by simp) h) fun a' w' hA=>AftL.of hx hA
          · simp at hc
      · simp at hc
  | .seq x y,ir,hc,f,L,im,a,w,Q,hn,hs,hx,h=>by
    simp only [cC] at hc
    obtain ⟨i,hi,hc⟩:=Option.bind_eq_some_iff.1 hc
    obtain ⟨j,hj,rfl⟩:=Option.map_eq_some_iff.1 hc
    refine wp_seq (wp_mono (dwv_sound hE h0 x i hi hn hs hx h) fun e a' w' hq => ?_)
    cases e with
    | normal =>
      obtain ⟨f',L',im',⟨f2,L2,hsh,hK⟩,hn',hs',hx'⟩:=hq
      obtain ⟨hn2,hsh⟩:=hsh hn'
      obtain ⟨im2,hs2,hx2⟩:=hsh ρ G hE N im0 w0 im' w' a' h0 hs' hx'
      exact dwv_sound hE h0 y j hj hn2 hs2 hx2 hK
    | _=>exact hq
  | .cond c x y,ir,hc,f,L,im,a,w,Q,hn,hs,hx,h=>by
    simp only [cC] at hc
    obtain ⟨c',hc',hc⟩:=Option.bind_eq_some_iff.1 hc
    obtain ⟨i,hi,hc⟩:=Option.bind_eq_some_iff.1 hc
    obtain ⟨j,hj,rfl⟩:=Option.map_eq_some_iff.1 hc
    obtain ⟨t,ht,h1,h2⟩:=h
    have ht':asB (ev c' (rnF ρ f))=some t:=by rw [ev_rn,asB_rn]; exact ht
    exact wp_cond_split (asB_ok (ev_ok hs.fr hc') ht') (fun e=>dwv_sound hE h0 x i hi hn hs hx (h1 e)) (fun e=>dwv_sound hE h0 y j hj hn hs hx (h2 e))
  | .block id x,ir,hc,f,L,im,a,w,Q,hn,hs,hx,h=>by
    simp only [cC] at hc
    obtain ⟨i,hi,rfl⟩:=Option.map_eq_some_iff.1 hc
    refine wp_block (wp_mono (dwv_sound hE h0 x i hi hn hs hx h) fun e a' w' hq => ?_)
    cases e with
    | exit id' =>
      simp only [PostL,X.inBlock] at hq
      simp only [Exit.inBlock]
      split
      · rename_i he
        rw [if_pos he] at hq
        exact hq
      · rename_i he
        rw [if_neg he] at hq
        exact hq
    | _=>exact hq
  | .loop x,ir,hc,f,L,im,a,w,Q,hn,hs,hx,h=>by
    simp only [cC] at hc
    obtain ⟨i,hi,rfl⟩:=Option.map_eq_some_iff.1 hc
    obtain ⟨n,h⟩:=h
    refine wp_loop_rounds n ?_
    have key:∀ (n:Nat) {f:Fr} {L:Hp} {im:Im} {a:Act} {w:World},L0.length≤L.length→Sim N im (G L) w (rnF ρ f) a→Ext im0 (G L0) w0 im (G L) w→iter (fun R=>dwv P L0 i (X.then (vs L0 R) Q)) n f L→Code.rounds P x (PostL ρ G L0 N im0 w0 Q) n a w:=by
      intro n
      induction n with
      | zero=>intro f L im a w _ _ _ h; exact h.elim
      | succ n ih =>
        intro f L im a w hn hs hx h
        refine wp_mono (dwv_sound hE h0 x i hi hn hs hx h) fun e a' w' hq => ?_
        cases e with
        | normal =>
          obtain ⟨f',L',im',⟨f2,L2,hsh,hK⟩,hn',hs',hx'⟩:=hq
          obtain ⟨hn2,hsh⟩:=hsh hn'
          obtain ⟨im2,hs2,hx2⟩:=hsh ρ G hE N im0 w0 im' w' a' h0 hs' hx'
          exact ih hn2 hs2 hx2 hK
        | _=>exact hq
    exact key n hn hs hx h
  | .rangeFunc ..,ir,hc,f,L,im,a,w,Q,hn,hs,hx,h=>by simp [cC] at hc
  | .scope ..,ir,hc,f,L,im,a,w,Q,hn,hs,hx,h=>by simp [cC] at hc
  | .goto ..,ir,hc,f,L,im,a,w,Q,hn,hs,hx,h=>by simp [cC] at hc
  | .refuse ..,ir,hc,f,L,im,a,w,Q,hn,hs,hx,h=>by simp [cC] at hc
/-- A function's answer, once its own memory goes. -/
def SettL (L0:Hp) (r:V) (L:Hp) (r':V) (L':Hp):Prop :=
  L0.length≤L.length→L0.length≤L'.length∧∀ ρ G,Emb ρ G L0.length→Settle (G L0) (r.rn ρ) (G L) (r'.rn ρ) (G L')
theorem SettL.refl {L0 r L}:SettL L0 r L r L:=fun h=>⟨h,fun _ _ _=>Settle.refl⟩
def FinL (ts:List RV) (L0:Hp) (r:V) (L':Hp):X→Fr→Hp→Prop
  | .exit _,_,_=>False
  | _,f,L=>andR (resV f L ts) fun l=>SettL L0 (mkRes l) L r L'
theorem resV_rn {ρ:Nat→Nat} {G:Hp→Hp} {n0:Nat} (hE:Emb ρ G n0) {L:Hp} (hn:n0≤L.length) {f:Fr}:∀ (ts:List RV) (l:List V),resV f L ts=some l→resV (rnF ρ f) (G L) ts=some (rns ρ l)
  | [],l,h=>by simp [resV] at h ⊢; subst h; rfl
  | .t n::r,l,h=>by
    simp only [resV] at h ⊢
    obtain ⟨ys,h1,rfl⟩:=Option.map_eq_some_iff.1 h
    rw [resV_rn hE hn r ys h1]; rfl
  | .c n ag sz::r,l,h=>by
    simp only [resV] at h ⊢
    obtain ⟨cs,h1,h⟩:=Option.bind_eq_some_iff.1 h
    obtain ⟨v,h2,h⟩:=Option.bind_eq_some_iff.1 h
    obtain ⟨ys,h3,rfl⟩:=Option.map_eq_some_iff.1 h
    rw [show rnF ρ f n=(f n).rn ρ from rfl,cellsAt_rn hE hn h1]
    simp only [Option.bind_some,one_rn h2,resV_rn hE hn r ys h3,Option.map_some]
    rfl
theorem mkRes_rn {ρ:Nat→Nat} (l:List V):mkRes (rns ρ l)=(mkRes l).rn ρ:=by
  match l with
  | []=>rfl
  | [v]=>rfl
  | v::v'::r=>rfl
theorem fr0_rn {ρ:Nat→Nat} (args:List V):rnF ρ (fr0 args)=fr0 (rns ρ args):=by
  funext t
  simp only [rnF,fr0,rns_map,List.getElem?_map]
  cases args[t]? <;> rfl
theorem ConL.of {P:Program} {m:FuncId} {ws:List FuncId} {ir:IR} {ts:List RV} {n:Nat} (hc:cFn P m ws=some (ir,ts,n)) {args:List V} (hn:args.length≤n) {L:Hp} {r:V} {L':Hp} (hl:L.length≤L'.length) (h:dwv P L ir (FinL ts L r L') (fr0 args) L):ConL P m args L r L':=by
  refine ⟨hl,fun ρ G hE => ?_⟩
  intro im w cargs hr hargs
  unfold cFn at hc
  split at hc
  case isFalse=>simp at hc
  rename_i hlt
  rw [CallsD.st hlt]
  obtain ⟨fn,hfn,hc⟩:=Option.bind_eq_some_iff.1 hc
  obtain ⟨c,hb,hc⟩:=Option.bind_eq_some_iff.1 hc
  obtain ⟨ir',hir,hc⟩:=Option.bind_eq_some_iff.1 hc
  obtain ⟨ts',hts,hc⟩:=Option.map_eq_some_iff.1 hc
  simp only [Prod.mk.injEq] at hc
  obtain ⟨rfl,rfl,rfl⟩:=hc
  have hlen:=hargs.length
  have hs:Sim fn.ntmps im (G L) w (rnF ρ (fr0 args)) { tmps:=cargs.toArray++Array.replicate (fn.ntmps - cargs.toArray.size) undef,defers:=[] }:=by
    rw [fr0_rn]
    have hlr:(rns ρ args).length=args.length:=rns_len _
    refine ⟨hr,⟨fun t => ?_⟩,by simp; omega,rfl⟩
    unfold fr0
    cases ht:(rns ρ args)[t]? with
    | some v =>
      obtain ⟨c,hc,hv⟩:=VRs.get t hargs ht
      have hlt:=(List.getElem?_eq_some_iff.1 hc).1
      have:(cargs.toArray++Array.replicate (fn.ntmps - cargs.toArray.size) undef).getD t undef=c:=by
        rw [Array.getD_eq_getD_getElem?,Array.getElem?_append,if_pos (by simpa using hlt)]
        simp [hc]
      rw [this]; exact hv
    | none =>
      have hge:cargs.length≤t:=by rw [List.getElem?_eq_none_iff] at ht; omega
      have:(cargs.toArray++Array.replicate (fn.ntmps - cargs.toArray.size) undef).getD t undef=undef:=by
        rw [Array.getD_eq_getD_getElem?,Array.getElem?_append,if_neg (by simpa using hge)]
        rw [Array.getElem?_replicate]
        split <;> rfl
      rw [this]; rfl
  have fin:∀ (a':Act) (w':World),AftL ρ G L fn.ntmps im w (fun f' L2=>andR (resV f' L2 ts') fun l=>SettL L (mkRes l) L2 r L') a' w'→a'.defers=[]∧∃ v,(results fn a'.tmps).run P w'=.ok v w'∧∃ im' c,Ending.returned v=.returned c∧Rel im' (G L') w'∧Ext im (G L) w im' (G L') w'∧VR im' (G L') w' (r.rn ρ) c:=fun a' w' hA=>by
    obtain ⟨f',L2,im2,hset,hn2,hs2,hx⟩:=hA
    refine ⟨hs2.defers,?_⟩
    unfold andR at hset
    split at hset
    · rename_i xs hxs
      have hxs':=resV_rn hE hn2 ts' xs hxs
      obtain ⟨vs,hrun,hvs⟩:=results_ok (P:=P) hs2.rel hs2.fr fn.results.toList ts' _ hts hxs'
      have hres:∃ c,(results fn a'.tmps).run P w'=.ok c w'∧VR im2 (G L2) w' (mkRes (rns ρ xs)) c:=by
        rw [results_eq,Array.mapM_eq_mapM_toList]
        generalize fn.results.toList.mapM (rOne a'.tmps)=q at hrun
        generalize rns ρ xs=xs at hvs
        match xs,vs,hvs with
        | [],[],_=>exact ⟨.tuple #[],by simp [hrun],#[],rfl,trivial⟩
        | [x],[y],h=>exact ⟨y,by simp [hrun],h.1⟩
        | x::x'::r,y::y'::r',h=>exact ⟨.tuple (y::y'::r').toArray,by simp [hrun],(y::y'::r').toArray,rfl,by simpa using h⟩
      obtain ⟨c,hc1,hc2⟩:=hres
      rw [mkRes_rn] at hc2
      obtain ⟨im',h1,h2,h3⟩:=(hset hn2).2 ρ G hE im w im2 w' c hr hs2.rel hx hc2
      exact ⟨c,hc1,im',c,rfl,h1,h2,h3⟩
    · exact hset.elim
  refine calls_of_wp hfn hb (wp_mono (dwv_sound hE hr c _ hir (Nat.le_refl _) hs (Ext.refl _ _ _) h) fun e a' w' hq => ?_)
  cases e with
  | normal=>exact fin a' w' hq
  | ret=>exact fin a' w' hq
  | exit id=>obtain ⟨_,_,_,hf,_⟩:=hq; exact hf.elim
  | goto l=>exact hq.elim
  | panic c=>exact hq.elim
  | outgrown=>exact hq.elim
end Go.Proofs.YtoemlgdlejkliaaK
