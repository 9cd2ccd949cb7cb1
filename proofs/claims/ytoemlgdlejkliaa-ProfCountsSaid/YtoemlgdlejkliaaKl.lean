/- Whole code: what is reckoned over abstract values holds of the machine. -/
import Derived.Test.YtoemlgdlejkliaaKo
namespace Go.Proofs.YtoemlgdlejkliaaK
set_option linter.unusedVariables false
set_option linter.unusedSimpArgs false
open Go.RowKit
/-- In a function's frame, a smaller memory will do. -/
def Shr (H0:Hp) (f:Fr) (H:Hp) (f':Fr) (H':Hp):Prop :=
  ∀ N im0 w0 im w a,Rel im0 H0 w0→Sim N im H w f a→Ext im0 H0 w0 im H w→∃ im',Sim N im' H' w f' a∧Ext im0 H0 w0 im' H' w
theorem Shr.refl {H0 f H}:Shr H0 f H f H:=fun _ _ _ im _ _ _ h k=>⟨im,h,k⟩
def andB (x:Option Bool) (A B:Prop):Prop:=∃ t,x=some t∧(t=true→A)∧(t=false→B)
def dwp (P:Program):IR→(X→Fr→Hp→Prop)→Fr→Hp→Prop
  | .skip,Q,f,H=>Q .normal f H
  | .reg false ops,Q,f,H=>dops P ops f H (Q .normal)
  | .reg true ops,Q,f,H=>qops P ops f H fun f'=>Q .normal f' H
  | .regw ops,Q,f,H=>wops P ops f [] H [] (Q .normal)
  | .seq a b,Q,f,H=>dwp P a (X.then (dwp P b Q) Q) f H
  | .cond c a b,Q,f,H=>andB (asB (ev c f)) (dwp P a Q f H) (dwp P b Q f H)
  | .block id a,Q,f,H=>dwp P a (X.inBlock id Q) f H
  | .loop a,Q,f,H=>∃ (Iv:Fr→Hp→Prop) (μ:Fr→Hp→Nat),Iv f H∧∀ f1 H1,Iv f1 H1→dwp P a (X.then (fun f' H'=>∃ f2 H2,Shr H f' H' f2 H2∧Iv f2 H2∧μ f2 H2 < μ f1 H1) Q) f1 H1
  | .exit id,Q,f,H=>Q (.exit id) f H
  | .ret,Q,f,H=>Q .ret f H
def cC (P:Program) (ws:List FuncId) (N:Nat):Code→Option IR
  | .skip=>some .skip
  | .label _=>some .skip
  | .region _ ops draw=>(cOps P draw N ops ops.toList).bind fun l =>
    if draw then (if P.follows .mixedOrders||!Region.departs ops then
      (if ordOk l&&l.all (fun o=>!wrs ws o) then some (.reg true l) else if wOk (wrs ws) l then some (.regw (annot (wrs ws) l)) else none) else none) else some (.reg false l)
  | .seq a b=>(cC P ws N a).bind fun x=>(cC P ws N b).map fun y=>.seq x y
  | .cond c a b=>(cO c).bind fun c=>(cC P ws N a).bind fun x=>(cC P ws N b).map fun y=>.cond c x y
  | .block id a=>(cC P ws N a).map fun x=>.block id x
  | .loop a=>(cC P ws N a).map fun x=>.loop x
  | .exit id=>some (.exit id)
  | .ret=>some .ret
  | _=>none
/-- What is asked behind a piece of code. -/
def Post (N:Nat) (im:Im) (H:Hp) (w:World) (Q:X→Fr→Hp→Prop):Exit→Act→World→Prop
  | .normal,a,w'=>After N im H w (Q .normal) a w'
  | .exit id,a,w'=>After N im H w (Q (.exit id)) a w'
  | .ret,a,w'=>After N im H w (Q .ret) a w'
  | _,_,_=>False
theorem wp_loop_any {α:Type} {P:Program} {c:Code} {Q:Exit→Act→World→Prop} {a:Act} {w:World} (Iv:α→Act→World→Prop) (μ:α→Nat) {x:α} (h0:Iv x a w)
    (round:∀ x a w,Iv x a w→c.wp P (Exit.then (fun a' w'=>∃ x',Iv x' a' w'∧μ x' < μ x) Q) a w):(Code.loop c).wp P Q a w:=by
  have hl:∀ a w,(∃ x,Iv x a w)→∃ m,(∃ x,Iv x a w∧μ x=m)∧∀ k,k < m→¬ ∃ x,Iv x a w∧μ x=k:=fun a w ⟨x,h⟩=>least _ (μ x) ⟨x,h,rfl⟩
  refine wp_loop (fun a w=>∃ x,Iv x a w) (fun a w=>Classical.epsilon fun m=>(∃ x,Iv x a w∧μ x=m)∧∀ k,k < m→¬ ∃ x,Iv x a w∧μ x=k) ⟨x,h0⟩ fun a w h => ?_
  obtain ⟨⟨y,hy,hm⟩,_⟩:=Classical.epsilon_spec (hl a w h)
  refine wp_mono (round y a w hy) fun e a' w' hq => ?_
  cases e with
  | normal =>
    obtain ⟨x',hx',hlt⟩:=hq
    refine ⟨⟨x',hx'⟩,?_⟩
    have hs:=Classical.epsilon_spec (hl a' w' ⟨x',hx'⟩)
    refine Nat.lt_of_le_of_lt (Nat.le_of_not_lt fun hc=>hs.2 (μ x') hc ⟨x',hx',rfl⟩) ?_
    rw [hm] at hlt
    exact hlt
  | _=>exact hq
theorem Post.trans {N:Nat} {im im':Im} {H H':Hp} {w w':World} {Q:X→Fr→Hp→Prop} {e:Exit} {a:Act} {w2:World} (hx:Ext im H w im' H' w') (h:Post N im' H' w' Q e a w2):Post N im H w Q e a w2:=by
  cases e <;> first | exact h.elim | exact After.trans (f':=fun _=>.any) hx h
theorem dwp_sound {P:Program} {ws:List FuncId} {N:Nat}:∀ (c:Code) (ir:IR),cC P ws N c=some ir→∀ {f:Fr} {H:Hp} {im:Im} {a:Act} {w:World} {Q:X→Fr→Hp→Prop},Sim N im H w f a→dwp P ir Q f H→c.wp P (Post N im H w Q) a w
  | .skip,ir,hc,f,H,im,a,w,Q,hs,h=>by
    simp [cC] at hc; subst hc
    exact wp_skip ⟨f,H,im,h,hs,Ext.refl _ _ _⟩
  | .label _,ir,hc,f,H,im,a,w,Q,hs,h=>by
    simp [cC] at hc; subst hc
    exact wp_label ⟨f,H,im,h,hs,Ext.refl _ _ _⟩
  | .exit id,ir,hc,f,H,im,a,w,Q,hs,h=>by
    simp [cC] at hc; subst hc
    exact wp_exit ⟨f,H,im,h,hs,Ext.refl _ _ _⟩
  | .ret,ir,hc,f,H,im,a,w,Q,hs,h=>by
    simp [cC] at hc; subst hc
    exact wp_ret ⟨f,H,im,h,hs,Ext.refl _ _ _⟩
  | .region id ops draw,ir,hc,f,H,im,a,w,Q,hs,h=>by
    simp only [cC] at hc
    obtain ⟨l,hl,hc⟩:=Option.bind_eq_some_iff.1 hc
    cases draw with
    | false =>
      simp at hc; subst hc
      refine wp_region ?_
      have:=dops_sound (Qn:=fun _ _=>True) (Qe:=Post N im H w Q) ops.toList l 0 rfl hl hs h fun a' w' hA=>hA
      simpa [List.range_eq_range'] using this
    | true =>
      simp only [if_true] at hc
      split at hc
      · rename_i hm
        split at hc
        · rename_i hg
          simp only [Bool.and_eq_true] at hg
          simp at hc; subst hc
          refine qops_sound hm hl hg.1 hs h fun a' w' hA => ?_
          obtain ⟨f',H',im',⟨hK,rfl⟩,h2⟩:=hA
          exact ⟨f',_,im',hK,h2⟩
        · split at hc
          · rename_i hg
            simp at hc; subst hc
            exact wops_sound hm hl hg hs h fun a' w' hA=>hA
          · simp at hc
      · simp at hc
  | .seq x y,ir,hc,f,H,im,a,w,Q,hs,h=>by
    simp only [cC] at hc
    obtain ⟨i,hi,hc⟩:=Option.bind_eq_some_iff.1 hc
    obtain ⟨j,hj,rfl⟩:=Option.map_eq_some_iff.1 hc
    refine wp_seq (wp_mono (dwp_sound x i hi hs h) fun e a' w' hq => ?_)
    cases e with
    | normal =>
      obtain ⟨f',H',im',hK,hs',hx⟩:=hq
      exact wp_mono (dwp_sound y j hj hs' hK) fun e a2 w2 h2=>Post.trans hx h2
    | _=>exact hq
  | .cond c x y,ir,hc,f,H,im,a,w,Q,hs,h=>by
    simp only [cC] at hc
    obtain ⟨c',hc',hc⟩:=Option.bind_eq_some_iff.1 hc
    obtain ⟨i,hi,hc⟩:=Option.bind_eq_some_iff.1 hc
    obtain ⟨j,hj,rfl⟩:=Option.map_eq_some_iff.1 hc
    obtain ⟨t,ht,h1,h2⟩:=h
    exact wp_cond_split (asB_ok (ev_ok hs.fr hc') ht) (fun e=>dwp_sound x i hi hs (h1 e)) (fun e=>dwp_sound y j hj hs (h2 e))
  | .block id x,ir,hc,f,H,im,a,w,Q,hs,h=>by
    simp only [cC] at hc
    obtain ⟨i,hi,rfl⟩:=Option.map_eq_some_iff.1 hc
    refine wp_block (wp_mono (dwp_sound x i hi hs h) fun e a' w' hq => ?_)
    cases e with
    | exit id' =>
      simp only [Post,X.inBlock] at hq
      simp only [Exit.inBlock]
      split
      · rename_i he
        rw [if_pos he] at hq
        exact hq
      · rename_i he
        rw [if_neg he] at hq
        exact hq
    | _=>exact hq
  | .loop x,ir,hc,f,H,im,a,w,Q,hs,h=>by
    simp only [cC] at hc
    obtain ⟨i,hi,rfl⟩:=Option.map_eq_some_iff.1 hc
    obtain ⟨Iv,μ,h0,hround⟩:=h
    refine wp_loop_any (α:=Fr × Hp) (fun x a' w'=>Iv x.1 x.2∧∃ im',Sim N im' x.2 w' x.1 a'∧Ext im H w im' x.2 w') (fun x=>μ x.1 x.2) (x:=(f,H)) ⟨h0,im,hs,Ext.refl _ _ _⟩ fun y a' w' hy => ?_
    obtain ⟨hI,im',hs',hx⟩:=hy
    refine wp_mono (dwp_sound x i hi hs' (hround _ _ hI)) fun e a2 w2 hq => ?_
    cases e with
    | normal =>
      obtain ⟨f3,H3,im3,⟨f2,H2,hsh,hI2,hlt⟩,hs3,hx3⟩:=hq
      obtain ⟨im2,hs2,hx2⟩:=hsh N im w im3 w2 a2 hs.rel hs3 (hx.trans hx3)
      exact ⟨(f2,H2),⟨hI2,im2,hs2,hx2⟩,hlt⟩
    | exit id=>exact Post.trans (Q:=Q) (e:=.exit id) hx hq
    | ret=>exact Post.trans (Q:=Q) (e:=.ret) hx hq
    | _=>exact hq
  | .rangeFunc ..,ir,hc,f,H,im,a,w,Q,hs,h=>by simp [cC] at hc
  | .scope ..,ir,hc,f,H,im,a,w,Q,hs,h=>by simp [cC] at hc
  | .goto ..,ir,hc,f,H,im,a,w,Q,hs,h=>by simp [cC] at hc
  | .refuse ..,ir,hc,f,H,im,a,w,Q,hs,h=>by simp [cC] at hc
end Go.Proofs.YtoemlgdlejkliaaK
