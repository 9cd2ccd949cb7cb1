/- What is known of a frame; the steps reckoned from what is known. -/
import Derived.Test.YtoemlgdlejkliaaRc
import Derived.KernelRfl
namespace Go.Proofs.YtoemlgdlejkliaaK
set_option linter.unusedVariables false
set_option linter.unusedSimpArgs false
open Go.RowKit
/-- A temporary has this value, if these others are so; else it has none. -/
structure Fc where
  t:Nat
  ch:List (Nat × Bool)
  v:V
def hold (f:Fr):List (Nat × Bool)→Prop
  | []=>True
  | c::r=>f c.1=.s (.bool c.2)∧hold f r
def FactOk (f:Fr) (e:Fc):Prop:=(hold f e.ch→f e.t=e.v)∧(¬ hold f e.ch→f e.t=.s undef)
def FOk (f:Fr):List Fc→Prop
  | []=>True
  | e::r=>FactOk f e∧FOk f r
def fnd (t:Nat):List Fc→Option Fc
  | []=>none
  | e::r=>bif Nat.beq e.t t then some e else fnd t r
def sub (a b:List (Nat × Bool)):Bool:=a.all fun c=>b.any fun d=>Nat.beq c.1 d.1&&(c.2 == d.2)
def val (l:List Fc) (ch:List (Nat × Bool)):Opd→Option V
  | .t n=>match fnd n l with
    | some e=>bif sub e.ch ch then some e.v else none
    | none=>none
  | .k v=>some (lit v)
  | .fn m=>some (.s (.func (.func m) #[] #[]))
def frF (l:List Fc) (ch:List (Nat × Bool)):Fr:=fun n=>match fnd n l with
  | some e=>bif sub e.ch ch then e.v else .any
  | none=>.any
def known (l:List Fc) (ch:List (Nat × Bool)) (x:Opd):Bool:=(val l ch x).isSome
def put (d:Nat) (ch:List (Nat × Bool)) (v:V) (l:List Fc):List Fc :=
  ⟨d,ch,v⟩::l.filter fun e=>!(Nat.beq e.t d)&&!(e.ch.any fun c=>Nat.beq c.1 d)
def putD (d:Option Nat) (ch:List (Nat × Bool)) (v:V) (l:List Fc):List Fc:=match d with
  | none=>l
  | some d=>put d ch v l
def chain (l:List Fc):Option (Nat × Bool)→Option (List (Nat × Bool))
  | none=>some []
  | some (t,w)=>match fnd t l with
    | some e=>(match e.v with
      | .s _=>some ((t,w)::e.ch)
      | _=>none)
    | none=>none
/-- The chain, as the values tell. -/
def chB (l:List Fc):List (Nat × Bool)→Option Bool
  | []=>some true
  | (t,w)::r=>match fnd t l with
    | some e=>(asB e.v).bind fun b=>match r with
      | []=>some (bif w then b else !b)
      | r=>(chB l r).map fun x=>(bif w then b else !b)&&x
    | none=>none
def pickV (b:Bool):V→V→V
  | .s (.bool x),.s (.bool y)=>.s (.bool (bif b then x else y))
  | x,y=>bif b then x else y
def pk (l:List Fc) (ch:List (Nat × Bool)) (c x y:Opd):Option V:=match c with
  | .t n=>((val l ch (.t n)).bind asB).bind fun b=>match x,y with
    | .k (.bool true),y=>((val l ((n,false)::ch) y).bind asB).map fun y=>.s (.bool (b||y))
    | x,.k (.bool false)=>((val l ((n,true)::ch) x).bind asB).map fun x=>.s (.bool (b&&x))
    | x,y=>(val l ((n,true)::ch) x).bind fun x=>(val l ((n,false)::ch) y).map fun y=>pickV b x y
  | _=>none
def ex (l:List Fc) (ch:List (Nat × Bool)) (L:Hp) (op:I):Option (V × Hp):=match op with
  | .pick c x y=>(pk l ch c x y).map fun v=>(v,L)
  | op=>bif op.opds.all (known l ch) then E1 op (frF l ch) L else none
def okd (d:Option Nat) (ch:List (Nat × Bool)):Bool:=match d with
  | none=>true
  | some d=>!(ch.any fun c=>Nat.beq c.1 d)
def run:List Op1→List Fc→Hp→Option (List Fc × Hp)
  | [],l,L=>some (l,L)
  | o::r,l,L=>match o.op with
    | .call .. => none
    | .e op=>(chain l o.g).bind fun ch=>(ex l ch L op).bind fun x=>bif (ch.isEmpty||isQ op)&&okd o.dst ch then run r (putD o.dst ch x.1 l) x.2 else none
def sel (ks:List Nat) (l:List Fc):List Fc:=ks.filterMap fun k=>fnd k l
/-- Steps in their order; 'md': none of them writes. -/
def m1 (md:Bool) (n0:Nat) (P:Program) (op:Ik) (f:Fr) (L:Hp) (K:V→Hp→Prop):Prop:=match op with
  | .call m args=>∃ r L',CalL n0 P m (args.map (ev · f)) L r L'∧(md=true→L'=L)∧K r L'
  | .e op=>(md=true→isQ op=true)∧andV (E1 op f L) K
def mg (md:Bool) (n0:Nat) (P:Program) (op:Ik) (c:Prop) [Decidable c] (f:Fr) (L:Hp) (K:V→Hp→Prop):Prop:=match op with
  | .call m args=>∃ r,(c→CalL n0 P m (args.map (ev · f)) L r L)∧K (if c then r else .s undef) L
  | .e op=>isQ op=true∧andG c (E1 op f L) L K
def mops (md:Bool) (n0:Nat) (P:Program):List Op1→Fr→Hp→(Fr→Hp→Prop)→Prop
  | [],f,L,K=>K f L
  | o::r,f,L,K=>match o.g with
    | none=>m1 md n0 P o.op f L fun v L'=>mops md n0 P r (upd o.dst v f) L' K
    | some (t,want)=>sg (f t)=true∧mg md n0 P o.op (gd (f t) want=true) f L fun v L'=>mops md n0 P r (upd o.dst v f) L' K
theorem mops_lops {n0:Nat} {P:Program} {K:Fr→Hp→Prop}:∀ (ops:List Op1) {f:Fr} {L:Hp},mops false n0 P ops f L K→lops n0 P ops f L K
  | [],f,L,h=>h
  | o::r,f,L,h=>by
    simp only [mops,lops] at h ⊢
    cases hg:o.g with
    | none =>
      simp only [hg] at h ⊢
      cases ho:o.op with
      | call m args =>
        simp only [ho,m1,l1] at h ⊢
        obtain ⟨v,L',h1,_,h2⟩:=h
        exact ⟨v,L',h1,mops_lops r h2⟩
      | e op =>
        simp only [ho,m1,l1,andV] at h ⊢
        cases he:E1 op f L with
        | none=>rw [he] at h; exact h.2.elim
        | some x=>rw [he] at h; exact mops_lops r h.2
    | some tw =>
      obtain ⟨t,w⟩:=tw
      simp only [hg] at h ⊢
      refine ⟨h.1,?_⟩
      have h:=h.2
      cases ho:o.op with
      | call m args =>
        simp only [ho,mg,lg] at h ⊢
        obtain ⟨v,h1,h2⟩:=h
        exact ⟨v,h1,mops_lops r h2⟩
      | e op =>
        simp only [ho,mg,lg] at h ⊢
        rw [if_pos h.1]
        exact ⟨h.2.1,mops_lops r h.2.2⟩
theorem mops_lqops {n0:Nat} {P:Program} {K:Fr→Prop}:∀ (ops:List Op1) {f:Fr} {L:Hp},mops true n0 P ops f L (fun f' _=>K f')→lqops n0 P ops f L K
  | [],f,L,h=>h
  | o::r,f,L,h=>by
    simp only [mops,lqops] at h ⊢
    cases hg:o.g with
    | none =>
      simp only [hg] at h ⊢
      cases ho:o.op with
      | call m args =>
        simp only [ho,m1,lq1] at h ⊢
        obtain ⟨v,L',h1,h3,h2⟩:=h
        have:=h3 trivial; subst this
        exact ⟨v,h1,mops_lqops r h2⟩
      | e op =>
        simp only [ho,m1,lq1,andV] at h ⊢
        refine ⟨h.1 trivial,?_⟩
        cases he:E1 op f L with
        | none=>rw [he] at h; exact h.2.elim
        | some x =>
          rw [he] at h
          have:=isQ_H (h.1 trivial) (v:=x.1) (H':=x.2) he
          have h2:=h.2
          simp only [this] at h2
          exact mops_lqops r h2
    | some tw =>
      obtain ⟨t,w⟩:=tw
      simp only [hg] at h ⊢
      refine ⟨h.1,?_⟩
      have h:=h.2
      cases ho:o.op with
      | call m args =>
        simp only [ho,mg,lqg] at h ⊢
        obtain ⟨v,h1,h2⟩:=h
        exact ⟨v,h1,mops_lqops r h2⟩
      | e op =>
        simp only [ho,mg,lqg] at h ⊢
        exact ⟨h.1,h.2.1,mops_lqops r h.2.2⟩
section
variable {f:Fr} {l:List Fc} {ch:List (Nat × Bool)} {L:Hp}
theorem fnd_ok {t:Nat} {e:Fc}:∀ {l:List Fc},FOk f l→fnd t l=some e→e.t=t∧FactOk f e
  | [],_,h=>by simp [fnd] at h
  | x::r,hf,h=>by
    simp only [fnd] at h
    cases hx:Nat.beq x.t t with
    | true=>rw [hx] at h; simp at h; subst h; exact ⟨Nat.eq_of_beq_eq_true hx,hf.1⟩
    | false=>rw [hx] at h; exact fnd_ok hf.2 h
theorem sub_ok {a b:List (Nat × Bool)} (h:sub a b=true) (hb:hold f b):hold f a:=by
  have hm:∀ {b:List (Nat × Bool)} {d:Nat × Bool},hold f b→d∈b→f d.1=.s (.bool d.2):=by
    intro b
    induction b with
    | nil=>intro d _ hd; simp at hd
    | cons x r ih =>
      intro d hb hd
      rcases List.mem_cons.1 hd with rfl | hd
      · exact hb.1
      · exact ih hb.2 hd
  induction a with
  | nil=>trivial
  | cons c r ih =>
    simp only [sub,List.all_cons,Bool.and_eq_true,List.any_eq_true] at h
    obtain ⟨⟨d,hd,h1⟩,h2⟩:=h
    have h3:=Nat.eq_of_beq_eq_true h1.1
    have h4:c.2=d.2:=by simpa using h1.2
    have:=hm hb hd
    refine ⟨by rw [h3,h4]; exact this,ih ?_⟩
    simp only [sub,List.all_eq_true]
    exact List.all_eq_true.1 h2
theorem val_ok (hf:FOk f l) (hc:hold f ch) {x:Opd} {v:V} (h:val l ch x=some v):ev x f=v∧ev x (frF l ch)=v:=by
  cases x with
  | t n =>
    simp only [val] at h
    simp only [ev,frF]
    cases he:fnd n l with
    | none=>simp [he] at h
    | some e =>
      simp only [he] at h ⊢
      cases hs:sub e.ch ch with
      | false=>simp [hs] at h
      | true =>
        simp only [hs,cond_true,Option.some.injEq] at h ⊢
        obtain ⟨h1,h2⟩:=fnd_ok hf he
        refine ⟨?_,h⟩
        rw [← h1,h2.1 (sub_ok hs hc),h]
  | k v=>simp only [val,Option.some.injEq] at h; subst h; exact ⟨rfl,rfl⟩
  | fn m=>simp only [val,Option.some.injEq] at h; subst h; exact ⟨rfl,rfl⟩
theorem known_ok (hf:FOk f l) (hc:hold f ch) {xs:List Opd} (h:xs.all (known l ch)=true):∀ x∈xs,ev x f=ev x (frF l ch):=fun x hx=>by
  have:=List.all_eq_true.1 h x hx
  obtain ⟨v,hv⟩:=Option.isSome_iff_exists.1 this
  obtain ⟨h1,h2⟩:=val_ok hf hc hv
  rw [h1,h2]
theorem undef_nb {b:Bool}:(V.s undef) ≠ .s (.bool b):=by simp [undef]
/-- What a guard's chain says. -/
theorem chain_some (hf:FOk f l) {t:Nat} {w:Bool} (h:chain l (some (t,w))=some ch):sg (f t)=true∧(gd (f t) w=true→hold f ch)∧(¬ gd (f t) w=true→¬ hold f ch):=by
  simp only [chain] at h
  cases he:fnd t l with
  | none=>simp [he] at h
  | some e =>
    simp only [he] at h
    obtain ⟨h1,h2⟩:=fnd_ok hf he
    rw [← h1]
    split at h
    · rename_i v hv
      simp at h; subst h
      have hsg:sg (f e.t)=true:=by
        by_cases hh:hold f e.ch
        · rw [h2.1 hh,hv]; rfl
        · rw [h2.2 hh]; rfl
      refine ⟨hsg,fun hg => ?_,fun hg hh => ?_⟩
      · have hb:f e.t=.s (.bool w):=by
          unfold gd at hg
          split at hg
          · rename_i b hb; simp at hg; rw [hb,hg]
          · simp at hg
        refine ⟨by rw [← h1]; exact hb,?_⟩
        by_cases hh:hold f e.ch
        · exact hh
        · rw [h2.2 hh] at hb; exact (undef_nb hb).elim
      · apply hg
        have:=hh.1
        simp only at this
        rw [← h1] at this
        rw [this]; simp [gd]
    · simp at h
theorem FactOk_upd {d:Nat} {v:V} {e:Fc} (h:FactOk f e) (h1:e.t ≠ d) (h2:∀ c∈e.ch,c.1 ≠ d):FactOk (upd (some d) v f) e:=by
  have hh:∀ (c:List (Nat × Bool)),(∀ x∈c,x.1 ≠ d)→(hold (upd (some d) v f) c↔hold f c):=by
    intro c
    induction c with
    | nil=>intro _; exact Iff.rfl
    | cons x r ih =>
      intro hx
      simp only [hold]
      rw [ih fun y hy=>hx y (by simp [hy])]
      have:=hx x (by simp)
      simp [upd,this]
  unfold FactOk at h ⊢
  rw [hh e.ch h2]
  simpa [upd,h1] using h
theorem FOk_put {d:Nat} {v:V} {l:List Fc} (hf:FOk f l) {w:V} (hd:okd (some d) ch=true) (h1:hold f ch→w=v) (h2:¬ hold f ch→w=.s undef):FOk (upd (some d) w f) (put d ch v l):=by
  have hn:∀ c∈ch,c.1 ≠ d:=fun c hc e=>by
    simp only [okd,Bool.not_eq_true',List.any_eq_false] at hd
    exact hd c hc (by simp [e])
  have hh:∀ (c:List (Nat × Bool)),(∀ x∈c,x.1 ≠ d)→(hold (upd (some d) w f) c↔hold f c):=by
    intro c
    induction c with
    | nil=>intro _; exact Iff.rfl
    | cons x r ih =>
      intro hx
      simp only [hold]
      rw [ih fun y hy=>hx y (by simp [hy])]
      have:=hx x (by simp)
      simp [upd,this]
  refine ⟨?_,?_⟩
  · unfold FactOk
    rw [hh ch hn]
    simpa [upd] using ⟨h1,h2⟩
  · clear h1 h2
    induction l with
    | nil=>trivial
    | cons e r ih =>
      simp only [List.filter_cons]
      split
      · rename_i hc
        simp only [Bool.and_eq_true,Bool.not_eq_true',List.any_eq_false,Nat.beq_eq_true_eq] at hc
        refine ⟨FactOk_upd hf.1 (fun e=>by rw [e] at hc; simp at hc) (fun c h e=>hc.2 c h (by simp [e])),ih hf.2⟩
      · exact ih hf.2
theorem FOk_putD {d:Option Nat} {v w:V} (hf:FOk f l) (hd:okd d ch=true) (h1:hold f ch→w=v) (h2:¬ hold f ch→w=.s undef):FOk (upd d w f) (putD d ch v l):=by
  cases d with
  | none=>exact hf
  | some d=>exact FOk_put hf hd h1 h2
theorem asB_some {v:V} {b:Bool} (h:asB v=some b):v=.s (.bool b):=by
  cases v with
  | s v=>cases v <;> simp [asB] at h; rw [h]
  | _=>simp [asB] at h
theorem pk_ok (hf:FOk f l) (hc:hold f ch) {c x y:Opd} {v:V} (h:pk l ch c x y=some v):E1 (.pick c x y) f L=some (v,L):=by
  cases c with
  | t n =>
    simp only [pk] at h
    obtain ⟨b,hb,h⟩:=Option.bind_eq_some_iff.1 h
    obtain ⟨u,hu,hb⟩:=Option.bind_eq_some_iff.1 hb
    have hn:=(val_ok hf hc hu).1
    rw [asB_some hb] at hn
    have hT:b=true→hold f ((n,true)::ch):=fun e=>⟨by rw [e] at hn; exact hn,hc⟩
    have hF:b=false→hold f ((n,false)::ch):=fun e=>⟨by rw [e] at hn; exact hn,hc⟩
    have e1:E1 (.pick (.t n) x y) f L=some (if b=true then ev x f else ev y f,L):=by simp only [E1,hn]; rfl
    rw [e1]
    split at h
    · obtain ⟨z,hz,rfl⟩:=Option.map_eq_some_iff.1 h
      obtain ⟨u,hu,hz⟩:=Option.bind_eq_some_iff.1 hz
      cases b with
      | true=>simp [ev,lit]
      | false=>have:=(val_ok hf (hF rfl) hu).1; rw [asB_some hz] at this; simp [this]
    · obtain ⟨z,hz,rfl⟩:=Option.map_eq_some_iff.1 h
      obtain ⟨u,hu,hz⟩:=Option.bind_eq_some_iff.1 hz
      cases b with
      | true=>have:=(val_ok hf (hT rfl) hu).1; rw [asB_some hz] at this; simp [this]
      | false=>simp [ev,lit]
    · obtain ⟨u,hu,h⟩:=Option.bind_eq_some_iff.1 h
      obtain ⟨u',hu',rfl⟩:=Option.map_eq_some_iff.1 h
      cases b with
      | true=>have:=(val_ok hf (hT rfl) hu).1; rw [if_pos rfl,this]; unfold pickV; split <;> rfl
      | false=>have:=(val_ok hf (hF rfl) hu').1; rw [if_neg (by simp),this]; unfold pickV; split <;> rfl
  | _=>simp [pk] at h
theorem ex_ok (hf:FOk f l) (hc:hold f ch) {op:I} {x:V × Hp} (h:ex l ch L op=some x):E1 op f L=some x:=by
  unfold ex at h
  split at h
  · obtain ⟨v,hv,rfl⟩:=Option.map_eq_some_iff.1 h
    exact pk_ok hf hc hv
  · cases hk:op.opds.all (known l ch) with
    | false=>simp [hk] at h
    | true =>
      simp only [hk,cond_true] at h
      rw [E1_congr (known_ok hf hc hk)]; exact h
theorem chB_ok (hf:FOk f l):∀ (ch:List (Nat × Bool)) (b:Bool),hold f ch→chB l ch=some b→b=true
  | [],b,_,h=>by simp [chB] at h; exact h
  | (t,w)::r,b,hh,h=>by
    simp only [chB] at h
    cases he:fnd t l with
    | none=>simp [he] at h
    | some e =>
      simp only [he] at h
      obtain ⟨u,hu,h⟩:=Option.bind_eq_some_iff.1 h
      obtain ⟨h1,h2⟩:=fnd_ok hf he
      have e1:=asB_some hu
      have hw:u=w:=by
        have h3:=hh.1
        simp only at h3
        by_cases hx:hold f e.ch
        · have:=h2.1 hx
          rw [h1,h3,e1] at this
          simp at this; exact this.symm
        · have:=h2.2 hx
          rw [h1,h3] at this
          exact (undef_nb this.symm).elim
      subst hw
      have hb0:(bif u then u else !u)=true:=by cases u <;> rfl
      split at h
      · injection h with h; rw [← h]; exact hb0
      · obtain ⟨z,hz,rfl⟩:=Option.map_eq_some_iff.1 h
        rw [hb0,chB_ok hf _ z hh.2 hz]; rfl
variable {md:Bool} {n0:Nat} {P:Program} {K:Fr→Hp→Prop}
def qOk (md:Bool) (ops:List Op1):Bool:=bif md then ops.all (fun o=>match o.op with | .e op=>isQ op | _=>true) else true
theorem qOk_cons {md:Bool} {o:Op1} {r:List Op1} (h:qOk md (o::r)=true):(∀ op,o.op=.e op→md=true→isQ op=true)∧qOk md r=true:=by
  cases md with
  | false=>exact ⟨fun _ _ h=>by simp at h,rfl⟩
  | true =>
    simp only [qOk,cond_true,List.all_cons,Bool.and_eq_true] at h ⊢
    exact ⟨fun op ho _=>by have:=h.1; rw [ho] at this; exact this,h.2⟩
theorem run_ok {rest:List Op1}:∀ (ops:List Op1) {l l':List Fc} {L L':Hp} {f:Fr},qOk md ops=true→run ops l L=some (l',L')→FOk f l→(∀ f',FOk f' l'→mops md n0 P rest f' L' K)→mops md n0 P (ops++rest) f L K
  | [],l,l',L,L',f,hq,h,hf,hK=>by simp [run] at h; obtain ⟨rfl,rfl⟩:=h; exact hK f hf
  | o::r,l,l',L,L',f,hqo,h,hf,hK=>by
    obtain ⟨hq1,hq2⟩:=qOk_cons hqo
    simp only [run] at h
    split at h
    · simp at h
    · rename_i op hop
      obtain ⟨ch,hch,h⟩:=Option.bind_eq_some_iff.1 h
      obtain ⟨x,hx,h⟩:=Option.bind_eq_some_iff.1 h
      cases hg:(ch.isEmpty||isQ op)&&okd o.dst ch with
      | false=>simp [hg] at h
      | true =>
        simp only [hg,cond_true] at h
        simp only [Bool.and_eq_true,Bool.or_eq_true,List.isEmpty_iff] at hg
        simp only [List.cons_append,mops]
        cases hgd:o.g with
        | none =>
          rw [hgd] at hch
          simp [chain] at hch; subst hch
          simp only [hop,m1,ex_ok (ch:=[]) hf trivial hx,andV]
          refine ⟨hq1 _ hop,?_⟩
          exact run_ok r hq2 h (FOk_putD hf hg.2 (fun _=>rfl) (fun hn=>(hn trivial).elim)) hK
        | some tw =>
          obtain ⟨t,w⟩:=tw
          rw [hgd] at hch
          obtain ⟨c1,c2,c3⟩:=chain_some hf hch
          simp only
          refine ⟨c1,?_⟩
          have hq:isQ op=true:=by
            rcases hg.1 with hg | hg
            · subst hg; simp only [chain] at hch; split at hch
              · split at hch <;> simp at hch
              · simp at hch
            · exact hg
          simp only [hop,mg]
          refine ⟨hq,?_⟩
          by_cases hc:gd (f t) w=true
          · have hx':=ex_ok hf (c2 hc) hx
            have hL:=isQ_H hq hx'
            refine ⟨fun _=>by rw [hx']; rfl,?_⟩
            rw [hx',if_pos hc]
            simp only [Option.map_some,Option.getD_some]
            rw [hL] at h
            exact run_ok r hq2 h (FOk_putD hf hg.2 (fun _=>rfl) (fun hn=>(hn (c2 hc)).elim)) hK
          · refine ⟨fun h=>absurd h hc,?_⟩
            rw [if_neg hc]
            have:x.2=L:=by
              unfold ex at hx
              split at hx
              · obtain ⟨v,_,rfl⟩:=Option.map_eq_some_iff.1 hx; rfl
              · cases hk:op.opds.all (known l ch) with
                | false=>simp [hk] at hx
                | true=>simp only [hk,cond_true] at hx; exact isQ_H hq hx
            rw [this] at h
            exact run_ok r hq2 h (FOk_putD hf hg.2 (fun hn=>(c3 hc hn).elim) (fun _=>rfl)) hK
theorem FOk_sel {ks:List Nat} (hf:FOk f l):FOk f (sel ks l):=by
  induction ks with
  | nil=>trivial
  | cons k r ih =>
    unfold sel at ih ⊢
    simp only [List.filterMap_cons]
    split
    · exact ih
    · rename_i e he; exact ⟨(fnd_ok hf he).2,ih⟩
def runK (md:Bool) (ks:List Nat) (k:Nat) (ops:List Op1) (l:List Fc) (L:Hp):Option (List Fc × Hp):=bif qOk md (ops.take k) then (run (ops.take k) l L).map fun p=>(sel ks p.1,p.2) else none
/-- So many steps are reckoned. -/
theorem mops_seg (ks:List Nat) (k:Nat) {ops:List Op1} {l l':List Fc} {L L':Hp} {f:Fr} (hf:FOk f l) (h:runK md ks k ops l L=some (l',L')) (hK:∀ f',FOk f' l'→mops md n0 P (ops.drop k) f' L' K):mops md n0 P ops f L K:=by
  unfold runK at h
  cases hq:qOk md (ops.take k) with
  | false=>simp [hq] at h
  | true =>
  simp only [hq,cond_true] at h
  obtain ⟨p,hp,h⟩:=Option.map_eq_some_iff.1 h
  simp at h
  obtain ⟨rfl,rfl⟩:=h
  rw [← List.take_append_drop k ops]
  exact run_ok _ hq hp hf fun f' hf'=>hK f' (FOk_sel hf')
/-- The last of them. -/
theorem mops_end (ks:List Nat) {ops:List Op1} {l l':List Fc} {L L':Hp} {f:Fr} (hf:FOk f l) (h:runK md ks ops.length ops l L=some (l',L')) (hK:∀ f',FOk f' l'→K f' L'):mops md n0 P ops f L K :=
  mops_seg ks ops.length hf h fun f' hf'=>by rw [List.drop_length]; exact hK f' hf'
/-- The same, the outcome left as it is. -/
def rk (md:Bool) (k:Nat) (ops:List Op1) (l:List Fc) (L:Hp):List Fc × Hp:=match run (ops.take k) l L with
  | some p=>p
  | none=>([],[])
def okK (md:Bool) (k:Nat) (ops:List Op1) (l:List Fc) (L:Hp):Bool:=qOk md (ops.take k)&&(run (ops.take k) l L).isSome
theorem mops_sg (k:Nat) {ops:List Op1} {l:List Fc} {L:Hp} {f:Fr} (hf:FOk f l) (h:okK md k ops l L=true) (hK:∀ f',FOk f' (rk md k ops l L).1→mops md n0 P (ops.drop k) f' (rk md k ops l L).2 K):mops md n0 P ops f L K:=by
  simp only [okK,Bool.and_eq_true] at h
  obtain ⟨p,hp⟩:=Option.isSome_iff_exists.1 h.2
  have e:rk md k ops l L=p:=by simp only [rk,hp]
  rw [e] at hK
  rw [← List.take_append_drop k ops]
  exact run_ok _ h.1 hp hf hK
theorem mops_en {ops:List Op1} {l:List Fc} {L:Hp} {f:Fr} (hf:FOk f l) (h:okK md ops.length ops l L=true) (hK:∀ f',FOk f' (rk md ops.length ops l L).1→K f' (rk md ops.length ops l L).2):mops md n0 P ops f L K :=
  mops_sg ops.length hf h fun f' hf'=>by rw [List.drop_length]; exact hK f' hf'
theorem head_drop {ops:List Op1} {o:Op1} (h:ops[0]? = some o):ops=o::ops.drop 1:=by
  cases ops with
  | nil=>simp at h
  | cons x r=>simp at h; subst h; rfl
def vals (l:List Fc) (ch:List (Nat × Bool)):List Opd→Option (List V)
  | []=>some []
  | x::r=>(val l ch x).bind fun v=>(vals l ch r).map fun vs=>v::vs
theorem vals_ok (hf:FOk f l) (hc:hold f ch):∀ (xs:List Opd) (vs:List V),vals l ch xs=some vs→xs.map (ev · f)=vs
  | [],vs,h=>by simp [vals] at h; subst h; rfl
  | x::r,vs,h=>by
    simp only [vals] at h
    obtain ⟨v,hv,h⟩:=Option.bind_eq_some_iff.1 h
    obtain ⟨ws,hw,rfl⟩:=Option.map_eq_some_iff.1 h
    simp only [List.map_cons,(val_ok hf hc hv).1,vals_ok hf hc r ws hw]
/-- A step that is told apart. -/
theorem mops_adv {ops:List Op1} {dst:Option Nat} {op:I} {aft:List Nat} (h0:ops[0]? = some ⟨dst,.e op,none,aft⟩) {l:List Fc} {L L':Hp} {v:V} {f:Fr} (hf:FOk f l) (hk:(op.opds.all (known l [])&&(!md||isQ op))=true) (he:E1 op (frF l []) L=some (v,L')) (hK:∀ f',FOk f' (putD dst [] v l)→mops md n0 P (ops.drop 1) f' L' K):mops md n0 P ops f L K:=by
  rw [head_drop h0]
  simp only [mops,m1]
  simp only [Bool.and_eq_true,Bool.or_eq_true,Bool.not_eq_true'] at hk
  refine ⟨fun h=>by rcases hk.2 with k | k; rw [h] at k; simp at k; exact k,?_⟩
  rw [E1_congr (known_ok (ch:=[]) hf trivial hk.1),he]
  exact hK _ (FOk_putD hf (by cases dst <;> rfl) (fun _=>rfl) (fun hn=>(hn trivial).elim))
/-- The same under a guard. -/
theorem mops_gadv {ops:List Op1} {dst:Option Nat} {op:I} {t:Nat} {w:Bool} {aft:List Nat} (h0:ops[0]? = some ⟨dst,.e op,some (t,w),aft⟩) {l:List Fc} {L:Hp} {v:V} {b:Bool} {ch:List (Nat × Bool)} {f:Fr} (hf:FOk f l) (hch:chain l (some (t,w))=some ch) (hb:chB l ch=some b) (hk:(op.opds.all (known l ch)&&isQ op&&okd dst ch)=true) (he:b=true→E1 op (frF l ch) L=some (v,L)) (hK:∀ f',FOk f' (putD dst ch v l)→mops md n0 P (ops.drop 1) f' L K):mops md n0 P ops f L K:=by
  rw [head_drop h0]
  simp only [Bool.and_eq_true] at hk
  obtain ⟨c1,c2,c3⟩:=chain_some hf hch
  simp only [mops,mg]
  refine ⟨c1,hk.1.2,?_⟩
  by_cases hc:gd (f t) w=true
  · have e1:E1 op f L=some (v,L):=by rw [E1_congr (known_ok hf (c2 hc) hk.1.1)]; exact he (chB_ok hf _ _ (c2 hc) hb)
    refine ⟨fun _=>by rw [e1]; rfl,?_⟩
    rw [e1,if_pos hc]
    exact hK _ (FOk_putD hf hk.2 (fun _=>rfl) (fun hn=>(hn (c2 hc)).elim))
  · refine ⟨fun h=>absurd h hc,?_⟩
    rw [if_neg hc]
    exact hK _ (FOk_putD hf hk.2 (fun hn=>(c3 hc hn).elim) (fun _=>rfl))
/-- A call. -/
theorem mops_call {ops:List Op1} {dst:Option Nat} {m:FuncId} {args:List Opd} {aft:List Nat} (h0:ops[0]? = some ⟨dst,.call m args,none,aft⟩) {l:List Fc} {L L':Hp} {v:V} {av:List V} {f:Fr} (hf:FOk f l) (ha:vals l [] args=some av) (hc:CalL n0 P m av L v L') (hm:md=true→L'=L) (hK:∀ f',FOk f' (putD dst [] v l)→mops md n0 P (ops.drop 1) f' L' K):mops md n0 P ops f L K:=by
  rw [head_drop h0]
  simp only [mops,m1]
  refine ⟨v,L',by rw [vals_ok (ch:=[]) hf trivial _ _ ha]; exact hc,hm,?_⟩
  exact hK _ (FOk_putD hf (by cases dst <;> rfl) (fun _=>rfl) (fun hn=>(hn trivial).elim))
theorem mops_gcall {ops:List Op1} {dst:Option Nat} {m:FuncId} {args:List Opd} {t:Nat} {w:Bool} {aft:List Nat} (h0:ops[0]? = some ⟨dst,.call m args,some (t,w),aft⟩) {l:List Fc} {L:Hp} {v:V} {b:Bool} {ch:List (Nat × Bool)} {av:List V} {f:Fr} (hf:FOk f l) (hch:chain l (some (t,w))=some ch) (hb:chB l ch=some b) (ha:vals l ch args=some av) (hd:okd dst ch=true) (hc:b=true→CalL n0 P m av L v L) (hK:∀ f',FOk f' (putD dst ch v l)→mops md n0 P (ops.drop 1) f' L K):mops md n0 P ops f L K:=by
  rw [head_drop h0]
  obtain ⟨c1,c2,c3⟩:=chain_some hf hch
  simp only [mops,mg]
  refine ⟨c1,v,fun hg=>by rw [vals_ok hf (c2 hg) _ _ ha]; exact hc (chB_ok hf _ _ (c2 hg) hb),?_⟩
  by_cases hg:gd (f t) w=true
  · rw [if_pos hg]
    exact hK _ (FOk_putD hf hd (fun _=>rfl) (fun hn=>(hn (c2 hg)).elim))
  · rw [if_neg hg]
    exact hK _ (FOk_putD hf hd (fun hn=>(c3 hg hn).elim) (fun _=>rfl))
end
end Go.Proofs.YtoemlgdlejkliaaK
