/- Operations whose order is drawn, some of which write: those that write stand in one order; what the others come to is the same wherever they may come. -/
import Derived.Test.YtoemlgdlejkliaaKk
namespace Go.Proofs.YtoemlgdlejkliaaK
set_option linter.unusedVariables false
set_option linter.unusedSimpArgs false
open Go.RowKit
def wrs (ws:List FuncId) (o:Op1):Bool:=match o.op with
  | .call m _=>ws.contains m
  | .e op=>!isQ op
/-- Who must have come before: as bits. -/
def masks:List Op1→List Nat→List Nat
  | [],M=>M
  | o::r,M=>masks r (M++[o.aft.foldl (fun m k=>m ||| 2 ^ k ||| M.getD k 0) 0])
def anc (M:List Nat) (i j:Nat):Bool:=(M.getD j 0).testBit i
def cnt (w:Op1→Bool) (L:Nat→Bool):List Op1→Nat→Nat
  | [],_=>0
  | o::r,p=>(if w o&&L p then 1 else 0)+cnt w L r (p+1)
def okPair (M:List Nat) (w:Op1→Bool) (i j:Nat) (a b:Op1):Bool :=
  !decide (i < j)||anc M i j||((match a.dst with | some t=>!b.names.contains t&&b.dst != some t | none=>true)&&(match b.dst with | some t=>!a.names.contains t | none=>true)&&!(w a&&w b))
def wOk (w:Op1→Bool) (l:List Op1):Bool:=ordA l&&l.zipIdx.all fun (a,i)=>l.zipIdx.all fun (b,j)=>okPair (masks l []) w i j a b
def annot (w:Op1→Bool) (l:List Op1):List An:=l.zipIdx.map fun (o,i)=>⟨o,w o,cnt w (fun j=>anc (masks l []) j i) l 0,cnt w (fun j=>!anc (masks l []) i j) l 0⟩
def pendAll (P:Program) (s:Nat) (H:Hp):List (Op1 × Fr × V × Nat)→Prop
  | []=>True
  | (o,f,v,hi)::r=>(s≤hi→qv P o f H v)∧pendAll P s H r
def oldAll (P:Program) (o:Op1) (f:Fr) (v:V):List Hp→Prop
  | []=>True
  | H::r=>qv P o f H v∧oldAll P o f v r
def wops (P:Program):List An→Fr→List Hp→Hp→List (Op1 × Fr × V × Nat)→(Fr→Hp→Prop)→Prop
  | [],f,_,H,_,K=>K f H
  | a::r,f,hs,H,pend,K =>
    if a.wr=true then (match a.o.g with
      | none=>d1 P a.o.op f H fun v H'=>pendAll P (hs.length+1) H' pend∧wops P r (upd a.o.dst v f) (H::hs) H' pend K
      | some (t,want)=>sg (f t)=true∧dg P a.o.op (gd (f t) want=true) f H fun v H'=>pendAll P (hs.length+1) H' pend∧wops P r (upd a.o.dst v f) (H::hs) H' pend K)
    else (match a.o.g with
      | none=>q1 P a.o.op f H fun v=>oldAll P a.o f v (hs.take (hs.length - a.lo))∧wops P r (upd a.o.dst v f) hs H (if a.hi≤hs.length then pend else (a.o,f,v,a.hi)::pend) K
      | some (t,want)=>sg (f t)=true∧qg P a.o.op (gd (f t) want=true) f H fun v=>oldAll P a.o f v (hs.take (hs.length - a.lo))∧wops P r (upd a.o.dst v f) hs H (if a.hi≤hs.length then pend else (a.o,f,v,a.hi)::pend) K)
/-- An operation that writes: the value and the memory behind it. -/
def dvv (P:Program) (o:Op1) (f:Fr) (H:Hp) (v:V) (H':Hp):Prop:=match o.g with
  | none=>d1 P o.op f H fun v' H''=>v'=v∧H''=H'
  | some (t,want)=>sg (f t)=true∧dg P o.op (gd (f t) want=true) f H fun v' H''=>v'=v∧H''=H'
theorem d1_val {P:Program} {op:Ik} {f:Fr} {H:Hp} {K:V→Hp→Prop} (h:d1 P op f H K):∃ v H',d1 P op f H (fun v' H''=>v'=v∧H''=H')∧K v H':=by
  cases op with
  | e op =>
    simp only [d1,andV] at h ⊢
    cases he:E1 op f H with
    | none=>rw [he] at h; exact h.elim
    | some vh=>rw [he] at h; exact ⟨vh.1,vh.2,⟨rfl,rfl⟩,h⟩
  | call m args=>obtain ⟨r,H',h1,h2⟩:=h; exact ⟨r,H',⟨r,H',h1,rfl,rfl⟩,h2⟩
theorem dg_val {P:Program} {op:Ik} {f:Fr} {H:Hp} {K:V→Hp→Prop} {c:Prop} [Decidable c] (h:dg P op c f H K):∃ v H',dg P op c f H (fun v' H''=>v'=v∧H''=H')∧K v H':=by
  cases op with
  | e op =>
    simp only [dg] at h ⊢
    split at h
    · rename_i hq
      exact ⟨_,_,by rw [if_pos hq]; exact ⟨h.1,rfl,rfl⟩,h.2⟩
    · rename_i hq
      by_cases hc:c
      · obtain ⟨v,H',h1,h2⟩:=d1_val (P:=P) (op:=.e op) (h.1 hc)
        exact ⟨v,H',by rw [if_neg hq]; exact ⟨fun _=>h1,fun hn=>absurd hc hn⟩,h2⟩
      · exact ⟨_,_,by rw [if_neg hq]; exact ⟨fun h=>absurd h hc,fun _=>⟨rfl,rfl⟩⟩,h.2 hc⟩
  | call m args=>obtain ⟨r,h1,h2⟩:=h; exact ⟨_,H,⟨r,h1,rfl,rfl⟩,h2⟩
theorem d1_congr {P:Program} {op:Ik} {f g:Fr} {H:Hp} {K:V→Hp→Prop} (h:∀ x∈op.opds,ev x f=ev x g) (hq:d1 P op f H K):d1 P op g H K:=by
  cases op with
  | e op=>simp only [d1] at hq ⊢; rw [← E1_congr h]; exact hq
  | call m args =>
    simp only [d1,dcall] at hq ⊢
    rw [show args.map (ev · g)=args.map (ev · f) from (List.map_congr_left h).symm]; exact hq
theorem dg_congr {P:Program} {op:Ik} {f g:Fr} {H:Hp} {K:V→Hp→Prop} {c:Prop} [Decidable c] (h:∀ x∈op.opds,ev x f=ev x g) (hq:dg P op c f H K):dg P op c g H K:=by
  cases op with
  | e op=>simp only [dg] at hq ⊢; rw [← E1_congr h]; exact hq
  | call m args =>
    simp only [dg,gcall] at hq ⊢
    rw [show args.map (ev · g)=args.map (ev · f) from (List.map_congr_left h).symm]; exact hq
theorem dvv_congr {P:Program} {o:Op1} {f g:Fr} {H H':Hp} {v:V} (h:∀ t∈o.names,f t=g t) (hq:dvv P o f H v H'):dvv P o g H v H':=by
  unfold dvv at *
  cases hg:o.g with
  | none=>simp only [hg] at hq ⊢; exact d1_congr (names_opd h) hq
  | some tw =>
    obtain ⟨t,want⟩:=tw
    simp only [hg] at hq ⊢
    have ht:f t=g t:=h t (by simp [Op1.names,hg])
    rw [← ht]
    exact ⟨hq.1,dg_congr (names_opd h) hq.2⟩
/-- What an operation's place in its own order says. -/
def Fact (P:Program) (Hs:Nat→Hp) (tot:Nat) (a:An) (s:Nat) (f:Fr) (v:V):Prop :=
  if a.wr=true then dvv P a.o f (Hs s) v (Hs (s+1)) else ∀ j,a.lo≤j→j≤a.hi→j≤tot→qv P a.o f (Hs j) v
def Runs (P:Program) (Hs:Nat→Hp) (tot:Nat):List An→List V→Nat→Fr→Prop
  | [],[],_,_=>True
  | a::r,v::vs,s,f=>Fact P Hs tot a s f v∧Runs P Hs tot r vs (if a.wr=true then s+1 else s) (upd a.o.dst v f)
  | _,_,_,_=>False
def lastF:List An→List V→Fr→Fr
  | a::r,v::vs,f=>lastF r vs (upd a.o.dst v f)
  | _,_,f=>f
def nw:List An→Nat
  | []=>0
  | a::r=>(if a.wr=true then 1 else 0)+nw r
theorem pendAll_mem {P:Program} {s:Nat} {H:Hp}:∀ {l:List (Op1 × Fr × V × Nat)},pendAll P s H l→∀ p∈l,s≤p.2.2.2→qv P p.1 p.2.1 H p.2.2.1
  | [],_,p,hp=>by simp at hp
  | (o,f,v,hi)::r,h,p,hp=>by
    rcases List.mem_cons.1 hp with rfl | hp
    · exact h.1
    · exact pendAll_mem h.2 p hp
theorem oldAll_mem {P:Program} {o:Op1} {f:Fr} {v:V}:∀ {l:List Hp},oldAll P o f v l→∀ H∈l,qv P o f H v
  | [],_,p,hp=>by simp at hp
  | H::r,h,p,hp=>by
    rcases List.mem_cons.1 hp with rfl | hp
    · exact h.1
    · exact oldAll_mem h.2 p hp
theorem q_split {P : Program} {o : Op1} {f : Fr} {H : Hp} {K : V → Prop} (h : match o.g with
      | none=>q1 P o.op f H K
      | some (t,want)=>sg (f t)=true∧qg P o.op (gd (f t) want=true) f H K):∃ v,qv P o f H v∧K v:=by
  unfold qv
  cases hg:o.g with
  | none=>rw [hg] at h; exact q1_val h
  | some tw =>
    obtain ⟨t,want⟩:=tw
    rw [hg] at h
    obtain ⟨v,h1,h2⟩:=qg_val h.2
    exact ⟨v,⟨h.1,h1⟩,h2⟩
theorem d_split {P : Program} {o : Op1} {f : Fr} {H : Hp} {K : V → Hp → Prop} (h : match o.g with
      | none=>d1 P o.op f H K
      | some (t,want)=>sg (f t)=true∧dg P o.op (gd (f t) want=true) f H K):∃ v H',dvv P o f H v H'∧K v H':=by
  unfold dvv
  cases hg:o.g with
  | none=>rw [hg] at h; exact d1_val h
  | some tw =>
    obtain ⟨t,want⟩:=tw
    rw [hg] at h
    obtain ⟨v,H',h1,h2⟩:=dg_val h.2
    exact ⟨v,H',⟨h.1,h1⟩,h2⟩
/-- The heaps that were, told by their number. -/
def Hist (Hs:Nat→Hp):List Hp→Prop
  | []=>True
  | H::r=>Hs r.length=H∧Hist Hs r
theorem Hist.get {Hs:Nat→Hp}:∀ {hs:List Hp},Hist Hs hs→∀ j,j < hs.length→hs[hs.length - 1 - j]? = some (Hs j)
  | [],_,j,hj=>by simp at hj
  | H::r,h,j,hj=>by
    by_cases e:j=r.length
    · subst e; simp [h.1]
    · have hj':j < r.length:=by simp at hj; omega
      have:=Hist.get h.2 j hj'
      rw [show (H::r).length - 1 - j=(r.length - 1 - j)+1 by simp; omega,List.getElem?_cons_succ]
      exact this
theorem wops_runs {P:Program} {K:Fr→Hp→Prop}:∀ (l:List An) (f:Fr) (hs:List Hp) (H:Hp) (pend:List (Op1 × Fr × V × Nat)),wops P l f hs H pend K →
    ∃ (Hs:Nat→Hp) (vs:List V),Hist Hs hs∧Hs hs.length=H∧Runs P Hs (hs.length+nw l) l vs hs.length f∧K (lastF l vs f) (Hs (hs.length+nw l)) ∧
      ∀ p∈pend,∀ j,hs.length < j→j≤hs.length+nw l→j≤p.2.2.2→qv P p.1 p.2.1 (Hs j) p.2.2.1
  | [],f,hs,H,pend,h=>by
    refine ⟨fun j=>if j < hs.length then (hs[hs.length - 1 - j]?).getD H else H,[],?_,by simp,trivial,by simpa [nw,lastF,wops] using h,fun p _ j h1 h2=>by simp [nw] at h2; omega⟩
    have:∀ (Hs:Nat→Hp) (r:List Hp),(∀ j,j < r.length→r[r.length - 1 - j]? = some (Hs j))→Hist Hs r:=by
      intro Hs r
      induction r with
      | nil=>intro _; trivial
      | cons x r ih =>
        intro h
        refine ⟨?_,ih fun j hj => ?_⟩
        · have:=h r.length (by simp)
          simp at this
          exact this.symm
        · have:=h j (by simp; omega)
          rw [show (x::r).length - 1 - j=(r.length - 1 - j)+1 by simp; omega,List.getElem?_cons_succ] at this
          exact this
    refine this _ hs fun j hj => ?_
    simp only [hj,if_true]
    rw [List.getElem?_eq_getElem (by omega)]
    simp
  | a::r,f,hs,H,pend,h=>by
    unfold wops at h
    split at h
    · rename_i hw
      obtain ⟨v,H',h1,h2,h3⟩:=d_split h
      obtain ⟨Hs,vs,k1,k2,k3,k4,k5⟩:=wops_runs r _ (H::hs) H' pend h3
      have e:(H::hs).length+nw r=hs.length+nw (a::r):=by simp [nw,hw]; omega
      rw [e] at k3 k4 k5
      refine ⟨Hs,v::vs,k1.2,k1.1,⟨?_,by rw [if_pos hw]; exact k3⟩,k4,fun p hp j j1 j2 j3 => ?_⟩
      · unfold Fact
        rw [if_pos hw,k1.1]
        have:Hs (hs.length+1)=H':=k2
        rw [this]; exact h1
      · by_cases ej:j=hs.length+1
        · subst ej
          have:Hs (hs.length+1)=H':=k2
          rw [this]
          exact pendAll_mem h2 p hp j3
        · exact k5 p hp j (by simp; omega) j2 j3
    · rename_i hw
      obtain ⟨v,h1,h2,h3⟩:=q_split h
      obtain ⟨Hs,vs,k1,k2,k3,k4,k5⟩:=wops_runs r _ hs H _ h3
      have e:hs.length+nw r=hs.length+nw (a::r):=by simp [nw,hw]
      rw [e] at k3 k4 k5
      refine ⟨Hs,v::vs,k1,k2,⟨?_,by rw [if_neg hw]; exact k3⟩,k4,fun p hp j j1 j2 j3 => ?_⟩
      · unfold Fact
        rw [if_neg hw]
        intro j j1 j2 j3
        rcases Nat.lt_trichotomy j hs.length with hj | hj | hj
        · refine oldAll_mem h2 _ ?_
          have:=k1.get j hj
          refine List.mem_of_getElem? (i:=hs.length - 1 - j) ?_
          rw [List.getElem?_take,if_pos (by omega)]
          exact this
        · subst hj; rw [k2]; exact h1
        · have:=k5 (a.o,f,v,a.hi)
          rw [if_neg (by omega)] at this
          exact this (by simp) j hj j3 j2
      · refine k5 p ?_ j j1 j2 j3
        split
        · exact hp
        · exact List.mem_cons_of_mem _ hp
/-- The frame, once these have run. -/
def lv (L:Nat→Bool):List An→List V→Nat→Fr→Fr
  | a::r,v::vs,p,f=>lv L r vs (p+1) (if L p=true then upd a.o.dst v f else f)
  | _,_,_,f=>f
def cA (L:Nat→Bool):List An→Nat→Nat
  | [],_=>0
  | a::r,p=>(if (a.wr&&L p)=true then 1 else 0)+cA L r (p+1)
theorem lv_congr {L L':Nat→Bool} {t:Nat}:∀ (l:List An) (vs:List V) (p:Nat) (f f':Fr),(∀ j a,l[j]? = some a→a.o.dst=some t→L (p+j)=L' (p+j))→f t=f' t→lv L l vs p f t=lv L' l vs p f' t
  | [],_,_,_,_,_,h=>by simpa [lv] using h
  | _::_,[],_,_,_,_,h=>by simpa [lv] using h
  | a::r,v::vs,p,f,f',h,hf=>by
    simp only [lv]
    refine lv_congr r vs (p+1) _ _ (fun j b hj hd => ?_) ?_
    · have:=h (j+1) b (by simpa using hj) hd
      rwa [show p+(j+1)=p+1+j by omega] at this
    · by_cases hd:a.o.dst=some t
      · have h0:=h 0 a rfl hd
        simp only [Nat.add_zero] at h0
        rw [h0]
        split
        · simp [upd,hd]
        · exact hf
      · have e:∀ (b:Bool) (g:Fr),(if b=true then upd a.o.dst v g else g) t=g t:=fun b g=>by
          cases b
          · rfl
          · simp only [if_true]; exact upd_ne hd
        rw [e,e,hf]
theorem lv_keep {L:Nat→Bool} {t:Nat} (l:List An) (vs:List V) (p:Nat) (f:Fr) (h:∀ j a,l[j]? = some a→a.o.dst=some t→L (p+j)=false):lv L l vs p f t=f t:=by
  rw [lv_congr (L':=fun _=>false) l vs p f f h rfl]
  clear h
  induction l generalizing vs p with
  | nil=>rfl
  | cons a r ih =>
    cases vs with
    | nil=>rfl
    | cons v vs=>simp only [lv,Bool.false_eq_true,if_false]; exact ih vs (p+1)
theorem lv_last {L:Nat→Bool} {t:Nat}:∀ (l:List An) (vs:List V) (p:Nat) (f:Fr) (i:Nat) (a:An) (v:V),l[i]? = some a→vs[i]? = some v→a.o.dst=some t→L (p+i)=true→(∀ j b,i < j→l[j]? = some b→b.o.dst=some t→L (p+j)=false)→lv L l vs p f t=v
  | [],_,_,_,_,_,_,h,_,_,_,_=>by simp at h
  | _::_,[],_,_,_,_,_,_,h,_,_,_=>by simp at h
  | b::r,u::vs,p,f,0,a,v,h,hv,hd,hL,hk=>by
    simp at h hv; subst h; subst hv
    simp only [lv]
    rw [lv_keep r vs (p+1) _ fun j b hj hdb=>by
      have:=hk (j+1) b (by omega) (by simpa using hj) hdb
      rwa [show p+(j+1)=p+1+j by omega] at this]
    rw [show p+0=p by omega] at hL
    rw [if_pos hL]
    simp [upd,hd]
  | b::r,u::vs,p,f,i+1,a,v,h,hv,hd,hL,hk=>by
    simp only [lv]
    refine lv_last r vs (p+1) _ i a v (by simpa using h) (by simpa using hv) hd (by rwa [show p+1+i=p+(i+1) by omega]) fun j c hj hc hdc => ?_
    have:=hk (j+1) c (by omega) (by simpa using hc) hdc
    rwa [show p+(j+1)=p+1+j by omega] at this
theorem lastF_eq:∀ (l:List An) (vs:List V) (p:Nat) (f:Fr),lastF l vs f=lv (fun _=>true) l vs p f
  | [],_,_,_=>rfl
  | _::_,[],_,_=>rfl
  | a::r,v::vs,p,f=>by simp only [lastF,lv,if_true]; exact lastF_eq r vs (p+1) _
theorem cA_congr {L L':Nat→Bool}:∀ (l:List An) (p:Nat),(∀ j a,l[j]? = some a→a.wr=true→L (p+j)=L' (p+j))→cA L l p=cA L' l p
  | [],_,_=>rfl
  | a::r,p,h=>by
    have hrec:cA L r (p+1)=cA L' r (p+1):=cA_congr r (p+1) fun j b hj hb=>by
      have:=h (j+1) b (by simpa using hj) hb
      rw [show p+(j+1)=p+1+j by omega] at this
      exact this
    simp only [cA,hrec]
    cases hw:a.wr with
    | false=>rfl
    | true =>
      have h0:=h 0 a rfl hw
      simp only [Nat.add_zero] at h0
      rw [h0]
theorem cA_mono {L L':Nat→Bool}:∀ (l:List An) (p:Nat),(∀ j a,l[j]? = some a→a.wr=true→L (p+j)=true→L' (p+j)=true)→cA L l p≤cA L' l p
  | [],_,_=>Nat.le_refl _
  | a::r,p,h=>by
    simp only [cA]
    have h1:=cA_mono r (p+1) fun j b hj hb hL=>by
      have:=h (j+1) b (by simpa using hj) hb (by rwa [show p+(j+1)=p+1+j by omega])
      rwa [show p+(j+1)=p+1+j by omega] at this
    have h0:=h 0 a rfl
    simp only [Nat.add_zero] at h0
    cases hw:a.wr with
    | false=>simpa [hw] using h1
    | true =>
      have h0:=h0 hw
      cases hL:L p with
      | false=>simp; omega
      | true=>simp [h0 hL]; omega
theorem cA_all:∀ (l:List An) (p:Nat),cA (fun _=>true) l p=nw l
  | [],_=>rfl
  | a::r,p=>by simp only [cA,nw,Bool.and_true]; rw [cA_all r (p+1)]
theorem cA_le (L:Nat→Bool) (l:List An) (p:Nat):cA L l p≤nw l:=by rw [← cA_all l p]; exact cA_mono l p fun _ _ _ _ _=>rfl
theorem cA_none (l:List An) (p:Nat):cA (fun j=>decide (j < p)) l p=0:=by
  rw [cA_congr (L':=fun _=>false) l p fun j a _ _=>by simp]
  induction l generalizing p with
  | nil=>rfl
  | cons a r ih=>simp only [cA,Bool.and_false,Bool.false_eq_true,if_false,Nat.zero_add]; exact ih (p+1)
theorem cA_set {L L':Nat→Bool}:∀ (l:List An) (p i:Nat) (a:An),l[i]? = some a→L (p+i)=false→L' (p+i)=true→(∀ j,j ≠ p+i→L' j=L j)→cA L' l p=cA L l p+(if a.wr=true then 1 else 0)
  | [],_,_,_,h,_,_,_=>by simp at h
  | b::r,p,0,a,h,h0,h1,hk=>by
    simp at h; subst h
    simp only [Nat.add_zero] at h0 h1 hk
    simp only [cA,h0,h1,Bool.and_true,Bool.and_false,Bool.false_eq_true,if_false]
    rw [cA_congr (L':=L) r (p+1) fun j _ _ _=>hk _ (by omega)]
    omega
  | b::r,p,i+1,a,h,h0,h1,hk=>by
    simp only [cA]
    rw [hk p (by omega),cA_set r (p+1) i a (by simpa using h) (by rwa [show p+1+i=p+(i+1) by omega]) (by rwa [show p+1+i=p+(i+1) by omega]) (by rwa [show p+1+i=p+(i+1) by omega])]
    omega
theorem Runs.get {P:Program} {Hs:Nat→Hp} {tot:Nat}:∀ (l:List An) (vs:List V) (s:Nat) (f:Fr) (p i:Nat) (a:An),Runs P Hs tot l vs s f→l[i]? = some a→∃ v,vs[i]? = some v∧Fact P Hs tot a (s+cA (fun j=>decide (j < p+i)) l p) (lv (fun j=>decide (j < p+i)) l vs p f) v
  | [],_,_,_,_,_,_,_,h=>by simp at h
  | _::_,[],_,_,_,_,_,h,_=>h.elim
  | b::r,v::vs,s,f,p,0,a,h,ha=>by
    simp at ha; subst ha
    refine ⟨v,rfl,?_⟩
    simp only [Nat.add_zero]
    rw [cA_none]
    have:lv (fun j=>decide (j < p)) (b::r) (v::vs) p f=f:=funext fun t=>lv_keep _ _ _ _ fun j _ _ _=>by simp
    rw [this]
    exact h.1
  | b::r,v::vs,s,f,p,i+1,a,h,ha=>by
    obtain ⟨u,h1,h2⟩:=Runs.get r vs _ _ (p+1) i a h.2 (by simpa using ha)
    refine ⟨u,by simpa using h1,?_⟩
    have e:p+1+i=p+(i+1):=by omega
    rw [e] at h2
    have hp:decide (p < p+(i+1))=true:=by simp
    simp only [cA,lv,hp,Bool.and_true,if_true]
    cases hw:b.wr with
    | false=>simpa [hw] using h2
    | true=>simpa [hw,Nat.add_assoc] using h2
-- Who came before.
theorem fold_bit {g:Nat→Nat} {b:Nat}:∀ (l:List Nat) (m:Nat),(l.foldl (fun m k=>m ||| 2 ^ k ||| g k) m).testBit b=true→m.testBit b=true∨∃ k∈l,b=k∨(g k).testBit b=true
  | [],m,h=>.inl h
  | k::r,m,h=>by
    rcases fold_bit r _ h with h | ⟨k',hk,h⟩
    · simp only [Nat.testBit_or,Nat.testBit_two_pow,Bool.or_eq_true,decide_eq_true_eq] at h
      rcases h with (h | h) | h
      · exact .inl h
      · exact .inr ⟨k,by simp,.inl h.symm⟩
      · exact .inr ⟨k,by simp,.inr h⟩
    · exact .inr ⟨k',by simp [hk],h⟩
theorem masks_prefix:∀ (l:List Op1) (M:List Nat) (j:Nat),j < M.length→(masks l M).getD j 0=M.getD j 0
  | [],_,_,_=>rfl
  | o::r,M,j,h=>by
    simp only [masks]
    rw [masks_prefix r _ j (by simp; omega)]
    simp [List.getD,List.getElem?_append_left h]
theorem masks_bit {b:Nat}:∀ (l:List Op1) (M:List Nat) (i:Nat) (o:Op1),l[i]? = some o→((masks l M).getD (M.length+i) 0).testBit b=true→∃ k∈o.aft,b=k∨((masks l M).getD k 0).testBit b=true
  | [],_,_,_,h,_=>by simp at h
  | x::r,M,0,o,h,hb=>by
    simp at h; subst h
    simp only [masks,Nat.add_zero] at hb ⊢
    rw [masks_prefix r _ M.length (by simp)] at hb
    simp only [List.getD,List.getElem?_append_right (Nat.le_refl _),Nat.sub_self,List.getElem?_cons_zero,Option.getD_some] at hb
    rcases fold_bit (g:=fun k=>(M[k]?).getD 0) _ _ hb with h | ⟨k,hk,h⟩
    · simp at h
    · refine ⟨k,hk,h.imp id fun h => ?_⟩
      by_cases hl:k < M.length
      · rw [masks_prefix r _ k (by simp; omega)]
        simpa [List.getD,List.getElem?_append_left hl] using h
      · simp [List.getElem?_eq_none (by omega:M.length≤k)] at h
  | x::r,M,i+1,o,h,hb=>by
    simp only [masks] at hb ⊢
    refine masks_bit r _ i o (by simpa using h) ?_
    rw [show M.length+(i+1)=(M++[x.aft.foldl (fun m k=>m ||| 2 ^ k ||| M.getD k 0) 0]).length+i by simp; omega] at hb
    exact hb
theorem anc_in {l:List Op1} (hA:ordA l=true) {L:Nat→Bool} (hcl:∀ j o,l[j]? = some o→L j=true→∀ k∈o.aft,L k=true):∀ (j:Nat) (o:Op1),l[j]? = some o→(∀ k∈o.aft,L k=true)→∀ i,anc (masks l []) i j=true→L i=true:=by
  intro j
  induction j using Nat.strongRecOn with
  | _ j ih =>
    intro o ho hk i hi
    have hb:=masks_bit l [] j o ho (b:=i) (by simpa [anc] using hi)
    obtain ⟨k,hm,h | h⟩:=hb
    · subst h; exact hk _ hm
    · have hlt:=ordA_spec hA ho hm
      have hjl:=(List.getElem?_eq_some_iff.1 ho).1
      have hko:l[k]? = some l[k]:=List.getElem?_eq_getElem (by omega)
      exact ih k hlt _ hko (hcl k _ hko (hk k hm)) i h
theorem annot_get {w:Op1→Bool} {l:List Op1} {i:Nat}:(annot w l)[i]? = (l[i]?).map fun o=>⟨o,w o,cnt w (fun j=>anc (masks l []) j i) l 0,cnt w (fun j=>!anc (masks l []) i j) l 0⟩:=by
  unfold annot
  rw [List.getElem?_map,List.getElem?_zipIdx]
  cases l[i]? <;> simp
theorem cnt_eq {w:Op1→Bool} {L:Nat→Bool}:∀ (l:List Op1) (la:List An) (p:Nat),la.length=l.length→(∀ (i:Nat) (o:Op1),l[i]? = some o→∃ a:An,la[i]? = some a∧a.wr=w o)→cnt w L l p=cA L la p
  | [],[],_,_,_=>rfl
  | [],_::_,_,h,_=>by simp at h
  | _::_,[],_,h,_=>by simp at h
  | o::r,a::ra,p,h,hk=>by
    obtain ⟨a',h1,h2⟩:=hk 0 o rfl
    simp at h1; subst h1
    simp only [cnt,cA]
    rw [h2,cnt_eq r ra (p+1) (by simpa using h) fun i o' ho=>by
      have:=hk (i+1) o' (by simpa using ho)
      simpa using this]
theorem cnt_annot {w:Op1→Bool} {l:List Op1} {L:Nat→Bool}:cnt w L l 0=cA L (annot w l) 0 :=
  cnt_eq l _ 0 (by simp [annot]) fun i o ho=>⟨_,by rw [annot_get,ho]; rfl,rfl⟩
section
variable {P:Program} {o:Oper} {a:Act} {w:World} {im:Im} {H H':Hp} {f:Fr} {v:V} {N:Nat} {ops:Array Oper} {Q:Exit→Act→World→Prop}
theorem dvv_dstep {io:Op1} {K:Fr→Hp→Prop} (h:dvv P io f H v H') (hK:K (upd io.dst v f) H'):dstep P io f H K:=by
  unfold dvv at h
  unfold dstep
  have m1:∀ {op:Ik},d1 P op f H (fun v' H''=>v'=v∧H''=H')→d1 P op f H fun v H'=>K (upd io.dst v f) H':=fun {op} h=>by
    cases op with
    | e op =>
      simp only [d1,andV] at h ⊢
      split at h
      · obtain ⟨rfl,rfl⟩:=h; exact hK
      · exact h.elim
    | call m args=>obtain ⟨r,H2,h1,rfl,rfl⟩:=h; exact ⟨_,_,h1,hK⟩
  cases hg:io.g with
  | none=>simp only [hg] at h ⊢; exact m1 h
  | some tw =>
    obtain ⟨t,want⟩:=tw
    simp only [hg] at h ⊢
    refine ⟨h.1,?_⟩
    have h:=h.2
    cases hop:io.op with
    | e op =>
      rw [hop] at h
      simp only [dg] at h ⊢
      split at h
      · rename_i hq
        rw [if_pos hq]
        refine ⟨h.1,?_⟩
        obtain ⟨h1,h2,h3⟩:=h
        rw [h2,h3]; exact hK
      · rename_i hq
        rw [if_neg hq]
        refine ⟨fun hc=>m1 (op:=.e op) (h.1 hc),fun hc => ?_⟩
        obtain ⟨h1,h2⟩:=h.2 hc
        rw [h1,h2]; exact hK
    | call m args =>
      rw [hop] at h
      obtain ⟨r,h1,h2,h3⟩:=h
      exact ⟨r,h1,by rw [h2,h3]; exact hK⟩
def lst (listed:Array Bool):Nat→Bool:=fun j=>listed.getD j false
theorem anyw_sound {wr:Op1→Bool} {l:List Op1} (hl:cOps P true N ops ops.toList=some l) (hw:wOk wr l=true) {f0:Fr} {vs:List V} {Hs:Nat→Hp} (hrun:Runs P Hs (nw (annot wr l)) (annot wr l) vs 0 f0) {im0:Im} {w0:World}
    (hQ:∀ a w,After N im0 (Hs 0) w0 (fun f' H'=>f'=lastF (annot wr l) vs f0∧H'=Hs (nw (annot wr l))) a w→Q .normal a w) :
    ∀ (fuel:Nat) (listed:Array Bool) (im:Im) (a:Act) (w:World),listed.size=ops.size→open_ listed≤fuel→(∀ j o,l[j]? = some o→lst listed j=true→∀ k∈o.aft,lst listed k=true) →
      Ext im0 (Hs 0) w0 im (Hs (cA (lst listed) (annot wr l) 0)) w→Sim N im (Hs (cA (lst listed) (annot wr l) 0)) w (lv (lst listed) (annot wr l) vs 0 f0) a→wpAny P .any ops Q fuel listed a w:=by
  simp only [wOk,Bool.and_eq_true,List.all_eq_true] at hw
  obtain ⟨hA,hpair⟩:=hw
  obtain ⟨hlen,hget⟩:=cOps_get _ _ hl
  have pair:∀ {i j:Nat} {a b:Op1},l[i]? = some a→l[j]? = some b→i < j→anc (masks l []) i j=true∨((∀ t,a.dst=some t→t ∉ b.names∧b.dst ≠ some t)∧(∀ t,b.dst=some t→t ∉ a.names)∧¬ (wr a=true∧wr b=true)):=fun {i j a b} hi hj hij=>by
    have:=hpair (a,i) (by rw [List.mem_zipIdx_iff_getElem?]; exact hi) (b,j) (by rw [List.mem_zipIdx_iff_getElem?]; exact hj)
    simp only [okPair,hij,decide_true,Bool.not_true,Bool.false_or,Bool.or_eq_true] at this
    refine this.imp id fun h => ?_
    simp only [Bool.and_eq_true,Bool.not_eq_true',Bool.and_eq_false_iff] at h
    obtain ⟨⟨h1,h2⟩,h3⟩:=h
    refine ⟨fun t ht => ?_,fun t ht => ?_,fun ⟨e1,e2⟩=>by rcases h3 with h3 | h3 <;> simp_all⟩
    · rw [ht] at h1
      simp only [Bool.and_eq_true,Bool.not_eq_true',bne_iff_ne] at h1
      exact ⟨fun hm=>by rw [List.contains_iff_mem.2 hm] at h1; exact absurd h1.1 (by simp),h1.2⟩
    · rw [ht] at h2
      intro hm
      simp only [List.contains_iff_mem.2 hm,Bool.not_true,Bool.false_eq_true] at h2
  have fin:∀ (listed:Array Bool) (im:Im) (a:Act) (w:World),listed.size=ops.size→(∀ j,j < ops.size→listed.getD j false=true)→Ext im0 (Hs 0) w0 im (Hs (cA (lst listed) (annot wr l) 0)) w→Sim N im (Hs (cA (lst listed) (annot wr l) 0)) w (lv (lst listed) (annot wr l) vs 0 f0) a→Q .normal a w:=fun listed im a w hs hall hx hp=>by
    have hin:∀ {j:Nat} {b:An},(annot wr l)[j]? = some b→lst listed (0+j)=true:=fun {j b} hj=>by
      have:=(List.getElem?_eq_some_iff.1 hj).1
      simp only [annot,List.length_map,List.length_zipIdx,hlen] at this
      rw [Nat.zero_add]
      exact hall j (by simpa using this)
    have e1:cA (lst listed) (annot wr l) 0=nw (annot wr l):=by rw [← cA_all _ 0]; exact cA_congr _ _ fun j b hj _=>hin hj
    have e2:lv (lst listed) (annot wr l) vs 0 f0=lastF (annot wr l) vs f0:=by
      rw [lastF_eq _ _ 0]; exact funext fun t=>lv_congr _ _ _ _ _ (fun j b hj _=>hin hj) rfl
    rw [e1] at hx hp
    rw [e2] at hp
    exact hQ _ _ ⟨_,_,im,⟨rfl,rfl⟩,hp,hx⟩
  intro fuel
  induction fuel with
  | zero =>
    intro listed im a w hs ho hcl hx hp
    have hall:∀ j,j < ops.size→listed.getD j false=true:=fun j hj=>none_open (by omega) j (by omega)
    refine ⟨?_,fin listed im a w hs hall hx hp⟩
    rw [List.eq_nil_iff_forall_not_mem]
    intro j hj
    rw [mem_ready] at hj
    obtain ⟨h0,o,ho',_⟩:=hj
    have hlt:=(Array.getElem?_eq_some_iff.1 ho').1
    have h1:=hall j hlt
    have hlt':j < listed.size:=by omega
    simp [hlt'] at h0 h1
    rw [h0] at h1; cases h1
  | succ fuel ih =>
    intro listed im a w hs ho hcl hx hp
    refine ⟨fun hr=>fin listed im a w hs (all_listed hl hA hs hr) hx hp,fun i hi => ?_⟩
    obtain ⟨h0,o,hoi,hall⟩:=mem_ready.1 hi
    obtain ⟨io,hio,hc⟩:=hget i o (by simpa using hoi)
    obtain ⟨_,hdst,_,haft,_⟩:=cOp_ok hc
    have hiL:lst listed i=false:=by
      have hlt:i < listed.size:=by
        rcases Nat.lt_or_ge i listed.size with h' | h'
        · exact h'
        · simp [Array.getElem?_eq_none h'] at h0
      simp [lst,hlt] at h0 ⊢; exact h0
    have hready:∀ k∈io.aft,lst listed k=true:=fun k hk=>by
      rw [haft] at hk
      obtain ⟨e,he,rfl⟩:=List.mem_map.1 hk
      obtain ⟨he,hb⟩:=List.mem_filter.1 he
      exact hall e (by simpa using he) hb
    have A1:∀ k,anc (masks l []) k i=true→lst listed k=true:=anc_in hA hcl i io hio hready
    have A2:∀ j b,l[j]? = some b→anc (masks l []) i j=true→lst listed j=false:=fun j b hj han=>by
      cases hL:lst listed j with
      | false=>rfl
      | true =>
        have:=anc_in hA hcl j b hj (hcl j b hj hL) i han
        rw [hiL] at this; cases this
    have hla:(annot wr l)[i]? = some ⟨io,wr io,cnt wr (fun j=>anc (masks l []) j i) l 0,cnt wr (fun j=>!anc (masks l []) i j) l 0⟩:=by rw [annot_get,hio]; rfl
    have lget:∀ {j:Nat} {b:An},(annot wr l)[j]? = some b→l[j]? = some b.o∧b.wr=wr b.o:=fun {j b} hj=>by
      rw [annot_get] at hj
      obtain ⟨o',h1,rfl⟩:=Option.map_eq_some_iff.1 hj
      exact ⟨h1,rfl⟩
    obtain ⟨v,hv,hfact⟩:=Runs.get _ _ _ _ 0 i _ hrun hla
    simp only [Nat.zero_add] at hfact
    -- the names it reads
    have hnames:∀ t∈io.names,lv (fun j=>decide (j < i)) (annot wr l) vs 0 f0 t=lv (lst listed) (annot wr l) vs 0 f0 t:=fun t ht=>by
      refine lv_congr _ _ _ _ _ (fun j b hj hd => ?_) rfl
      rw [Nat.zero_add]
      have hj':=(lget hj).1
      rcases Nat.lt_trichotomy j i with h | h | h
      · rcases pair hj' hio h with h2 | ⟨h2,_⟩
        · rw [A1 j h2]; simp [h]
        · exact absurd ht (h2 t hd).1
      · subst h; rw [hiL]; simp
      · rcases pair hio hj' h with h2 | ⟨_,h2,_⟩
        · rw [A2 j _ hj' h2]; simp; omega
        · exact absurd ht (h2 t hd)
    -- the set with it
    have hset:∀ j,j ≠ i→lst (listed.setIfInBounds i true) j=lst listed j:=fun j hj=>getD_set_ne false (Ne.symm hj)
    have hseti:lst (listed.setIfInBounds i true) i=true:=by
      have hlt:i < listed.size:=by
        rcases Nat.lt_or_ge i listed.size with h' | h'
        · exact h'
        · simp [Array.getElem?_eq_none h'] at h0
      simp [lst,hlt]
    have hlv:lv (lst (listed.setIfInBounds i true)) (annot wr l) vs 0 f0=upd io.dst v (lv (lst listed) (annot wr l) vs 0 f0):=funext fun t=>by
      by_cases hd:io.dst=some t
      · rw [lv_last _ _ _ _ i _ v hla hv hd (by rw [Nat.zero_add]; exact hseti) fun j b hij hj hdb=>by
          rw [Nat.zero_add,hset j (by omega)]
          have hj':=(lget hj).1
          rcases pair hio hj' hij with h2 | ⟨h2,_⟩
          · exact A2 j _ hj' h2
          · exact absurd hdb (h2 t hd).2]
        simp [upd,hd]
      · rw [upd_ne hd]
        refine lv_congr _ _ _ _ _ (fun j b hj hdb => ?_) rfl
        rw [Nat.zero_add]
        refine hset j fun e => ?_
        subst e
        rw [hj] at hla
        injection hla with hla
        subst hla
        exact hd hdb
    have hcl':∀ j o,l[j]? = some o→lst (listed.setIfInBounds i true) j=true→∀ k∈o.aft,lst (listed.setIfInBounds i true) k=true:=fun j o' hj hL k hk=>by
      by_cases ek:k=i
      · subst ek; exact hseti
      · rw [hset k ek]
        by_cases ej:j=i
        · subst ej
          rw [hio] at hj; injection hj with hj; subst hj
          exact hready k hk
        · rw [hset j ej] at hL; exact hcl j o' hj hL k hk
    have hcA:=cA_set (annot wr l) 0 i _ hla (by rw [Nat.zero_add]; exact hiL) (by rw [Nat.zero_add]; exact hseti) (fun j hj=>hset j (by omega))
    have go:∀ H2,dstep P io (lv (lst listed) (annot wr l) vs 0 f0) (Hs (cA (lst listed) (annot wr l) 0)) (fun f2 H3=>f2=upd io.dst v (lv (lst listed) (annot wr l) vs 0 f0)∧H3=H2)→H2=Hs (cA (lst (listed.setIfInBounds i true)) (annot wr l) 0) →
        wpOp P ops Q i (wpAny P .any ops Q fuel (listed.setIfInBounds i true)) a w:=fun H2 hd hH=>by
      refine wpOp_mono (fun a' w' hA' => ?_) (step_sound (Q:=Q) hoi hc hp hd)
      obtain ⟨f2,H3,im2,⟨rfl,rfl⟩,hs2,hx2⟩:=hA'
      rw [hH] at hs2 hx2
      refine ih (listed.setIfInBounds i true) im2 a' w' (by simp [hs]) (by have:=open_set h0; omega) hcl' (hx.trans hx2) ?_
      rw [hlv]
      exact hs2
    unfold Fact at hfact
    split at hfact
    · rename_i hwr
      have hwr':wr io=true:=hwr
      have e:cA (fun j=>decide (j < i)) (annot wr l) 0=cA (lst listed) (annot wr l) 0:=cA_congr _ _ fun j b hj hb=>by
        rw [Nat.zero_add]
        have hj':=lget hj
        rcases Nat.lt_trichotomy j i with h | h | h
        · rcases pair hj'.1 hio h with h2 | ⟨_,_,h2⟩
          · rw [A1 j h2]; simp [h]
          · exact absurd ⟨hj'.2 ▸ hb,hwr'⟩ h2
        · subst h; rw [hiL]; simp
        · rcases pair hio hj'.1 h with h2 | ⟨_,_,h2⟩
          · rw [A2 j _ hj'.1 h2]; simp; omega
          · exact absurd ⟨hwr',hj'.2 ▸ hb⟩ h2
      rw [e] at hfact
      refine go _ (dvv_dstep (dvv_congr hnames hfact) ⟨rfl,rfl⟩) ?_
      rw [hcA,if_pos hwr']
    · rename_i hwr
      have hwr':¬ wr io=true:=hwr
      have hq:=hfact (cA (lst listed) (annot wr l) 0) ?_ ?_ (cA_le _ _ _)
      · refine go _ (qv_dstep (qv_congr hnames hq) ⟨rfl,rfl⟩) ?_
        rw [hcA,if_neg hwr']; rfl
      · show cnt wr (fun j=>anc (masks l []) j i) l 0≤_
        rw [cnt_annot]
        exact cA_mono _ _ fun j b hj hb han=>by rw [Nat.zero_add] at han ⊢; exact A1 j han
      · show _≤cnt wr (fun j=>!anc (masks l []) i j) l 0
        rw [cnt_annot]
        refine cA_mono _ _ fun j b hj hb hL => ?_
        rw [Nat.zero_add] at hL ⊢
        cases han:anc (masks l []) i j with
        | false=>rfl
        | true=>rw [A2 j _ (lget hj).1 han] at hL; cases hL
theorem wops_sound {id:Nat} {wr:Op1→Bool} {l:List Op1} (hm:(P.follows .mixedOrders||!Region.departs ops)=true) (hl:cOps P true N ops ops.toList=some l) (ho:wOk wr l=true) (hs:Sim N im H w f a) {K:Fr→Hp→Prop} (h:wops P (annot wr l) f [] H [] K)
    (hQ:∀ a' w',After N im H w K a' w'→Q .normal a' w'):(Code.region id ops true).wp P Q a w:=by
  obtain ⟨Hs,vs,_,h1,h2,h3,_⟩:=wops_runs _ _ _ _ _ h
  simp only [List.length_nil,Nat.zero_add] at h1 h2 h3
  refine wp_region_draw fun t => ?_
  simp only [Region.schedule,hm,if_true]
  obtain ⟨hr,hx⟩:=hs.rel.drew
  refine wpAny_sound ops.size t _ a _ ?_
  have hnone:∀ j,lst (Array.replicate ops.size false) j=false:=fun j=>by
    simp only [lst,Array.getD_eq_getD_getElem?,Array.getElem?_replicate]
    split <;> rfl
  have e1:cA (lst (Array.replicate ops.size false)) (annot wr l) 0=0:=by
    rw [cA_congr (L':=fun j=>decide (j < 0)) _ _ fun j _ _ _=>by rw [hnone]; simp]
    exact cA_none _ 0
  have e2:lv (lst (Array.replicate ops.size false)) (annot wr l) vs 0 f=f:=funext fun t=>lv_keep _ _ _ _ fun j _ _ _=>hnone _
  refine anyw_sound hl ho h2 (im0:=im) (w0:=w) (fun a' w' hA=>hQ a' w' ?_) ops.size _ im a _ (by simp) (by simp [open_]) (fun j o _ hL=>by rw [hnone] at hL; cases hL) ?_ ?_
  · obtain ⟨f',H',im',⟨rfl,rfl⟩,hs',hx'⟩:=hA
    rw [h1] at hx'
    exact ⟨_,_,im',h3,hs',hx'⟩
  · rw [e1,h1]; exact hx
  · rw [e1,e2,h1]
    exact ⟨hr,hs.fr.ext hx,hs.size,hs.defers⟩
end
end Go.Proofs.YtoemlgdlejkliaaK
