/- A growing row of its own is from now on only read; a growing row takes another one's place. -/
import Derived.Test.YtoemlgdlejkliaaRj
namespace Go.Proofs.YtoemlgdlejkliaaK
set_option linter.unusedVariables false
set_option linter.unusedSimpArgs false
open Go.RowKit
theorem Emb.ne {ρ:Nat→Nat} {G:Hp→Hp} {n0:Nat} (hE:Emb ρ G n0) {L:Hp} (hn:n0≤L.length) {b c:Nat} {B C:Blk} (hB:L[b]? = some B) (hC:L[c]? = some C) (h:b ≠ c):ρ b ≠ ρ c:=fun e=>by
  have hbl:b < L.length:=(List.getElem?_eq_some_iff.1 hB).1
  have h1:=hE.set L b ⟨C.ver+1,.dead,0,[]⟩ hn hbl
  have h2:(G (L.set b ⟨C.ver+1,.dead,0,[]⟩))[ρ c]? = some (C.rn ρ):=hE.get _ c C (by simpa using hn) (by rw [List.getElem?_set,if_neg h]; exact hC)
  have h3:=hE.get L c C hn hC
  have hl:ρ c < (G L).length:=(List.getElem?_eq_some_iff.1 h3).1
  rw [← h1,e,List.getElem?_set,if_pos rfl,if_pos hl] at h2
  injection h2 with h2
  have:=congrArg Blk.ver h2
  simp [Blk.rn] at this
/-- An own row's slice is from now on only read; the row begins anew. -/
theorem Shl.freeze {L0 L:Hp} {f:Fr} {b ver q n t0:Nat} {cs:List V} (hB:L[b]? = some ⟨ver,.grow,q,cs⟩) (hst:statics cs=true) (hlen:n*q=cs.length) (hf:f t0=.ref b ver 0 n) :
    Shl L0 f L (upd (some t0) (.sl false n cs) f) (L.set b ⟨ver+1,.grow,q,[]⟩):=fun hl=>by
  refine ⟨by simpa using hl,fun ρ G hE N im0 w0 im w a h0 hs hx => ?_⟩
  have hbl:b < L.length:=(List.getElem?_eq_some_iff.1 hB).1
  have hset:(G L).set (ρ b) ⟨ver+1,.grow,q,[]⟩=G (L.set b ⟨ver+1,.grow,q,[]⟩):=hE.set L b ⟨ver+1,.grow,q,[]⟩ hl hbl
  have hg:(G L)[ρ b]? = some ⟨ver,.grow,q,cs⟩:=by
    have:=hE.get L b _ hl hB
    simpa only [Blk.rn,rns_stat _ _ hst] using this
  rw [← hset]
  have hβl:ρ b < (G L).length:=(List.getElem?_eq_some_iff.1 hg).1
  have hget:∀ y,((G L).set (ρ b) ⟨ver+1,.grow,q,[]⟩)[y]? = if y=ρ b then some ⟨ver+1,.grow,q,[]⟩ else (G L)[y]? := by
    intro y
    rw [List.getElem?_set]
    by_cases e:ρ b=y
    · subst e; simp [hβl]
    · rw [if_neg e,if_neg (by omega)]
  have hO:∀ g,Own (imNil im (ρ b)) ((G L).set (ρ b) ⟨ver+1,.grow,q,[]⟩) g→Own im (G L) g∧im (ρ b) ≠ some g:=fun g ⟨y,Y,e1,e2,e3⟩=>by
    rw [imNil_f,imNil_s] at e3
    by_cases e:y=ρ b
    · rw [if_pos e] at e3
      rcases e3 with e3 | e3
      · cases e3
      · exact absurd e e3.1
    · rw [hget,if_neg e] at e1
      rw [if_neg e] at e3
      have e3:=e3.imp id And.right
      exact ⟨⟨y,Y,e1,e2,e3⟩,fun e4=>e (hs.rel.only hg (by simp) e4 e1 e2 e3)⟩
  have hx1:Ext im (G L) w (imNil im (ρ b)) ((G L).set (ρ b) ⟨ver+1,.grow,q,[]⟩) w:=by
    refine ⟨rfl,rfl,rfl,Nat.le_refl _,by simp,fun g hg' ho=>⟨rfl,fun e=>ho (hO g e).1⟩,fun y Y Y' hY hY' => ?_⟩
    rw [hget] at hY'
    by_cases e:y=ρ b
    · subst e
      rw [hg] at hY; injection hY with hY; subst hY
      rw [if_pos rfl] at hY'; injection hY' with hY'; subst hY'
      exact ⟨Nat.le_succ _,fun e=>by simp at e⟩
    · rw [if_neg e] at hY'
      rw [hY] at hY'; injection hY' with hY'; subst hY'
      exact ⟨Nat.le_refl _,fun _ hd=>⟨hd,by rw [imNil_f,if_neg e],rfl,fun _ _=>rfl⟩⟩
  refine ⟨_,⟨⟨fun y Y hY hd => ?_,fun y y' Y Y' g hY hY' hd hd' hi hi' => ?_,Glob.ext hs.rel.glob hx1,hs.rel.keep hs.rel.sub_lt (fun y Y hY hd => ?_) (fun y Y g hY hd hi => ?_) fun _ _ _ _ _ _ _=>rfl⟩,⟨fun t => ?_⟩,hs.size,hs.defers⟩,hx.trans hx1⟩
  · rw [hget] at hY
    by_cases e:y=ρ b
    · subst e
      rw [if_pos rfl] at hY; injection hY with hY; subst hY
      simp [imNil]
    · rw [if_neg e] at hY
      rw [imNil_f,if_neg e]
      have hrow:=hs.rel.row y Y hY hd
      cases hi:im y with
      | none=>rw [hi] at hrow; exact hrow
      | some g =>
        rw [hi] at hrow
        obtain ⟨arr,t,fr,vs,r1,r2,r3,r4,r5⟩:=hrow
        exact ⟨arr,t,fr,vs,r1,r2,r3,VRs.ext hx1 _ _ r4,r5⟩
  · rw [hget] at hY hY'
    rw [imNil_f] at hi hi'
    by_cases e:y=ρ b
    · rw [if_pos e] at hi; cases hi
    · by_cases e':y'=ρ b
      · rw [if_pos e'] at hi'; cases hi'
      · rw [if_neg e] at hY hi; rw [if_neg e'] at hY' hi'
        exact hs.rel.inj y y' Y Y' g hY hY' hd hd' hi hi'
  · rw [hget] at hY
    by_cases e:y=ρ b
    · rw [if_pos e] at hY; injection hY with hY; subst hY
      exact .inr ⟨rfl,fun g hg=>hg.1 e⟩
    · rw [if_neg e] at hY
      exact .inl ⟨by funext x; simp [imNil,e],by rw [imNil_f,if_neg e],Y,hY,rfl⟩
  · rw [hget] at hY
    rw [imNil_f] at hi
    by_cases e:y=ρ b
    · rw [if_pos e] at hi; cases hi
    · rw [if_neg e] at hY hi; exact .inl ⟨y,Y,hY,hd,hi⟩
  · show VR _ _ w ((upd (some t0) (.sl false n cs) f t).rn ρ) _
    by_cases e:t=t0
    · subst e
      simp only [upd,if_true]
      have hv:=hs.fr.at_ t
      have hv:VR im (G L) w ((f t).rn ρ) (a.tmps.getD t undef):=hv
      rw [hf] at hv
      simp only [V.rn,rns_stat _ _ hst]
      obtain ⟨_,B',hB',_,hv⟩:=hv
      rw [hg] at hB'; injection hB' with hB'; subst hB'
      obtain ⟨A,cap,hc,h1,h2,h3⟩:=hv rfl (by simp)
      refine ⟨A,cap,hc,h1,h2,fun e=>by simp at e,?_⟩
      rcases h3 with h3 | ⟨g,hgi,hA,hz⟩
      · exact .inl (by omega)
      · have hrow:=hs.rel.row (ρ b) _ hg (by simp)
        rw [hgi] at hrow
        obtain ⟨arr,t',fr,vs,k1,k2,k3,k4,_⟩:=hrow
        refine .inr ⟨g,0,vs,hA,fun e=>(hO g e).2 hgi,hs.rel.lt hg (by simp) hgi,?_,VRs.ext hx1 _ _ k4⟩
        exact At.of_row k1 fun j v hj=>by rw [Nat.zero_add]; exact k3 _ _ hj
    · simp only [upd,if_neg e]
      exact (hs.fr.at_ t).ext hx1 _ _
/-- An own row comes to another own row's place, of which nothing is left. -/
theorem Shl.move {L0 L:Hp} {f:Fr} {b c ver v2 q n t0:Nat} {kd:BK} {cs0 cs:List V} (hne:b ≠ c) (hB:L[b]? = some ⟨ver,kd,q,cs0⟩) (hC:L[c]? = some ⟨v2,.grow,q,cs⟩) (hf:f t0=.ref c v2 0 n) :
    Shl L0 f L (upd (some t0) (.ref b (ver+1) 0 n) f) ((L.set b ⟨ver+1,.grow,q,cs⟩).set c ⟨v2+1,.grow,q,[]⟩):=fun hl=>by
  refine ⟨by simpa using hl,fun ρ G hE N im0 w0 im w a h0 hs hx => ?_⟩
  have hbl:b < L.length:=(List.getElem?_eq_some_iff.1 hB).1
  have hcl:c < L.length:=(List.getElem?_eq_some_iff.1 hC).1
  have hρ:ρ b ≠ ρ c:=hE.ne hl hB hC hne
  have hset:((G L).set (ρ b) ⟨ver+1,.grow,q,rns ρ cs⟩).set (ρ c) ⟨v2+1,.grow,q,[]⟩=G ((L.set b ⟨ver+1,.grow,q,cs⟩).set c ⟨v2+1,.grow,q,[]⟩):=by
    have h1:=hE.set L b ⟨ver+1,.grow,q,cs⟩ hl hbl
    have h2:=hE.set (L.set b ⟨ver+1,.grow,q,cs⟩) c ⟨v2+1,.grow,q,[]⟩ (by simpa using hl) (by simpa using hcl)
    rw [← h2,← h1]; rfl
  have hg:=hE.get L b _ hl hB
  have hg2:=hE.get L c _ hl hC
  have hg2:(G L)[ρ c]? = some ⟨v2,.grow,q,rns ρ cs⟩:=hg2
  rw [← hset]
  have hβl:ρ b < (G L).length:=(List.getElem?_eq_some_iff.1 hg).1
  have hγl:ρ c < (G L).length:=(List.getElem?_eq_some_iff.1 hg2).1
  have hget:∀ y,(((G L).set (ρ b) ⟨ver+1,.grow,q,rns ρ cs⟩).set (ρ c) ⟨v2+1,.grow,q,[]⟩)[y]? = if y=ρ c then some ⟨v2+1,.grow,q,[]⟩ else if y=ρ b then some ⟨ver+1,.grow,q,rns ρ cs⟩ else (G L)[y]? := by
    intro y
    rw [List.getElem?_set]
    by_cases e:ρ c=y
    · subst e; simp [hγl]
    · rw [if_neg e,if_neg (show ¬ y=ρ c by omega),List.getElem?_set]
      by_cases e':ρ b=y
      · subst e'; simp [hβl]
      · rw [if_neg e',if_neg (show ¬ y=ρ b by omega)]
  generalize hH:((G L).set (ρ b) ⟨ver+1,.grow,q,rns ρ cs⟩).set (ρ c) ⟨v2+1,.grow,q,[]⟩=H' at hget ⊢
  have hHl:(G L).length=H'.length:=by rw [← hH]; simp
  have him:∃ im':Im,im' (ρ b)=im (ρ c)∧im' (ρ c)=none∧(∀ y,y ≠ ρ b→y ≠ ρ c→im' y=im y)∧(∀ y,y ≠ ρ b→y ≠ ρ c→im'.sub y=im.sub y)∧(∀ x,¬ im'.sub (ρ b) x)∧∀ x,¬ im'.sub (ρ c) x :=
    ⟨⟨fun y=>if y=ρ c then none else if y=ρ b then im (ρ c) else im y,fun y x=>(y ≠ ρ b∧y ≠ ρ c)∧im.sub y x⟩,by simp [hρ],by simp,fun y h1 h2=>by simp [h1,h2],fun y h1 h2=>by simp [h1,h2],fun x h=>h.1.1 rfl,fun x h=>h.1.2 rfl⟩
  obtain ⟨im',i1,i2,i3,i4,i5,i6⟩:=him
  have hO:∀ g,Own im' H' g→Own im (G L) g:=fun g ⟨y,Y,e1,e2,e3⟩=>by
    by_cases e:y=ρ c
    · subst e; rw [i2] at e3
      rcases e3 with e3 | e3
      · cases e3
      · exact absurd e3 (i6 g)
    · by_cases e':y=ρ b
      · subst e'; rw [i1] at e3
        rcases e3 with e3 | e3
        · exact ⟨ρ c,_,hg2,by simp,.inl e3⟩
        · exact absurd e3 (i5 g)
      · rw [hget,if_neg e,if_neg e'] at e1
        rw [i3 y e' e,i4 y e' e] at e3
        exact ⟨y,Y,e1,e2,e3⟩
  have hx1:Ext im (G L) w im' H' w:=by
    refine ⟨rfl,rfl,rfl,Nat.le_refl _,by omega,fun g hg' ho=>⟨rfl,fun e=>ho (hO g e)⟩,fun y Y Y' hY hY' => ?_⟩
    rw [hget] at hY'
    by_cases e:y=ρ c
    · subst e
      rw [hg2] at hY; injection hY with hY; subst hY
      rw [if_pos rfl] at hY'; injection hY' with hY'; subst hY'
      exact ⟨Nat.le_succ _,fun e=>by simp at e⟩
    · rw [if_neg e] at hY'
      by_cases e':y=ρ b
      · subst e'
        rw [hg] at hY; injection hY with hY; subst hY
        rw [if_pos rfl] at hY'; injection hY' with hY'; subst hY'
        exact ⟨Nat.le_succ _,fun e=>by simp [Blk.rn] at e⟩
      · rw [if_neg e',hY] at hY'; injection hY' with hY'; subst hY'
        exact ⟨Nat.le_refl _,fun _ hd=>⟨hd,i3 y e' e,rfl,fun _ _=>rfl⟩⟩
  refine ⟨im',⟨⟨fun y Y hY hd => ?_,fun y y' Y Y' g hY hY' hd hd' hi hi' => ?_,Glob.ext hs.rel.glob hx1,hs.rel.keep hs.rel.sub_lt (fun y Y hY hd => ?_) (fun y Y g hY hd hi => ?_) fun _ _ _ _ _ _ _=>rfl⟩,⟨fun t => ?_⟩,hs.size,hs.defers⟩,hx.trans hx1⟩
  · rw [hget] at hY
    by_cases e:y=ρ c
    · subst e
      rw [if_pos rfl] at hY; injection hY with hY; subst hY
      rw [i2]; simp
    · rw [if_neg e] at hY
      by_cases e':y=ρ b
      · subst e'
        rw [if_pos rfl] at hY; injection hY with hY; subst hY
        rw [i1]
        have hrow:=hs.rel.row (ρ c) _ hg2 (by simp)
        cases hi:im (ρ c) with
        | none=>rw [hi] at hrow; exact hrow
        | some g =>
          rw [hi] at hrow
          obtain ⟨arr,t,fr,vs,r1,r2,r3,r4,r5⟩:=hrow
          exact ⟨arr,t,fr,vs,r1,r2,r3,VRs.ext hx1 _ _ r4,r5⟩
      · rw [if_neg e'] at hY
        rw [i3 y e' e]
        have hrow:=hs.rel.row y Y hY hd
        cases hi:im y with
        | none=>rw [hi] at hrow; exact hrow
        | some g =>
          rw [hi] at hrow
          obtain ⟨arr,t,fr,vs,r1,r2,r3,r4,r5⟩:=hrow
          exact ⟨arr,t,fr,vs,r1,r2,r3,VRs.ext hx1 _ _ r4,r5⟩
  · have key:∀ y Y,H'[y]? = some Y→Y.kind ≠ .dead→im' y=some g→y=ρ b∧im (ρ c)=some g∨y ≠ ρ b∧y ≠ ρ c∧(G L)[y]? = some Y∧im y=some g:=by
      intro y Y hY hd hi
      rw [hget] at hY
      by_cases e:y=ρ c
      · subst e; rw [i2] at hi; simp at hi
      · by_cases e':y=ρ b
        · subst e'; rw [i1] at hi; exact .inl ⟨rfl,hi⟩
        · rw [if_neg e,if_neg e'] at hY
          rw [i3 y e' e] at hi
          exact .inr ⟨e',e,hY,hi⟩
    rcases key y Y hY hd hi with ⟨e1,e2⟩ | ⟨e1,e2,e3,e4⟩ <;> rcases key y' Y' hY' hd' hi' with ⟨f1,f2⟩ | ⟨f1,f2,f3,f4⟩
    · omega
    · exact absurd (hs.rel.inj _ _ _ _ _ hg2 f3 (by simp) hd' e2 f4).symm f2
    · exact absurd (hs.rel.inj _ _ _ _ _ hg2 e3 (by simp) hd f2 e4).symm e2
    · exact hs.rel.inj _ _ _ _ _ e3 f3 hd hd' e4 f4
  · rw [hget] at hY
    by_cases e:y=ρ c
    · rw [if_pos e] at hY; injection hY with hY; subst hY
      exact .inr ⟨rfl,fun g hg=>i6 g (e ▸ hg)⟩
    · by_cases e':y=ρ b
      · rw [if_neg e,if_pos e'] at hY; injection hY with hY; subst hY
        exact .inr ⟨rfl,fun g hg=>i5 g (e' ▸ hg)⟩
      · rw [if_neg e,if_neg e'] at hY
        exact .inl ⟨i4 y e' e,i3 y e' e,Y,hY,rfl⟩
  · rw [hget] at hY
    by_cases e:y=ρ c
    · rw [e,i2] at hi; cases hi
    · by_cases e':y=ρ b
      · rw [e',i1] at hi; exact .inl ⟨ρ c,_,hg2,by simp,hi⟩
      · rw [if_neg e,if_neg e'] at hY
        rw [i3 y e' e] at hi
        exact .inl ⟨y,Y,hY,hd,hi⟩
  · show VR _ _ w ((upd (some t0) (.ref b (ver+1) 0 n) f t).rn ρ) _
    by_cases e:t=t0
    · subst e
      simp only [upd,if_true]
      have hv:=hs.fr.at_ t
      have hv:VR im (G L) w ((f t).rn ρ) (a.tmps.getD t undef):=hv
      rw [hf] at hv
      simp only [V.rn]
      obtain ⟨hone,B',hB',_,hv⟩:=hv
      rw [hg2] at hB'; injection hB' with hB'; subst hB'
      obtain ⟨A,cap,hc,h1,h2,h3⟩:=hv rfl (by simp)
      refine ⟨hone,⟨ver+1,.grow,q,rns ρ cs⟩,by rw [hget,if_neg hρ,if_pos rfl],Nat.le_refl _,fun _ _=>⟨A,cap,hc,h1,h2,?_⟩⟩
      rw [i1]; exact h3
    · simp only [upd,if_neg e]
      exact (hs.fr.at_ t).ext hx1 _ _
/-- A function's value is called. -/
theorem CalL.clo {n0:Nat} {P:Program} {g:FuncId} {args caps:List V} {L L':Hp} {r:V} (h:CalL n0 P g (args++caps) L r L') (hc:callable P g=true:=by kernel_rfl):CalL n0 P 4294967296 (.clo g caps::args) L r L':=by
  have hlt:Nat.blt g 4294967296=true:=by
    unfold callable at hc; rw [Bool.and_eq_true] at hc; exact hc.1
  refine ⟨h.1,fun ρ G hE => ?_⟩
  intro im w cargs hr ha
  have h2:=h.2 ρ G hE
  match cargs,ha with
  | c::cs,ha =>
    obtain ⟨h1,h3⟩:=ha
    obtain ⟨vs,rfl,hvs⟩:=h1
    have hall:VRs im (G L) w (rns ρ (args++caps)) (cs++vs.toList):=by
      rw [rns_map,List.map_append,← rns_map,← rns_map]
      exact h3.append hvs
    have:=h2 im w (cs++vs.toList) hr hall
    rw [CallsD.st hlt] at this
    rw [CallsD.dy rfl]
    exact ⟨g,cs++vs.toList,hc,.inl ⟨rfl,vs,cs,rfl,rfl⟩,this⟩
def Opn:List It→Bool
  | .c _::_=>true
  | .l _::_=>true
  | .b _::S=>Opn S
  | []=>false
section
variable {P:Program} {L0:Hp} {C:X→Fr→Hp→Prop} {f f2:Fr} {L L2:Hp}
theorem k_sv:∀ (S:List It),Opn S=true→Shl L0 f L f2 L2→kont P L0 C S .normal f2 L2→kont P L0 C S .normal f L
  | [],h,_,_=>by simp [Opn] at h
  | .c _::S,_,h,⟨f3,L3,k,K⟩=>⟨f3,L3,h.trans k,K⟩
  | .l _::S,_,h,⟨f3,L3,k,K⟩=>⟨f3,L3,h.trans k,K⟩
  | .b id::S,ho,h,K=>k_sv S ho h K
variable {S:List It} {l l':List Fc} {L':Hp}
theorem put_at (hf:FOk f l) (t0:Nat) (v:V) (hl:putD (some t0) [] v l=l'):FOk (upd (some t0) v f) l':=hl ▸ FOk_putD hf (by rfl) (fun _=>rfl) (fun h=>absurd trivial h)
theorem k_fz {α:Type} {g:α→List V} {s:Nat} [Cells g s] {x:List α} (t0 b:Nat) {ver n:Nat} (hf:FOk f l) (hx:x.length=n) (K:∀ f',FOk f' (putD (some t0) [] (.sl false x.length (cat g x)) l)→kont P L0 C S .normal f' L')
    (hv:val l [] (.t t0)=some (.ref b ver 0 n):=by kernel_rfl) (hB:L[b]? = some ⟨ver,.grow,s,cat g x⟩:=by kernel_rfl) (hL:L.set b ⟨ver+1,.grow,s,[]⟩=L':=by kernel_rfl) (hS:Opn S=true:=by kernel_rfl):kont P L0 C S .normal f L:=by
  subst hL; subst hx
  exact k_sv S hS (Shl.freeze hB (cat_stat x) (by rw [cat_len (g:=g)]) (val_ok (ch:=[]) hf trivial hv).1) (K _ (put_at hf _ _ rfl))
end
/-- A literal whose elements are memory that is only read. -/
theorem e_bsl {f:Fr} {L:Hp} {n:Nat} {cs:List Value} {ps:List (Nat × Nat × Opd)} {l:List V} (h:fillV f (cs.map .s) ps=some l) (hs:statics l=true) (h1:l.all V.one=true):E1 (.bsl n cs ps) f L=some (.sl true n l,L):=by
  simp only [E1,h,Option.bind_some,hs,h1,and_self,if_true]
theorem Wk.slcs {u:Bool} {n:Nat} {cs cs':List V} (k:Wks cs cs'):Wk (.sl u n cs) (.sl false n cs'):=fun im H w c hv=>by
  obtain ⟨A,cap,hc,h1,h2,_,h4⟩:=hv
  refine ⟨A,cap,hc,h1,h2,fun e=>by simp at e,?_⟩
  rcases h4 with h4 | ⟨g,o,vs,hA,ho,hg,hat,hvs⟩
  · exact .inl h4
  · exact .inr ⟨g,o,vs,hA,ho,hg,hat,k _ _ _ _ hvs⟩
end Go.Proofs.YtoemlgdlejkliaaK
