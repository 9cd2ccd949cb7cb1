/- Places of bytes in strings; functions of values alone; builders in calls. -/
import Derived.Test.YtfcegejpdlbkdaaGreatRi
import Derived.Lib.Bytealg
namespace Go.Proofs.YtfcegejpdlbkdaaGreatK
set_option linter.unusedVariables false
set_option linter.unusedSimpArgs false
open Go.RowKit
/-- An element of a part of a slice. -/
theorem part_lt {α:Type} {l:List α} {a b:Nat} {i:Int} (h:a≤b∧b≤l.length) (c:0≤i∧i < ((b - a:Nat):Int)):0≤i∧i < ln (l.drop a):=by
  unfold ln
  rw [List.length_drop]
  omega
/-- Elements laid over a list's, from a place on. -/
def cpyL {α:Type} (l:List α) (a m:Nat) (l':List α):List α:=if a+m≤l.length then l.take a++l'.take m++l.drop (a+(l'.take m).length) else l
theorem cpyL_len {α:Type} {l l':List α} {a m:Nat}:(cpyL l a m l').length=l.length:=by
  unfold cpyL
  split
  · simp only [List.length_append,List.length_take,List.length_drop]; omega
  · rfl
theorem e_cpy0 {x y:Opd} {f:Fr} {L:Hp} {q ver a m:Nat} {kd:BK} {l l':List Int} (hx:ev x f=.ref q ver (a*1) m) (h:a+m≤l.length) (hL:live L q ver=some ⟨ver,kd,1,cat (nI .u8) l⟩) (h2:slCells L 1 (ev y f)=some (cat (nI .u8) l')) :
    E1 (.cpy x y) f L=some (.s (.int .i64 (((l'.take m).length:Nat):Int)),L.set q ⟨ver,kd,1,cat (nI .u8) (cpyL l a m l')⟩):=by
  have ht:(cat (nI .u8) l').take m=cat (nI .u8) (l'.take m):=by
    have:=cat_taken (g:=nI .u8) m l'
    rwa [Nat.mul_one] at this
  have hlt:(cat (nI .u8) (l'.take m)).length=(l'.take m).length:=by rw [cat_len (g:=nI .u8),Nat.mul_one]
  obtain ⟨q1,q2,q3⟩:=live_ok hL
  simp only [E1,hx,slLen,hL,Option.isSome_some,if_true,Option.bind_some,h2,ht,hlt,copyV]
  cases hz:l'.take m with
  | nil =>
    have he:cpyL l a m l'=l:=by
      unfold cpyL
      rw [if_pos h,hz]
      simp
    rw [he]
    have hs:L.set q ⟨ver,kd,1,cat (nI .u8) l⟩=L:=by
      apply List.ext_getElem?
      intro i
      rw [List.getElem?_set]
      split
      · rename_i e
        subst e
        rw [if_pos (List.getElem?_eq_some_iff.1 q1).1,q1]
      · rfl
    rw [hs]; rfl
  | cons z r =>
    rw [← hz]
    have hne:(cat (nI .u8) (l'.take m)).isEmpty=false:=by rw [hz]; rfl
    have hle:a*1+(cat (nI .u8) (l'.take m)).length≤(cat (nI .u8) l).length:=by
      rw [hlt,cat_len (g:=nI .u8),List.length_take]; omega
    have hsp:splice (cat (nI .u8) l) a (cat (nI .u8) (l'.take m))=cat (nI .u8) (cpyL l a m l'):=by
      unfold cpyL
      rw [if_pos h,cat_app,cat_app]
      have h1:=cat_taken (g:=nI .u8) a l
      have h3:=cat_dropn (g:=nI .u8) (a+(l'.take m).length) l
      rw [Nat.mul_one] at h1 h3
      rw [← h1,← h3,← hlt]
      rfl
    simp only [hne,Bool.false_eq_true,if_false,storeAt,hL,if_pos (And.intro hle (cat_one (g:=nI .u8) _)),Option.map_some]
    rw [Nat.mul_one,hsp]
theorem ref_00 {x:Opd} {f:Fr} {q ver n:Nat} (h:ev x f=.ref q ver 0 n):ev x f=.ref q ver (0+0*1) (n - 0):=h
theorem e_cpy {x y:Opd} {f:Fr} {L:Hp} {q ver n a b:Nat} {kd:BK} {l l':List Int} (hx:ev x f=.ref q ver (0+a*1) (b - a)) (h:a≤b∧b≤n) (hn:l.length=n) (hL:live L q ver=some ⟨ver,kd,1,cat (nI .u8) l⟩) (h2:slCells L 1 (ev y f)=some (cat (nI .u8) l')) :
    E1 (.cpy x y) f L=some (.s (.int .i64 (((l'.take (b - a)).length:Nat):Int)),L.set q ⟨ver,kd,1,cat (nI .u8) (cpyL l a (b - a) l')⟩) :=
  e_cpy0 (by rw [hx,Nat.zero_add]) (by omega) hL h2
theorem e_cpyN {x y:Opd} {f:Fr} {L:Hp} {q ver n a:Nat} {kd:BK} {l l':List Int} (hx:ev x f=.ref q ver (0+a*1) (n - a)) (h:a≤n∧n≤n) (hn:l.length=n) (hL:live L q ver=some ⟨ver,kd,1,cat (nI .u8) l⟩) (h2:slCells L 1 (ev y f)=some (cat (nI .u8) l')) :
    E1 (.cpy x y) f L=some (.s (.int .i64 (((l'.take (l.length - a)).length:Nat):Int)),L.set q ⟨ver,kd,1,cat (nI .u8) (cpyL l a (l.length - a) l')⟩):=by
  subst hn
  exact e_cpy hx h rfl hL h2
theorem VRs_lits {im H w}:∀ {cs:List Value} {vs:List Value},VRs im H w (cs.map V.s) vs→vs=cs
  | [],[],_=>rfl
  | [],_::_,h=>h.elim
  | _::_,[],h=>h.elim
  | x::r,v::vs,h=>by
    have h1:v=x:=h.1
    have h2:VRs im H w (r.map V.s) vs:=h.2
    rw [h1,VRs_lits h2]
theorem rns_lits {ρ:Nat→Nat}:∀ (cs:List Value),rns ρ (cs.map V.s)=cs.map V.s
  | []=>rfl
  | c::r=>by simp only [List.map_cons,rns,V.rn,rns_lits r]
/-- A function of values alone. -/
theorem Pure.val {P:Program} {m:FuncId} {cs:List Value} {v:Value} (h:∀ w,Calls P m cs.toArray w fun e w'=>e=.returned v∧w'=w) (hm:Nat.blt m 4294967296=true:=by rfl):Pure P m (cs.map V.s) (.s v):=by
  refine ⟨Nat.le_refl _,fun ρ G hE => ?_⟩
  intro im w cargs hr ha
  rw [CallsD.st hm]
  rw [rns_lits] at ha
  obtain rfl:=VRs_lits ha
  refine (h w).mono ?_
  rintro e w' ⟨rfl,rfl⟩
  exact ⟨im,v,rfl,hr,Ext.refl _ _ _,rfl⟩
def BldAt (t u:TypeId) (z:Bool) (v:Nat) (l:List Int) (ib b:Nat):Hp:=[⟨v,.buf u,1,cat (nI .u8) l⟩,⟨0,.bld t,1,[sp z b 0,.ref ib v 0 l.length]⟩]
theorem Bld.rn {ρ:Nat→Nat} {t u:TypeId} {z:Bool} {v ib b:Nat} {l:List Int} (h0:ρ 0=ib) (h1:ρ 1=b):RBs ρ (Bld t u z v l) (BldAt t u z v l ib b) :=
  RBs.cons (RNs.stat (cat_stat _)) (RBs.cons (RNs.cons (sp_rn h1) (RNs.cons (RN.ref h0) RNs.nil)) RBs.nil)
def BldDAt (t:TypeId) (z:Bool) (v n:Nat) (ib b:Nat):Hp:=[⟨v,.dead,1,[]⟩,⟨0,.bld t,1,[sp z b 0,.ref ib v 0 n]⟩]
theorem BldD.rn {ρ:Nat→Nat} {t u:TypeId} {z:Bool} {v n ib b:Nat} (h0:ρ 0=ib) (h1:ρ 1=b):RBs ρ (BldD t u z v n) (BldDAt t z v n ib b) :=
  RBs.cons RNs.nil (RBs.cons (RNs.cons (sp_rn h1) (RNs.cons (RN.ref h0) RNs.nil)) RBs.nil)
/-- A call that writes into a builder. -/
theorem CalL.bld {n0:Nat} {P:Program} {m:FuncId} {xs:List Value} {t u:TypeId} {z z':Bool} {v v':Nat} {l l':List Int} {r:V} {L L':Hp} (ib b:Nat) (h:ConL P m (.ptr 1 0 0::xs.map V.s) (Bld t u z v l) r (Bld t u z' v' l'))
    (hb:(okSel [ib,b] L.length&&Nat.ble n0 L.length)=true) (hr:r.static=true) (hL:setAll L [ib,b] (BldAt t u z v l ib b)=L) (hL':setAll L [ib,b] (BldAt t u z' v' l' ib b)=L'):CalL n0 P m (.ptr b 0 0::xs.map V.s) L r L':=by
  simp only [Bool.and_eq_true] at hb
  exact CalL.borrow [ib,b] h (by simp only [hb.1,hb.2,Bool.and_true]; rfl) (RNs.cons (RN.ptr rfl) (rns_lits xs)) (RN.stat hr) (Bld.rn rfl rfl) (Bld.rn rfl rfl) hL hL'
/-- A call that takes a builder's text. -/
theorem CalL.bldD {n0:Nat} {P:Program} {m:FuncId} {t u:TypeId} {z:Bool} {v:Nat} {l:List Int} {r:V} {L L':Hp} (ib b:Nat) (h:ConL P m [.ptr 1 0 0] (Bld t u z v l) r (BldD t u z v l.length))
    (hb:(okSel [ib,b] L.length&&Nat.ble n0 L.length)=true) (hr:r.static=true) (hL:setAll L [ib,b] (BldAt t u z v l ib b)=L) (hL':setAll L [ib,b] (BldDAt t z v l.length ib b)=L'):CalL n0 P m [.ptr b 0 0] L r L':=by
  simp only [Bool.and_eq_true] at hb
  exact CalL.borrow [ib,b] h (by simp only [hb.1,hb.2,Bool.and_true]; rfl) (RNs.cons (RN.ptr rfl) RNs.nil) (RN.stat hr) (Bld.rn rfl rfl) (BldD.rn rfl rfl) hL hL'
/-! ### A slice that was handed over: its block's version is told anew at the end. -/
mutual
theorem VR.back {im im0:Im} {H H' H0:Hp} {w w0:World} {β ver:Nat} {B0 B':Blk} (hO:∀ g,Own im H' g→Own im H g) (hb:∀ (y:Nat) (Y:Blk),H[y]? = some Y→y ≠ β→∃ Y':Blk,H'[y]? = some Y'∧Y'.ver=Y.ver∧Y'.kind=Y.kind∧Y'.sz=Y.sz) (hβ:H'[β]? = some B') (hv:B'.ver=ver+1) (h0:H0[β]? = some B0) (hv0:B0.ver=ver) :
    ∀ (v:V) (c c0:Value),VR im0 H0 w0 v c0→VR im H w v c→VR im H' w v c
  | .s v,c,c0,_,h=>h
  | .ptr b ver' o,c,c0,k,h=>by
    obtain ⟨_,K,hK,hk,_⟩:=k
    obtain ⟨h1,Y,hY,hl,hp⟩:=h
    by_cases e:b=β
    · subst e
      rw [h0] at hK; injection hK with hK; subst hK
      exact ⟨h1,B',hβ,by omega,fun e=>by omega⟩
    · obtain ⟨Y',e1,e2,e3,e4⟩:=hb b Y hY e
      exact ⟨h1,Y',e1,by omega,fun a d=>hp (by omega) (by rw [← e3]; exact d)⟩
  | .ref b ver' o n,c,c0,k,h=>by
    obtain ⟨_,K,hK,hk,_⟩:=k
    obtain ⟨h1,Y,hY,hl,hp⟩:=h
    by_cases e:b=β
    · subst e
      rw [h0] at hK; injection hK with hK; subst hK
      exact ⟨h1,B',hβ,by omega,fun e=>by omega⟩
    · obtain ⟨Y',e1,e2,e3,e4⟩:=hb b Y hY e
      exact ⟨h1,Y',e1,by omega,fun a d=>by rw [e4]; exact hp (by omega) (by rw [← e3]; exact d)⟩
  | .sl full n cs,c,c0,k,h=>by
    obtain ⟨A0,cap0,_,_,_,_,k4⟩:=k
    obtain ⟨A,cap,h1,h2,h3,h5,h4⟩:=h
    refine ⟨A,cap,h1,h2,h3,h5,?_⟩
    rcases h4 with h4 | ⟨g,o,vs,q1,q2,q3,q4,q5⟩
    · exact .inl h4
    · rcases k4 with k4 | ⟨_,_,vs0,_,_,_,_,k5⟩
      · exact .inl k4
      · exact .inr ⟨g,o,vs,q1,fun e=>q2 (hO g e),q3,q4,VRs.back hO hb hβ hv h0 hv0 cs vs vs0 k5 q5⟩
  | .ip cs,c,c0,k,h=>by
    obtain ⟨_,_,vs0,_,_,_,_,k5⟩:=k
    obtain ⟨g,o,vs,q1,q2,q3,q4,q5⟩:=h
    exact ⟨g,o,vs,q1,fun e=>q2 (hO g e),q3,q4,VRs.back hO hb hβ hv h0 hv0 cs vs vs0 k5 q5⟩
  | .agg cs,c,c0,k,h=>by
    obtain ⟨vs0,_,k5⟩:=k
    obtain ⟨vs,q1,q5⟩:=h
    exact ⟨vs,q1,VRs.back hO hb hβ hv h0 hv0 cs _ _ k5 q5⟩
  | .tup cs,c,c0,k,h=>by
    obtain ⟨vs0,_,k5⟩:=k
    obtain ⟨vs,q1,q5⟩:=h
    exact ⟨vs,q1,VRs.back hO hb hβ hv h0 hv0 cs _ _ k5 q5⟩
  | .clo _ cs,c,c0,k,h=>by
    obtain ⟨vs0,_,k5⟩:=k
    obtain ⟨vs,q1,q5⟩:=h
    exact ⟨vs,q1,VRs.back hO hb hβ hv h0 hv0 cs _ _ k5 q5⟩
  | .ifc t x,c,c0,k,h=>by
    obtain ⟨y0,_,k5⟩:=k
    obtain ⟨y,q1,q5⟩:=h
    exact ⟨y,q1,VR.back hO hb hβ hv h0 hv0 x _ _ k5 q5⟩
  | .any,_,_,_,_=>trivial
theorem VRs.back {im im0:Im} {H H' H0:Hp} {w w0:World} {β ver:Nat} {B0 B':Blk} (hO:∀ g,Own im H' g→Own im H g) (hb:∀ (y:Nat) (Y:Blk),H[y]? = some Y→y ≠ β→∃ Y':Blk,H'[y]? = some Y'∧Y'.ver=Y.ver∧Y'.kind=Y.kind∧Y'.sz=Y.sz) (hβ:H'[β]? = some B') (hv:B'.ver=ver+1) (h0:H0[β]? = some B0) (hv0:B0.ver=ver) :
    ∀ (l:List V) (cs cs0:List Value),VRs im0 H0 w0 l cs0→VRs im H w l cs→VRs im H' w l cs
  | [],[],_,_,_=>trivial
  | v::r,c::cs,c0::cs0,k,h=>⟨VR.back hO hb hβ hv h0 hv0 v c c0 k.1 h.1,VRs.back hO hb hβ hv h0 hv0 r cs cs0 k.2 h.2⟩
  | [],_::_,_,_,h=>h.elim
  | _::_,[],_,_,h=>h.elim
  | _::_,_::_,[],k,_=>k.elim
end
mutual
theorem VR.stay {im:Im} {H H':Hp} {w:World} (hO:∀ g,Own im H' g→Own im H g):∀ (v:V) (c:Value),v.static=true→VR im H w v c→VR im H' w v c
  | .s v,c,_,h=>h
  | .ptr ..,c,e,_=>by simp [V.static] at e
  | .ref ..,c,e,_=>by simp [V.static] at e
  | .sl full n cs,c,e,h=>by
    obtain ⟨A,cap,h1,h2,h3,h5,h4⟩:=h
    refine ⟨A,cap,h1,h2,h3,h5,?_⟩
    rcases h4 with h4 | ⟨g,o,vs,q1,q2,q3,q4,q5⟩
    · exact .inl h4
    · exact .inr ⟨g,o,vs,q1,fun e=>q2 (hO g e),q3,q4,VRs.stay hO cs vs e q5⟩
  | .ip cs,c,e,h=>by
    obtain ⟨g,o,vs,q1,q2,q3,q4,q5⟩:=h
    exact ⟨g,o,vs,q1,fun e=>q2 (hO g e),q3,q4,VRs.stay hO cs vs e q5⟩
  | .agg cs,c,e,h=>by
    obtain ⟨vs,q1,q5⟩:=h
    exact ⟨vs,q1,VRs.stay hO cs _ e q5⟩
  | .tup cs,c,e,h=>by
    obtain ⟨vs,q1,q5⟩:=h
    exact ⟨vs,q1,VRs.stay hO cs _ e q5⟩
  | .clo _ cs,c,e,h=>by
    obtain ⟨vs,q1,q5⟩:=h
    exact ⟨vs,q1,VRs.stay hO cs _ e q5⟩
  | .ifc t x,c,e,h=>by
    obtain ⟨y,q1,q5⟩:=h
    exact ⟨y,q1,VR.stay hO x _ e q5⟩
  | .any,_,_,_=>trivial
theorem VRs.stay {im:Im} {H H':Hp} {w:World} (hO:∀ g,Own im H' g→Own im H g):∀ (l:List V) (cs:List Value),statics l=true→VRs im H w l cs→VRs im H' w l cs
  | [],[],_,_=>trivial
  | v::r,c::cs,e,h=>by
    simp only [statics,Bool.and_eq_true] at e
    exact ⟨VR.stay hO v c e.1 h.1,VRs.stay hO r cs e.2 h.2⟩
  | [],_::_,_,h=>h.elim
  | _::_,[],_,h=>h.elim
end
def StatH:Hp→Prop
  | []=>True
  | B::r=>statics B.cs=true∧StatH r
theorem StatH.get:∀ {L:Hp},StatH L→∀ (k:Nat) (B:Blk),L[k]? = some B→statics B.cs=true
  | [],_,k,B,h=>by simp at h
  | X::r,h,0,B,e=>by simp at e; subst e; exact h.1
  | X::r,h,k+1,B,e=>h.2.get k B (by simpa using e)
theorem SettL.reset {L0 L L1:Hp} {r:V} {b v8 n ver q:Nat} {cs0 cs:List V} (h:SettL L0 r L (.ref b v8 0 n) L1) (h0:L0[b]? = some ⟨ver,.grow,q,cs0⟩) (h1:L1[b]? = some ⟨v8,.grow,q,cs⟩) (hs:StatH L1) :
    SettL L0 r L (.ref b (ver+1) 0 n) (L1.set b ⟨ver+1,.grow,q,cs⟩):=by
  intro hl
  obtain ⟨a1,a2⟩:=h hl
  refine ⟨by simpa using a1,fun ρ G hE => ?_⟩
  have hbl:b < L1.length:=(List.getElem?_eq_some_iff.1 h1).1
  have hcs:statics cs=true:=hs.get b _ h1
  have hset:(G L1).set (ρ b) ⟨ver+1,.grow,q,cs⟩=G (L1.set b ⟨ver+1,.grow,q,cs⟩):=by
    have:=hE.set L1 b ⟨ver+1,.grow,q,cs⟩ a1 hbl
    simpa only [Blk.rn,rns_stat _ _ hcs] using this
  have hg1:(G L1)[ρ b]? = some ⟨v8,.grow,q,cs⟩:=by
    have:=hE.get L1 b _ a1 h1
    simpa only [Blk.rn,rns_stat _ _ hcs] using this
  have hg0:(G L0)[ρ b]? = some ⟨ver,.grow,q,rns ρ cs0⟩:=hE.get L0 b _ (Nat.le_refl _) h0
  rw [← hset]
  intro im0 w0 im w c hr0 hr hx hv
  obtain ⟨im1,k1,k2,k3⟩:=a2 ρ G hE im0 w0 im w c hr0 hr hx hv
  have hβl:ρ b < (G L1).length:=(List.getElem?_eq_some_iff.1 hg1).1
  have hget:∀ y,((G L1).set (ρ b) ⟨ver+1,.grow,q,cs⟩)[y]? = if y=ρ b then some ⟨ver+1,.grow,q,cs⟩ else (G L1)[y]? := by
    intro y
    rw [List.getElem?_set]
    by_cases e:ρ b=y
    · subst e; simp [hβl]
    · rw [if_neg e,if_neg (by omega)]
  have hback:∀ (y:Nat) (Y:Blk),((G L1).set (ρ b) ⟨ver+1,.grow,q,cs⟩)[y]? = some Y→∃ Y0,(G L1)[y]? = some Y0∧Y0.kind=Y.kind∧Y0.sz=Y.sz∧Y0.cs=Y.cs∧(y ≠ ρ b→Y0=Y):=by
    intro y Y hY
    rw [hget] at hY
    by_cases e:y=ρ b
    · subst e; rw [if_pos rfl] at hY; injection hY with hY; subst hY
      exact ⟨_,hg1,rfl,rfl,rfl,fun e=>absurd rfl e⟩
    · rw [if_neg e] at hY; exact ⟨Y,hY,rfl,rfl,rfl,fun _=>rfl⟩
  have hO:∀ g,Own im1 ((G L1).set (ρ b) ⟨ver+1,.grow,q,cs⟩) g→Own im1 (G L1) g:=fun g ⟨y,Y,e1,e2,e3⟩=>by
    obtain ⟨Y0,f1,f2,_⟩:=hback y Y e1
    exact ⟨y,Y0,f1,by rw [f2]; exact e2,e3⟩
  have hbo:∀ (y:Nat) (Y:Blk),(G L1)[y]? = some Y→y ≠ ρ b→∃ Y':Blk,((G L1).set (ρ b) ⟨ver+1,.grow,q,cs⟩)[y]? = some Y'∧Y'.ver=Y.ver∧Y'.kind=Y.kind∧Y'.sz=Y.sz:=fun y Y h e=>⟨Y,by rw [hget,if_neg e]; exact h,rfl,rfl,rfl⟩
  have hβ:((G L1).set (ρ b) ⟨ver+1,.grow,q,cs⟩)[ρ b]? = some ⟨ver+1,.grow,q,cs⟩:=by rw [hget,if_pos rfl]
  have hx':Ext im0 (G L0) w0 im1 ((G L1).set (ρ b) ⟨ver+1,.grow,q,cs⟩) w:=by
    refine ⟨k2.os,k2.tape,k2.output,k2.size,by simpa using k2.len,fun g hg ho=>⟨(k2.keep g hg ho).1,fun e=>(k2.keep g hg ho).2 (hO g e)⟩,fun y Y Y' hY hY' => ?_⟩
    by_cases e:y=ρ b
    · subst e
      rw [hg0] at hY; injection hY with hY; subst hY
      rw [hβ] at hY'; injection hY' with hY'; subst hY'
      exact ⟨Nat.le_succ _,fun e=>by simp at e⟩
    · rw [hget,if_neg e] at hY'
      exact k2.blk y Y Y' hY hY'
  refine ⟨im1,⟨fun y Y hY hd => ?_,fun y y' Y Y' g hY hY' hd hd' hi hi' => ?_,fun a ha=>⟨fun e=>(k1.glob a ha).1 (hO a e),(k1.glob a ha).2⟩⟩,hx',?_⟩
  · obtain ⟨Y0,f1,f2,f3,f4,f5⟩:=hback y Y hY
    have hrow:=k1.row y Y0 f1 (by rw [f2]; exact hd)
    cases hgx:im1 y with
    | none=>rw [hgx] at hrow; rw [← f2,← f4]; exact hrow
    | some gx =>
      rw [hgx] at hrow
      obtain ⟨arr,t,fr,vs,r1,r2,r3,r4,r5⟩:=hrow
      refine ⟨arr,t,fr,vs,r1,r2,r3,?_,by rw [← f2]; exact r5⟩
      rw [← f4]
      rcases hE.out L1 y Y0 a1 f1 with ⟨k,rfl,hk⟩ | hout
      · have hk':=List.getElem?_eq_getElem hk
        have:=hE.get L1 k _ a1 hk'
        rw [this] at f1; injection f1 with f1
        have hst:statics Y0.cs=true:=by
          rw [← f1]
          show statics (rns ρ (L1[k]).cs)=true
          rw [rns_stat _ _ (hs.get k _ hk')]
          exact hs.get k _ hk'
        exact VRs.stay hO _ _ hst r4
      · have hY0:=hout L0 (Nat.le_refl _)
        have hrow0:=hr0.row y Y0 hY0 (by rw [f2]; exact hd)
        cases hg:im0 y with
        | none =>
          rw [hg] at hrow0
          rw [hrow0.2] at r4 ⊢
          cases vs with
          | nil=>trivial
          | cons a b=>exact r4.elim
        | some g0 =>
          rw [hg] at hrow0
          obtain ⟨_,_,_,vs0,_,_,_,r40,_⟩:=hrow0
          exact VRs.back hO hbo hβ rfl hg0 rfl _ _ _ r40 r4
  · obtain ⟨Y0,f1,f2,_⟩:=hback y Y hY
    obtain ⟨Y0',f1',f2',_⟩:=hback y' Y' hY'
    exact k1.inj y y' Y0 Y0' g f1 f1' (by rw [f2]; exact hd) (by rw [f2']; exact hd') hi hi'
  · obtain ⟨o1,B',hB',hle,hp⟩:=k3
    rw [hg1] at hB'; injection hB' with hB'; subst hB'
    exact ⟨o1,_,hβ,Nat.le_refl _,fun _ _=>hp rfl (by simp)⟩
end Go.Proofs.YtfcegejpdlbkdaaGreatK
