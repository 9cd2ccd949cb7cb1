/- Places of bytes in strings; functions of values alone; builders in calls. -/
import Derived.Test.YtoemlgdlejkliaaRi
import Derived.Lib.Bytealg
namespace Go.Proofs.YtoemlgdlejkliaaK
set_option linter.unusedVariables false
set_option linter.unusedSimpArgs false
open Go.RowKit
theorem VRs_lits {im H w}:∀ {cs:List Value} {vs:List Value},VRs im H w (cs.map V.s) vs→vs=cs
  | [],[],_=>rfl
  | [],_::_,h=>h.elim
  | _::_,[],h=>h.elim
  | x::r,v::vs,h=>by
    have h1:v=x:=h.1
    have h2:VRs im H w (r.map V.s) vs:=h.2
    rw [h1,VRs_lits h2]
theorem rns_lits {ρ:Nat→Nat}:∀ (cs:List Value),rns ρ (cs.map V.s)=cs.map V.s
  | []=>rfl
  | c::r=>by simp only [List.map_cons,rns,V.rn,rns_lits r]
/-- A function of values alone. -/
theorem Pure.val {P:Program} {m:FuncId} {cs:List Value} {v:Value} (h:∀ w,Calls P m cs.toArray w fun e w'=>e=.returned v∧w'=w) (hm:Nat.blt m 4294967296=true:=by rfl):Pure P m (cs.map V.s) (.s v):=by
  refine ⟨Nat.le_refl _,fun ρ G hE => ?_⟩
  intro im w cargs hr ha
  rw [CallsD.st hm]
  rw [rns_lits] at ha
  obtain rfl:=VRs_lits ha
  refine (h w).mono ?_
  rintro e w' ⟨rfl,rfl⟩
  exact ⟨im,v,rfl,hr,Ext.refl _ _ _,rfl⟩
def BldAt (t u:TypeId) (z:Bool) (v:Nat) (l:List Int) (ib b:Nat):Hp:=[⟨v,.buf u,1,cat (nI .u8) l⟩,⟨0,.bld t,1,[sp z b 0,.ref ib v 0 l.length]⟩]
theorem Bld.rn {ρ:Nat→Nat} {t u:TypeId} {z:Bool} {v ib b:Nat} {l:List Int} (h0:ρ 0=ib) (h1:ρ 1=b):RBs ρ (Bld t u z v l) (BldAt t u z v l ib b) :=
  RBs.cons (RNs.stat (cat_stat _)) (RBs.cons (RNs.cons (sp_rn h1) (RNs.cons (RN.ref h0) RNs.nil)) RBs.nil)
def BldDAt (t:TypeId) (z:Bool) (v n:Nat) (ib b:Nat):Hp:=[⟨v,.dead,1,[]⟩,⟨0,.bld t,1,[sp z b 0,.ref ib v 0 n]⟩]
theorem BldD.rn {ρ:Nat→Nat} {t u:TypeId} {z:Bool} {v n ib b:Nat} (h0:ρ 0=ib) (h1:ρ 1=b):RBs ρ (BldD t u z v n) (BldDAt t z v n ib b) :=
  RBs.cons RNs.nil (RBs.cons (RNs.cons (sp_rn h1) (RNs.cons (RN.ref h0) RNs.nil)) RBs.nil)
/-- A call that writes into a builder. -/
theorem CalL.bld {n0:Nat} {P:Program} {m:FuncId} {xs:List Value} {t u:TypeId} {z z':Bool} {v v':Nat} {l l':List Int} {r:V} {L L':Hp} (ib b:Nat) (h:ConL P m (.ptr 1 0 0::xs.map V.s) (Bld t u z v l) r (Bld t u z' v' l'))
    (hb:(okSel [ib,b] L.length&&Nat.ble n0 L.length)=true) (hr:r.static=true) (hL:setAll L [ib,b] (BldAt t u z v l ib b)=L) (hL':setAll L [ib,b] (BldAt t u z' v' l' ib b)=L'):CalL n0 P m (.ptr b 0 0::xs.map V.s) L r L':=by
  simp only [Bool.and_eq_true] at hb
  exact CalL.borrow [ib,b] h (by simp only [hb.1,hb.2,Bool.and_true]; rfl) (RNs.cons (RN.ptr rfl) (rns_lits xs)) (RN.stat hr) (Bld.rn rfl rfl) (Bld.rn rfl rfl) hL hL'
/-! ### A slice that was handed over: its block's version is told anew at the end. -/
mutual
theorem VR.back {im im0:Im} {H H' H0:Hp} {w w0:World} {β ver:Nat} {B0 B':Blk} (hO:∀ g,Own im H' g→Own im H g) (hb:∀ (y:Nat) (Y:Blk),H[y]? = some Y→y ≠ β→∃ Y':Blk,H'[y]? = some Y'∧Y'.ver=Y.ver∧Y'.kind=Y.kind∧Y'.sz=Y.sz) (hβ:H'[β]? = some B') (hv:B'.ver=ver+1) (h0:H0[β]? = some B0) (hv0:B0.ver=ver) :
    ∀ (v:V) (c c0:Value),VR im0 H0 w0 v c0→VR im H w v c→VR im H' w v c
  | .s v,c,c0,_,h=>h
  | .ptr b ver' o,c,c0,k,h=>by
    obtain ⟨_,K,hK,hk,_⟩:=k
    obtain ⟨h1,Y,hY,hl,hp⟩:=h
    by_cases e:b=β
    · subst e
      rw [h0] at hK; injection hK with hK; subst hK
      exact ⟨h1,B',hβ,by omega,fun e=>by omega⟩
    · obtain ⟨Y',e1,e2,e3,e4⟩:=hb b Y hY e
      exact ⟨h1,Y',e1,by omega,fun a d=>hp (by omega) (by rw [← e3]; exact d)⟩
  | .ref b ver' o n,c,c0,k,h=>by
    obtain ⟨_,K,hK,hk,_⟩:=k
    obtain ⟨h1,Y,hY,hl,hp⟩:=h
    by_cases e:b=β
    · subst e
      rw [h0] at hK; injection hK with hK; subst hK
      exact ⟨h1,B',hβ,by omega,fun e=>by omega⟩
    · obtain ⟨Y',e1,e2,e3,e4⟩:=hb b Y hY e
      exact ⟨h1,Y',e1,by omega,fun a d=>by rw [e4]; exact hp (by omega) (by rw [← e3]; exact d)⟩
  | .sl full n cs,c,c0,k,h=>by
    obtain ⟨A0,cap0,_,_,_,_,k4⟩:=k
    obtain ⟨A,cap,h1,h2,h3,h5,h4⟩:=h
    refine ⟨A,cap,h1,h2,h3,h5,?_⟩
    rcases h4 with h4 | ⟨g,o,vs,q1,q2,q3,q4,q5⟩
    · exact .inl h4
    · rcases k4 with k4 | ⟨_,_,vs0,_,_,_,_,k5⟩
      · exact .inl k4
      · exact .inr ⟨g,o,vs,q1,fun e=>q2 (hO g e),q3,q4,VRs.back hO hb hβ hv h0 hv0 cs vs vs0 k5 q5⟩
  | .ip cs,c,c0,k,h=>by
    obtain ⟨_,_,vs0,_,_,_,_,k5⟩:=k
    obtain ⟨g,o,vs,q1,q2,q3,q4,q5⟩:=h
    exact ⟨g,o,vs,q1,fun e=>q2 (hO g e),q3,q4,VRs.back hO hb hβ hv h0 hv0 cs vs vs0 k5 q5⟩
  | .agg cs,c,c0,k,h=>by
    obtain ⟨vs0,_,k5⟩:=k
    obtain ⟨vs,q1,q5⟩:=h
    exact ⟨vs,q1,VRs.back hO hb hβ hv h0 hv0 cs _ _ k5 q5⟩
  | .tup cs,c,c0,k,h=>by
    obtain ⟨vs0,_,k5⟩:=k
    obtain ⟨vs,q1,q5⟩:=h
    exact ⟨vs,q1,VRs.back hO hb hβ hv h0 hv0 cs _ _ k5 q5⟩
  | .clo _ cs,c,c0,k,h=>by
    obtain ⟨vs0,_,k5⟩:=k
    obtain ⟨vs,q1,q5⟩:=h
    exact ⟨vs,q1,VRs.back hO hb hβ hv h0 hv0 cs _ _ k5 q5⟩
  | .ifc t x,c,c0,k,h=>by
    obtain ⟨y0,_,k5⟩:=k
    obtain ⟨y,q1,q5⟩:=h
    exact ⟨y,q1,VR.back hO hb hβ hv h0 hv0 x _ _ k5 q5⟩
  | .any,_,_,_,_=>trivial
theorem VRs.back {im im0:Im} {H H' H0:Hp} {w w0:World} {β ver:Nat} {B0 B':Blk} (hO:∀ g,Own im H' g→Own im H g) (hb:∀ (y:Nat) (Y:Blk),H[y]? = some Y→y ≠ β→∃ Y':Blk,H'[y]? = some Y'∧Y'.ver=Y.ver∧Y'.kind=Y.kind∧Y'.sz=Y.sz) (hβ:H'[β]? = some B') (hv:B'.ver=ver+1) (h0:H0[β]? = some B0) (hv0:B0.ver=ver) :
    ∀ (l:List V) (cs cs0:List Value),VRs im0 H0 w0 l cs0→VRs im H w l cs→VRs im H' w l cs
  | [],[],_,_,_=>trivial
  | v::r,c::cs,c0::cs0,k,h=>⟨VR.back hO hb hβ hv h0 hv0 v c c0 k.1 h.1,VRs.back hO hb hβ hv h0 hv0 r cs cs0 k.2 h.2⟩
  | [],_::_,_,_,h=>h.elim
  | _::_,[],_,_,h=>h.elim
  | _::_,_::_,[],k,_=>k.elim
end
mutual
theorem VR.stay {im:Im} {H H':Hp} {w:World} (hO:∀ g,Own im H' g→Own im H g):∀ (v:V) (c:Value),v.static=true→VR im H w v c→VR im H' w v c
  | .s v,c,_,h=>h
  | .ptr ..,c,e,_=>by simp [V.static] at e
  | .ref ..,c,e,_=>by simp [V.static] at e
  | .sl full n cs,c,e,h=>by
    obtain ⟨A,cap,h1,h2,h3,h5,h4⟩:=h
    refine ⟨A,cap,h1,h2,h3,h5,?_⟩
    rcases h4 with h4 | ⟨g,o,vs,q1,q2,q3,q4,q5⟩
    · exact .inl h4
    · exact .inr ⟨g,o,vs,q1,fun e=>q2 (hO g e),q3,q4,VRs.stay hO cs vs e q5⟩
  | .ip cs,c,e,h=>by
    obtain ⟨g,o,vs,q1,q2,q3,q4,q5⟩:=h
    exact ⟨g,o,vs,q1,fun e=>q2 (hO g e),q3,q4,VRs.stay hO cs vs e q5⟩
  | .agg cs,c,e,h=>by
    obtain ⟨vs,q1,q5⟩:=h
    exact ⟨vs,q1,VRs.stay hO cs _ e q5⟩
  | .tup cs,c,e,h=>by
    obtain ⟨vs,q1,q5⟩:=h
    exact ⟨vs,q1,VRs.stay hO cs _ e q5⟩
  | .clo _ cs,c,e,h=>by
    obtain ⟨vs,q1,q5⟩:=h
    exact ⟨vs,q1,VRs.stay hO cs _ e q5⟩
  | .ifc t x,c,e,h=>by
    obtain ⟨y,q1,q5⟩:=h
    exact ⟨y,q1,VR.stay hO x _ e q5⟩
  | .any,_,_,_=>trivial
theorem VRs.stay {im:Im} {H H':Hp} {w:World} (hO:∀ g,Own im H' g→Own im H g):∀ (l:List V) (cs:List Value),statics l=true→VRs im H w l cs→VRs im H' w l cs
  | [],[],_,_=>trivial
  | v::r,c::cs,e,h=>by
    simp only [statics,Bool.and_eq_true] at e
    exact ⟨VR.stay hO v c e.1 h.1,VRs.stay hO r cs e.2 h.2⟩
  | [],_::_,_,h=>h.elim
  | _::_,[],_,h=>h.elim
end
def StatH:Hp→Prop
  | []=>True
  | B::r=>statics B.cs=true∧StatH r
theorem StatH.get:∀ {L:Hp},StatH L→∀ (k:Nat) (B:Blk),L[k]? = some B→statics B.cs=true
  | [],_,k,B,h=>by simp at h
  | X::r,h,0,B,e=>by simp at e; subst e; exact h.1
  | X::r,h,k+1,B,e=>h.2.get k B (by simpa using e)
end Go.Proofs.YtoemlgdlejkliaaK
