/- The abstract values, the abstract memory, and how they stand for the machine's. No program in sight. -/
import Derived.Below
import Derived.WalkKit
import Derived.Deep.AppendSrc
import Derived.Laws.IdiomCopy
import Derived.Great.BuildSlice
namespace Go.Proofs.YtoemlgdlejkliaaK
set_option linter.unusedVariables false
set_option linter.unusedSimpArgs false
open Go.RowKit
inductive V where
  | s (v:Value)
  | ptr (b ver o:Nat)
  | ref (b ver o n:Nat)
  | sl (full:Bool) (n:Nat) (cs:List V)
  | ip (cs:List V)
  | agg (cs:List V)
  | tup (cs:List V)
  | clo (m:Nat) (cs:List V)
  | ifc (t:TypeId) (x:V)
  | any
/-- A thing that a contract by hand tells: what it is, of its root and of the other blocks that belong to it. -/
structure Thing where
  Q:World→Nat→(Nat→Prop)→Prop
  loc:∀ (w w':World) (r:Nat) (S:Nat→Prop),Q w r S→(∀ x,x=r∨S x→w'.heap[x]? = w.heap[x]?)→Q w' r S
  lt:∀ (w:World) (r:Nat) (S:Nat→Prop),Q w r S→∀ x,S x→x < w.heap.size
inductive BK where
  | mem | grow | dead
  | bld (t:TypeId)
  | buf (t:TypeId)
  | res (X:Thing)
def BK.live:BK→Bool
  | .dead | .res _=>false
  | _=>true
def BK.isRes:BK→Bool
  | .res _=>true
  | _=>false
theorem BK.live_dead {k:BK} (h:k.live=true):k ≠ .dead:=by rintro rfl; cases h
theorem BK.live_res {k:BK} (h:k.live=true):k.isRes=false:=by cases k <;> first | rfl | cases h
/-- A block of a builder's: of that type, two cells; its buffer: of that type. -/
def bldOk (k:BK) (t:TypeId) (n:Nat):Prop:=(∀ u,k=.bld u→t=u∧n=2)∧∀ u,k=.buf u→t=u
def growable (k:BK) (e:TypeId):Bool:=match k with
  | .grow=>true
  | .buf u=>Nat.beq u e
  | _=>false
theorem bldOk_mem {t:TypeId} {n:Nat}:bldOk .mem t n:=⟨nofun,nofun⟩
theorem bldOk_grow {t:TypeId} {n:Nat}:bldOk .grow t n:=⟨nofun,nofun⟩
theorem bldOk_growable {k:BK} {e:TypeId} {n:Nat} (h:growable k e=true):bldOk k e n:=by
  cases k <;> simp [growable] at h
  · exact bldOk_grow
  · subst h; exact ⟨nofun,fun u hu=>by injection hu⟩
structure Blk where
  ver:Nat
  kind:BK
  sz:Nat
  cs:List V
abbrev Hp:=List Blk
/-- Where the blocks lie; which others belong to one. -/
structure Im where
  f:Nat→Option Nat
  sub:Nat→Nat→Prop
instance:CoeFun Im (fun _=>Nat→Option Nat):=⟨Im.f⟩
def Own (im:Im) (H:Hp) (g:Nat):Prop:=∃ b B,H[b]? = some B∧B.kind ≠ .dead∧(im b=some g∨im.sub b g)
def rowSize (w:World) (g:Nat):Nat:=match w.heap[g]? with | some (.cells arr _ _)=>arr.size | _=>0
/-- The cells from ⟨g, o⟩ on hold these values. -/
def At (w:World) (g o:Nat) (vs:List Value):Prop:=∀ j v,vs[j]? = some v→w.cell? ⟨g,o+j,none⟩=some v
mutual
def VR (im:Im) (H:Hp) (w:World):V→Value→Prop
  | .s v,c=>c=v
  | .ptr b ver o,c=>c.oneCell'=true∧∃ B,H[b]? = some B∧ver≤B.ver∧(B.ver=ver→B.kind ≠ .dead→∃ g,im b=some g∧c=.pointer (some ⟨g,o,none⟩))
  | .ref b ver o n,c=>c.oneCell'=true∧∃ B,H[b]? = some B∧ver≤B.ver∧(B.ver=ver→B.kind ≠ .dead →
      ∃ A cap,c=.slice A n cap∧n≤cap∧cap≤maxLen∧((cap=0∧∀ a,A=some a→im b=some a.block)∨∃ g,im b=some g∧A=some ⟨g,o,none⟩∧o+cap*B.sz≤rowSize w g))
  | .sl full n cs,c=>∃ A cap,c=.slice A n cap∧n≤cap∧cap≤maxLen∧(full=true→cap=n) ∧
      (n=0∨∃ g o vs,A=some ⟨g,o,none⟩∧¬ Own im H g∧g < w.heap.size∧At w g o vs∧VRs im H w cs vs)
  | .ip cs,c=>∃ g o vs,c=.pointer (some ⟨g,o,none⟩)∧¬ Own im H g∧g < w.heap.size∧At w g o vs∧VRs im H w cs vs
  | .agg cs,c=>∃ vs,c=.agg vs∧VRs im H w cs vs.toList
  | .tup cs,c=>∃ vs,c=.tuple vs∧VRs im H w cs vs.toList
  | .clo m cs,c=>∃ vs,c=.func (.func m) #[] vs∧VRs im H w cs vs.toList
  | .ifc t x,c=>∃ y,c=.iface t y∧VR im H w x y
  | .any,_=>True
def VRs (im:Im) (H:Hp) (w:World):List V→List Value→Prop
  | [],[]=>True
  | v::vs,c::cs=>VR im H w v c∧VRs im H w vs cs
  | _,_=>False
end
structure Ext (im:Im) (H:Hp) (w:World) (im':Im) (H':Hp) (w':World):Prop where
  os:w'.os=w.os
  tape:w'.tape=w.tape
  output:w'.output=w.output
  size:w.heap.size≤w'.heap.size
  len:H.length≤H'.length
  keep:∀ g,g < w.heap.size→¬ Own im H g→w'.heap[g]? = w.heap[g]? ∧ ¬ Own im' H' g
  blk:∀ b B B',H[b]? = some B→H'[b]? = some B'→B.ver≤B'.ver∧(B'.ver=B.ver→B'.kind ≠ .dead→B.kind ≠ .dead∧im' b=im b∧B'.sz=B.sz∧∀ g,im b=some g→rowSize w' g=rowSize w g)
/-- The program's own variables that a contract reads: blocks that hold some int (none, save where a claim needs one). -/
def GL:List Nat:=[]
def Glob (im:Im) (H:Hp) (w:World):Prop:=∀ a∈GL,¬ Own im H a∧∃ m,w.cell? ⟨a,0,none⟩=some (.int .i64 m)
/-- What belongs to a block belongs to no other one; a thing is what it is told to be. -/
def ResOk (im:Im) (H:Hp) (w:World) (b:Nat) (k:BK):Prop :=
  (∀ g,im.sub b g→∀ b' B',H[b']? = some B'→B'.kind ≠ .dead→im b' ≠ some g∧(im.sub b' g→b'=b)) ∧
  match k with
  | .res X=>∃ r,im b=some r∧X.Q w r (im.sub b)
  | _=>∀ g,¬ im.sub b g
structure Rel (im:Im) (H:Hp) (w:World):Prop where
  row:∀ b B,H[b]? = some B→B.kind ≠ .dead→match im b with
    | none=>(B.kind=.grow∨∃ u,B.kind=.buf u)∧B.cs=[]
    | some g=>∃ (arr:Array Value) (t:TypeId) (fr:Nat × Nat) (vs:List Value),w.heap[g]? = some (.cells arr t fr)∧(∀ j,j < arr.size→¬ (fr.1≤j∧j < fr.2))∧(∀ (j:Nat) (v:Value),vs[j]? = some v→arr[j]? = some v)∧VRs im H w B.cs vs∧bldOk B.kind t arr.size
  inj:∀ b b' B B' g,H[b]? = some B→H[b']? = some B'→B.kind ≠ .dead→B'.kind ≠ .dead→im b=some g→im b'=some g→b=b'
  glob:Glob im H w
  res:∀ b B,H[b]? = some B→B.kind ≠ .dead→ResOk im H w b B.kind
theorem ResOk.no {im:Im} {H:Hp} {w:World} {b:Nat} {k:BK} (h:ResOk im H w b k) (hk:k.isRes=false) (g:Nat):¬ im.sub b g:=by
  cases k <;> first | exact h.2 g | cases hk
theorem ResOk.is {im:Im} {H:Hp} {w:World} {b g:Nat} {k:BK} (h:ResOk im H w b k) (hg:im.sub b g):∃ X r,k=.res X∧im b=some r∧X.Q w r (im.sub b):=by
  cases k with
  | res X=>obtain ⟨r,h1,h2⟩:=h.2; exact ⟨X,r,rfl,h1,h2⟩
  | mem=>exact absurd hg (h.no rfl g)
  | grow=>exact absurd hg (h.no rfl g)
  | dead=>exact absurd hg (h.no rfl g)
  | bld=>exact absurd hg (h.no rfl g)
  | buf=>exact absurd hg (h.no rfl g)
/-- What is told of things stays, where their blocks stay. -/
theorem Rel.keep {im H w} (h:Rel im H w) (hlt:∀ b B g,H[b]? = some B→B.kind ≠ .dead→im.sub b g→g < w.heap.size) {im':Im} {H':Hp} {w':World}
    (ho:∀ b B',H'[b]? = some B'→B'.kind ≠ .dead→(im'.sub b=im.sub b∧im' b=im b∧∃ B,H[b]? = some B∧B.kind=B'.kind)∨(B'.kind.isRes=false∧∀ g,¬ im'.sub b g))
    (hr:∀ b B' g,H'[b]? = some B'→B'.kind ≠ .dead→im' b=some g→(∃ b0 B0,H[b0]? = some B0∧B0.kind ≠ .dead∧im b0=some g)∨w.heap.size≤g)
    (hh:∀ b B x,H[b]? = some B→B.kind.isRes=true→(im b=some x∨im.sub b x)→(∃ B',H'[b]? = some B'∧B'.kind ≠ .dead)→w'.heap[x]? = w.heap[x]?) :
    ∀ b B',H'[b]? = some B'→B'.kind ≠ .dead→ResOk im' H' w' b B'.kind:=by
  intro b B' hB hd
  have hsub:∀ b B' g,H'[b]? = some B'→B'.kind ≠ .dead→im'.sub b g→im.sub b g∧∃ B,H[b]? = some B∧B.kind=B'.kind:=fun b B' g hB hd hg=>by
    rcases ho b B' hB hd with ⟨e1,_,e3⟩ | ⟨_,e⟩
    · exact ⟨e1 ▸ hg,e3⟩
    · exact absurd hg (e g)
  refine ⟨fun g hg b2 B2 hB2 hd2 => ?_,?_⟩
  · obtain ⟨g1,B,k1,k2⟩:=hsub b B' g hB hd hg
    have hd':B.kind ≠ .dead:=by rw [k2]; exact hd
    have old:=(h.res b B k1 hd').1 g g1
    refine ⟨fun e => ?_,fun e => ?_⟩
    · rcases hr b2 B2 g hB2 hd2 e with ⟨b0,B0,e1,e2,e3⟩ | e1
      · exact (old b0 B0 e1 e2).1 e3
      · have:=hlt b B g k1 hd' g1; omega
    · obtain ⟨g2,B0,e1,e2⟩:=hsub b2 B2 g hB2 hd2 e
      exact (old b2 B0 e1 (by rw [e2]; exact hd2)).2 g2
  · have no:B'.kind.isRes=false→∀ g,¬ im'.sub b g:=fun hk g hg=>by
      obtain ⟨g1,B,k1,k2⟩:=hsub b B' g hB hd hg
      exact (h.res b B k1 (by rw [k2]; exact hd)).no (by rw [k2]; exact hk) g g1
    cases hk:B'.kind with
    | res X =>
      rcases ho b B' hB hd with ⟨e1,e2,B,e3,e4⟩ | ⟨e,_⟩
      · have:=(h.res b B e3 (by rw [e4]; exact hd)).2
        rw [e4,hk] at this
        obtain ⟨r,r1,r2⟩:=this
        refine ⟨r,e2.trans r1,?_⟩
        rw [e1]
        refine X.loc w w' r _ r2 fun x hx=>hh b B x e3 (by rw [e4,hk]; rfl) ?_ ⟨B',hB,hd⟩
        exact hx.imp (fun e=>by rw [e]; exact r1) id
      · rw [hk] at e; cases e
    | mem=>exact no (by rw [hk]; rfl)
    | grow=>exact no (by rw [hk]; rfl)
    | dead=>exact absurd hk hd
    | bld=>exact no (by rw [hk]; rfl)
    | buf=>exact no (by rw [hk]; rfl)
theorem cell_lt {w:World} {a o:Nat} {v:Value} (h:w.cell? ⟨a,o,none⟩=some v):a < w.heap.size:=by
  rcases Nat.lt_or_ge a w.heap.size with h' | h'
  · exact h'
  · unfold World.cell? at h
    rw [Array.getElem?_eq_none h'] at h
    simp at h
theorem Glob.ext {im H w im' H' w'} (h:Glob im H w) (hx:Ext im H w im' H' w'):Glob im' H' w':=fun a ha=>by
  obtain ⟨h1,m,h2⟩:=h a ha
  obtain ⟨k1,k2⟩:=hx.keep a (cell_lt h2) h1
  refine ⟨k2,m,?_⟩
  rw [World.cell?_of_block (w:=w) (a:=⟨a,0,none⟩) k1]; exact h2
theorem Ext.refl (im:Im) (H:Hp) (w:World):Ext im H w im H w :=
  ⟨rfl,rfl,rfl,Nat.le_refl _,Nat.le_refl _,fun _ _ h=>⟨rfl,h⟩,fun b B B' h h'=>by
    rw [h] at h'; injection h' with h'; subst h'
    exact ⟨Nat.le_refl _,fun _ hk=>⟨hk,rfl,rfl,fun _ _=>rfl⟩⟩⟩
theorem Ext.trans {im H w im' H' w' im'' H'' w''} (h:Ext im H w im' H' w') (k:Ext im' H' w' im'' H'' w''):Ext im H w im'' H'' w'':=by
  refine ⟨k.os.trans h.os,k.tape.trans h.tape,k.output.trans h.output,Nat.le_trans h.size k.size,Nat.le_trans h.len k.len,fun g hg ho => ?_,fun b B B'' hB hB'' => ?_⟩
  · obtain ⟨h1,h2⟩:=h.keep g hg ho
    obtain ⟨k1,k2⟩:=k.keep g (Nat.lt_of_lt_of_le hg h.size) h2
    exact ⟨k1.trans h1,k2⟩
  · have hb:b < H'.length:=Nat.lt_of_lt_of_le (List.getElem?_eq_some_iff.1 hB).1 h.len
    have hB':=List.getElem?_eq_getElem hb
    obtain ⟨h1,h2⟩:=h.blk b B _ hB hB'
    obtain ⟨k1,k2⟩:=k.blk b _ B'' hB' hB''
    refine ⟨Nat.le_trans h1 k1,fun hv hd => ?_⟩
    obtain ⟨kd,ki,ks,kr⟩:=k2 (by omega) hd
    obtain ⟨hd',hi,hs,hr⟩:=h2 (by omega) kd
    exact ⟨hd',ki.trans hi,ks.trans hs,fun g hg=>(kr g (hi.trans hg)).trans (hr g hg)⟩
theorem At.keep {w w':World} {g o:Nat} {vs:List Value} (h:At w g o vs) (hk:w'.heap[g]? = w.heap[g]?):At w' g o vs:=fun j v hj=>by
  rw [World.cell?_of_block (w:=w) (a:=⟨g,o+j,none⟩) hk]; exact h j v hj
mutual
theorem VR.ext {im H w im' H' w'} (hx:Ext im H w im' H' w'):∀ (v:V) (c:Value),VR im H w v c→VR im' H' w' v c
  | .s v,c,h=>h
  | .ptr b ver o,c,h=>by
    obtain ⟨h1c,B,hB,hl,h⟩:=h
    have hb':b < H'.length:=Nat.lt_of_lt_of_le (List.getElem?_eq_some_iff.1 hB).1 hx.len
    have hB':=List.getElem?_eq_getElem hb'
    obtain ⟨h1,h2⟩:=hx.blk b _ _ hB hB'
    refine ⟨h1c,_,hB',by omega,fun hv hd => ?_⟩
    obtain ⟨hd',hi,_,_⟩:=h2 (by omega) hd
    obtain ⟨g,hg,hc⟩:=h (by omega) hd'
    exact ⟨g,hi.trans hg,hc⟩
  | .ref b ver o n,c,h=>by
    obtain ⟨h1c,B,hB,hl,h⟩:=h
    have hb':b < H'.length:=Nat.lt_of_lt_of_le (List.getElem?_eq_some_iff.1 hB).1 hx.len
    have hB':=List.getElem?_eq_getElem hb'
    obtain ⟨h1,h2⟩:=hx.blk b _ _ hB hB'
    refine ⟨h1c,_,hB',by omega,fun hv hd => ?_⟩
    obtain ⟨hd',hi,hs,hr⟩:=h2 (by omega) hd
    obtain ⟨A,cap,hc,hn,hm,hg⟩:=h (by omega) hd'
    refine ⟨A,cap,hc,hn,hm,?_⟩
    rcases hg with hg | ⟨g,hg,hA,hz⟩
    · exact .inl ⟨hg.1,fun a ha=>hi.trans (hg.2 a ha)⟩
    · exact .inr ⟨g,hi.trans hg,hA,by rw [hs,hr g hg]; exact hz⟩
  | .sl full n cs,c,h=>by
    obtain ⟨A,cap,hc,h1,h2,h3,h4⟩:=h
    refine ⟨A,cap,hc,h1,h2,h3,?_⟩
    rcases h4 with h4 | ⟨g,o,vs,hA,ho,hg,hat,hvs⟩
    · exact .inl h4
    · obtain ⟨hk,hno⟩:=hx.keep g hg ho
      exact .inr ⟨g,o,vs,hA,hno,Nat.lt_of_lt_of_le hg hx.size,hat.keep hk,VRs.ext hx _ _ hvs⟩
  | .ip cs,c,h=>by
    obtain ⟨g,o,vs,hA,ho,hg,hat,hvs⟩:=h
    obtain ⟨hk,hno⟩:=hx.keep g hg ho
    exact ⟨g,o,vs,hA,hno,Nat.lt_of_lt_of_le hg hx.size,hat.keep hk,VRs.ext hx _ _ hvs⟩
  | .agg cs,c,h=>by
    obtain ⟨vs,hc,hvs⟩:=h
    exact ⟨vs,hc,VRs.ext hx _ _ hvs⟩
  | .tup cs,c,h=>by
    obtain ⟨vs,hc,hvs⟩:=h
    exact ⟨vs,hc,VRs.ext hx _ _ hvs⟩
  | .clo m cs,c,h=>by
    obtain ⟨vs,hc,hvs⟩:=h
    exact ⟨vs,hc,VRs.ext hx _ _ hvs⟩
  | .ifc t x,c,h=>by
    obtain ⟨y,hc,hy⟩:=h
    exact ⟨y,hc,VR.ext hx _ _ hy⟩
  | .any,_,_=>trivial
theorem VRs.ext {im H w im' H' w'} (hx:Ext im H w im' H' w'):∀ (vs:List V) (cs:List Value),VRs im H w vs cs→VRs im' H' w' vs cs
  | [],[],_=>trivial
  | v::vs,c::cs,h=>⟨VR.ext hx v c h.1,VRs.ext hx vs cs h.2⟩
  | [],_::_,h=>h.elim
  | _::_,[],h=>h.elim
end
end Go.Proofs.YtoemlgdlejkliaaK
