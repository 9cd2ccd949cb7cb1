/- The abstract values, the abstract memory, and how they stand for the machine's. No program in sight. -/
import Derived.Below
import Derived.WalkKit
import Derived.Deep.AppendSrc
import Derived.Laws.IdiomCopy
import Derived.Great.BuildSlice
namespace Go.Proofs.YtfcegejpdlbkdaaGreatK
set_option linter.unusedVariables false
set_option linter.unusedSimpArgs false
open Go.RowKit
inductive V where
  | s (v:Value)
  | ptr (b ver o:Nat)
  | ref (b ver o n:Nat)
  | sl (full:Bool) (n:Nat) (cs:List V)
  | ip (cs:List V)
  | agg (cs:List V)
  | tup (cs:List V)
  | clo (m:Nat) (cs:List V)
  | ifc (t:TypeId) (x:V)
  | any
inductive BK where
  | mem | grow | dead
  | bld (t:TypeId)
  | buf (t:TypeId)
  deriving DecidableEq
/-- A block of a builder's: of that type, two cells; its buffer: of that type. -/
def bldOk (k:BK) (t:TypeId) (n:Nat):Prop:=(∀ u,k=.bld u→t=u∧n=2)∧∀ u,k=.buf u→t=u
def growable (k:BK) (e:TypeId):Bool:=match k with
  | .grow=>true
  | .buf u=>Nat.beq u e
  | _=>false
theorem bldOk_mem {t:TypeId} {n:Nat}:bldOk .mem t n:=⟨nofun,nofun⟩
theorem bldOk_grow {t:TypeId} {n:Nat}:bldOk .grow t n:=⟨nofun,nofun⟩
theorem bldOk_growable {k:BK} {e:TypeId} {n:Nat} (h:growable k e=true):bldOk k e n:=by
  cases k <;> simp [growable] at h
  · exact bldOk_grow
  · subst h; exact ⟨nofun,fun u hu=>by injection hu⟩
structure Blk where
  ver:Nat
  kind:BK
  sz:Nat
  cs:List V
abbrev Hp:=List Blk
abbrev Im:=Nat→Option Nat
def Own (im:Im) (H:Hp) (g:Nat):Prop:=∃ b B,H[b]? = some B∧B.kind ≠ .dead∧im b=some g
def rowSize (w:World) (g:Nat):Nat:=match w.heap[g]? with | some (.cells arr _ _)=>arr.size | _=>0
/-- The cells from ⟨g, o⟩ on hold these values. -/
def At (w:World) (g o:Nat) (vs:List Value):Prop:=∀ j v,vs[j]? = some v→w.cell? ⟨g,o+j,none⟩=some v
mutual
def VR (im:Im) (H:Hp) (w:World):V→Value→Prop
  | .s v,c=>c=v
  | .ptr b ver o,c=>c.oneCell'=true∧∃ B,H[b]? = some B∧ver≤B.ver∧(B.ver=ver→B.kind ≠ .dead→∃ g,im b=some g∧c=.pointer (some ⟨g,o,none⟩))
  | .ref b ver o n,c=>c.oneCell'=true∧∃ B,H[b]? = some B∧ver≤B.ver∧(B.ver=ver→B.kind ≠ .dead →
      ∃ A cap,c=.slice A n cap∧n≤cap∧cap≤maxLen∧((cap=0∧∀ a,A=some a→im b=some a.block)∨∃ g,im b=some g∧A=some ⟨g,o,none⟩∧o+cap*B.sz≤rowSize w g))
  | .sl full n cs,c=>∃ A cap,c=.slice A n cap∧n≤cap∧cap≤maxLen∧(full=true→cap=n) ∧
      (n=0∨∃ g o vs,A=some ⟨g,o,none⟩∧¬ Own im H g∧g < w.heap.size∧At w g o vs∧VRs im H w cs vs)
  | .ip cs,c=>∃ g o vs,c=.pointer (some ⟨g,o,none⟩)∧¬ Own im H g∧g < w.heap.size∧At w g o vs∧VRs im H w cs vs
  | .agg cs,c=>∃ vs,c=.agg vs∧VRs im H w cs vs.toList
  | .tup cs,c=>∃ vs,c=.tuple vs∧VRs im H w cs vs.toList
  | .clo m cs,c=>∃ vs,c=.func (.func m) #[] vs∧VRs im H w cs vs.toList
  | .ifc t x,c=>∃ y,c=.iface t y∧VR im H w x y
  | .any,_=>True
def VRs (im:Im) (H:Hp) (w:World):List V→List Value→Prop
  | [],[]=>True
  | v::vs,c::cs=>VR im H w v c∧VRs im H w vs cs
  | _,_=>False
end
structure Ext (im:Im) (H:Hp) (w:World) (im':Im) (H':Hp) (w':World):Prop where
  os:w'.os=w.os
  tape:w'.tape=w.tape
  output:w'.output=w.output
  size:w.heap.size≤w'.heap.size
  len:H.length≤H'.length
  keep:∀ g,g < w.heap.size→¬ Own im H g→w'.heap[g]? = w.heap[g]? ∧ ¬ Own im' H' g
  blk:∀ b B B',H[b]? = some B→H'[b]? = some B'→B.ver≤B'.ver∧(B'.ver=B.ver→B'.kind ≠ .dead→B.kind ≠ .dead∧im' b=im b∧B'.sz=B.sz∧∀ g,im b=some g→rowSize w' g=rowSize w g)
/-- The program's own variables that a contract reads: blocks that hold some int (none, save where a claim needs one). -/
def GL:List Nat:=[]
def Glob (im:Im) (H:Hp) (w:World):Prop:=∀ a∈GL,¬ Own im H a∧∃ m,w.cell? ⟨a,0,none⟩=some (.int .i64 m)
structure Rel (im:Im) (H:Hp) (w:World):Prop where
  row:∀ b B,H[b]? = some B→B.kind ≠ .dead→match im b with
    | none=>(B.kind=.grow∨∃ u,B.kind=.buf u)∧B.cs=[]
    | some g=>∃ (arr:Array Value) (t:TypeId) (fr:Nat × Nat) (vs:List Value),w.heap[g]? = some (.cells arr t fr)∧(∀ j,j < arr.size→¬ (fr.1≤j∧j < fr.2))∧(∀ (j:Nat) (v:Value),vs[j]? = some v→arr[j]? = some v)∧VRs im H w B.cs vs∧bldOk B.kind t arr.size
  inj:∀ b b' B B' g,H[b]? = some B→H[b']? = some B'→B.kind ≠ .dead→B'.kind ≠ .dead→im b=some g→im b'=some g→b=b'
  glob:Glob im H w
theorem cell_lt {w:World} {a o:Nat} {v:Value} (h:w.cell? ⟨a,o,none⟩=some v):a < w.heap.size:=by
  rcases Nat.lt_or_ge a w.heap.size with h' | h'
  · exact h'
  · unfold World.cell? at h
    rw [Array.getElem?_eq_none h'] at h
    simp at h
theorem Glob.ext {im H w im' H' w'} (h:Glob im H w) (hx:Ext im H w im' H' w'):Glob im' H' w':=fun a ha=>by
  obtain ⟨h1,m,h2⟩:=h a ha
  obtain ⟨k1,k2⟩:=hx.keep a (cell_lt h2) h1
  refine ⟨k2,m,?_⟩
  rw [World.cell?_of_block (w:=w) (a:=⟨a,0,none⟩) k1]; exact h2
theorem Ext.refl (im:Im) (H:Hp) (w:World):Ext im H w im H w :=
  ⟨rfl,rfl,rfl,Nat.le_refl _,Nat.le_refl _,fun _ _ h=>⟨rfl,h⟩,fun b B B' h h'=>by
    rw [h] at h'; injection h' with h'; subst h'
    exact ⟨Nat.le_refl _,fun _ hk=>⟨hk,rfl,rfl,fun _ _=>rfl⟩⟩⟩
theorem Ext.trans {im H w im' H' w' im'' H'' w''} (h:Ext im H w im' H' w') (k:Ext im' H' w' im'' H'' w''):Ext im H w im'' H'' w'':=by
  refine ⟨k.os.trans h.os,k.tape.trans h.tape,k.output.trans h.output,Nat.le_trans h.size k.size,Nat.le_trans h.len k.len,fun g hg ho => ?_,fun b B B'' hB hB'' => ?_⟩
  · obtain ⟨h1,h2⟩:=h.keep g hg ho
    obtain ⟨k1,k2⟩:=k.keep g (Nat.lt_of_lt_of_le hg h.size) h2
    exact ⟨k1.trans h1,k2⟩
  · have hb:b < H'.length:=Nat.lt_of_lt_of_le (List.getElem?_eq_some_iff.1 hB).1 h.len
    have hB':=List.getElem?_eq_getElem hb
    obtain ⟨h1,h2⟩:=h.blk b B _ hB hB'
    obtain ⟨k1,k2⟩:=k.blk b _ B'' hB' hB''
    refine ⟨Nat.le_trans h1 k1,fun hv hd => ?_⟩
    obtain ⟨kd,ki,ks,kr⟩:=k2 (by omega) hd
    obtain ⟨hd',hi,hs,hr⟩:=h2 (by omega) kd
    exact ⟨hd',ki.trans hi,ks.trans hs,fun g hg=>(kr g (hi.trans hg)).trans (hr g hg)⟩
theorem At.keep {w w':World} {g o:Nat} {vs:List Value} (h:At w g o vs) (hk:w'.heap[g]? = w.heap[g]?):At w' g o vs:=fun j v hj=>by
  rw [World.cell?_of_block (w:=w) (a:=⟨g,o+j,none⟩) hk]; exact h j v hj
mutual
theorem VR.ext {im H w im' H' w'} (hx:Ext im H w im' H' w'):∀ (v:V) (c:Value),VR im H w v c→VR im' H' w' v c
  | .s v,c,h=>h
  | .ptr b ver o,c,h=>by
    obtain ⟨h1c,B,hB,hl,h⟩:=h
    have hb':b < H'.length:=Nat.lt_of_lt_of_le (List.getElem?_eq_some_iff.1 hB).1 hx.len
    have hB':=List.getElem?_eq_getElem hb'
    obtain ⟨h1,h2⟩:=hx.blk b _ _ hB hB'
    refine ⟨h1c,_,hB',by omega,fun hv hd => ?_⟩
    obtain ⟨hd',hi,_,_⟩:=h2 (by omega) hd
    obtain ⟨g,hg,hc⟩:=h (by omega) hd'
    exact ⟨g,hi.trans hg,hc⟩
  | .ref b ver o n,c,h=>by
    obtain ⟨h1c,B,hB,hl,h⟩:=h
    have hb':b < H'.length:=Nat.lt_of_lt_of_le (List.getElem?_eq_some_iff.1 hB).1 hx.len
    have hB':=List.getElem?_eq_getElem hb'
    obtain ⟨h1,h2⟩:=hx.blk b _ _ hB hB'
    refine ⟨h1c,_,hB',by omega,fun hv hd => ?_⟩
    obtain ⟨hd',hi,hs,hr⟩:=h2 (by omega) hd
    obtain ⟨A,cap,hc,hn,hm,hg⟩:=h (by omega) hd'
    refine ⟨A,cap,hc,hn,hm,?_⟩
    rcases hg with hg | ⟨g,hg,hA,hz⟩
    · exact .inl ⟨hg.1,fun a ha=>hi.trans (hg.2 a ha)⟩
    · exact .inr ⟨g,hi.trans hg,hA,by rw [hs,hr g hg]; exact hz⟩
  | .sl full n cs,c,h=>by
    obtain ⟨A,cap,hc,h1,h2,h3,h4⟩:=h
    refine ⟨A,cap,hc,h1,h2,h3,?_⟩
    rcases h4 with h4 | ⟨g,o,vs,hA,ho,hg,hat,hvs⟩
    · exact .inl h4
    · obtain ⟨hk,hno⟩:=hx.keep g hg ho
      exact .inr ⟨g,o,vs,hA,hno,Nat.lt_of_lt_of_le hg hx.size,hat.keep hk,VRs.ext hx _ _ hvs⟩
  | .ip cs,c,h=>by
    obtain ⟨g,o,vs,hA,ho,hg,hat,hvs⟩:=h
    obtain ⟨hk,hno⟩:=hx.keep g hg ho
    exact ⟨g,o,vs,hA,hno,Nat.lt_of_lt_of_le hg hx.size,hat.keep hk,VRs.ext hx _ _ hvs⟩
  | .agg cs,c,h=>by
    obtain ⟨vs,hc,hvs⟩:=h
    exact ⟨vs,hc,VRs.ext hx _ _ hvs⟩
  | .tup cs,c,h=>by
    obtain ⟨vs,hc,hvs⟩:=h
    exact ⟨vs,hc,VRs.ext hx _ _ hvs⟩
  | .clo m cs,c,h=>by
    obtain ⟨vs,hc,hvs⟩:=h
    exact ⟨vs,hc,VRs.ext hx _ _ hvs⟩
  | .ifc t x,c,h=>by
    obtain ⟨y,hc,hy⟩:=h
    exact ⟨y,hc,VR.ext hx _ _ hy⟩
  | .any,_,_=>trivial
theorem VRs.ext {im H w im' H' w'} (hx:Ext im H w im' H' w'):∀ (vs:List V) (cs:List Value),VRs im H w vs cs→VRs im' H' w' vs cs
  | [],[],_=>trivial
  | v::vs,c::cs,h=>⟨VR.ext hx v c h.1,VRs.ext hx vs cs h.2⟩
  | [],_::_,h=>h.elim
  | _::_,[],h=>h.elim
end
end Go.Proofs.YtfcegejpdlbkdaaGreatK
