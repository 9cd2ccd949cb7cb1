/- New blocks, stores: what they leave of the relation between abstract and concrete memory. -/
import Derived.Test.YtoemlgdlejkliaaKb
namespace Go.Proofs.YtoemlgdlejkliaaK
set_option linter.unusedVariables false
set_option linter.unusedSimpArgs false
open Go.RowKit
theorem alloc_heap (w:World) (o:Obj) (k:Nat):(w.alloc o).heap[k]? = if k=w.heap.size then some o else w.heap[k]? := by
  show (w.heap.push o)[k]? = _
  rw [Array.getElem?_push]
theorem alloc_size (w:World) (o:Obj):(w.alloc o).heap.size=w.heap.size+1:=by show (w.heap.push o).size=_; simp
theorem Own.mono {im im':Im} {H H':Hp} {g:Nat} (h:Own im H g) (hh:∀ b B,H[b]? = some B→B.kind ≠ .dead→(im b=some g∨im.sub b g)→∃ B',H'[b]? = some B'∧B'.kind ≠ .dead∧(im' b=some g∨im'.sub b g)):Own im' H' g:=by
  obtain ⟨b,B,h1,h2,h3⟩:=h
  obtain ⟨B',k1,k2,k3⟩:=hh b B h1 h2 h3
  exact ⟨b,B',k1,k2,k3⟩
theorem Rel.lt {im H w} (h:Rel im H w) {b:Nat} {B:Blk} {g:Nat} (hB:H[b]? = some B) (hd:B.kind ≠ .dead) (hg:im b=some g):g < w.heap.size:=by
  have:=h.row b B hB hd
  rw [hg] at this
  obtain ⟨arr,t,fr,vs,h1,_⟩:=this
  exact (Array.getElem?_eq_some_iff.1 h1).1
theorem Rel.sub_lt {im H w} (h:Rel im H w) (b:Nat) (B:Blk) (g:Nat) (hB:H[b]? = some B) (hd:B.kind ≠ .dead) (hg:im.sub b g):g < w.heap.size:=by
  obtain ⟨X,r,_,_,h2⟩:=(h.res b B hB hd).is hg
  exact X.lt w r _ h2 g hg
theorem Rel.own_lt {im H w} (h:Rel im H w) {g:Nat} (ho:Own im H g):g < w.heap.size:=by
  obtain ⟨b,B,h1,h2,h3⟩:=ho
  exact h3.elim (h.lt h1 h2) (h.sub_lt b B g h1 h2)
/-- A block that is no thing is owned by its own number alone. -/
theorem Rel.only {im H w} (h:Rel im H w) {b b' g:Nat} {B B':Blk} (hB:H[b]? = some B) (hd:B.kind ≠ .dead) (hg:im b=some g) (hB':H[b']? = some B') (hd':B'.kind ≠ .dead) (ho:im b'=some g∨im.sub b' g):b'=b:=by
  rcases ho with ho | ho
  · exact h.inj b' b B' B g hB' hB hd' hd ho hg
  · exact absurd hg (((h.res b' B' hB' hd').1 g ho b B hB hd).1)
theorem Rel.apart {im H w} (h:Rel im H w) {b b' g:Nat} {B B':Blk} (hB:H[b]? = some B) (hd:B.kind ≠ .dead) (hk:B.kind.isRes=false) (hg:im b=some g) (hB':H[b']? = some B') (hk':B'.kind.isRes=true):¬ (im b'=some g∨im.sub b' g):=fun ho=>by
  have hd':B'.kind ≠ .dead:=by intro e; rw [e] at hk'; cases hk'
  have:=h.only hB hd hg hB' hd' ho
  subst this
  rw [hB] at hB'; injection hB' with hB'; subst hB'
  rw [hk] at hk'; cases hk'
/-- Nothing that is owned changes; there may be new blocks. -/
theorem Rel.grow {im H w w'} (h:Rel im H w) (hs:w.heap.size≤w'.heap.size) (hk:∀ k,k < w.heap.size→w'.heap[k]? = w.heap[k]?) (os:w'.os=w.os) (tape:w'.tape=w.tape) (output:w'.output=w.output) :
    Rel im H w'∧Ext im H w im H w':=by
  have hx:Ext im H w im H w':=⟨os,tape,output,hs,Nat.le_refl _,fun g hg ho=>⟨hk g hg,ho⟩,fun b B B' hB hB'=>by
    rw [hB] at hB'; injection hB' with hB'; subst hB'
    refine ⟨Nat.le_refl _,fun _ hd=>⟨hd,rfl,rfl,fun g hg => ?_⟩⟩
    unfold rowSize
    rw [hk g (h.lt hB hd hg)]⟩
  refine ⟨⟨fun b B hB hd => ?_,h.inj,h.glob.ext hx,h.keep h.sub_lt (fun b B hB hd=>.inl ⟨rfl,rfl,B,hB,rfl⟩) (fun b B g hB hd hg=>.inl ⟨b,B,hB,hd,hg⟩) fun b B x hB hk' hx _ => ?_⟩,hx⟩
  · have:=h.row b B hB hd
    cases hg:im b with
    | none=>rw [hg] at this; exact this
    | some g =>
      rw [hg] at this
      obtain ⟨arr,t,fr,vs,h1,h2,h3,h4⟩:=this
      exact ⟨arr,t,fr,vs,by rw [hk g (h.lt hB hd hg)]; exact h1,h2,h3,VRs.ext hx _ _ h4.1,h4.2⟩
  · have hd:B.kind ≠ .dead:=by intro e; rw [e] at hk'; cases hk'
    exact hk x (h.own_lt ⟨b,B,hB,hd,hx⟩)
theorem Rel.alloc {im H w} (h:Rel im H w) (o:Obj):Rel im H (w.alloc o)∧Ext im H w im H (w.alloc o) :=
  h.grow (by simp [alloc_size]) (fun k hk=>by rw [alloc_heap,if_neg (by omega)]) rfl rfl rfl
theorem Rel.drew {im H w} (h:Rel im H w):Rel im H w.drew∧Ext im H w im H w.drew :=
  h.grow (Nat.le_refl _) (fun _ _=>rfl) rfl rfl rfl
/-- The image of the memory with one more block. -/
def imNew (im:Im) (n g:Nat):Im:=⟨fun b=>if b=n then some g else im b,fun b x=>b ≠ n∧im.sub b x⟩
theorem imNew_f (im:Im) (n g b:Nat):imNew im n g b=if b=n then some g else im b:=rfl
theorem imNew_s (im:Im) (n g b x:Nat):(imNew im n g).sub b x=(b ≠ n∧im.sub b x):=rfl
/-- .. with one that has no memory. -/
def imNil (im:Im) (n:Nat):Im:=⟨fun b=>if b=n then none else im b,fun b x=>b ≠ n∧im.sub b x⟩
theorem imNil_f (im:Im) (n b:Nat):imNil im n b=if b=n then none else im b:=rfl
theorem imNil_s (im:Im) (n b x:Nat):(imNil im n).sub b x=(b ≠ n∧im.sub b x):=rfl
theorem getElem?_snoc {α:Type} (l:List α) (x:α) (b:Nat):(l++[x])[b]? = if b=l.length then some x else l[b]? := by
  rw [List.getElem?_append]
  split
  · rw [if_neg (by omega)]
  · rename_i h
    by_cases e:b=l.length
    · subst e; simp
    · rw [if_neg e,List.getElem?_eq_none (by simp; omega),List.getElem?_eq_none (by omega)]
/-- A new block of the function's own. -/
theorem Rel.newW {im H w} (h:Rel im H w) (k:BK) (sz:Nat) (cs:List V) (arr:Array Value) (t:TypeId) (fr:Nat × Nat) (vs:List Value) (hk:k ≠ .dead)
    (hfr:∀ j,j < arr.size→¬ (fr.1≤j∧j < fr.2)) (hvs:∀ (j:Nat) (v:Value),vs[j]? = some v→arr[j]? = some v) (hr:VRs im H w cs vs)
    (w':World) (w1:w'.heap.size=w.heap.size+1) (w2:∀ k,k < w.heap.size→w'.heap[k]? = w.heap[k]?) (w3:w'.heap[w.heap.size]? = some (.cells arr t fr)) (os:w'.os=w.os) (tape:w'.tape=w.tape) (output:w'.output=w.output) (hb:bldOk k t arr.size:=by first | exact bldOk_mem | exact bldOk_grow) (hres:k.isRes=false:=by rfl) :
    Rel (imNew im H.length w.heap.size) (H++[⟨0,k,sz,cs⟩]) w'∧Ext im H w (imNew im H.length w.heap.size) (H++[⟨0,k,sz,cs⟩]) w':=by
  have hx:Ext im H w (imNew im H.length w.heap.size) (H++[⟨0,k,sz,cs⟩]) w':=by
    refine ⟨os,tape,output,by omega,by simp,fun g hg ho=>⟨w2 g hg,fun hn=>ho ?_⟩,fun b B B' hB hB' => ?_⟩
    · obtain ⟨b,B,h1,h2,h3⟩:=hn
      rw [getElem?_snoc] at h1
      rw [imNew_f,imNew_s] at h3
      by_cases e:b=H.length
      · rw [if_pos e] at h3
        rcases h3 with h3 | h3
        · injection h3 with h3; omega
        · exact absurd e h3.1
      · rw [if_neg e] at h1 h3; exact ⟨b,B,h1,h2,h3.imp id And.right⟩
    · have hb:=(List.getElem?_eq_some_iff.1 hB).1
      rw [getElem?_snoc,if_neg (by omega),hB] at hB'
      injection hB' with hB'; subst hB'
      refine ⟨Nat.le_refl _,fun _ hd=>⟨hd,by rw [imNew_f,if_neg (by omega)],rfl,fun g hg => ?_⟩⟩
      unfold rowSize
      rw [w2 g (h.lt hB hd hg)]
  refine ⟨⟨fun b B hB hd => ?_,fun b b' B B' g hB hB' hd hd' hi hi' => ?_,h.glob.ext hx,h.keep h.sub_lt (fun b B' hB' hd' => ?_) (fun b B' g hB' hd' hg => ?_) fun b B x hB hk' hx _ => ?_⟩,hx⟩
  · rw [getElem?_snoc] at hB
    by_cases e:b=H.length
    · rw [if_pos e] at hB; injection hB with hB; subst hB
      rw [imNew_f,if_pos e]
      exact ⟨arr,t,fr,vs,w3,hfr,hvs,VRs.ext hx _ _ hr,hb⟩
    · rw [if_neg e] at hB
      have:=h.row b B hB hd
      rw [imNew_f,if_neg e]
      cases hg:im b with
      | none=>rw [hg] at this; exact this
      | some g =>
        rw [hg] at this
        obtain ⟨arr',t',fr',vs',h1,h2,h3,h4⟩:=this
        exact ⟨arr',t',fr',vs',by rw [w2 g (h.lt hB hd hg)]; exact h1,h2,h3,VRs.ext hx _ _ h4.1,h4.2⟩
  · rw [getElem?_snoc] at hB hB'
    rw [imNew_f] at hi hi'
    by_cases e:b=H.length <;> by_cases e':b'=H.length
    · omega
    · rw [if_pos e] at hi; rw [if_neg e'] at hi' hB'
      injection hi with hi
      have:=h.lt hB' hd' hi'; omega
    · rw [if_neg e] at hi hB; rw [if_pos e'] at hi'
      injection hi' with hi'
      have:=h.lt hB hd hi; omega
    · rw [if_neg e] at hi hB; rw [if_neg e'] at hi' hB'
      exact h.inj b b' B B' g hB hB' hd hd' hi hi'
  · rw [getElem?_snoc] at hB'
    by_cases e:b=H.length
    · rw [if_pos e] at hB'; injection hB' with hB'; subst hB'
      exact .inr ⟨hres,fun g hg=>(hg.1 e).elim⟩
    · rw [if_neg e] at hB'
      exact .inl ⟨by funext x; simp [imNew,e],by rw [imNew_f,if_neg e],B',hB',rfl⟩
  · rw [getElem?_snoc] at hB'
    rw [imNew_f] at hg
    by_cases e:b=H.length
    · rw [if_pos e] at hg; injection hg with hg; exact .inr (by omega)
    · rw [if_neg e] at hB' hg; exact .inl ⟨b,B',hB',hd',hg⟩
  · have hd:B.kind ≠ .dead:=by intro e; rw [e] at hk'; cases hk'
    exact w2 x (h.own_lt ⟨b,B,hB,hd,hx⟩)
theorem Rel.new {im H w} (h:Rel im H w) (k:BK) (sz:Nat) (cs:List V) (arr:Array Value) (t:TypeId) (fr:Nat × Nat) (vs:List Value) (hk:k ≠ .dead)
    (hfr:∀ j,j < arr.size→¬ (fr.1≤j∧j < fr.2)) (hvs:∀ (j:Nat) (v:Value),vs[j]? = some v→arr[j]? = some v) (hr:VRs im H w cs vs) (hb:bldOk k t arr.size:=by first | exact bldOk_mem | exact bldOk_grow) (hres:k.isRes=false:=by rfl) :
    Rel (imNew im H.length w.heap.size) (H++[⟨0,k,sz,cs⟩]) (w.alloc (.cells arr t fr))∧Ext im H w (imNew im H.length w.heap.size) (H++[⟨0,k,sz,cs⟩]) (w.alloc (.cells arr t fr)) :=
  h.newW k sz cs arr t fr vs hk hfr hvs hr _ (alloc_size _ _) (fun k hk=>by rw [alloc_heap,if_neg (by omega)]) (by rw [alloc_heap,if_pos rfl]) rfl rfl rfl hb hres
/-- A block without memory (a nil slice that is appended to). -/
theorem Rel.nilk {im H w} (h:Rel im H w) (sz:Nat) (kd:BK) (hkd:kd=.grow∨∃ u,kd=.buf u):Rel (imNil im H.length) (H++[⟨0,kd,sz,[]⟩]) w∧Ext im H w (imNil im H.length) (H++[⟨0,kd,sz,[]⟩]) w:=by
  have hx:Ext im H w (imNil im H.length) (H++[⟨0,kd,sz,[]⟩]) w:=by
    refine ⟨rfl,rfl,rfl,Nat.le_refl _,by simp,fun g hg ho=>⟨rfl,fun hn=>ho ?_⟩,fun b B B' hB hB' => ?_⟩
    · obtain ⟨b,B,h1,h2,h3⟩:=hn
      rw [getElem?_snoc] at h1
      rw [imNil_f,imNil_s] at h3
      by_cases e:b=H.length
      · simp [e] at h3
      · rw [if_neg e] at h1 h3; exact ⟨b,B,h1,h2,h3.imp id And.right⟩
    · have hb:=(List.getElem?_eq_some_iff.1 hB).1
      rw [getElem?_snoc,if_neg (by omega),hB] at hB'
      injection hB' with hB'; subst hB'
      exact ⟨Nat.le_refl _,fun _ hd=>⟨hd,by rw [imNil_f,if_neg (by omega)],rfl,fun g hg=>rfl⟩⟩
  refine ⟨⟨fun b B hB hd => ?_,fun b b' B B' g hB hB' hd hd' hi hi' => ?_,h.glob.ext hx,h.keep h.sub_lt (fun b B' hB' hd' => ?_) (fun b B' g hB' hd' hg => ?_) fun _ _ _ _ _ _ _=>rfl⟩,hx⟩
  · rw [getElem?_snoc] at hB
    rw [imNil_f]
    by_cases e:b=H.length
    · rw [if_pos e] at hB; injection hB with hB; subst hB
      rw [if_pos e]
      exact ⟨hkd,rfl⟩
    · rw [if_neg e] at hB
      have:=h.row b B hB hd
      rw [if_neg e]
      cases hg:im b with
      | none=>rw [hg] at this; exact this
      | some g =>
        rw [hg] at this
        obtain ⟨arr',t',fr',vs',h1,h2,h3,h4⟩:=this
        exact ⟨arr',t',fr',vs',h1,h2,h3,VRs.ext hx _ _ h4.1,h4.2⟩
  · rw [getElem?_snoc] at hB hB'
    rw [imNil_f] at hi hi'
    by_cases e:b=H.length
    · simp [e] at hi
    · by_cases e':b'=H.length
      · simp [e'] at hi'
      · simp only [e,e',if_false] at hB hB' hi hi'
        exact h.inj b b' B B' g hB hB' hd hd' hi hi'
  · rw [getElem?_snoc] at hB'
    by_cases e:b=H.length
    · rw [if_pos e] at hB'; injection hB' with hB'; subst hB'
      refine .inr ⟨?_,fun g hg=>(hg.1 e).elim⟩
      rcases hkd with rfl | ⟨u,rfl⟩ <;> rfl
    · rw [if_neg e] at hB'
      exact .inl ⟨by funext x; simp [imNil,e],by rw [imNil_f,if_neg e],B',hB',rfl⟩
  · rw [getElem?_snoc] at hB'
    rw [imNil_f] at hg
    by_cases e:b=H.length
    · rw [if_pos e] at hg; cases hg
    · rw [if_neg e] at hB' hg; exact .inl ⟨b,B',hB',hd',hg⟩
theorem Rel.nilg {im H w} (h:Rel im H w) (sz:Nat):Rel (imNil im H.length) (H++[⟨0,.grow,sz,[]⟩]) w∧Ext im H w (imNil im H.length) (H++[⟨0,.grow,sz,[]⟩]) w:=h.nilk sz .grow (.inl rfl)
theorem VRs.length {im H w}:∀ {vs:List V} {cs:List Value},VRs im H w vs cs→vs.length=cs.length
  | [],[],_=>rfl
  | _::_,_::_,h=>by simp [VRs.length h.2]
  | [],_::_,h=>h.elim
  | _::_,[],h=>h.elim
theorem VRs.append {im H w}:∀ {a:List V} {x:List Value} {b:List V} {y:List Value},VRs im H w a x→VRs im H w b y→VRs im H w (a++b) (x++y)
  | [],[],_,_,_,h=>h
  | _::_,_::_,_,_,h,k=>⟨h.1,VRs.append h.2 k⟩
  | [],_::_,_,_,h,_=>h.elim
  | _::_,[],_,_,h,_=>h.elim
theorem VRs.take {im H w}:∀ (n:Nat) {a:List V} {x:List Value},VRs im H w a x→VRs im H w (a.take n) (x.take n)
  | 0,_,_,_=>by simp [VRs]
  | n+1,[],[],_=>by simp [VRs]
  | n+1,_::_,_::_,h=>⟨h.1,VRs.take n h.2⟩
  | _+1,[],_::_,h=>h.elim
  | _+1,_::_,[],h=>h.elim
theorem VRs.drop {im H w}:∀ (n:Nat) {a:List V} {x:List Value},VRs im H w a x→VRs im H w (a.drop n) (x.drop n)
  | 0,_,_,h=>h
  | n+1,[],[],_=>by simp [VRs]
  | n+1,_::_,_::_,h=>VRs.drop n h.2
  | _+1,[],_::_,h=>h.elim
  | _+1,_::_,[],h=>h.elim
theorem VRs.get {im H w}:∀ (j:Nat) {a:List V} {x:List Value} {v:V},VRs im H w a x→a[j]? = some v→∃ c,x[j]? = some c∧VR im H w v c
  | 0,v::_,c::_,_,h,hj=>by simp at hj; subst hj; exact ⟨c,rfl,h.1⟩
  | j+1,_::_,_::_,_,h,hj=>VRs.get (x:=_) j h.2 (by simpa using hj)
  | _,[],_,_,_,hj=>by simp at hj
  | _,_::_,[],_,h,_=>h.elim
theorem VR.one {im H w} {v:V} {c:Value} (h:VR im H w v c) (h1:v.one=true):c.oneCell'=true:=by
  cases v with
  | s v=>simp only [VR] at h; subst h; exact h1
  | ptr b ver o=>exact h.1
  | ref b ver o n=>exact h.1
  | sl full n cs=>obtain ⟨A,cap,rfl,_⟩:=h; rfl
  | ip cs=>obtain ⟨g,o,vs,rfl,_⟩:=h; rfl
  | agg cs=>simp [V.one] at h1
  | tup cs=>simp [V.one] at h1
  | clo m cs=>simp [V.one] at h1
  | ifc t x=>obtain ⟨y,rfl,_⟩:=h; rfl
  | any=>simp [V.one] at h1
theorem VRs.one {im H w}:∀ {vs:List V} {cs:List Value},VRs im H w vs cs→vs.all V.one=true→∀ c∈cs,c.oneCell'=true
  | [],[],_,_=>by simp
  | v::vs,c::cs,h,h1=>by
    simp only [List.all_cons,Bool.and_eq_true] at h1
    intro x hx
    rcases List.mem_cons.1 hx with rfl | hx
    · exact h.1.one h1.1
    · exact VRs.one h.2 h1.2 x hx
  | [],_::_,h,_=>h.elim
  | _::_,[],h,_=>h.elim
/-- A value's cells. -/
theorem VR.cells {im H w} {v:V} {c:Value} (h:VR im H w v c) (hv:V.one v=true∨∃ l,v=.agg l):VRs im H w v.cells c.cells.toList:=by
  rcases hv with hv | ⟨l,rfl⟩
  · have h1:=h.one hv
    have e1:v.cells=[v]:=by cases v <;> first | rfl | simp [V.one] at hv
    have e2:c.cells = #[c]:=by cases c <;> first | rfl | simp [Value.oneCell'] at h1
    rw [e1,e2]
    exact ⟨h,trivial⟩
  · obtain ⟨vs,rfl,hvs⟩:=h
    exact hvs
theorem cells_ok {v:V} (h:v.cells.all V.one=true):V.one v=true∨∃ l,v=.agg l:=by
  cases v <;> simp [V.cells] at h ⊢ <;> first | exact h | skip
/-- Writing into a row. -/
def wr (arr:Array Value):Nat→List Value→Array Value
  | _,[]=>arr
  | o,v::r=>wr (arr.setIfInBounds o v) (o+1) r
theorem wr_size:∀ (vs:List Value) (arr:Array Value) (o:Nat),(wr arr o vs).size=arr.size
  | [],_,_=>rfl
  | v::r,arr,o=>by simp [wr,wr_size r]
theorem wr_out:∀ (vs:List Value) (arr:Array Value) (o j:Nat),(j < o∨o+vs.length≤j)→(wr arr o vs)[j]? = arr[j]?
  | [],_,_,_,_=>rfl
  | v::r,arr,o,j,h=>by
    simp only [wr]
    rw [wr_out r _ (o+1) j (by simp at h; omega),Array.getElem?_setIfInBounds,if_neg (by simp at h; omega)]
theorem wr_in:∀ (vs:List Value) (arr:Array Value) (o j:Nat),o+vs.length≤arr.size→j < vs.length→(wr arr o vs)[o+j]? = vs[j]?
  | v::r,arr,o,0,h,hj=>by
    simp only [wr]
    rw [wr_out r _ (o+1) (o+0) (by omega),Array.getElem?_setIfInBounds,if_pos (by omega)]
    simp at h ⊢
    omega
  | v::r,arr,o,j+1,h,hj=>by
    simp only [wr]
    have:=wr_in r (arr.setIfInBounds o v) (o+1) j (by simp at h ⊢; omega) (by simpa using hj)
    rw [show o+(j+1)=o+1+j by omega,this]
    simp
theorem setCells_heap (g:Nat) (t:TypeId) (fr:Nat × Nat):∀ (vs:List Value) (o:Nat) (w:World) (arr:Array Value),w.heap[g]? = some (.cells arr t fr)→∀ k,(w.setCells g o vs).heap[k]? = if k=g then some (.cells (wr arr o vs) t fr) else w.heap[k]?
  | [],o,w,arr,h,k=>by
    simp only [World.setCells,wr]
    split
    · rename_i e; rw [e,h]
    · rfl
  | v::r,o,w,arr,h,k=>by
    simp only [World.setCells,wr]
    have hs:∀ k,(w.setCell ⟨g,o,none⟩ v).heap[k]? = if k=g then some (.cells (arr.setIfInBounds o v) t fr) else w.heap[k]? := by
      intro k
      simp only [World.setCell,Array.getElem?_modify]
      by_cases e:k=g
      · subst e; simp [h]
      · rw [if_neg (by omega),if_neg e]
    rw [setCells_heap g t fr r (o+1) (w.setCell ⟨g,o,none⟩ v) (arr.setIfInBounds o v) (by rw [hs,if_pos rfl]) k]
    split
    · rfl
    · rename_i e; rw [hs,if_neg e]
theorem setCells_rest (g:Nat):∀ (vs:List Value) (o:Nat) (w:World),(w.setCells g o vs).os=w.os∧(w.setCells g o vs).tape=w.tape∧(w.setCells g o vs).output=w.output∧(w.setCells g o vs).heap.size=w.heap.size
  | [],_,_=>⟨rfl,rfl,rfl,rfl⟩
  | v::r,o,w=>by
    obtain ⟨h1,h2,h3,h4⟩:=setCells_rest g r (o+1) (w.setCell ⟨g,o,none⟩ v)
    refine ⟨h1,h2,h3,?_⟩
    simp only [World.setCells,h4]
    simp [World.setCell]
/-- Writing into an owned block: the cells, perhaps a newer version of the block. -/
theorem Rel.write {im H w} (h:Rel im H w) {b:Nat} {B:Blk} {g:Nat} {arr:Array Value} {t:TypeId} {fr:Nat × Nat} (o:Nat) (new:List Value) (B':Blk)
    (hB:H[b]? = some B) (hd:B.kind ≠ .dead) (hg:im b=some g) (hw:w.heap[g]? = some (.cells arr t fr)) (hfr:∀ j,j < arr.size→¬ (fr.1≤j∧j < fr.2))
    (hv:B.ver≤B'.ver) (hk:B'.kind=B.kind) (hz:B'.sz=B.sz)
    (vs:List Value) (hvs:∀ (j:Nat) (v:Value),vs[j]? = some v→(wr arr o new)[j]? = some v) (hr:VRs im H w B'.cs vs) (hres:B.kind.isRes=false) :
    Rel im (H.set b B') (w.setCells g o new)∧Ext im H w im (H.set b B') (w.setCells g o new):=by
  have hb:b < H.length:=(List.getElem?_eq_some_iff.1 hB).1
  have hset:∀ x,(H.set b B')[x]? = if x=b then some B' else H[x]? := by
    intro x
    rw [List.getElem?_set]
    by_cases e:b=x
    · subst e; simp [hb]
    · rw [if_neg e,if_neg (by omega)]
  obtain ⟨e1,e2,e3,e4⟩:=setCells_rest g new o w
  have hheap:=setCells_heap g t fr new o w arr hw
  have hsz:∀ g',rowSize (w.setCells g o new) g'=rowSize w g':=by
    intro g'
    unfold rowSize
    rw [hheap]
    by_cases e:g'=g
    · subst e; rw [if_pos rfl,hw]; simp [wr_size]
    · rw [if_neg e]
  have hx:Ext im H w im (H.set b B') (w.setCells g o new):=by
    refine ⟨e1,e2,e3,by omega,by simp,fun g' hg' ho => ?_,fun x X X' hX hX' => ?_⟩
    · have hne:g' ≠ g:=fun e=>ho ⟨b,B,hB,hd,.inl (e ▸ hg)⟩
      refine ⟨by rw [hheap,if_neg hne],fun hn=>ho ?_⟩
      obtain ⟨x,X,h1,h2,h3⟩:=hn
      rw [hset] at h1
      by_cases e:x=b
      · subst e; rw [if_pos rfl] at h1; injection h1 with h1; subst h1
        exact ⟨x,B,hB,hd,h3⟩
      · rw [if_neg e] at h1; exact ⟨x,X,h1,h2,h3⟩
    · rw [hset] at hX'
      by_cases e:x=b
      · subst e
        rw [if_pos rfl] at hX'; injection hX' with hX'; subst hX'
        rw [hB] at hX; injection hX with hX; subst hX
        exact ⟨hv,fun _ _=>⟨hd,rfl,hz,fun g' _=>hsz g'⟩⟩
      · rw [if_neg e,hX] at hX'; injection hX' with hX'; subst hX'
        exact ⟨Nat.le_refl _,fun _ hd=>⟨hd,rfl,rfl,fun g' _=>hsz g'⟩⟩
  refine ⟨⟨fun x X hX hXd => ?_,fun x x' X X' g' hX hX' hXd hXd' hi hi' => ?_,h.glob.ext hx,h.keep h.sub_lt (fun x X hX hXd => ?_) (fun x X g' hX hXd hg' => ?_) fun x X y hX hk' hy _ => ?_⟩,hx⟩
  · rw [hset] at hX
    by_cases e:x=b
    · subst e
      rw [if_pos rfl] at hX; injection hX with hX; subst hX
      rw [hg]
      refine ⟨wr arr o new,t,fr,vs,by rw [hheap,if_pos rfl],by rw [wr_size]; exact hfr,hvs,VRs.ext hx _ _ hr,?_⟩
      rw [hk,wr_size]
      have hrow:=h.row x B hB hd
      rw [hg] at hrow
      obtain ⟨arr',t',fr',vs',h1,_,_,_,h5⟩:=hrow
      rw [hw] at h1
      simp only [Option.some.injEq,Obj.cells.injEq] at h1
      obtain ⟨rfl,rfl,rfl⟩:=h1
      exact h5
    · rw [if_neg e] at hX
      have:=h.row x X hX hXd
      cases hgx:im x with
      | none=>rw [hgx] at this; exact this
      | some gx =>
        rw [hgx] at this
        obtain ⟨arr',t',fr',vs',h1,h2,h3,h4⟩:=this
        have hne:gx ≠ g:=fun e'=>e (h.inj x b X B g hX hB hXd hd (e' ▸ hgx) hg)
        exact ⟨arr',t',fr',vs',by rw [hheap,if_neg hne]; exact h1,h2,h3,VRs.ext hx _ _ h4.1,h4.2⟩
  · have hold:∀ (y:Nat) (Y:Blk),(H.set b B')[y]? = some Y→Y.kind ≠ .dead→∃ Y0:Blk,H[y]? = some Y0∧Y0.kind ≠ .dead:=by
      intro y Y hY hYd
      rw [hset] at hY
      by_cases e:y=b
      · exact ⟨B,e ▸ hB,hd⟩
      · rw [if_neg e] at hY; exact ⟨Y,hY,hYd⟩
    obtain ⟨Y,hY,hYd⟩:=hold x X hX hXd
    obtain ⟨Y',hY',hYd'⟩:=hold x' X' hX' hXd'
    exact h.inj x x' Y Y' g' hY hY' hYd hYd' hi hi'
  · rw [hset] at hX
    by_cases e:x=b
    · subst e
      rw [if_pos rfl] at hX; injection hX with hX; subst hX
      exact .inl ⟨rfl,rfl,B,hB,hk.symm⟩
    · rw [if_neg e] at hX; exact .inl ⟨rfl,rfl,X,hX,rfl⟩
  · rw [hset] at hX
    by_cases e:x=b
    · subst e; exact .inl ⟨x,B,hB,hd,hg'⟩
    · rw [if_neg e] at hX; exact .inl ⟨x,X,hX,hXd,hg'⟩
  · rw [hheap,if_neg]
    rintro rfl
    exact h.apart hB hd hres hg hX hk' hy
/-- A block moves to new memory. -/
theorem Rel.move {im H w} (h:Rel im H w) {b:Nat} {B:Blk} (B':Blk) (arr:Array Value) (t:TypeId) (hB:H[b]? = some B) (hd:B.kind ≠ .dead)
    (hv:B.ver < B'.ver) (hk:B'.kind ≠ .dead) (vs:List Value) (hvs:∀ (j:Nat) (v:Value),vs[j]? = some v→arr[j]? = some v) (hr:VRs im H w B'.cs vs) (hbl:bldOk B'.kind t arr.size) (hres:B'.kind.isRes=false) :
    Rel (imNew im b w.heap.size) (H.set b B') (w.alloc (.cells arr t))∧Ext im H w (imNew im b w.heap.size) (H.set b B') (w.alloc (.cells arr t)):=by
  have hb:b < H.length:=(List.getElem?_eq_some_iff.1 hB).1
  have hset:∀ x,(H.set b B')[x]? = if x=b then some B' else H[x]? := by
    intro x
    rw [List.getElem?_set]
    by_cases e:b=x
    · subst e; simp [hb]
    · rw [if_neg e,if_neg (by omega)]
  have hx:Ext im H w (imNew im b w.heap.size) (H.set b B') (w.alloc (.cells arr t)):=by
    refine ⟨rfl,rfl,rfl,by simp [alloc_size],by simp,fun g' hg' ho=>⟨by rw [alloc_heap,if_neg (by omega)],fun hn=>ho ?_⟩,fun x X X' hX hX' => ?_⟩
    · obtain ⟨x,X,h1,h2,h3⟩:=hn
      rw [hset] at h1
      rw [imNew_f,imNew_s] at h3
      by_cases e:x=b
      · rw [if_pos e] at h3
        rcases h3 with h3 | h3
        · injection h3 with h3; omega
        · exact absurd e h3.1
      · rw [if_neg e] at h1 h3; exact ⟨x,X,h1,h2,h3.imp id And.right⟩
    · rw [hset] at hX'
      by_cases e:x=b
      · subst e
        rw [if_pos rfl] at hX'; injection hX' with hX'; subst hX'
        rw [hB] at hX; injection hX with hX; subst hX
        exact ⟨by omega,fun e=>by omega⟩
      · rw [if_neg e,hX] at hX'; injection hX' with hX'; subst hX'
        refine ⟨Nat.le_refl _,fun _ hd=>⟨hd,by rw [imNew_f,if_neg e],rfl,fun g' hg' => ?_⟩⟩
        unfold rowSize
        rw [alloc_heap,if_neg (by have:=h.lt hX hd hg'; omega)]
  refine ⟨⟨fun x X hX hXd => ?_,fun x x' X X' g' hX hX' hXd hXd' hi hi' => ?_,h.glob.ext hx,h.keep h.sub_lt (fun x X hX hXd => ?_) (fun x X g' hX hXd hg' => ?_) fun x X y hX hk' hy _ => ?_⟩,hx⟩
  · rw [hset] at hX
    by_cases e:x=b
    · subst e
      rw [if_pos rfl] at hX; injection hX with hX; subst hX
      rw [imNew_f]; rw [if_pos rfl]
      exact ⟨arr,t,(0,0),vs,by rw [alloc_heap,if_pos rfl],fun j _=>by simp,hvs,VRs.ext hx _ _ hr,hbl⟩
    · rw [if_neg e] at hX
      have:=h.row x X hX hXd
      rw [imNew_f,if_neg e]
      cases hgx:im x with
      | none=>rw [hgx] at this; exact this
      | some gx =>
        rw [hgx] at this
        obtain ⟨arr',t',fr',vs',h1,h2,h3,h4⟩:=this
        exact ⟨arr',t',fr',vs',by rw [alloc_heap,if_neg (by have:=h.lt hX hXd hgx; omega)]; exact h1,h2,h3,VRs.ext hx _ _ h4.1,h4.2⟩
  · rw [hset] at hX hX'
    rw [imNew_f] at hi hi'
    by_cases e:x=b <;> by_cases e':x'=b
    · omega
    · rw [if_pos e] at hi; rw [if_neg e'] at hi' hX'
      injection hi with hi
      have:=h.lt hX' hXd' hi'; omega
    · rw [if_neg e] at hi hX; rw [if_pos e'] at hi'
      injection hi' with hi'
      have:=h.lt hX hXd hi; omega
    · rw [if_neg e] at hi hX; rw [if_neg e'] at hi' hX'
      exact h.inj x x' X X' g' hX hX' hXd hXd' hi hi'
  · rw [hset] at hX
    by_cases e:x=b
    · subst e
      rw [if_pos rfl] at hX; injection hX with hX; subst hX
      exact .inr ⟨hres,fun g hg=>(hg.1 rfl).elim⟩
    · rw [if_neg e] at hX
      exact .inl ⟨by funext y; simp [imNew,e],by rw [imNew_f,if_neg e],X,hX,rfl⟩
  · rw [hset] at hX
    rw [imNew_f] at hg'
    by_cases e:x=b
    · rw [if_pos e] at hg'; injection hg' with hg'; exact .inr (by omega)
    · rw [if_neg e] at hX hg'; exact .inl ⟨x,X,hX,hXd,hg'⟩
  · have hXd:X.kind ≠ .dead:=by intro e; rw [e] at hk'; cases hk'
    have:=h.own_lt ⟨x,X,hX,hXd,hy⟩
    rw [alloc_heap,if_neg (by omega)]
end Go.Proofs.YtoemlgdlejkliaaK
