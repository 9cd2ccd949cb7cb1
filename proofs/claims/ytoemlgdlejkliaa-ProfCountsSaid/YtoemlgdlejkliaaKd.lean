/- Each operation of the machine does what its abstract step says. -/
import Derived.Test.YtoemlgdlejkliaaKc
namespace Go.Proofs.YtoemlgdlejkliaaK
set_option linter.unusedVariables false
set_option linter.unusedSimpArgs false
open Go.RowKit
def cO:Operand→Option Opd
  | .tmp t=>some (.t t)
  | .const v=>some (.k v)
  | .func f=>some (.fn f)
  | .global _=>none
def ag? (P:Program) (t:TypeId):Option Bool:=match P.underlying t with
  | some (.struct _) | some (.array _ _)=>some true
  | some _=>some false
  | none=>none
def tsz (P:Program) (t:TypeId):Option Nat:=(P.info? t).map (·.size)
def tby (P:Program) (t:TypeId):Option Nat:=(P.info? t).map (·.bytes)
def tz (P:Program) (t:TypeId):Option (List Value):=((P.info? t).bind (·.zero)).map (·.cells.toList)
structure FR (im:Im) (H:Hp) (w:World) (f:Fr) (a:Act):Prop where
  at_:∀ t,VR im H w (f t) (a.tmps.getD t undef)
theorem lit_ok {im H w} (v:Value):VR im H w (lit v) v:=by
  cases v <;> first | rfl | skip
  rename_i cs
  refine ⟨cs,rfl,?_⟩
  generalize cs.toList=l
  induction l with
  | nil=>trivial
  | cons x r ih=>exact ⟨rfl,ih⟩
theorem ev_ok {im H w f a} (h:FR im H w f a) {X:Operand} {x:Opd} (hx:cO X=some x):VR im H w (ev x f) (a.eval X):=by
  cases X <;> simp [cO] at hx <;> subst hx
  · exact h.at_ _
  · exact lit_ok _
  · rfl
def Stp (P:Program) (o:Oper) (a:Act) (w:World) (im:Im) (H:Hp) (v:V) (H':Hp):Prop :=
  ∃ im' w' c,((execOp a.eval o).run P w=.ok (.value c) w'∨((execOp a.eval o).run P w=.ok .skip w'∧c=undef))∧Rel im' H' w'∧Ext im H w im' H' w'∧VR im' H' w' v c
section
variable {P:Program} {o:Oper} {a:Act} {w:World} {im:Im} {H H':Hp} {f:Fr} {v:V}
theorem stp_pure (hr:Rel im H w) (c:Value) (h:(execOp a.eval o).run P w=.ok (.value c) w) (hv:VR im H w v c):Stp P o a w im H v H :=
  ⟨im,w,c,.inl h,hr,Ext.refl _ _ _,hv⟩
theorem VR.s_inv {v:Value} {c:Value} (h:VR im H w (.s v) c):c=v:=h
theorem asB_ok {x:V} {c:Value} {b:Bool} (h:VR im H w x c) (hb:asB x=some b):c=.bool b:=by
  unfold asB at hb
  split at hb <;> simp at hb
  subst hb; exact h
theorem asI_ok {x:V} {c:Value} {n:Int} (h:VR im H w x c) (hb:asI x=some n):∃ k,c=.int k n:=by
  unfold asI at hb
  split at hb <;> simp at hb
  subst hb; exact ⟨_,h⟩
theorem asS_ok {x:V} {c v:Value} (h:VR im H w x c) (hb:asS x=some v):c=v:=by
  unfold asS at hb
  split at hb <;> simp at hb
  subst hb; exact h
theorem asStr_ok {x:V} {c:Value} {s:ByteArray} (h:VR im H w x c) (hb:asStr x=some s):c=.string s:=by
  unfold asStr at hb
  split at hb <;> simp at hb
  subst hb; exact h
theorem asAgg_ok {x:V} {c:Value} {l:List V} (h:VR im H w x c) (hb:asAgg x=some l):∃ vs,c=.agg vs∧VRs im H w l vs.toList:=by
  unfold asAgg at hb
  split at hb <;> simp at hb
  subst hb; exact h
theorem asTup_ok {x:V} {c:Value} {l:List V} (h:VR im H w x c) (hb:asTup x=some l):∃ vs,c=.tuple vs∧VRs im H w l vs.toList:=by
  unfold asTup at hb
  split at hb <;> simp at hb
  subst hb; exact h
theorem s_mv (hr:Rel im H w) (hf:FR im H w f a) {X:Operand} {x:Opd} (hx:cO X=some x) (ho:o.op=.move X∨o.op=.assign X):Stp P o a w im H (ev x f) H:=by
  refine stp_pure hr (a.eval X) ?_ (ev_ok hf hx)
  rcases ho with ho | ho <;> simp [execOp,ho]
theorem s_nilg (hr:Rel im H w) (sz:Nat) (ho:o.op=.assign (.const (.slice none 0 0))):Stp P o a w im H (.ref H.length 0 0 0) (H++[⟨0,.grow,sz,[]⟩]):=by
  obtain ⟨h1,h2⟩:=hr.nilg sz
  refine ⟨_,w,.slice none 0 0,.inl (by simp [execOp,ho]; rfl),h1,h2,rfl,⟨0,.grow,sz,[]⟩,by simp,Nat.le_refl _,fun _ _=>⟨none,0,rfl,Nat.le_refl _,by simp [maxLen],.inl ⟨rfl,nofun⟩⟩⟩
theorem s_pick (hr:Rel im H w) (hf:FR im H w f a) {C X Y:Operand} {c x y:Opd} (hc:cO C=some c) (hx:cO X=some x) (hy:cO Y=some y) (ho:o.op=.pick C X Y) {t:Bool} (ht:asB (ev c f)=some t) :
    Stp P o a w im H (if t then ev x f else ev y f) H:=by
  have h1:=asB_ok (ev_ok hf hc) ht
  refine stp_pure hr (if t then a.eval X else a.eval Y) ?_ ?_
  · simp only [execOp,ho,h1]; cases t <;> simp [asBool]
  · cases t
    · exact ev_ok hf hy
    · exact ev_ok hf hx
theorem own_new {arr:Array Value} {t:TypeId} {fr:Nat × Nat}:rowSize (w.alloc (.cells arr t fr)) w.heap.size=arr.size:=by
  unfold rowSize; rw [alloc_heap,if_pos rfl]
theorem s_box (hr:Rel im H w) (hf:FR im H w f a) {X:Operand} {x:Opd} {e:TypeId} (hx:cO X=some x) (ho:o.op=.box e X) (h1:(ev x f).cells.all V.one=true) :
    Stp P o a w im H (.ptr H.length 0 0) (H++[⟨0,.mem,1,(ev x f).cells⟩]):=by
  have hc:=(ev_ok hf hx).cells (cells_ok h1)
  obtain ⟨k1,k2⟩:=hr.new .mem 1 (ev x f).cells (a.eval X).cells e (0,0) _ nofun (fun j _=>by simp) (fun j v hv=>by simpa using hv) hc
  refine ⟨_,_,.pointer (some ⟨w.heap.size,0,none⟩),.inl ?_,k1,k2,rfl,⟨0,.mem,1,(ev x f).cells⟩,by simp,Nat.le_refl _,fun _ _=>⟨w.heap.size,by simp [imNew],rfl⟩⟩
  simp only [execOp,ho,Instr.box,newVar,newRow]
  simp
theorem map_s_ok:∀ (l:List Value),VRs im H w (l.map .s) l
  | []=>trivial
  | _::r=>⟨rfl,map_s_ok r⟩
theorem s_zero (hr:Rel im H w) {e:TypeId} {z:List Value} (hz:tz P e=some z) (ho:o.op=.alloc e) :
    Stp P o a w im H (.ptr H.length 0 0) (H++[⟨0,.mem,1,z.map .s⟩]):=by
  unfold tz at hz
  cases hi:P.info? e with
  | none=>simp [hi] at hz
  | some i =>
    cases hzz:i.zero with
    | none=>simp [hi,hzz] at hz
    | some zv =>
      simp [hi,hzz] at hz
      obtain ⟨k1,k2⟩:=hr.new .mem 1 (z.map .s) zv.cells e (0,0) z nofun (fun j _=>by simp) (fun j v hv=>by rw [← hz] at hv; simpa using hv) (map_s_ok z)
      refine ⟨_,_,.pointer (some ⟨w.heap.size,0,none⟩),.inl ?_,k1,k2,rfl,⟨0,.mem,1,z.map .s⟩,by simp,Nat.le_refl _,fun _ _=>⟨w.heap.size,by simp [imNew],rfl⟩⟩
      simp only [execOp,ho,Instr.alloc,newVar,newRow,zeroValue,typeInfo]
      simp [hi,hzz]
/-- A pointer and a slice, both nil (a builder's): its slice as a block of its own. -/
theorem s_zerob (hr:Rel im H w) {e u:TypeId} (hz:tz P e=some [.pointer none,.slice none 0 0]) (ho:o.op=.alloc e) :
    Stp P o a w im H (.ptr (H.length+1) 0 0) ((H++[⟨0,.buf u,1,[]⟩])++[⟨0,.bld e,1,[.s (.pointer none),.ref H.length 0 0 0]⟩]):=by
  unfold tz at hz
  cases hi:P.info? e with
  | none=>simp [hi] at hz
  | some i =>
    cases hzz:i.zero with
    | none=>simp [hi,hzz] at hz
    | some zv =>
      simp [hi,hzz] at hz
      obtain ⟨g1,g2⟩:=hr.nilk 1 (.buf u) (.inr ⟨u,rfl⟩)
      have hcz:zv.cells.size=2:=by rw [← Array.length_toList,hz]; rfl
      obtain ⟨k1,k2⟩:=g1.new (.bld e) 1 [.s (.pointer none),.ref H.length 0 0 0] zv.cells e (0,0) [.pointer none,.slice none 0 0] (by simp) (fun j _=>by simp) (fun j v hv=>by rw [← hz] at hv; simpa using hv)
        ⟨rfl,⟨rfl,⟨0,.buf u,1,[]⟩,by simp,Nat.le_refl _,fun _ _=>⟨none,0,rfl,Nat.le_refl _,by simp [maxLen],.inl ⟨rfl,nofun⟩⟩⟩,trivial⟩ ⟨fun u hu=>⟨by injection hu,hcz⟩,nofun⟩
      have hl:(H++[(⟨0,.buf u,1,[]⟩:Blk)]).length=H.length+1:=by simp
      refine ⟨_,_,.pointer (some ⟨w.heap.size,0,none⟩),.inl ?_,k1,g2.trans k2,rfl,⟨0,.bld e,1,[.s (.pointer none),.ref H.length 0 0 0]⟩,by rw [getElem?_snoc,if_pos hl.symm],Nat.le_refl _,fun _ _=>⟨w.heap.size,by simp [imNew],rfl⟩⟩
      simp only [execOp,ho,Instr.alloc,newVar,newRow,zeroValue,typeInfo]
      simp [hi,hzz]
/-! ### What lies behind a pointer -/
theorem live_ok {b ver:Nat} {B:Blk} (h:live H b ver=some B):H[b]? = some B∧B.ver=ver∧B.kind ≠ .dead:=by
  unfold live at h
  cases hB:H[b]? with
  | none=>simp [hB] at h
  | some B' =>
    simp only [hB] at h
    split at h <;> simp at h
    subst h
    rename_i hh
    exact ⟨rfl,hh.1,BK.live_dead hh.2⟩
theorem live_lv {b ver:Nat} {B:Blk} (h:live H b ver=some B):B.kind.live=true:=by
  unfold live at h
  cases hB:H[b]? with
  | none=>simp [hB] at h
  | some B' =>
    simp only [hB] at h
    split at h <;> simp at h
    subst h
    rename_i hh
    exact hh.2
theorem live_res {b ver:Nat} {B:Blk} (h:live H b ver=some B):B.kind.isRes=false:=by
  unfold live at h
  cases hB:H[b]? with
  | none=>simp [hB] at h
  | some B' =>
    simp only [hB] at h
    split at h <;> simp at h
    subst h
    rename_i hh
    exact BK.live_res hh.2
theorem At.of_row {g o:Nat} {arr:Array Value} {t:TypeId} {fr:Nat × Nat} {vs:List Value} (hw:w.heap[g]? = some (.cells arr t fr)) (h:∀ (j:Nat) (v:Value),vs[j]? = some v→arr[o+j]? = some v):At w g o vs:=by
  intro j v hj
  simp [World.cell?,hw,h j v hj]
/-- The cells behind a live pointer, and where they are. -/
theorem ptr_cells (hr:Rel im H w) {b ver o' n:Nat} {B:Blk} {c:Value} (h:VR im H w (.ptr b ver o') c) (hB:live H b ver=some B) (hn:o'+n≤B.cs.length) :
    ∃ g arr t fr vs,im b=some g∧c=.pointer (some ⟨g,o',none⟩)∧w.heap[g]? = some (.cells arr t fr)∧(∀ j,j < arr.size→¬ (fr.1≤j∧j < fr.2))∧(∀ (j:Nat) (v:Value),vs[j]? = some v→arr[j]? = some v)∧VRs im H w B.cs vs ∧
      At w g o' ((vs.drop o').take n)∧VRs im H w ((B.cs.drop o').take n) ((vs.drop o').take n):=by
  obtain ⟨h1,h2,h3⟩:=live_ok hB
  obtain ⟨_,B',hB',_,h⟩:=h
  rw [h1] at hB'; injection hB' with hB'; subst hB'
  obtain ⟨g,hg,hc⟩:=h h2 h3
  have:=hr.row b B h1 h3
  rw [hg] at this
  obtain ⟨arr,t,fr,vs,k1,k2,k3,k4,_⟩:=this
  refine ⟨g,arr,t,fr,vs,hg,hc,k1,k2,k3,k4,At.of_row k1 fun j v hj => ?_,(k4.drop o').take n⟩
  rw [List.getElem?_take] at hj
  split at hj
  · rw [List.getElem?_drop] at hj; exact k3 _ _ hj
  · simp at hj
theorem cellsAt_ok (hr:Rel im H w) {p:V} {n:Nat} {l:List V} {c:Value} (h:VR im H w p c) (hl:cellsAt H p n=some l) :
    ∃ g o vs,c=.pointer (some ⟨g,o,none⟩)∧At w g o vs∧VRs im H w l vs∧l.length=n:=by
  cases p with
  | ptr b ver o' =>
    simp only [cellsAt] at hl
    cases hB:live H b ver with
    | none=>simp [hB] at hl
    | some B =>
      simp only [hB] at hl
      split at hl <;> simp at hl
      subst hl
      rename_i hn
      obtain ⟨g,arr,t,fr,vs,_,hc,_,_,_,_,hat,hvs⟩:=ptr_cells hr h hB hn
      exact ⟨g,o',_,hc,hat,hvs,by simp; omega⟩
  | ip cs =>
    simp only [cellsAt] at hl
    split at hl <;> simp at hl
    subst hl
    rename_i hn
    obtain ⟨g,o,vs,hc,_,_,hat,hvs⟩:=h
    refine ⟨g,o,vs.take n,hc,fun j v hj=>hat j v ?_,hvs.take n,by simp; omega⟩
    rw [List.getElem?_take] at hj
    split at hj
    · exact hj
    · simp at hj
  | s v=>simp [cellsAt] at hl
  | ref b ver o n=>simp [cellsAt] at hl
  | sl full n cs=>simp [cellsAt] at hl
  | agg cs=>simp [cellsAt] at hl
  | tup cs=>simp [cellsAt] at hl
  | clo _ cs=>simp [cellsAt] at hl
  | ifc t x=>simp [cellsAt] at hl
  | any=>simp [cellsAt] at hl
theorem add_plain' (g o j:Nat):(⟨g,o,none⟩:Addr).add j=⟨g,o+j,none⟩:=by unfold Addr.add; split <;> simp_all
theorem s_load (hr:Rel im H w) (hf:FR im H w f a) {X:Operand} {x:Opd} {t:TypeId} {ag:Bool} {sz:Nat} (hx:cO X=some x) (ho:o.op=.load t X) (hag:ag? P t=some ag) (hsz:tsz P t=some sz)
    (h1:ag=true∨sz=1) {l:List V} (hl:cellsAt H (ev x f) sz=some l) {v:V} (hv:one? ag l=some v):Stp P o a w im H v H:=by
  obtain ⟨g,o',vs,hc,hat,hvs,hlen⟩:=cellsAt_ok hr (ev_ok hf hx) hl
  have hlv:vs.length=sz:=by rw [← hvs.length]; exact hlen
  have hload:(loadCells ⟨g,o',none⟩ sz).run P w=.ok vs.toArray w:=by
    rw [← hlv]
    exact run_loadCells_list w ⟨g,o',none⟩ vs fun j v hj=>by rw [add_plain']; exact hat j v hj
  unfold ag? at hag
  unfold tsz at hsz
  cases hu:P.underlying t with
  | none=>simp [hu] at hag
  | some d =>
    cases hi:P.info? t with
    | none=>simp [hi] at hsz
    | some i =>
      simp [hi] at hsz
      cases ag with
      | true =>
        have hd:(isAgg t).run P w=.ok true w:=by
          simp only [hu] at hag
          unfold isAgg
          split at hag <;> simp_all [run_underlying hu]
        refine stp_pure hr (.agg vs.toArray) ?_ ?_
        · simp only [execOp,ho,hc,Instr.loadAt,Instr.sureAddr,loadVar,Sem.run_bind,Sem.run_pure,Result.andThen_ok,hd,if_true,sizeOf,typeInfo,run_program,hi,hsz,hload]
        · simp only [one?,if_true,Option.some.injEq] at hv; subst hv
          exact ⟨vs.toArray,rfl,by simpa using hvs⟩
      | false =>
        have hs1:sz=1:=by rcases h1 with h1 | h1 <;> simp_all
        subst hs1
        have hd:(isAgg t).run P w=.ok false w:=by
          simp only [hu] at hag
          unfold isAgg
          split at hag <;> simp_all [run_underlying hu]
        match l,vs,hvs,hlen,hlv,hv,hat with
        | [x],[y],hvs,_,_,hv,hat =>
          simp [one?] at hv; subst hv
          have hcell:=hat 0 y rfl
          refine stp_pure hr y ?_ hvs.1
          simp only [execOp,ho,hc,Instr.loadAt,Instr.sureAddr,loadVar,Sem.run_bind,Sem.run_pure,Result.andThen_ok,hd,if_false,Bool.false_eq_true,run_load]
          simp at hcell
          simp [hcell]
theorem storeAt_ok (hr:Rel im H w) {p x:V} {c d:Value} (hp:VR im H w p c) (hx:VR im H w x d) (hs:storeAt H p x.cells=some H') :
    ∃ g o',c=.pointer (some ⟨g,o',none⟩)∧(storeCells ⟨g,o',none⟩ d.cells.toList).run P w=.ok () (w.setCells g o' d.cells.toList)∧Rel im H' (w.setCells g o' d.cells.toList)∧Ext im H w im H' (w.setCells g o' d.cells.toList)∧d.cells.size=x.cells.length:=by
  cases p with
  | ptr b ver o' =>
    simp only [storeAt] at hs
    cases hB:live H b ver with
    | none=>simp [hB] at hs
    | some B =>
      simp only [hB] at hs
      split at hs <;> simp at hs
      subst hs
      rename_i hn
      obtain ⟨hn,hone⟩:=hn
      obtain ⟨g,arr,t,fr,vs,hg,hc,hw,hfr,harr,hvs,hat,_⟩:=ptr_cells hr hp hB hn
      have hxs:=hx.cells (cells_ok hone)
      have h1:=VRs.one hxs hone
      have hlen:d.cells.size=x.cells.length:=by have:=hxs.length; simp at this; omega
      obtain ⟨q1,q2,q3⟩:=live_ok hB
      have hsz:o'+d.cells.toList.length≤arr.size:=by
        have hl:=hvs.length
        by_cases he:o'+x.cells.length=0
        · simp; omega
        · have:(o'+x.cells.length - 1) < vs.length:=by omega
          have:=harr _ _ (List.getElem?_eq_getElem this)
          have:=(Array.getElem?_eq_some_iff.1 this).1
          simp; omega
      have hrun:=run_storeCells_cells (P:=P) g o' d.cells.toList 0 w (fun j hj=>by
          have:o'+j < arr.size:=by omega
          simp [World.cell?,hw,this]) (fun j hj=>by
          have:=hfr (o'+j) (by omega)
          simp [World.frozen?,hw]; omega) h1
      simp only [Nat.add_zero] at hrun
      obtain ⟨k1,k2⟩:=hr.write o' d.cells.toList { B with cs:=splice B.cs o' x.cells } q1 q3 hg hw hfr (Nat.le_refl _) rfl rfl (vs.take o'++d.cells.toList++vs.drop (o'+d.cells.toList.length)) (fun j v hj=>by
          have hvl:=hvs.length
          have hol:o'≤vs.length:=by omega
          rw [List.append_assoc,List.getElem?_append] at hj
          split at hj
          · rename_i hjo
            simp at hjo
            rw [wr_out _ _ _ _ (.inl (by omega))]
            rw [List.getElem?_take,if_pos (by omega)] at hj
            exact harr _ _ hj
          · rename_i hjo
            simp at hjo
            have hjo':o'≤j:=by omega
            rw [show (vs.take o').length=o' by simp; omega,List.getElem?_append] at hj
            split at hj
            · rename_i hjd
              have:=wr_in d.cells.toList arr o' (j - o') hsz hjd
              rw [show o'+(j - o')=j by omega] at this
              rw [this]; exact hj
            · rename_i hjd
              rw [wr_out _ _ _ _ (.inr (by omega))]
              rw [List.getElem?_drop] at hj
              have:=harr _ _ hj
              rwa [show o'+d.cells.toList.length+(j - o' - d.cells.toList.length)=j by omega] at this)
        (by
          have hl2:d.cells.toList.length=x.cells.length:=by simp; omega
          unfold splice
          rw [hl2]
          exact ((hvs.take o').append hxs).append (hvs.drop _)) (live_res hB)
      exact ⟨g,o',hc,hrun,k1,k2,hlen⟩
  | ip cs=>simp [storeAt] at hs
  | s v=>simp [storeAt] at hs
  | ref b ver o n=>simp [storeAt] at hs
  | sl full n cs=>simp [storeAt] at hs
  | agg cs=>simp [storeAt] at hs
  | tup cs=>simp [storeAt] at hs
  | clo _ cs=>simp [storeAt] at hs
  | ifc t x=>simp [storeAt] at hs
  | any=>simp [storeAt] at hs
theorem s_store (hr:Rel im H w) (hf:FR im H w f a) {X Y:Operand} {x y:Opd} {t:TypeId} {sz:Nat} (hx:cO X=some x) (hy:cO Y=some y) (ho:o.op=.store t X Y) (hsz:tsz P t=some sz)
    (hl:(ev y f).cells.length=sz) (hs:storeAt H (ev x f) (ev y f).cells=some H'):Stp P o a w im H (.s undef) H':=by
  obtain ⟨g,o',hc,hrun,h1,h2,h3⟩:=storeAt_ok (P:=P) hr (ev_ok hf hx) (ev_ok hf hy) hs
  refine ⟨im,_,undef,.inr ⟨?_,rfl⟩,h1,h2,rfl⟩
  unfold tsz at hsz
  cases hi:P.info? t with
  | none=>simp [hi] at hsz
  | some i =>
    simp [hi] at hsz
    have:(a.eval Y).cells.size=i.size:=by omega
    simp only [execOp,ho,hc,Instr.storeAt,Instr.sureAddr,storeVar,Sem.run_bind,Sem.run_pure,Result.andThen_ok,sizeOf,typeInfo,run_program,hi,this,ne_eq,not_true,if_false,hrun]
theorem isAddr_ok {x:V} {c:Value} (h:VR im H w x c) (ha:isAddr H x=true):∃ g o',c=.pointer (some ⟨g,o',none⟩):=by
  cases x with
  | ptr b ver o' =>
    simp only [isAddr,Option.isSome_iff_exists] at ha
    obtain ⟨B,hB⟩:=ha
    obtain ⟨h1,h2,h3⟩:=live_ok hB
    obtain ⟨_,B',hB',_,h⟩:=h
    rw [h1] at hB'; injection hB' with hB'; subst hB'
    obtain ⟨g,_,hc⟩:=h h2 h3
    exact ⟨g,o',hc⟩
  | ip cs=>obtain ⟨g,o,vs,hc,_⟩:=h; exact ⟨g,o,hc⟩
  | s v=>simp [isAddr] at ha
  | ref b ver o n=>simp [isAddr] at ha
  | sl full n cs=>simp [isAddr] at ha
  | agg cs=>simp [isAddr] at ha
  | tup cs=>simp [isAddr] at ha
  | clo _ cs=>simp [isAddr] at ha
  | ifc t x=>simp [isAddr] at ha
  | any=>simp [isAddr] at ha
theorem s_nilc (hr:Rel im H w) (hf:FR im H w f a) {X:Operand} {x:Opd} (hx:cO X=some x) (ho:o.op=.nilCheck X) (hc:isAddr H (ev x f)=true):Stp P o a w im H (ev x f) H:=by
  obtain ⟨g,o',hc⟩:=isAddr_ok (ev_ok hf hx) hc
  refine stp_pure hr (a.eval X) ?_ (ev_ok hf hx)
  simp only [execOp,ho,hc,Sem.run_pure]
theorem eqg_int (op:BinOp) (t:TypeId) (x y:Operand) (k k':IntKind) (m n:Int):(eqGuard op t x y (.int k m) (.int k' n)).run P w=.ok () w:=by
  cases op <;> rfl
theorem eqg_str (op:BinOp) (t:TypeId) (x y:Operand) (m n:ByteArray):(eqGuard op t x y (.string m) (.string n)).run P w=.ok () w:=by
  cases op <;> rfl
theorem dbin_ok (op:BinOp) (t:TypeId) (X Y:Operand) {x y v:Value} (h:dbin op x y=some v):(do eqGuard op t X Y x y; binOp op t x y).run P w=.ok v w:=by
  unfold dbin at h
  split at h
  · rename_i k m k' n
    simp only [Sem.run_bind,eqg_int,Result.andThen_ok]
    split at h
    · rename_i hk; subst hk
      cases op <;> simp only at h <;> first
        | (injection h with h; subst h; simp [binOp,Op.intArith,Op.intDiv,Op.intBits,Op.intCmp,Op.shift,bits]; done)
        | (injection h with h; subst h; simp only [binOp,Op.intBits,bits]; rfl)
        | (split at h
           · simp at h
           · injection h with h; subst h; rename_i h0; simp [binOp,Op.intDiv,Op.shift,h0])
    · rename_i hk
      cases op <;> simp only at h <;> first
        | (simp at h; done)
        | (split at h
           · simp at h
           · injection h with h; subst h; rename_i h0; simp [binOp,Op.shift,h0])
  · rename_i m n
    simp only [Sem.run_bind,eqg_str,Result.andThen_ok]
    cases op <;> simp only at h <;> first
      | (simp at h; done)
      | (injection h with h; subst h; simp [binOp,Op.stringOp]; done)
      | (split at h
         · injection h with h; subst h; rename_i h0; simp [binOp,Op.stringOp,IntKind.max,IntKind.signed,IntKind.bits]; omega
         · simp at h)
  · simp at h
theorem s_bin (hr:Rel im H w) (hf:FR im H w f a) {X Y:Operand} {x y:Opd} {op:BinOp} {t t':TypeId} (hx:cO X=some x) (hy:cO Y=some y) (ho:o.op=.binOp op t X Y t') {m n r:Value} (hm:asS (ev x f)=some m) (hn:asS (ev y f)=some n)
    (h:dbin op m n=some r):Stp P o a w im H (.s r) H:=by
  refine stp_pure hr r ?_ rfl
  have h1:=asS_ok (ev_ok hf hx) hm
  have h2:=asS_ok (ev_ok hf hy) hn
  have:=dbin_ok (P:=P) (w:=w) op t X Y h
  simp only [execOp,ho,h1,h2]
  rw [Sem.run_bind,this]; rfl
theorem equalIn_bool {t:TypeId} (ht:P.underlying t=some .bool) (d:Nat) (m n:Bool):(Op.equalIn (d+1) t (.bool m) (.bool n)).run P w=.ok (m == n) w:=by
  simp [Op.equalIn,run_underlying ht]
theorem s_bbin (hr:Rel im H w) (hf:FR im H w f a) {X Y:Operand} {x y:Opd} {t t':TypeId} (neg:Bool) (hx:cO X=some x) (hy:cO Y=some y) (ho:o.op=.binOp (if neg then .neq else .eql) t X Y t') (ht:P.underlying t=some .bool)
    {m n:Bool} (hm:asB (ev x f)=some m) (hn:asB (ev y f)=some n):Stp P o a w im H (.s (.bool (if neg then !(m == n) else m == n))) H:=by
  refine stp_pure hr (.bool (if neg then !(m == n) else m == n)) ?_ rfl
  have h1:=asB_ok (ev_ok hf hx) hm
  have h2:=asB_ok (ev_ok hf hy) hn
  have he:(Op.equal t (.bool m) (.bool n)).run P w=.ok (m == n) w:=equalIn_bool ht 9999 m n
  have hg:∀ op,(eqGuard op t X Y (.bool m) (.bool n)).run P w=.ok () w:=fun op=>by cases op <;> rfl
  cases neg
  · have hb:binOp .eql t (.bool m) (.bool n)=(do pure (.bool (← Op.equal t (.bool m) (.bool n)))):=rfl
    simp only [execOp,ho,h1,h2,Bool.false_eq_true,if_false,Sem.run_bind,hg,hb,he,Result.andThen_ok,Sem.run_pure]
  · have hb:binOp .neq t (.bool m) (.bool n)=(do pure (.bool (!(← Op.equal t (.bool m) (.bool n))))):=rfl
    simp only [execOp,ho,h1,h2,if_true,Sem.run_bind,hg,hb,he,Result.andThen_ok,Sem.run_pure]
theorem s_un (hr:Rel im H w) (hf:FR im H w f a) {X:Operand} {x:Opd} {op:UnOp} {t:TypeId} (hx:cO X=some x) (ho:o.op=.unOp op t X) {m r:Value} (hm:asS (ev x f)=some m) (h:dun op m=some r):Stp P o a w im H (.s r) H:=by
  refine stp_pure hr r ?_ rfl
  have h1:=asS_ok (ev_ok hf hx) hm
  unfold dun at h
  split at h <;> simp at h <;> subst h <;> simp [execOp,ho,h1,Op.unary,Op.intArith,Op.intBits,bits]
theorem s_cint (hr:Rel im H w) (hf:FR im H w f a) {X:Operand} {x:Opd} {s t:TypeId} {k:IntKind} {ks:IntKind} (hx:cO X=some x) (ho:o.op=.convert s t X) (hs:P.underlying s=some (.int ks)) (ht:P.underlying t=some (.int k)) {n:Int} (hn:asI (ev x f)=some n) :
    Stp P o a w im H (.s (.int k (k.wrap n))) H:=by
  refine stp_pure hr (.int k (k.wrap n)) ?_ rfl
  obtain ⟨k',h1⟩:=asI_ok (ev_ok hf hx) hn
  simp [execOp,ho,h1,convert,run_underlying hs,run_underlying ht,Conv.intToInt]
theorem s_cstr (hr:Rel im H w) (hf:FR im H w f a) {X:Operand} {x:Opd} {s t:TypeId} (hx:cO X=some x) (ho:o.op=.convert s t X) (hs:P.underlying s=some .string) (ht:P.underlying t=some .string) {n:ByteArray} (hn:asStr (ev x f)=some n) :
    Stp P o a w im H (.s (.string n)) H:=by
  refine stp_pure hr (.string n) ?_ rfl
  have h1:=asStr_ok (ev_ok hf hx) hn
  simp [execOp,ho,h1,convert,run_underlying hs,run_underlying ht]
theorem s_ext (hr:Rel im H w) (hf:FR im H w f a) {X:Operand} {x:Opd} {i:Nat} (hx:cO X=some x) (ho:o.op=.extract X i) {l:List V} {v:V} (hl:asTup (ev x f)=some l) (hv:l[i]? = some v):Stp P o a w im H v H:=by
  obtain ⟨vs,hc,hvs⟩:=asTup_ok (ev_ok hf hx) hl
  obtain ⟨c,hc',hvr⟩:=VRs.get i hvs hv
  refine stp_pure hr c ?_ hvr
  have:vs[i]? = some c:=by simpa using hc'
  simp [execOp,ho,hc,Instr.extract,this]
theorem ptrAdd_ok {x v:V} {c:Value} {k:Nat} (hx:VR im H w x c) (h:ptrAdd x k=some v) (ha:isAddr H x=true):∃ g o',c=.pointer (some ⟨g,o',none⟩)∧VR im H w v (.pointer (some ⟨g,o'+k,none⟩)):=by
  cases x with
  | ptr b ver o' =>
    simp only [ptrAdd,Option.some.injEq] at h; subst h
    obtain ⟨g,o'',hc⟩:=isAddr_ok hx ha
    simp only [isAddr,Option.isSome_iff_exists] at ha
    obtain ⟨B,hB⟩:=ha
    obtain ⟨h1,h2,h3⟩:=live_ok hB
    obtain ⟨_,B',hB',hle,h⟩:=hx
    rw [h1] at hB'; injection hB' with hB'; subst hB'
    obtain ⟨g',hg',hc'⟩:=h h2 h3
    rw [hc] at hc'
    injection hc' with hc'; injection hc' with hc'
    injection hc' with e1 e2 _
    subst e1; subst e2
    exact ⟨g,o'',hc,rfl,B,h1,hle,fun _ _=>⟨g,hg',rfl⟩⟩
  | ip cs =>
    simp only [ptrAdd,Option.some.injEq] at h; subst h
    obtain ⟨g,o',vs,hc,ho,hg,hat,hvs⟩:=hx
    refine ⟨g,o',hc,g,o'+k,vs.drop k,rfl,ho,hg,fun j v hj => ?_,hvs.drop k⟩
    rw [List.getElem?_drop] at hj
    have:=hat _ _ hj
    rwa [show o'+(k+j)=o'+k+j by omega] at this
  | s v=>simp [ptrAdd] at h
  | ref b ver o n=>simp [ptrAdd] at h
  | sl full n cs=>simp [ptrAdd] at h
  | agg cs=>simp [ptrAdd] at h
  | tup cs=>simp [ptrAdd] at h
  | clo _ cs=>simp [ptrAdd] at h
  | ifc t x=>simp [ptrAdd] at h
  | any=>simp [ptrAdd] at h
theorem s_fld (hr:Rel im H w) (hf:FR im H w f a) {X:Operand} {x:Opd} {t:TypeId} {i:Nat} {fs:Array Field} {fd:Field} {n:Nat} (hx:cO X=some x) (ho:o.op=.fieldAddr t X i) (ht:P.underlying t=some (.struct fs)) (hi:fs[i]? = some fd) (hn:tsz P fd.type=some n) (h0:n ≠ 0)
    {v:V} (ha:isAddr H (ev x f)=true) (hv:ptrAdd (ev x f) fd.offset=some v):Stp P o a w im H v H:=by
  obtain ⟨g,o',hc,hvr⟩:=ptrAdd_ok (ev_ok hf hx) hv ha
  refine stp_pure hr _ ?_ hvr
  unfold tsz at hn
  cases hi':P.info? fd.type with
  | none=>simp [hi'] at hn
  | some inf =>
    simp [hi'] at hn
    simp [execOp,ho,hc,Instr.fieldAt,Instr.sureAddr,run_underlying ht,hi,fieldPlace,sizeOf,typeInfo,hi',hn,h0,add_plain']
theorem idx_ok {sz n k:Nat} {i:Int} (h:idx sz n i=some k):0≤i∧i < n∧k=i.toNat*sz:=by
  unfold idx at h
  split at h <;> simp at h
  rename_i hh
  exact ⟨hh.1,hh.2,h.symm⟩
theorem s_iaa (hr:Rel im H w) (hf:FR im H w f a) {X Y:Operand} {x y:Opd} {t e:TypeId} {n sz:Nat} (hx:cO X=some x) (hy:cO Y=some y) (ho:o.op=.indexAddr t X Y) (ht:P.underlying t=some (.array n e)) (hsz:tsz P e=some sz)
    {i:Int} {k:Nat} {v:V} (hi:asI (ev y f)=some i) (hk:idx sz n i=some k) (ha:isAddr H (ev x f)=true) (hv:ptrAdd (ev x f) k=some v):Stp P o a w im H v H:=by
  obtain ⟨g,o',hc,hvr⟩:=ptrAdd_ok (ev_ok hf hx) hv ha
  obtain ⟨h0,h1,rfl⟩:=idx_ok hk
  obtain ⟨ki,hci⟩:=asI_ok (ev_ok hf hy) hi
  refine stp_pure hr _ ?_ hvr
  unfold tsz at hsz
  cases hi':P.info? e with
  | none=>simp [hi'] at hsz
  | some inf =>
    simp [hi'] at hsz
    simp [execOp,ho,hc,hci,Instr.indexAt,asIntOf,Instr.sureAddr,run_underlying ht,h0,h1,sizeOf,typeInfo,hi',hsz,add_plain']
end
end Go.Proofs.YtoemlgdlejkliaaK
