/- What a function leaves behind: its own memory goes; the rule that a function is called and answers. -/
import Derived.Test.YtoemlgdlejkliaaKl
namespace Go.Proofs.YtoemlgdlejkliaaK
set_option linter.unusedVariables false
set_option linter.unusedSimpArgs false
open Go.RowKit
mutual
/-- It leads to the first n blocks alone. -/
def V.under (n:Nat):V→Bool
  | .s _ | .any=>true
  | .ptr b _ _ | .ref b _ _ _=>decide (b < n)
  | .sl _ k cs=>k == 0||unders n cs
  | .ip cs | .agg cs | .tup cs | .clo _ cs=>unders n cs
  | .ifc _ x=>x.under n
def unders (n:Nat):List V→Bool
  | []=>true
  | v::r=>v.under n&&unders n r
end
mutual
theorem V.under.mono {n m:Nat} (h:n≤m):∀ (v:V),v.under n=true→v.under m=true
  | .s _,_=>rfl
  | .any,_=>rfl
  | .ptr b _ _,k=>by simp only [V.under,decide_eq_true_eq] at k ⊢; omega
  | .ref b _ _ _,k=>by simp only [V.under,decide_eq_true_eq] at k ⊢; omega
  | .sl _ j cs,k=>by
    simp only [V.under,Bool.or_eq_true] at k ⊢
    exact k.imp id (unders.mono h cs)
  | .ip cs,k=>unders.mono h cs k
  | .agg cs,k=>unders.mono h cs k
  | .tup cs,k=>unders.mono h cs k
  | .clo _ cs,k=>unders.mono h cs k
  | .ifc _ x,k=>V.under.mono h x k
theorem unders.mono {n m:Nat} (h:n≤m):∀ (l:List V),unders n l=true→unders m l=true
  | [],_=>rfl
  | v::r,k=>by
    simp only [unders,Bool.and_eq_true] at k ⊢
    exact ⟨V.under.mono h v k.1,unders.mono h r k.2⟩
end
mutual
theorem VR.under {im H w}:∀ (v:V) (c:Value),VR im H w v c→v.under H.length=true
  | .s _,_,_=>rfl
  | .any,_,_=>rfl
  | .ptr b _ _,_,h=>by
    obtain ⟨_,B,hB,_⟩:=h
    simp only [V.under,decide_eq_true_eq]
    exact (List.getElem?_eq_some_iff.1 hB).1
  | .ref b _ _ _,_,h=>by
    obtain ⟨_,B,hB,_⟩:=h
    simp only [V.under,decide_eq_true_eq]
    exact (List.getElem?_eq_some_iff.1 hB).1
  | .sl _ k cs,_,h=>by
    obtain ⟨A,cap,_,_,_,_,h⟩:=h
    simp only [V.under,Bool.or_eq_true,beq_iff_eq]
    rcases h with h | ⟨g,o,vs,_,_,_,_,hvs⟩
    · exact .inl h
    · exact .inr (VRs.under _ _ hvs)
  | .ip cs,_,h=>by obtain ⟨g,o,vs,_,_,_,_,hvs⟩:=h; exact VRs.under _ _ hvs
  | .agg cs,_,h=>by obtain ⟨vs,_,hvs⟩:=h; exact VRs.under _ _ hvs
  | .tup cs,_,h=>by obtain ⟨vs,_,hvs⟩:=h; exact VRs.under _ _ hvs
  | .clo _ cs,_,h=>by obtain ⟨vs,_,hvs⟩:=h; exact VRs.under _ _ hvs
  | .ifc _ x,_,h=>by obtain ⟨y,_,hy⟩:=h; exact VR.under x y hy
theorem VRs.under {im H w}:∀ (l:List V) (cs:List Value),VRs im H w l cs→unders H.length l=true
  | [],[],_=>rfl
  | v::r,c::cs,h=>by
    simp only [unders,Bool.and_eq_true]
    exact ⟨VR.under v c h.1,VRs.under r cs h.2⟩
  | [],_::_,h=>h.elim
  | _::_,[],h=>h.elim
end
theorem Own.take {im:Im} {H:Hp} {n g:Nat} (h:Own im (H.take n) g):Own im H g:=by
  obtain ⟨b,B,h1,h2,h3⟩:=h
  rw [List.getElem?_take] at h1
  split at h1
  · exact ⟨b,B,h1,h2,h3⟩
  · simp at h1
theorem take_get {H:Hp} {n b:Nat} (h:b < n):(H.take n)[b]? = H[b]? := by rw [List.getElem?_take,if_pos h]
mutual
theorem VR.cut {im H w} {n:Nat}:∀ (v:V) (c:Value),v.under n=true→VR im H w v c→VR im (H.take n) w v c
  | .s _,_,_,h=>h
  | .any,_,_,h=>h
  | .ptr b _ _,_,hb,h=>by
    simp only [V.under,decide_eq_true_eq] at hb
    simp only [VR,take_get hb]; exact h
  | .ref b _ _ _,_,hb,h=>by
    simp only [V.under,decide_eq_true_eq] at hb
    simp only [VR,take_get hb]; exact h
  | .sl _ k cs,_,hb,h=>by
    obtain ⟨A,cap,h1,h2,h3,h4,h⟩:=h
    simp only [V.under,Bool.or_eq_true,beq_iff_eq] at hb
    refine ⟨A,cap,h1,h2,h3,h4,?_⟩
    rcases h with h | ⟨g,o,vs,k1,k2,k3,k4,hvs⟩
    · exact .inl h
    · rcases hb with hb | hb
      · exact .inl hb
      · exact .inr ⟨g,o,vs,k1,fun e=>k2 e.take,k3,k4,VRs.cut _ _ hb hvs⟩
  | .ip cs,_,hb,h=>by obtain ⟨g,o,vs,k1,k2,k3,k4,hvs⟩:=h; exact ⟨g,o,vs,k1,fun e=>k2 e.take,k3,k4,VRs.cut _ _ hb hvs⟩
  | .agg cs,_,hb,h=>by obtain ⟨vs,h1,hvs⟩:=h; exact ⟨vs,h1,VRs.cut _ _ hb hvs⟩
  | .tup cs,_,hb,h=>by obtain ⟨vs,h1,hvs⟩:=h; exact ⟨vs,h1,VRs.cut _ _ hb hvs⟩
  | .clo _ cs,_,hb,h=>by obtain ⟨vs,h1,hvs⟩:=h; exact ⟨vs,h1,VRs.cut _ _ hb hvs⟩
  | .ifc _ x,_,hb,h=>by obtain ⟨y,h1,hy⟩:=h; exact ⟨y,h1,VR.cut _ _ hb hy⟩
theorem VRs.cut {im H w} {n:Nat}:∀ (l:List V) (cs:List Value),unders n l=true→VRs im H w l cs→VRs im (H.take n) w l cs
  | [],[],_,_=>trivial
  | v::r,c::cs,hb,h=>by
    simp only [unders,Bool.and_eq_true] at hb
    exact ⟨VR.cut v c hb.1 h.1,VRs.cut r cs hb.2 h.2⟩
  | [],_::_,_,h=>h.elim
  | _::_,[],_,h=>h.elim
end
/-- What lies in the first n blocks leads to these alone. -/
def Tight (H0:Hp) (n:Nat) (H:Hp):Prop:=∀ b B,b < n→H[b]? = some B→H0[b]? = some B∨B.kind=.dead∨unders n B.cs=true
theorem cut_core {H0 H:Hp} {n:Nat} (hn:H0.length≤n) (ht:Tight H0 n H) {im0 im:Im} {w0 w:World} (h0:Rel im0 H0 w0) (h:Rel im H w) (hx:Ext im0 H0 w0 im H w):Rel im (H.take n) w∧Ext im0 H0 w0 im (H.take n) w:=by
  have get:∀ {b B},(H.take n)[b]? = some B→b < n∧H[b]? = some B:=fun {b B} h=>by
    rw [List.getElem?_take] at h
    split at h
    · rename_i hb; exact ⟨hb,h⟩
    · simp at h
  refine ⟨⟨fun b B hB hd => ?_,fun b b' B B' g hB hB' hd hd' hi hi'=>h.inj b b' B B' g (get hB).2 (get hB').2 hd hd' hi hi',fun a ha=>⟨fun e=>(h.glob a ha).1 e.take,(h.glob a ha).2⟩,h.keep h.sub_lt (fun b B hB _=>.inl ⟨rfl,rfl,B,(get hB).2,rfl⟩) (fun b B g hB hd hg=>.inl ⟨b,B,(get hB).2,hd,hg⟩) fun _ _ _ _ _ _ _=>rfl⟩,hx.os,hx.tape,hx.output,hx.size,?_,fun g hg ho => ?_,fun b B B' hB hB'=>hx.blk b B B' hB (get hB').2⟩
  · obtain ⟨hb,hB⟩:=get hB
    have hrow:=h.row b B hB hd
    have hbel:unders n B.cs=true:=by
      rcases ht b B hb hB with k | k | k
      · have:=h0.row b B k hd
        cases hi:im0 b with
        | none=>rw [hi] at this; rw [this.2]; rfl
        | some g =>
          rw [hi] at this
          obtain ⟨_,_,_,vs,_,_,_,hvs,_⟩:=this
          exact unders.mono hn _ (VRs.under _ _ hvs)
      · exact absurd k hd
      · exact k
    cases hi:im b with
    | none=>rw [hi] at hrow; exact hrow
    | some g =>
      rw [hi] at hrow
      obtain ⟨arr,t,fr,vs,h1,h2,h3,h4⟩:=hrow
      exact ⟨arr,t,fr,vs,h1,h2,h3,VRs.cut _ _ hbel h4.1,h4.2⟩
  · have:=hx.len
    simp; omega
  · obtain ⟨k1,k2⟩:=hx.keep g hg ho
    exact ⟨k1,fun e=>k2 e.take⟩
/-- A function's answer, once its own memory goes. -/
def Settle (H0:Hp) (r:V) (H:Hp) (r':V) (H':Hp):Prop :=
  ∀ im0 w0 im w c,Rel im0 H0 w0→Rel im H w→Ext im0 H0 w0 im H w→VR im H w r c→∃ im',Rel im' H' w∧Ext im0 H0 w0 im' H' w∧VR im' H' w r' c
theorem Settle.refl {H0 r H}:Settle H0 r H r H:=fun _ _ im _ _ _ h k j=>⟨im,h,k,j⟩
/-- A value, once all but the first n blocks go. -/
def Fz (n:Nat) (H:Hp) (v v':V):Prop:=∀ im w c,Rel im H w→VR im H w v c→VR im (H.take n) w v' c
def Fzs (n:Nat) (H:Hp) (v v':List V):Prop:=∀ im w c,Rel im H w→VRs im H w v c→VRs im (H.take n) w v' c
theorem Settle.cut {H0 r H r'} (n:Nat) (hn:H0.length≤n) (ht:Tight H0 n H) (hr:Fz n H r r'):Settle H0 r H r' (H.take n):=fun im0 w0 im w c h0 h hx hv=>by
  obtain ⟨h1,h2⟩:=cut_core hn ht h0 h hx
  exact ⟨im,h1,h2,hr im w c h hv⟩
theorem Shr.cut {H0 f H} (n:Nat) (hn:H0.length≤n) (ht:Tight H0 n H):Shr H0 f H (fun t=>if (f t).under n then f t else .any) (H.take n):=fun N im0 w0 im w a h0 hs hx=>by
  obtain ⟨h1,h2⟩:=cut_core hn ht h0 hs.rel hx
  refine ⟨im,⟨h1,⟨fun t => ?_⟩,hs.size,hs.defers⟩,h2⟩
  split
  · rename_i hb; exact VR.cut _ _ hb (hs.fr.at_ t)
  · trivial
theorem Fz.below {n:Nat} {H:Hp} {v:V} (h:v.under n=true):Fz n H v v:=fun _ _ _ _ k=>VR.cut _ _ h k
theorem Fzs.below {n:Nat} {H:Hp} {v:List V} (h:unders n v=true):Fzs n H v v:=fun _ _ _ _ k=>VRs.cut _ _ h k
theorem Fz.s {n:Nat} {H:Hp} {v:Value}:Fz n H (.s v) (.s v):=fun _ _ _ _ k=>k
theorem Fz.any {n:Nat} {H:Hp} {v:V}:Fz n H v .any:=fun _ _ _ _ _=>trivial
theorem Fzs.nil {n:Nat} {H:Hp}:Fzs n H [] []:=fun _ _ c _ k=>by cases c <;> first | trivial | exact k
theorem Fzs.cons {n:Nat} {H:Hp} {v v':V} {r r':List V} (h:Fz n H v v') (k:Fzs n H r r'):Fzs n H (v::r) (v'::r'):=fun im w c hr hv=>by
  cases c with
  | nil=>exact hv.elim
  | cons c cs=>exact ⟨h im w c hr hv.1,k im w cs hr hv.2⟩
theorem Fz.agg {n:Nat} {H:Hp} {r r':List V} (k:Fzs n H r r'):Fz n H (.agg r) (.agg r'):=fun im w c hr hv=>by
  obtain ⟨vs,h1,h2⟩:=hv
  exact ⟨vs,h1,k im w _ hr h2⟩
theorem Fz.tup {n:Nat} {H:Hp} {r r':List V} (k:Fzs n H r r'):Fz n H (.tup r) (.tup r'):=fun im w c hr hv=>by
  obtain ⟨vs,h1,h2⟩:=hv
  exact ⟨vs,h1,k im w _ hr h2⟩
theorem Fz.ifc {n:Nat} {H:Hp} {t:TypeId} {r r':V} (k:Fz n H r r'):Fz n H (.ifc t r) (.ifc t r'):=fun im w c hr hv=>by
  obtain ⟨y,h1,h2⟩:=hv
  exact ⟨y,h1,k im w _ hr h2⟩
theorem Fz.sl {n:Nat} {H:Hp} {b:Bool} {k:Nat} {r r':List V} (h:Fzs n H r r'):Fz n H (.sl b k r) (.sl b k r'):=fun im w c hr hv=>by
  obtain ⟨A,cap,h1,h2,h3,h4,h5⟩:=hv
  refine ⟨A,cap,h1,h2,h3,h4,?_⟩
  rcases h5 with h5 | ⟨g,o,vs,k1,k2,k3,k4,hvs⟩
  · exact .inl h5
  · exact .inr ⟨g,o,vs,k1,fun e=>k2 e.take,k3,k4,h im w _ hr hvs⟩
/-- A slice of its own is handed out, to be read alone. -/
theorem Fz.ref {n:Nat} {H:Hp} {b ver o k:Nat} {B:Blk} {r':List V} (hb:n≤b) (hB:live H b ver=some B) (hlen:o+k*B.sz≤B.cs.length) (h:Fzs n H ((B.cs.drop o).take (k*B.sz)) r'):Fz n H (.ref b ver o k) (.sl false k r'):=fun im w c hr hv=>by
  obtain ⟨hB1,hver,hd⟩:=live_ok hB
  obtain ⟨_,B',hB',_,hv⟩:=hv
  rw [hB1] at hB'; injection hB' with hB'; subst hB'
  obtain ⟨A,cap,hc,h1,h2,h3⟩:=hv hver hd
  refine ⟨A,cap,hc,h1,h2,fun e=>by simp at e,?_⟩
  rcases h3 with h3 | ⟨g,hg,hA,hz⟩
  · exact .inl (by omega)
  · have hrow:=hr.row b B hB1 hd
    rw [hg] at hrow
    obtain ⟨arr,t,fr,vs,k1,k2,k3,k4,_⟩:=hrow
    refine .inr ⟨g,o,(vs.drop o).take (k*B.sz),hA,fun e => ?_,hr.lt hB1 hd hg,?_,h im w _ hr (VRs.take _ (VRs.drop _ k4))⟩
    · obtain ⟨b',B',e1,e2,e3⟩:=e
      rw [List.getElem?_take] at e1
      split at e1
      · have:=hr.only hB1 hd hg e1 e2 e3
        omega
      · simp at e1
    · refine At.of_row k1 fun j v hj => ?_
      rw [List.getElem?_take] at hj
      split at hj
      · rw [List.getElem?_drop] at hj; exact k3 _ _ hj
      · simp at hj
/-- A pointer to its own memory is handed out, to be read alone. -/
theorem Fz.ptr {n:Nat} {H:Hp} {b ver o:Nat} {B:Blk} {r':List V} (hb:n≤b) (hB:live H b ver=some B) (h:Fzs n H (B.cs.drop o) r') (hk:B.kind=.mem):Fz n H (.ptr b ver o) (.ip r'):=fun im w c hr hv=>by
  obtain ⟨hB1,hver,hd⟩:=live_ok hB
  obtain ⟨_,B',hB',_,hv⟩:=hv
  rw [hB1] at hB'; injection hB' with hB'; subst hB'
  obtain ⟨g,hg,hc⟩:=hv hver hd
  have hrow:=hr.row b B hB1 hd
  rw [hg] at hrow
  obtain ⟨arr,t,fr,vs,k1,k2,k3,k4,_⟩:=hrow
  refine ⟨g,o,vs.drop o,hc,fun e => ?_,hr.lt hB1 hd hg,?_,h im w _ hr (VRs.drop _ k4)⟩
  · obtain ⟨b',B',e1,e2,e3⟩:=e
    rw [List.getElem?_take] at e1
    split at e1
    · have:=hr.only hB1 hd hg e1 e2 e3
      omega
    · simp at e1
  · refine At.of_row k1 fun j v hj => ?_
    rw [List.getElem?_drop] at hj; exact k3 _ _ hj
/-- Where a result lies: a temporary; memory behind one. -/
inductive RV where
  | t (n:Nat)
  | c (n:Nat) (ag:Bool) (sz:Nat)
def cRes (P:Program):List ResultVar→Option (List RV)
  | []=>some []
  | .tmp t::r=>(cRes P r).map fun l=>.t t::l
  | .cell x t::r=>(ag? P t).bind fun ag=>(tsz P t).bind fun sz=>if ag=true∨sz=1 then (cRes P r).map fun l=>.c x ag sz::l else none
def resV (f:Fr) (H:Hp):List RV→Option (List V)
  | []=>some []
  | .t n::r=>(resV f H r).map fun l=>f n::l
  | .c n ag sz::r=>(cellsAt H (f n) sz).bind fun l=>(one? ag l).bind fun v=>(resV f H r).map fun l=>v::l
def andR (x:Option (List V)) (K:List V→Prop):Prop:=match x with
  | some l=>K l
  | none=>False
def cFn (P:Program) (m:FuncId) (ws:List FuncId:=[]):Option (IR × List RV × Nat) :=
  if Nat.blt m 4294967296=true then (P.funcs[m]?).bind fun fn=>(fn.body).bind fun c=>(cC P ws fn.ntmps c).bind fun ir=>(cRes P fn.results.toList).map fun ts=>(ir,ts,fn.ntmps) else none
def fr0 (args:List V):Fr:=fun t=>(args[t]?).getD (.s undef)
def mkRes:List V→V
  | [v]=>v
  | l=>.tup l
def Fini (ts:List RV) (H0:Hp) (r:V) (H':Hp):X→Fr→Hp→Prop
  | .exit _,_,_=>False
  | _,f,H=>andR (resV f H ts) fun l=>Settle H0 (mkRes l) H r H'
theorem loadVar_ok {P:Program} {im:Im} {H:Hp} {w:World} (hr:Rel im H w) {t:TypeId} {ag:Bool} {sz:Nat} (hag:ag? P t=some ag) (hsz:tsz P t=some sz)
    (h1:ag=true∨sz=1) {p:V} {c:Value} (hp:VR im H w p c) {l:List V} (hl:cellsAt H p sz=some l) {v:V} (hv:one? ag l=some v):∃ y,(do loadVar t (← asAddr c)).run P w=Result.ok y w∧VR im H w v y:=by
  obtain ⟨g,o',vs,rfl,hat,hvs,hlen⟩:=cellsAt_ok hr hp hl
  have hlv:vs.length=sz:=by rw [← hvs.length]; exact hlen
  have hload:(loadCells ⟨g,o',none⟩ sz).run P w=.ok vs.toArray w:=by
    rw [← hlv]
    exact run_loadCells_list w ⟨g,o',none⟩ vs fun j v hj=>by rw [add_plain']; exact hat j v hj
  have had:(asAddr (.pointer (some ⟨g,o',none⟩))).run P w=.ok ⟨g,o',none⟩ w:=by simp [asAddr]
  simp only [Sem.run_bind,had,Result.andThen_ok]
  unfold ag? at hag
  unfold tsz at hsz
  cases hu:P.underlying t with
  | none=>simp [hu] at hag
  | some d =>
    cases hi:P.info? t with
    | none=>simp [hi] at hsz
    | some i =>
      simp [hi] at hsz
      cases ag with
      | true =>
        have hd:(isAgg t).run P w=.ok true w:=by
          simp only [hu] at hag
          unfold isAgg
          split at hag <;> simp_all [run_underlying hu]
        refine ⟨.agg vs.toArray,?_,?_⟩
        · simp only [loadVar,Sem.run_bind,Sem.run_pure,Result.andThen_ok,hd,if_true,sizeOf,typeInfo,run_program,hi,hsz,hload]
        · simp only [one?,if_true,Option.some.injEq] at hv; subst hv
          exact ⟨vs.toArray,rfl,by simpa using hvs⟩
      | false =>
        have hs1:sz=1:=by rcases h1 with h1 | h1 <;> simp_all
        subst hs1
        have hd:(isAgg t).run P w=.ok false w:=by
          simp only [hu] at hag
          unfold isAgg
          split at hag <;> simp_all [run_underlying hu]
        match l,vs,hvs,hlen,hlv,hv,hat with
        | [x],[y],hvs,_,_,hv,hat =>
          simp [one?] at hv; subst hv
          have hcell:=hat 0 y rfl
          refine ⟨y,?_,hvs.1⟩
          simp only [loadVar,Sem.run_bind,Sem.run_pure,Result.andThen_ok,hd,if_false,Bool.false_eq_true,run_load]
          simp at hcell
          simp [hcell]
def rOne (tmps:Array Value) (rv:ResultVar):Sem Value:=match rv with
  | .tmp t=>pure (tmps.getD t undef)
  | .cell x t=>do loadVar t (← asAddr (tmps.getD x undef))
theorem results_eq (fn:Func) (tmps:Array Value):results fn tmps=(do let vs ← fn.results.mapM (rOne tmps); pure (if h:vs.size=1 then vs[0] else .tuple vs)):=rfl
theorem results_ok {P:Program} {im:Im} {H:Hp} {w:World} {f:Fr} {a:Act} (hr:Rel im H w) (hf:FR im H w f a):∀ (l:List ResultVar) (ts:List RV) (xs:List V),cRes P l=some ts→resV f H ts=some xs →
    ∃ vs,(l.mapM (rOne a.tmps)).run P w=Result.ok vs w∧VRs im H w xs vs
  | [],ts,xs,h,k=>by
    simp [cRes] at h; subst h
    simp [resV] at k; subst k
    exact ⟨[],by simp,trivial⟩
  | .tmp t::r,ts,xs,h,k=>by
    simp only [cRes] at h
    obtain ⟨l,hl,rfl⟩:=Option.map_eq_some_iff.1 h
    simp only [resV] at k
    obtain ⟨ys,hy,rfl⟩:=Option.map_eq_some_iff.1 k
    obtain ⟨vs,h1,h2⟩:=results_ok (P:=P) hr hf r l ys hl hy
    refine ⟨a.tmps.getD t undef::vs,?_,hf.at_ t,h2⟩
    simp only [List.mapM_cons,rOne,Sem.run_bind,Sem.run_pure,Result.andThen_ok,h1]
  | .cell x t::r,ts,xs,h,k=>by
    simp only [cRes] at h
    obtain ⟨ag,hag,h⟩:=Option.bind_eq_some_iff.1 h
    obtain ⟨sz,hsz,h⟩:=Option.bind_eq_some_iff.1 h
    split at h
    · rename_i h1c
      obtain ⟨l,hl,rfl⟩:=Option.map_eq_some_iff.1 h
      simp only [resV] at k
      obtain ⟨cs,hcs,k⟩:=Option.bind_eq_some_iff.1 k
      obtain ⟨v,hv,k⟩:=Option.bind_eq_some_iff.1 k
      obtain ⟨ys,hy,rfl⟩:=Option.map_eq_some_iff.1 k
      obtain ⟨vs,h1,h2⟩:=results_ok (P:=P) hr hf r l ys hl hy
      obtain ⟨y,e1,e2⟩:=loadVar_ok (P:=P) hr hag hsz h1c (hf.at_ x) hcs hv
      refine ⟨y::vs,?_,e2,h2⟩
      simp only [Sem.run_bind] at e1
      simp only [List.mapM_cons,rOne,Sem.run_bind,e1,Sem.run_pure,Result.andThen_ok,h1]
    · simp at h
/-- A function that is called answers. -/
theorem Con.of {P:Program} {m:FuncId} {ws:List FuncId} {ir:IR} {ts:List RV} {n:Nat} (hc:cFn P m ws=some (ir,ts,n)) {args:List V} (hn:args.length≤n) {H:Hp} {r:V} {H':Hp} (h:dwp P ir (Fini ts H r H') (fr0 args) H):Con P m args H r H':=by
  intro im w cargs hr hargs
  unfold cFn at hc
  split at hc
  case isFalse=>simp at hc
  rename_i hlt
  rw [CallsD.st hlt]
  obtain ⟨fn,hfn,hc⟩:=Option.bind_eq_some_iff.1 hc
  obtain ⟨c,hb,hc⟩:=Option.bind_eq_some_iff.1 hc
  obtain ⟨ir',hir,hc⟩:=Option.bind_eq_some_iff.1 hc
  obtain ⟨ts',hts,hc⟩:=Option.map_eq_some_iff.1 hc
  simp only [Prod.mk.injEq] at hc
  obtain ⟨rfl,rfl,rfl⟩:=hc
  have hlen:=hargs.length
  have hs:Sim fn.ntmps im H w (fr0 args) { tmps:=cargs.toArray++Array.replicate (fn.ntmps - cargs.toArray.size) undef,defers:=[] }:=by
    refine ⟨hr,⟨fun t => ?_⟩,by simp; omega,rfl⟩
    unfold fr0
    cases ht:args[t]? with
    | some v =>
      obtain ⟨c,hc,hv⟩:=VRs.get t hargs ht
      have hlt:=(List.getElem?_eq_some_iff.1 hc).1
      have:(cargs.toArray++Array.replicate (fn.ntmps - cargs.toArray.size) undef).getD t undef=c:=by
        rw [Array.getD_eq_getD_getElem?,Array.getElem?_append,if_pos (by simpa using hlt)]
        simp [hc]
      rw [this]; exact hv
    | none =>
      have hge:cargs.length≤t:=by rw [List.getElem?_eq_none_iff] at ht; omega
      have:(cargs.toArray++Array.replicate (fn.ntmps - cargs.toArray.size) undef).getD t undef=undef:=by
        rw [Array.getD_eq_getD_getElem?,Array.getElem?_append,if_neg (by simpa using hge)]
        rw [Array.getElem?_replicate]
        split <;> rfl
      rw [this]; rfl
  have fin:∀ (a':Act) (w':World),After fn.ntmps im H w (fun f' H2=>andR (resV f' H2 ts') fun l=>Settle H (mkRes l) H2 r H') a' w'→a'.defers=[]∧∃ v,(results fn a'.tmps).run P w'=.ok v w'∧∃ im' c,Ending.returned v=.returned c∧Rel im' H' w'∧Ext im H w im' H' w'∧VR im' H' w' r c:=fun a' w' hA=>by
    obtain ⟨f',H2,im2,hset,hs2,hx⟩:=hA
    refine ⟨hs2.defers,?_⟩
    unfold andR at hset
    split at hset
    · rename_i xs hxs
      obtain ⟨vs,hrun,hvs⟩:=results_ok (P:=P) hs2.rel hs2.fr fn.results.toList ts' xs hts hxs
      have hres:∃ c,(results fn a'.tmps).run P w'=.ok c w'∧VR im2 H2 w' (mkRes xs) c:=by
        rw [results_eq,Array.mapM_eq_mapM_toList]
        generalize fn.results.toList.mapM (rOne a'.tmps)=q at hrun
        match xs,vs,hvs with
        | [],[],_=>exact ⟨.tuple #[],by simp [hrun],#[],rfl,trivial⟩
        | [x],[y],h=>exact ⟨y,by simp [hrun],h.1⟩
        | x::x'::r,y::y'::r',h=>exact ⟨.tuple (y::y'::r').toArray,by simp [hrun],(y::y'::r').toArray,rfl,by simpa using h⟩
      obtain ⟨c,hc1,hc2⟩:=hres
      obtain ⟨im',h1,h2,h3⟩:=hset im w im2 w' c hr hs2.rel hx hc2
      exact ⟨c,hc1,im',c,rfl,h1,h2,h3⟩
    · exact hset.elim
  refine calls_of_wp hfn hb (wp_mono (dwp_sound c _ hir hs h) fun e a' w' hq => ?_)
  cases e with
  | normal=>exact fin a' w' hq
  | ret=>exact fin a' w' hq
  | exit id=>obtain ⟨_,_,_,hf,_⟩:=hq; exact hf.elim
  | goto l=>exact hq.elim
  | panic c=>exact hq.elim
  | outgrown=>exact hq.elim
end Go.Proofs.YtoemlgdlejkliaaK
