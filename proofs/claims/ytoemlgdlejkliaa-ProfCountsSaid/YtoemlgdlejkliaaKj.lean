/- From the steps to whole code: what 'dwp' says holds of the machine. -/
import Derived.Test.YtoemlgdlejkliaaKi
import Derived.Orders
namespace Go.Proofs.YtoemlgdlejkliaaK
set_option linter.unusedVariables false
set_option linter.unusedSimpArgs false
open Go.RowKit
def dOk (N:Nat):Option Nat→Bool
  | none=>true
  | some d=>decide (d < N)
/-- .. a part of a part of another literal. -/
def usedPart (ops:Array Oper) (t:Nat):Bool:=ops.any fun o=>match o.op,o.dst with
  | .build _ ps,some q=>ps.any (fun x=>match x.2 with | .tmp n=>n == t | _=>false)&&ops.any fun o'=>match o'.op with
    | .buildSlice _ _ ps'=>ps'.any fun x=>match x.2 with | .tmp n=>n == q | _=>false
    | _=>false
  | .buildSlice _ _ ps',_=>ps'.any fun x=>match x.2 with | .tmp n=>n == t | _=>false
  | _,_=>false
def usedCall (P:Program) (ops:Array Oper) (t:Nat):Bool:=(ops.any fun o=>match cCall P o with
  | some (_,l)=>l.any fun x=>match x with
    | .t n=>n == t
    | _=>false
  | none=>false)||usedPart ops t
/-- A literal that no call is handed at once is one's own. -/
def own (P:Program) (ops:Array Oper) (o:Oper) (op:Ik):Ik:=match op,o.op,o.dst with
  | .e (.bsl n z ps),.buildSlice t _ _,some d=>match P.underlying t with
    | some (.slice e)=>match tsz P e with
      | some sz=>if usedCall P ops d then .e (.bsl n z ps) else .e (.bslo sz n z ps)
      | none=>.e (.bsl n z ps)
    | _=>.e (.bsl n z ps)
  | op,_,_=>op
def cOp (P:Program) (draw:Bool) (N:Nat) (ops:Array Oper) (o:Oper):Option Op1 :=
  (cK P draw o).bind fun op =>
  (match o.guard with
    | none=>some none
    | some (j,want)=>((ops[j]?).bind (·.dst)).map fun t=>some (t,want)).bind fun g =>
  if dOk N o.dst=true then some ⟨o.dst,own P ops o op,g,(o.after.toList.filter (Region.binds .any ·)).map Edge.on⟩ else none
def cOps (P:Program) (draw:Bool) (N:Nat) (ops:Array Oper):List Oper→Option (List Op1)
  | []=>some []
  | o::r=>(cOp P draw N ops o).bind fun io=>(cOps P draw N ops r).map fun l=>io::l
structure Sim (N:Nat) (im:Im) (H:Hp) (w:World) (f:Fr) (a:Act):Prop where
  rel:Rel im H w
  fr:FR im H w f a
  size:a.tmps.size=N
  defers:a.defers=[]
section
variable {P:Program} {o:Oper} {a:Act} {w:World} {im:Im} {H H':Hp} {f:Fr} {v:V} {N:Nat} {ops:Array Oper} {Q:Exit→Act→World→Prop}
theorem FR.ext {im':Im} {w':World} (hf:FR im H w f a) (hx:Ext im H w im' H' w'):FR im' H' w' f a:=⟨fun t=>(hf.at_ t).ext hx _ _⟩
theorem FR.put {c:Value} {d:Option Nat} (hf:FR im H w f a) (hv:VR im H w v c) (hd:∀ n,d=some n→n < a.tmps.size):FR im H w (upd d v f) (a.put d c):=by
  cases d with
  | none=>exact hf
  | some n =>
    have hn:=hd n rfl
    refine ⟨fun t => ?_⟩
    simp only [upd,Act.put]
    by_cases e:t=n
    · subst e
      rw [if_pos rfl]
      simp [Array.getD_eq_getD_getElem?,hn]
      exact hv
    · rw [if_neg e]
      have:=hf.at_ t
      simp only [Array.getD_eq_getD_getElem?,Array.getElem?_setIfInBounds] at this ⊢
      rw [if_neg (by omega)]
      exact this
theorem put_size {c:Value} {d:Option Nat}:(a.put d c).tmps.size=a.tmps.size:=by cases d <;> simp [Act.put]
theorem put_defers {c:Value} {d:Option Nat}:(a.put d c).defers=a.defers:=by cases d <;> simp [Act.put]
theorem Sim.put {im':Im} {w':World} {c:Value} {d:Option Nat} (hs:Sim N im H w f a) (hr:Rel im' H' w') (hx:Ext im H w im' H' w') (hv:VR im' H' w' v c) (hd:∀ n,d=some n→n < N):Sim N im' H' w' (upd d v f) (a.put d c) :=
  ⟨hr,(hs.fr.ext hx).put hv (by rw [hs.size]; exact hd),by rw [put_size]; exact hs.size,by rw [put_defers]; exact hs.defers⟩
/-- What is asked behind an operation. -/
def After (N:Nat) (im:Im) (H:Hp) (w:World) (K:Fr→Hp→Prop) (a':Act) (w':World):Prop:=∃ f' H' im',K f' H'∧Sim N im' H' w' f' a'∧Ext im H w im' H' w'
theorem stp_wp (hs:Sim N im H w f a) (h:Stp P o a w im H v H') (hd:∀ n,o.dst=some n→n < N) (K:Fr→Hp→Prop) (hK:K (upd o.dst v f) H'):o.wp P a w (After N im H w K) Q:=by
  obtain ⟨im',w',c,hrun,hr,hx,hv⟩:=h
  unfold Oper.wp
  rcases hrun with hrun | ⟨hrun,rfl⟩
  · rw [hrun,Oper.upon_value]
    exact ⟨_,_,_,hK,hs.put hr hx hv hd,hx⟩
  · rw [hrun,Oper.upon_skip]
    exact ⟨_,_,_,hK,hs.put hr hx hv hd,hx⟩
theorem cCall_ok {m:FuncId} {args:List Opd} (hc:cCall P o=some (m,args)):(∃ X ts,o.op=.call { callee:=.value (.func m),args:=X,argTypes:=ts }∧callable P m=true∧cOs X.toList=some args) ∨
    (∃ t X ts l,m=DYN∧o.op=.call { callee:=.value (.tmp t),args:=X,argTypes:=ts }∧cOs X.toList=some l∧args=.t t::l) ∨
    (∃ r nm X ts x l,nmId nm=some m∧o.op=.call { callee:=.invoke r nm,args:=X,argTypes:=ts }∧cO r=some x∧cOs X.toList=some l∧args=x::l):=by
  unfold cCall at hc
  split at hc
  · rename_i m' X ts ho
    split at hc
    · rename_i hcb
      obtain ⟨l,hl,h⟩:=Option.map_eq_some_iff.1 hc
      injection h with h1 h2; subst h1; subst h2
      exact .inl ⟨X,ts,ho,hcb,hl⟩
    · simp at hc
  · rename_i t X ts ho
    obtain ⟨l,hl,h⟩:=Option.map_eq_some_iff.1 hc
    injection h with h1 h2
    exact .inr (.inl ⟨t,X,ts,l,h1.symm,ho,hl,h2.symm⟩)
  · rename_i r nm X ts ho
    obtain ⟨x,hx,hc⟩:=Option.bind_eq_some_iff.1 hc
    obtain ⟨k,hk,hc⟩:=Option.bind_eq_some_iff.1 hc
    obtain ⟨l,hl,h⟩:=Option.map_eq_some_iff.1 hc
    injection h with h1 h2
    exact .inr (.inr ⟨r,nm,X,ts,x,l,by rw [← h1]; exact hk,ho,hx,hl,h2.symm⟩)
  · simp at hc
theorem callable_lt {m:FuncId} (h:callable P m=true):Nat.blt m 4294967296=true:=by
  unfold callable at h
  rw [Bool.and_eq_true] at h; exact h.1
theorem enter_ok {m:FuncId} (hcb:callable P m=true) (args:Array Value):(callFunc m args).run P w=.ok (.enter m args) w:=by
  unfold callable at hcb
  rw [Bool.and_eq_true] at hcb
  replace hcb:=hcb.2
  split at hcb
  · rename_i fn hfn
    simp only [Bool.and_eq_true,Bool.not_eq_true'] at hcb
    obtain ⟨h1,h2⟩:=hcb
    have h1':¬ fn.name = "runtime.NumGoroutine" := by simpa using h1
    have h3:¬ fn.body=none:=by cases hb:fn.body <;> simp_all
    simp [callFunc,hfn,h1',h3]
  · simp at hcb
theorem nmId_big {s:String} {m:Nat} (h:nmId s=some m):Nat.blt m 4294967296=false∧m ≠ DYN:=by
  unfold nmId at h
  split at h
  · injection h with h; subst h; exact ⟨rfl,by decide⟩
  · split at h
    · injection h with h; subst h; exact ⟨rfl,by decide⟩
    · simp at h
theorem nmId_inj {s t:String} {m:Nat} (h:nmId s=some m) (k:nmId t=some m):s=t:=by
  unfold nmId at h k
  split at h <;> split at k
  · simp_all
  · split at k <;> simp_all <;> omega
  · split at h <;> simp_all <;> omega
  · split at h <;> split at k <;> simp_all
theorem call_wp (hs:Sim N im H w f a) {m:FuncId} {args:List Opd} (hc:cCall P o=some (m,args)) {r:V} (hcon:Con P m (args.map (ev · f)) H r H') (hd:∀ n,o.dst=some n→n < N) (K:Fr→Hp→Prop) (hK:K (upd o.dst r f) H'):o.wp P a w (After N im H w K) Q:=by
  have fin:∀ (m':FuncId) (cs':List Value),(execOp a.eval o).run P w=.ok (.enter m' cs'.toArray) w→Calls P m' cs'.toArray w (fun e w'=>∃ im' c,e=.returned c∧Rel im' H' w'∧Ext im H w im' H' w'∧VR im' H' w' r c)→o.wp P a w (After N im H w K) Q:=by
    intro m' cs' hrun hcall
    unfold Oper.wp
    rw [hrun,Oper.upon_enter]
    refine hcall.mono fun e w' h => ?_
    obtain ⟨im',c,rfl,hr,hx,hv⟩:=h
    exact ⟨_,_,_,hK,hs.put hr hx hv hd,hx⟩
  rcases cCall_ok hc with ⟨X,ts,ho,hcb,hX⟩ | ⟨t,X,ts,l,rfl,ho,hX,rfl⟩ | ⟨rc,nm,X,ts,x,l,hnm,ho,hx,hX,rfl⟩
  · have hargs:=cOs_ok hs.fr X.toList args hX
    have hcall:=hcon im w (X.toList.map a.eval) hs.rel hargs
    rw [CallsD.st (callable_lt hcb)] at hcall
    refine fin m _ ?_ hcall
    rw [show (X.toList.map a.eval).toArray=X.map a.eval by apply Array.ext'; simp]
    have:=enter_ok (w:=w) hcb (X.map a.eval)
    simp [execOp,ho,resolve,Deferred.ofValue,invoke,Act.eval] at this ⊢
    exact this
  · have hargs:=cOs_ok hs.fr X.toList l hX
    have h0:VR im H w (f t) (a.eval (.tmp t)):=hs.fr.at_ t
    have hcall:=hcon im w (a.eval (.tmp t)::X.toList.map a.eval) hs.rel ⟨h0,hargs⟩
    rw [CallsD.dy rfl] at hcall
    obtain ⟨m',cs',hcb,hres,hcall⟩:=hcall
    rcases hres with ⟨_,caps,r',he,rfl⟩ | ⟨s,_,_,_,_,hs',_⟩
    · injection he with he1 he2
      subst he2
      refine fin m' _ ?_ hcall
      have:=enter_ok (w:=w) hcb (X.map a.eval++caps)
      rw [show (X.toList.map a.eval++caps.toList).toArray=X.map a.eval++caps by apply Array.ext'; simp]
      simp only [execOp,ho,resolve,he1,Deferred.ofValue]
      simpa [invoke] using this
    · exact absurd rfl (nmId_big hs').2
  · have hargs:=cOs_ok hs.fr X.toList l hX
    have h0:=ev_ok hs.fr hx
    have hcall:=hcon im w (a.eval rc::X.toList.map a.eval) hs.rel ⟨h0,hargs⟩
    rw [CallsD.dy (nmId_big hnm).1] at hcall
    obtain ⟨m',cs',hcb,hres,hcall⟩:=hcall
    rcases hres with ⟨hm,_⟩ | ⟨s,t,v,r',u,hs',he,rfl,hmt⟩
    · exact absurd hm (nmId_big hnm).2
    · injection he with he1 he2
      subst he2
      have:=nmId_inj hs' hnm
      subst this
      refine fin m' _ ?_ hcall
      have he:=enter_ok (w:=w) hcb (#[u]++X.map a.eval)
      rw [show (u::X.toList.map a.eval).toArray = #[u]++X.map a.eval by apply Array.ext'; simp]
      simp only [execOp,ho,resolve,he1]
      have h2:=hmt w
      have e0:(#[Value.iface t v]++X.map a.eval)[0]? = some (Value.iface t v):=by
        rw [Array.getElem?_append,if_pos (by simp)]; rfl
      have e1:(#[Value.iface t v]++X.map a.eval).extract 1 (#[Value.iface t v]++X.map a.eval).size=X.map a.eval:=by
        apply Array.ext'; simp; exact List.take_of_length_le (by simp)
      simp only [Sem.run_bind,Sem.run_pure,Result.andThen_ok,invoke,e0,e1,callMethod,run_program,h2]
      exact he
/-- One operation. -/
def dstep (P:Program) (io:Op1) (f:Fr) (H:Hp) (K:Fr→Hp→Prop):Prop:=match io.g with
  | none=>d1 P io.op f H fun v H'=>K (upd io.dst v f) H'
  | some (t,want)=>sg (f t)=true∧dg P io.op (gd (f t) want=true) f H fun v H'=>K (upd io.dst v f) H'
theorem cOp_ok {draw:Bool} {io:Op1} (h:cOp P draw N ops o=some io):(∃ op,cK P draw o=some op∧io.op=own P ops o op)∧io.dst=o.dst∧(∀ n,o.dst=some n→n < N)∧io.aft=(o.after.toList.filter (Region.binds .any ·)).map Edge.on ∧
    (match o.guard with | none=>io.g=none | some (j,want)=>∃ t,(ops[j]?).bind (·.dst)=some t∧io.g=some (t,want)):=by
  unfold cOp at h
  obtain ⟨op,hop,h⟩:=Option.bind_eq_some_iff.1 h
  obtain ⟨g,hg,h⟩:=Option.bind_eq_some_iff.1 h
  split at h
  · rename_i hd
    simp only [Option.some.injEq] at h
    subst h
    refine ⟨⟨op,hop,rfl⟩,rfl,fun n hn => ?_,rfl,?_⟩
    · rw [hn] at hd; simpa [dOk] using hd
    · cases hgd:o.guard with
      | none=>rw [hgd] at hg; simpa using hg.symm
      | some jw =>
        obtain ⟨j,want⟩:=jw
        rw [hgd] at hg
        obtain ⟨t,ht,hg⟩:=Option.map_eq_some_iff.1 hg
        exact ⟨t,ht,hg.symm⟩
  · simp at h
theorem d1_wp {draw:Bool} (hs:Sim N im H w f a) {op:Ik} (hc:cK P draw o=some op) (hd:∀ n,o.dst=some n→n < N) {K:Fr→Hp→Prop} (h:d1 P op f H fun v H'=>K (upd o.dst v f) H'):o.wp P a w (After N im H w K) Q:=by
  unfold cK at hc
  split at hc
  · rename_i m l hcall
    simp only [Option.some.injEq] at hc
    subst hc
    obtain ⟨r,H',hcon,hK⟩:=h
    exact call_wp hs hcall hcon hd K hK
  · simp only [Option.some.injEq] at hc
    subst hc
    simp only [d1,andV] at h
    split at h
    · rename_i v H' hE
      cases hI:cI P draw o with
      | none=>rw [hI] at hE; exact absurd ((badI_none f H).symm.trans hE) (by simp)
      | some e=>rw [hI] at hE; exact stp_wp hs (e1_sound hs.rel hs.fr hI hE) hd K h
    · exact h.elim
theorem own_sound (hr:Rel im H w) (hf:FR im H w f a) {draw:Bool} {n sz:Nat} {z:List Value} {ps:List (Nat × Nat × Opd)} {t e:TypeId} {n':Nat} {parts:Array (Nat × Operand)} (hc:cI P draw o=some (.bsl n z ps)) (ho:o.op=.buildSlice t n' parts) (ht:P.underlying t=some (.slice e)) (hsz:tsz P e=some sz) {v:V} {H':Hp} (h:E1 (.bslo sz n z ps) f H=some (v,H')):Stp P o a w im H v H':=by
  unfold cI at hc
  simp only [ho,ht] at hc
  split at hc
  · rename_i h0
    rw [hsz] at hc
    simp only [Option.map_some,Option.some.injEq,I.bsl.injEq] at hc
    obtain ⟨rfl,rfl,rfl⟩:=hc
    simp [E1,fillV] at h
    obtain ⟨rfl,rfl⟩:=h
    have hp0:parts = #[]:=by
      have:=h0.2
      apply Array.eq_empty_of_size_eq_zero
      simpa using this
    exact s_bslo0 hr (t:=t) (e:=e) (by rw [ho,h0.1,hp0]) ht hsz
  · split at hc
    · rename_i hn
      obtain ⟨sz',hsz',hc⟩:=Option.bind_eq_some_iff.1 hc
      obtain ⟨z',hz,hc⟩:=Option.bind_eq_some_iff.1 hc
      obtain ⟨l,hl,hc⟩:=Option.map_eq_some_iff.1 hc
      rw [hsz] at hsz'
      simp only [Option.some.injEq,I.bsl.injEq] at hc hsz'
      obtain ⟨rfl,rfl,rfl⟩:=hc
      subst hsz'
      simp only [E1] at h
      obtain ⟨q,hq,h⟩:=Option.bind_eq_some_iff.1 h
      split at h <;> simp at h
      obtain ⟨rfl,rfl⟩:=h
      exact s_bslo hr hf ho ht hsz hz hl hq (by unfold maxLen; omega)
    · simp at hc
theorem d1_wpo {draw:Bool} (hs:Sim N im H w f a) {op:Ik} (hc:cK P draw o=some op) (hd:∀ n,o.dst=some n→n < N) {K:Fr→Hp→Prop} (h:d1 P (own P ops o op) f H fun v H'=>K (upd o.dst v f) H'):o.wp P a w (After N im H w K) Q:=by
  have hc0:=hc
  unfold own at h
  split at h
  · rename_i n z ps t n' parts d ho hdst
    split at h
    · rename_i e ht
      split at h
      · rename_i sz hsz
        split at h
        · exact d1_wp hs hc hd h
        · unfold cK at hc
          split at hc
          · simp at hc
          · simp only [Option.some.injEq,Ik.e.injEq] at hc
            have he:cI P draw o=some (.bsl n z ps):=by
              cases hI:cI P draw o with
              | none=>rw [hI] at hc; exact absurd hc (by simp [badI])
              | some e=>rw [hI] at hc; exact congrArg some hc
            simp only [d1,andV] at h
            split at h
            · rename_i v H' hE
              exact stp_wp hs (own_sound hs.rel hs.fr he ho ht hsz hE) hd K h
            · exact h.elim
      · exact d1_wp hs hc hd h
    · exact d1_wp hs hc hd h
  · exact d1_wp hs hc hd h
/-- What a guard reads. -/
theorem wanted_iff (hs:Sim N im H w f a) {j t:Nat} {want:Bool} (hg:o.guard=some (j,want)) (ht:(ops[j]?).bind (·.dst)=some t) (hsg:sg (f t)=true):Region.wanted o (yielded ops a.tmps)=true↔gd (f t) want=true:=by
  have hv:=hs.fr.at_ t
  unfold sg at hsg
  split at hsg
  · rename_i y hy
    rw [hy] at hv ⊢
    have hv:=hv.s_inv
    unfold Region.wanted
    rw [hg]
    simp only [yielded,ht,Option.bind_some]
    rw [Array.getD_eq_getD_getElem?] at hv
    cases hq:a.tmps[t]? with
    | none =>
      rw [hq] at hv
      simp at hv
      subst hv
      simp [gd,undef]
    | some c =>
      rw [hq] at hv
      simp at hv
      subst hv
      cases c <;> simp [gd]
  · simp at hsg
theorem isQ_H {op:I} (hq:isQ op=true) (h:E1 op f H=some (v,H')):H'=H:=by
  cases op <;> simp only [isQ,Bool.false_eq_true] at hq <;> simp only [E1,Option.bind_eq_some_iff,Option.map_eq_some_iff,Option.ite_none_right_eq_some,Option.some.injEq,Prod.mk.injEq] at h <;> grind [Option.map_eq_some_iff,Option.bind_eq_some_iff]
theorem skip_ok (hs:Sim N im H w f a) (hd:∀ n,o.dst=some n→n < N) {K:Fr→Hp→Prop} (h:K (upd o.dst (.s undef) f) H):After N im H w K (a.put o.dst undef) w :=
  ⟨_,_,_,h,hs.put hs.rel (Ext.refl _ _ _) rfl hd,Ext.refl _ _ _⟩
theorem step_sound {draw:Bool} {io:Op1} {i:Nat} (hi:ops[i]? = some o) (hc:cOp P draw N ops o=some io) (hs:Sim N im H w f a) {K:Fr→Hp→Prop} (h:dstep P io f H K):wpOp P ops Q i (After N im H w K) a w:=by
  obtain ⟨⟨op0,hk,hown⟩,hdst,hd,_,hg⟩:=cOp_ok hc
  unfold wpOp
  simp only [hi]
  unfold dstep at h
  cases hgd:o.guard with
  | none =>
    rw [hgd] at hg
    simp only at hg
    rw [hg] at h
    simp only at h
    rw [hdst,hown] at h
    have hw:Region.wanted o (yielded ops a.tmps)=true:=by simp [Region.wanted,hgd]
    rw [if_pos hw]
    exact .inl (d1_wpo hs hk hd h)
  | some jw =>
    obtain ⟨j,want⟩:=jw
    rw [hgd] at hg
    obtain ⟨t,ht,hg⟩:=hg
    rw [hg] at h
    simp only at h
    obtain ⟨hsg,h⟩:=h
    rw [hdst] at h
    have hiff:=wanted_iff (ops:=ops) hs hgd ht hsg
    by_cases hw:Region.wanted o (yielded ops a.tmps)=true
    · have hwc:=hiff.1 hw
      rw [if_pos hw]
      refine .inl ?_
      cases hio:io.op with
      | call m l =>
        rw [hio] at h hown
        simp only [dg,gcall,hwc,if_true] at h
        obtain ⟨r,hcon,hK⟩:=h
        refine d1_wpo (ops:=ops) hs hk hd ?_
        rw [← hown]
        exact ⟨r,H,hcon trivial,hK⟩
      | e e =>
        rw [hio] at h hown
        refine d1_wpo (ops:=ops) hs hk hd ?_
        rw [← hown]
        by_cases hq:isQ e=true
        · simp only [dg,hq,andG,if_true] at h
          obtain ⟨h1,h2⟩:=h
          rw [if_pos hwc] at h2
          show andV (E1 e f H) _
          cases he:E1 e f H with
          | none=>have:=h1 hwc; rw [he] at this; cases this
          | some vh =>
            obtain ⟨v',H'⟩:=vh
            have:=isQ_H hq he
            subst this
            rw [he] at h2
            exact h2
        · simp only [dg,hq,hwc] at h
          exact h.1 trivial
    · have hwc:¬ gd (f t) want=true:=fun e=>hw (hiff.2 e)
      rw [if_neg hw]
      cases hio:io.op with
      | call m l =>
        rw [hio] at h
        simp only [dg,gcall,hwc,if_false,Bool.false_eq_true] at h
        obtain ⟨r,_,hK⟩:=h
        exact skip_ok hs hd hK
      | e e =>
        rw [hio] at h
        by_cases hq:isQ e=true
        · simp only [dg,hq,andG,hwc,if_true,if_false,Bool.false_eq_true] at h
          exact skip_ok hs hd h.2
        · simp only [dg,if_neg hq] at h
          exact skip_ok hs hd (h.2 hwc)
theorem After.trans {im':Im} {w':World} {f':Fr} {K:Fr→Hp→Prop} {a':Act} {w'':World} (hx:Ext im H w im' H' w') (h:After N im' H' w' K a' w''):After N im H w K a' w'':=by
  obtain ⟨f2,H2,im2,h1,h2,h3⟩:=h
  exact ⟨f2,H2,im2,h1,h2,hx.trans h3⟩
/-- Operations one behind the other. -/
theorem dops_sound {Qn:Act→World→Prop} {Qe:Exit→Act→World→Prop}:∀ (os:List Oper) (l:List Op1) (k:Nat),ops.toList.drop k=os→cOps P false N ops os=some l→∀ {f:Fr} {H:Hp} {im:Im} {a:Act} {w:World} {K:Fr→Hp→Prop},Sim N im H w f a→dops P l f H K →
    (∀ a' w',After N im H w K a' w'→Qe .normal a' w')→wpOps P ops Qe (List.range' k os.length) a w
  | [],l,k,hk,hl,f,H,im,a,w,K,hs,h,hQ=>by
    simp [cOps] at hl; subst hl
    simp only [List.length_nil,List.range'_zero,wpOps]
    exact hQ _ _ ⟨f,H,im,h,hs,Ext.refl _ _ _⟩
  | o::os,l,k,hk,hl,f,H,im,a,w,K,hs,h,hQ=>by
    simp only [cOps] at hl
    obtain ⟨io,hio,hl⟩:=Option.bind_eq_some_iff.1 hl
    obtain ⟨l',hl',rfl⟩:=Option.map_eq_some_iff.1 hl
    have hi:ops[k]? = some o:=by
      have:=congrArg (·[0]?) hk
      simpa using this
    have hk':ops.toList.drop (k+1)=os:=by
      rw [← List.drop_drop,hk]; rfl
    rw [List.length_cons,List.range'_succ,wpOps_cons]
    have hstep:dstep P io f H (fun f' H'=>dops P l' f' H' K):=by
      unfold dstep
      unfold dops at h
      exact h
    refine wpOp_mono (fun a' w' hA => ?_) (step_sound (Q:=Qe) hi hio hs hstep)
    obtain ⟨f',H',im',hK,hs',hx⟩:=hA
    exact dops_sound (Qn:=Qn) os l' (k+1) hk' hl' hs' hK fun a2 w2 h2=>hQ _ _ (After.trans (f':=f') hx h2)
end
end Go.Proofs.YtoemlgdlejkliaaK
