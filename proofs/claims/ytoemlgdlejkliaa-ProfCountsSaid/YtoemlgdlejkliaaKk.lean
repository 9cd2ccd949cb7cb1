/- Operations whose order is drawn: they come to what they come to in their own order. -/
import Derived.Test.YtoemlgdlejkliaaKj
namespace Go.Proofs.YtoemlgdlejkliaaK
set_option linter.unusedVariables false
set_option linter.unusedSimpArgs false
open Go.RowKit
def I.opds:I→List Opd
  | .mv x | .box x | .load _ _ x | .nilc x | .isnil _ _ x | .un _ x | .cint _ x | .cid x | .bstr x | .strb x | .fld _ x | .part _ _ _ x | .ext _ x | .len x | .lens x | .mki _ x | .clr _ x=>[x]
  | .nilg _ | .zero _ | .zerob .. => []
  | .mkf _ cs=>cs
  | .pick c a b=>[c,a,b]
  | .build _ ps | .bsl _ _ ps | .bslo _ _ _ ps=>ps.map (·.2.2)
  | .store _ x y | .bin _ x y | .bbin _ x y | .eqa _ _ x y | .mks _ _ x y | .iaa _ _ x y | .ias _ x y | .ixa _ _ _ x y | .ixs x y | .mnx _ x y | .app _ _ _ x y | .apps _ _ x y | .cpy x y=>[x,y]
  | .slice _ x lo hi | .sarr _ _ x lo hi | .sstr x lo hi=>x::(lo.toList++hi.toList)
  | .sl3 _ x lo hi mx=>x::mx::(lo.toList++[hi])
def Ik.opds:Ik→List Opd
  | .e op=>op.opds
  | .call _ args=>args
def Opd.tmp:Opd→Option Nat
  | .t n=>some n
  | _=>none
def Op1.names (o:Op1):List Nat:=o.op.opds.filterMap Opd.tmp++(match o.g with | some (t,_)=>[t] | none=>[])
def dsts (l:List Op1):List Nat:=l.filterMap (·.dst)
/-- Each is named once, and read behind the operation that names it alone. -/
def ordL:List Op1→Bool
  | []=>true
  | o::r=>o.names.all (fun t=>!(dsts (o::r)).contains t)&&(match o.dst with | some d=>!(dsts r).contains d | none=>true)&&ordL r
def ordD (l:List Op1):Bool:=l.all fun o=>o.names.all fun t=>l.zipIdx.all fun (oj,j)=>oj.dst != some t||o.aft.contains j
def ordA (l:List Op1):Bool:=l.zipIdx.all fun (o,i)=>o.aft.all fun j=>decide (j < i)
def ordOk (l:List Op1):Bool:=ordL l&&ordD l&&ordA l
theorem ev_congr {f g:Fr} {x:Opd} (h:∀ t,x.tmp=some t→f t=g t):ev x f=ev x g:=by
  cases x with
  | t n=>exact h n rfl
  | k v=>rfl
  | fn m=>rfl
theorem fillV_congr {f g:Fr}:∀ (ps:List (Nat × Nat × Opd)) (cs:List V),(∀ x∈ps.map (·.2.2),ev x f=ev x g)→fillV f cs ps=fillV g cs ps
  | [],cs,_=>rfl
  | (o,n,x)::r,cs,h=>by
    have hx:=h x (by simp)
    simp only [fillV,hx]
    rw [fillV_congr r _ fun y hy=>h y (by simp at hy ⊢; exact .inr hy)]
theorem bounds_congr {f g:Fr} {n:Nat} {lo hi:Option Opd} (h:∀ x∈lo.toList++hi.toList,ev x f=ev x g):bounds f n lo hi=bounds g n lo hi:=by
  unfold bounds
  cases lo <;> cases hi <;> simp at h <;> simp [h]
theorem E1_congr {f g:Fr} {H:Hp} {op:I} (h:∀ x∈op.opds,ev x f=ev x g):E1 op f H=E1 op g H:=by
  cases op <;> simp only [I.opds,List.mem_cons,List.not_mem_nil,or_false,forall_eq_or_imp,forall_eq] at h <;> simp only [E1]
  case build cs ps=>rw [fillV_congr _ _ h]
  case bsl n cs ps=>rw [fillV_congr _ _ h]
  case bslo k n cs ps=>rw [fillV_congr _ _ h]
  case slice sz x lo hi=>rw [h.1]; simp only [bounds_congr h.2]
  case sarr n sz x lo hi=>rw [h.1]; simp only [bounds_congr h.2]
  case sl3 sz x lo hi mx =>
    have hb:∀ n,bounds f n lo (some hi)=bounds g n lo (some hi):=fun n=>bounds_congr fun y hy=>h.2.2 y hy
    rw [h.1,h.2.1]; simp only [hb]
  case sstr x lo hi=>rw [h.1]; simp only [bounds_congr h.2]
  all_goals simp_all
theorem names_opd {o:Op1} {f g:Fr} (h:∀ t∈o.names,f t=g t):∀ x∈o.op.opds,ev x f=ev x g:=fun x hx =>
  ev_congr fun t ht=>h t (List.mem_append_left _ (List.mem_filterMap.2 ⟨x,hx,ht⟩))
/-- What an operation comes to, in the frame that its own order leads to. -/
def qv (P:Program) (o:Op1) (f:Fr) (H:Hp) (v:V):Prop:=match o.g with
  | none=>q1 P o.op f H (· = v)
  | some (t,want)=>sg (f t)=true∧qg P o.op (gd (f t) want=true) f H (· = v)
theorem q1_congr {P:Program} {op:Ik} {f g:Fr} {H:Hp} {K:V→Prop} (h:∀ x∈op.opds,ev x f=ev x g) (hq:q1 P op f H K):q1 P op g H K:=by
  cases op with
  | e op=>simp only [q1,qcall] at hq ⊢; rw [← E1_congr h]; exact hq
  | call m args =>
    simp only [q1,qcall] at hq ⊢
    rw [show args.map (ev · g)=args.map (ev · f) from (List.map_congr_left h).symm]; exact hq
theorem qg_congr {P:Program} {op:Ik} {f g:Fr} {H:Hp} {K:V→Prop} {c:Prop} [Decidable c] (h:∀ x∈op.opds,ev x f=ev x g) (hq:qg P op c f H K):qg P op c g H K:=by
  cases op with
  | e op=>simp only [qg,gcall] at hq ⊢; rw [← E1_congr h]; exact hq
  | call m args =>
    simp only [qg,gcall] at hq ⊢
    rw [show args.map (ev · g)=args.map (ev · f) from (List.map_congr_left h).symm]; exact hq
theorem qv_congr {P:Program} {o:Op1} {f g:Fr} {H:Hp} {v:V} (h:∀ t∈o.names,f t=g t) (hq:qv P o f H v):qv P o g H v:=by
  unfold qv at *
  cases hg:o.g with
  | none=>simp only [hg] at hq ⊢; exact q1_congr (names_opd h) hq
  | some tw =>
    obtain ⟨t,want⟩:=tw
    simp only [hg] at hq ⊢
    have ht:f t=g t:=h t (by simp [Op1.names,hg])
    rw [← ht]
    exact ⟨hq.1,qg_congr (names_opd h) hq.2⟩
/-- The frames that their own order leads to. -/
def Run (P:Program) (H:Hp) (F:Fr):List Op1→Fr→Prop
  | [],f=>F=f
  | o::r,f=>∃ v,qv P o f H v∧Run P H F r (upd o.dst v f)
theorem q1_val {P:Program} {op:Ik} {f:Fr} {H:Hp} {K:V→Prop} (hq:q1 P op f H K):∃ v,q1 P op f H (· = v)∧K v:=by
  cases op with
  | e op =>
    simp only [q1,andV] at hq ⊢
    obtain ⟨hi,hq⟩:=hq
    cases he:E1 op f H with
    | none=>rw [he] at hq; exact hq.elim
    | some vh=>rw [he] at hq; exact ⟨vh.1,⟨hi,rfl⟩,hq⟩
  | call m args =>
    simp only [q1,qcall] at hq ⊢
    obtain ⟨r,h1,h2⟩:=hq
    exact ⟨r,⟨r,h1,rfl⟩,h2⟩
theorem qg_val {P:Program} {op:Ik} {f:Fr} {H:Hp} {K:V→Prop} {c:Prop} [Decidable c] (hq:qg P op c f H K):∃ v,qg P op c f H (· = v)∧K v:=by
  cases op with
  | e op =>
    simp only [qg,andG] at hq ⊢
    exact ⟨_,⟨hq.1,hq.2.1,rfl⟩,hq.2.2⟩
  | call m args =>
    simp only [qg,gcall] at hq ⊢
    obtain ⟨r,h1,h2⟩:=hq
    exact ⟨_,⟨r,h1,rfl⟩,h2⟩
theorem qops_run {P:Program} {H:Hp} {K:Fr→Prop}:∀ (l:List Op1) (f:Fr),qops P l f H K→∃ F,Run P H F l f∧K F
  | [],f,h=>⟨f,rfl,h⟩
  | o::r,f,h=>by
    simp only [qops] at h
    cases hg:o.g with
    | none =>
      rw [hg] at h
      obtain ⟨v,h1,h2⟩:=q1_val h
      obtain ⟨F,h3,h4⟩:=qops_run r _ h2
      exact ⟨F,⟨v,by simp only [qv,hg]; exact h1,h3⟩,h4⟩
    | some tw =>
      obtain ⟨t,want⟩:=tw
      rw [hg] at h
      obtain ⟨v,h1,h2⟩:=qg_val h.2
      obtain ⟨F,h3,h4⟩:=qops_run r _ h2
      exact ⟨F,⟨v,by simp only [qv,hg]; exact ⟨h.1,h1⟩,h3⟩,h4⟩
theorem upd_ne {d:Option Nat} {v:V} {f:Fr} {t:Nat} (h:d ≠ some t):upd d v f t=f t:=by
  cases d with
  | none=>rfl
  | some d=>simp only [upd]; rw [if_neg (by intro e; subst e; exact h rfl)]
theorem Run.keep {P:Program} {H:Hp} {F:Fr}:∀ (l:List Op1) (f:Fr) (t:Nat),Run P H F l f→t ∉ dsts l→F t=f t
  | [],f,t,h,_=>by rw [show F=f from h]
  | o::r,f,t,h,ht=>by
    obtain ⟨v,_,h⟩:=h
    have h1:t ∉ dsts r:=fun e=>ht (by unfold dsts at *; rw [List.filterMap_cons]; cases o.dst <;> simp_all)
    have h2:o.dst ≠ some t:=fun e=>ht (by simp [dsts,e])
    rw [Run.keep r _ t h h1,upd_ne h2]
theorem Run.val {P:Program} {H:Hp} {F:Fr}:∀ (l:List Op1) (f:Fr),Run P H F l f→ordL l=true→∀ o∈l,∃ v,qv P o F H v∧∀ d,o.dst=some d→F d=v
  | [],f,_,_,o,ho=>by simp at ho
  | o::r,f,h,hl,o',ho=>by
    simp only [ordL,Bool.and_eq_true,List.all_eq_true] at hl
    obtain ⟨⟨h1,h2⟩,h3⟩:=hl
    have hk:=fun t ht=>Run.keep (o::r) f t h (by have:=h1 t ht; simpa using this)
    obtain ⟨v,hv,hr⟩:=h
    rcases List.mem_cons.1 ho with rfl | ho
    · refine ⟨v,qv_congr (fun t ht=>(hk t ht).symm) hv,fun d hd => ?_⟩
      rw [hd] at h2
      rw [Run.keep r _ d hr (by simpa using h2)]
      simp [upd,hd]
    · exact Run.val r _ hr h3 o' ho
theorem ordD_spec {l:List Op1} (h:ordD l=true) {o oj:Op1} (ho:o∈l) {t j:Nat} (ht:t∈o.names) (hj:l[j]? = some oj) (hd:oj.dst=some t):j∈o.aft:=by
  simp only [ordD,List.all_eq_true] at h
  have:=h o ho t ht (oj,j) (by rw [List.mem_zipIdx_iff_getElem?]; exact hj)
  simp only [Bool.or_eq_true,bne_iff_ne,List.contains_iff_mem] at this
  rcases this with h | h
  · exact absurd hd h
  · exact h
theorem ordA_spec {l:List Op1} (h:ordA l=true) {o:Op1} {i:Nat} (hi:l[i]? = some o) {j:Nat} (hj:j∈o.aft):j < i:=by
  simp only [ordA,List.all_eq_true] at h
  have:=h (o,i) (by rw [List.mem_zipIdx_iff_getElem?]; exact hi) j hj
  simpa using this
section
variable {P:Program} {o:Oper} {a:Act} {w:World} {im:Im} {H H':Hp} {f:Fr} {v:V} {N:Nat} {ops:Array Oper} {Q:Exit→Act→World→Prop}
theorem qv_dstep {io:Op1} {K:Fr→Hp→Prop} (h:qv P io f H v) (hK:K (upd io.dst v f) H):dstep P io f H K:=by
  unfold qv at h
  unfold dstep
  cases hg:io.g with
  | none =>
    simp only [hg] at h ⊢
    cases hop:io.op with
    | e op =>
      rw [hop] at h
      simp only [q1,andV] at h
      simp only [d1,andV]
      obtain ⟨hi,h⟩:=h
      cases he:E1 op f H with
      | none=>rw [he] at h; exact h.elim
      | some vh =>
        obtain ⟨v',H'⟩:=vh
        rw [he] at h
        simp only at h ⊢
        subst h
        rw [isQ_H hi he]; exact hK
    | call m args =>
      rw [hop] at h
      simp only [q1,qcall] at h
      obtain ⟨r,h1,rfl⟩:=h
      exact ⟨r,H,h1,hK⟩
  | some tw =>
    obtain ⟨t,want⟩:=tw
    simp only [hg] at h ⊢
    refine ⟨h.1,?_⟩
    have h:=h.2
    cases hop:io.op with
    | e op =>
      rw [hop] at h
      simp only [qg,andG] at h
      simp only [dg,andG]
      obtain ⟨hi,h1,h2⟩:=h
      rw [if_pos hi]
      refine ⟨h1,?_⟩
      rw [h2]; exact hK
    | call m args =>
      rw [hop] at h
      simp only [qg,gcall] at h
      obtain ⟨r,h1,h2⟩:=h
      refine ⟨r,h1,?_⟩
      rw [h2]; exact hK
/-- Between the operations: what is listed holds its value. -/
structure PS (N:Nat) (l:List Op1) (F:Fr) (listed:Array Bool) (im:Im) (H:Hp) (w:World) (a:Act):Prop where
  rel:Rel im H w
  size:a.tmps.size=N
  defers:a.defers=[]
  at_:∀ t,(∀ j oj,l[j]? = some oj→oj.dst=some t→listed.getD j false=true)→VR im H w (F t) (a.tmps.getD t undef)
theorem cOps_get:∀ (os:List Oper) (l:List Op1),cOps P true N ops os=some l→l.length=os.length∧∀ (i:Nat) (o:Oper),os[i]? = some o→∃ io,l[i]? = some io∧cOp P true N ops o=some io
  | [],l,h=>by simp [cOps] at h; subst h; exact ⟨rfl,fun i o hi=>by simp at hi⟩
  | o::r,l,h=>by
    simp only [cOps] at h
    obtain ⟨io,h1,h⟩:=Option.bind_eq_some_iff.1 h
    obtain ⟨l',h2,rfl⟩:=Option.map_eq_some_iff.1 h
    obtain ⟨h3,h4⟩:=cOps_get r l' h2
    refine ⟨by simp [h3],fun i o' hi => ?_⟩
    cases i with
    | zero=>simp at hi; subst hi; exact ⟨io,rfl,h1⟩
    | succ i=>exact h4 i o' (by simpa using hi)
def open_ (listed:Array Bool):Nat:=(listed.toList.filter (!·)).length
theorem open_set {listed:Array Bool} {i:Nat} (h:listed.getD i true=false):open_ (listed.setIfInBounds i true)+1=open_ listed:=by
  unfold open_
  have hi:i < listed.size:=by
    rcases Nat.lt_or_ge i listed.size with h' | h'
    · exact h'
    · simp [Array.getElem?_eq_none h'] at h
  have hv:listed.toList[i]? = some false:=by simp [hi] at h ⊢; exact h
  rw [Array.toList_setIfInBounds]
  generalize listed.toList=l at *
  clear h hi
  induction l generalizing i with
  | nil=>simp at hv
  | cons x r ih =>
    cases i with
    | zero=>simp at hv; subst hv; simp
    | succ i =>
      have:=ih (i:=i) (by simpa using hv)
      cases x <;> simp at this ⊢ <;> omega
theorem none_open {listed:Array Bool} (h:open_ listed=0) (j:Nat) (hj:j < listed.size):listed.getD j false=true:=by
  unfold open_ at h
  have h1:listed.toList.filter (!·)=[]:=List.eq_nil_of_length_eq_zero h
  rw [List.filter_eq_nil_iff] at h1
  have:=h1 (listed[j]) (by simp)
  simp [hj] at this ⊢
  exact this
theorem least (p:Nat→Prop) (n:Nat) (h:p n):∃ m,p m∧∀ k,k < m→¬ p k:=by
  induction n using Nat.strongRecOn with
  | _ n ih =>
    by_cases hh:∃ k,k < n∧p k
    · obtain ⟨k,hk,hp⟩:=hh; exact ih k hk hp
    · exact ⟨n,h,fun k hk hp=>hh ⟨k,hk,hp⟩⟩
/-- Nothing is ready: all are listed. -/
theorem all_listed {l:List Op1} (hl:cOps P true N ops ops.toList=some l) (hA:ordA l=true) {listed:Array Bool} (hs:listed.size=ops.size) (hr:Region.ready .any ops listed=[]) (j:Nat) (hj:j < ops.size):listed.getD j false=true:=by
  cases hv:listed.getD j false with
  | true=>rfl
  | false =>
    exfalso
    obtain ⟨m,⟨hm1,hm2⟩,hm3⟩:=least (fun j=>j < ops.size∧listed.getD j false=false) j ⟨hj,hv⟩
    obtain ⟨_,hget⟩:=cOps_get _ _ hl
    obtain ⟨io,hio,hc⟩:=hget m ops[m] (by simp [hm1])
    obtain ⟨_,_,_,haft,_⟩:=cOp_ok hc
    have:m∈Region.ready .any ops listed:=by
      rw [mem_ready]
      refine ⟨?_,ops[m],by simp [hm1],fun e he hb => ?_⟩
      · have:m < listed.size:=by omega
        simp [this] at hm2 ⊢; exact hm2
      · have hmem:e.on∈io.aft:=by
          rw [haft]
          exact List.mem_map.2 ⟨e,List.mem_filter.2 ⟨by simpa using he,hb⟩,rfl⟩
        have hlt:=ordA_spec hA hio hmem
        have:=hm3 e.on hlt
        cases hh:listed.getD e.on false with
        | true=>rfl
        | false=>exact absurd ⟨by omega,hh⟩ this
    rw [hr] at this
    simp at this
theorem any_sound {l:List Op1} (hl:cOps P true N ops ops.toList=some l) (hD:ordD l=true) (hA:ordA l=true) {F:Fr} {im0:Im} {w0:World} (hF:∀ o∈l,∃ v,qv P o F H v∧∀ d,o.dst=some d→F d=v)
    (hQ:∀ a w,After N im0 H w0 (fun f' H'=>f'=F∧H'=H) a w→Q .normal a w) :
    ∀ (fuel:Nat) (listed:Array Bool) (im:Im) (a:Act) (w:World),listed.size=ops.size→open_ listed≤fuel→Ext im0 H w0 im H w→PS N l F listed im H w a→wpAny P .any ops Q fuel listed a w:=by
  have fin:∀ (listed:Array Bool) (im:Im) (a:Act) (w:World),listed.size=ops.size→(∀ j,j < ops.size→listed.getD j false=true)→Ext im0 H w0 im H w→PS N l F listed im H w a→Q .normal a w:=fun listed im a w hs hall hx hp=>by
    refine hQ _ _ ⟨F,H,im,⟨rfl,rfl⟩,⟨hp.rel,⟨fun t=>hp.at_ t fun j oj hj _=>hall j ?_⟩,hp.size,hp.defers⟩,hx⟩
    have:=(List.getElem?_eq_some_iff.1 hj).1
    rw [(cOps_get _ _ hl).1] at this
    simpa using this
  intro fuel
  induction fuel with
  | zero =>
    intro listed im a w hs ho hx hp
    have hall:∀ j,j < ops.size→listed.getD j false=true:=fun j hj=>none_open (by omega) j (by omega)
    refine ⟨?_,fin listed im a w hs hall hx hp⟩
    rw [List.eq_nil_iff_forall_not_mem]
    intro j hj
    rw [mem_ready] at hj
    obtain ⟨h0,o,ho',_⟩:=hj
    have hlt:=(Array.getElem?_eq_some_iff.1 ho').1
    have h1:=hall j hlt
    have hlt':j < listed.size:=by omega
    simp [hlt'] at h0 h1
    rw [h0] at h1; cases h1
  | succ fuel ih =>
    intro listed im a w hs ho hx hp
    refine ⟨fun hr=>fin listed im a w hs (all_listed hl hA hs hr) hx hp,fun i hi => ?_⟩
    obtain ⟨h0,o,hoi,hall⟩:=mem_ready.1 hi
    obtain ⟨hlen,hget⟩:=cOps_get _ _ hl
    obtain ⟨io,hio,hc⟩:=hget i o (by simpa using hoi)
    obtain ⟨_,hdst,_,haft,_⟩:=cOp_ok hc
    have hmem:io∈l:=List.mem_of_getElem? hio
    obtain ⟨v,hv,hvd⟩:=hF io hmem
    have hnames:∀ t∈io.names,VR im H w (F t) (a.tmps.getD t undef):=fun t ht=>hp.at_ t fun j oj hj hd=>by
      have:=ordD_spec hD hmem ht hj hd
      rw [haft] at this
      obtain ⟨e,he,rfl⟩:=List.mem_map.1 this
      obtain ⟨he,hb⟩:=List.mem_filter.1 he
      exact hall e (by simpa using he) hb
    let f':Fr:=fun t=>if t∈io.names then F t else .s (a.tmps.getD t undef)
    have hs':Sim N im H w f' a:=⟨hp.rel,⟨fun t=>by
      show VR im H w (if t∈io.names then F t else .s (a.tmps.getD t undef)) _
      split
      · rename_i ht; exact hnames t ht
      · rfl⟩,hp.size,hp.defers⟩
    have hv':qv P io f' H v:=qv_congr (fun t ht=>by show F t=if t∈io.names then F t else _; rw [if_pos ht]) hv
    have hst:=step_sound (Q:=Q) hoi hc hs' (K:=fun f2 H2=>f2=upd io.dst v f'∧H2=H) (qv_dstep hv' ⟨rfl,rfl⟩)
    refine wpOp_mono (fun a' w' hA' => ?_) hst
    obtain ⟨f2,H2,im2,⟨rfl,rfl⟩,hs2,hx2⟩:=hA'
    refine ih (listed.setIfInBounds i true) im2 a' w' (by simp [hs]) (by have:=open_set h0; omega) (hx.trans hx2) ⟨hs2.rel,hs2.size,hs2.defers,fun t ht => ?_⟩
    have hat:=hs2.fr.at_ t
    by_cases hd:io.dst=some t
    · rw [hvd t hd]
      simpa [upd,hd] using hat
    · rw [upd_ne hd] at hat
      by_cases htn:t∈io.names
      · have:f' t=F t:=by show (if t∈io.names then F t else _)=_; rw [if_pos htn]
        rw [← this]; exact hat
      · have e1:f' t=.s (a.tmps.getD t undef):=by show (if t∈io.names then F t else _)=_; rw [if_neg htn]
        rw [e1] at hat
        rw [hat.s_inv]
        refine (hp.at_ t fun j oj hj hdj => ?_).ext hx2
        have:=ht j oj hj hdj
        by_cases hij:i=j
        · subst hij; rw [hio] at hj; injection hj with hj; subst hj; exact absurd hdj hd
        · rwa [getD_set_ne false hij] at this
theorem qops_sound {id:Nat} {l:List Op1} (hm:(P.follows .mixedOrders||!Region.departs ops)=true) (hl:cOps P true N ops ops.toList=some l) (ho:ordOk l=true) (hs:Sim N im H w f a) {K:Fr→Prop} (h:qops P l f H K)
    (hQ:∀ a' w',After N im H w (fun f' H'=>K f'∧H'=H) a' w'→Q .normal a' w'):(Code.region id ops true).wp P Q a w:=by
  simp only [ordOk,Bool.and_eq_true] at ho
  obtain ⟨⟨h1,h2⟩,h3⟩:=ho
  obtain ⟨F,hrun,hK⟩:=qops_run l f h
  refine wp_region_draw fun t => ?_
  simp only [Region.schedule,hm,if_true]
  obtain ⟨hr,hx⟩:=hs.rel.drew
  refine wpAny_sound ops.size t _ a _ ?_
  refine any_sound hl h2 h3 (hrun.val l f h1) (fun a' w' hA=>hQ a' w' ?_) ops.size _ im a _ (by simp) (by simp [open_]) hx ⟨hr,hs.size,hs.defers,fun t ht => ?_⟩
  · obtain ⟨f',H',im',⟨rfl,rfl⟩,hs',hx'⟩:=hA
    exact ⟨f',H',im',⟨hK,rfl⟩,hs',hx'⟩
  · rw [Run.keep l f t hrun fun hmem => ?_]
    · exact (hs.fr.at_ t).ext hx
    · obtain ⟨oj,hoj,hd⟩:=List.mem_filterMap.1 hmem
      obtain ⟨j,hj,hje⟩:=List.getElem_of_mem hoj
      have:=ht j oj (by rw [List.getElem?_eq_getElem hj,hje]) hd
      have hlt:j < ops.size:=by rw [(cOps_get _ _ hl).1] at hj; simpa using hj
      simp [hlt] at this
end
end Go.Proofs.YtoemlgdlejkliaaK
