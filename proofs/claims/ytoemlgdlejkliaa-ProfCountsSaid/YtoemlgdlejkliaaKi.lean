/- From the program's operations to the steps. -/
import Derived.Test.YtoemlgdlejkliaaKh
namespace Go.Proofs.YtoemlgdlejkliaaK
set_option linter.unusedVariables false
set_option linter.unusedSimpArgs false
open Go.RowKit
def cOo:Option Operand→Option (Option Opd)
  | none=>some none
  | some x=>(cO x).map some
def cOs:List Operand→Option (List Opd)
  | []=>some []
  | x::r=>(cO x).bind fun x=>(cOs r).map fun l=>x::l
theorem cOs_ok {im:Im} {H:Hp} {w:World} {f:Fr} {a:Act} (hf:FR im H w f a):∀ (X:List Operand) (x:List Opd),cOs X=some x→VRs im H w (x.map (ev · f)) (X.map a.eval)
  | [],x,h=>by simp [cOs] at h; subst h; trivial
  | X::r,x,h=>by
    simp only [cOs] at h
    obtain ⟨y,hy,h⟩:=Option.bind_eq_some_iff.1 h
    obtain ⟨l,hl,rfl⟩:=Option.map_eq_some_iff.1 h
    exact ⟨ev_ok hf hy,cOs_ok hf r l hl⟩
def appE (P:Program) (t:TypeId):TypeId:=match P.underlying t with
  | some (.slice e)=>e
  | _=>0
def cApp (P:Program) (t:TypeId):Option (Nat × Nat):=match P.underlying t with
  | some (.slice e)=>match P.info? e with
    | some i=>match i.zero with
      | some z=>if 0 < i.size∧0 < i.bytes∧z.cells.size=i.size then some (i.size,i.bytes) else none
      | none=>none
    | none=>none
  | _=>none
/-- The type of a builder's bytes. -/
def bufOf (P:Program) (e:TypeId):TypeId:=match P.underlying e with
  | some (.struct fs)=>(match fs.toList with
    | [_,f]=>(match P.underlying f.type with
      | some (.slice u)=>u
      | _=>0)
    | _=>0)
  | _=>0
def zop (P:Program) (e:TypeId):List Value→I
  | [.pointer none,.slice none 0 0]=>.zerob e (bufOf P e)
  | z=>.zero z
def cI (P:Program) (draw:Bool) (o:Oper):Option I:=match o.op with
  | .move x=>(cO x).map .mv
  | .assign x=>match draw,x,P.underlying o.type with
    | false,.const (.slice none 0 0),some (.slice e)=>(tsz P e).map .nilg
    | _,x,_=>(cO x).map .mv
  | .pick c x y=>(cO c).bind fun c=>(cO x).bind fun x=>(cO y).map fun y=>.pick c x y
  | .box _ x=>(cO x).map .box
  | .alloc e=>(tz P e).map (zop P e)
  | .build t ps=>if placeOk P t then (tz P t).bind fun z=>(cParts (place P t) ps.toList).map fun l=>.build z l else none
  | .buildSlice t n ps=>match P.underlying t with
    | some (.slice e)=>if n=0∧ps.toList.length=0 then (tsz P e).map fun _=>.bsl 0 [] []
      else if n≤16777216 then (tsz P e).bind fun sz=>(bz P e n).bind fun z=>(cParts (fun i=>some (i*sz,sz)) ps.toList).map fun l=>.bsl n z l else none
    | _=>none
  | .load t x=>(ag? P t).bind fun ag=>(tsz P t).bind fun sz=>if ag=true∨sz=1 then (cO x).map (.load ag sz) else none
  | .store t p x=>(tsz P t).bind fun sz=>(cO p).bind fun p=>(cO x).map (.store sz p)
  | .nilCheck x=>(cO x).map .nilc
  | .binOp op t x y _=>match P.underlying t with
    | some (.int _) | some .string=>(cO x).bind fun x=>(cO y).map fun y=>.bin op x y
    | some .bool=>match op with
      | .eql=>(cO x).bind fun x=>(cO y).map fun y=>.bbin false x y
      | .neq=>(cO x).bind fun x=>(cO y).map fun y=>.bbin true x y
      | _=>none
    | some (.struct _) | some (.array _ _)=>if P.eqGuardType P.depth t=false then (flat P 20 t).bind fun ks=>(cO x).bind fun x=>(cO y).bind fun y=>(match op with
      | .eql=>some (.eqa false ks x y)
      | .neq=>some (.eqa true ks x y)
      | _=>none) else none
    | some (.slice _)=>match op,y with
      | .eql,.const (.slice none 0 0)=>(cO x).map fun x=>.isnil false true x
      | .neq,.const (.slice none 0 0)=>(cO x).map fun x=>.isnil true true x
      | _,_=>none
    | some (.pointer _)=>match op,y with
      | .eql,.const (.pointer none)=>(cO x).map fun x=>.isnil false false x
      | .neq,.const (.pointer none)=>(cO x).map fun x=>.isnil true false x
      | _,_=>none
    | _=>none
  | .unOp op _ x=>(cO x).map (.un op)
  | .convert s t x=>match P.underlying s,P.underlying t with
    | some (.int _),some (.int k)=>(cO x).map (.cint k)
    | some .string,some .string=>(cO x).map .cid
    | some (.slice e),some .string=>match P.underlying e with
      | some (.int .u8)=>(cO x).map .bstr
      | _=>none
    | some .string,some (.slice e)=>match P.underlying e with
      | some (.int .u8)=>(cO x).map .strb
      | _=>none
    | _,_=>none
  | .makeSlice t l c=>match P.underlying t with
    | some (.slice e)=>(tz P e).bind fun z=>(tby P e).bind fun b=>if tsz P e=some z.length then (cO l).bind fun l=>(cO c).map fun c=>.mks z b l c else none
    | _=>none
  | .slice t x lo hi none=>match P.underlying t with
    | some .string=>(cO x).bind fun x=>(cOo lo).bind fun lo=>(cOo hi).map fun hi=>.sstr x lo hi
    | some (.slice e)=>(tsz P e).bind fun sz=>(cO x).bind fun x=>(cOo lo).bind fun lo=>(cOo hi).map fun hi=>.slice sz x lo hi
    | some (.array n e)=>if n≤16777216 then (tsz P e).bind fun sz=>(cO x).bind fun x=>(cOo lo).bind fun lo=>(cOo hi).map fun hi=>.sarr n sz x lo hi else none
    | _=>none
  | .slice t x lo (some hi) (some mx)=>match P.underlying t with
    | some (.slice e)=>(tsz P e).bind fun sz=>(cO x).bind fun x=>(cOo lo).bind fun lo=>(cO hi).bind fun hi=>(cO mx).map fun mx=>.sl3 sz x lo hi mx
    | _=>none
  | .fieldAddr t x i=>match P.underlying t with
    | some (.struct fs)=>(fs[i]?).bind fun fd=>(tsz P fd.type).bind fun n=>if n ≠ 0 then (cO x).map (.fld fd.offset) else none
    | _=>none
  | .field t x i=>match P.underlying t with
    | some (.struct fs)=>(fs[i]?).bind fun fd=>(ag? P fd.type).bind fun ag=>(tsz P fd.type).bind fun sz=>if ag=true∨sz=1 then (cO x).map (.part ag fd.offset sz) else none
    | _=>none
  | .indexAddr t x i=>match P.underlying t with
    | some (.array n e)=>(tsz P e).bind fun sz=>(cO x).bind fun x=>(cO i).map fun i=>.iaa n sz x i
    | some (.slice e)=>(tsz P e).bind fun sz=>(cO x).bind fun x=>(cO i).map fun i=>.ias sz x i
    | _=>none
  | .index t x i=>match P.underlying t with
    | some (.array n e)=>(ag? P e).bind fun ag=>(tsz P e).bind fun sz=>if ag=true∨sz=1 then (cO x).bind fun x=>(cO i).map fun i=>.ixa ag n sz x i else none
    | some .string=>(cO x).bind fun x=>(cO i).map fun i=>.ixs x i
    | _=>none
  | .extract x i=>(cO x).map (.ext i)
  | .makeFunc (.func m) first cap=>if first.toList=[] then (cOs cap.toList).map fun l=>.mkf m l else none
  | .makeInterface t x=>match P.underlying t with
    | some (.interface _)=>none
    | some _=>(cO x).map (.mki t)
    | none=>none
  | .call { callee:=.builtin .len,args,argTypes }=>match args.toList,argTypes[0]? with
    | [x],some t=>match P.underlying t with
      | some (.slice _)=>(cO x).map .len
      | some .string=>(cO x).map .lens
      | _=>none
    | _,_=>none
  | .call { callee:=.builtin .append,args,argTypes }=>match args.toList,argTypes.toList with
    | [x,y],[t,tx]=>(cApp P t).bind fun sb=>(cO x).bind fun x=>(cO y).bind fun y=>(match P.underlying tx with
      | some (.slice _)=>some (.app (appE P t) sb.1 sb.2 x y)
      | some .string=>if sb.1=1 then some (.apps (appE P t) sb.2 x y) else none
      | _=>none)
    | _,_=>none
  | .call { callee:=.builtin .min,args,argTypes:=_ }=>match args.toList with
    | [x,y]=>(cO x).bind fun x=>(cO y).map fun y=>.mnx false x y
    | _=>none
  | .call { callee:=.builtin .max,args,argTypes:=_ }=>match args.toList with
    | [x,y]=>(cO x).bind fun x=>(cO y).map fun y=>.mnx true x y
    | _=>none
  | .call { callee:=.builtin .copy,args,argTypes }=>match args.toList,argTypes.toList with
    | [x,y],[t,_]=>match P.underlying t with
      | some (.slice e)=>if (P.info? e).map (·.size)=some 1 then (cO x).bind fun x=>(cO y).map fun y=>.cpy x y else none
      | _=>none
    | _,_=>none
  | .call { callee:=.builtin .clear,args,argTypes }=>match args.toList,argTypes.toList with
    | [x],[t]=>match P.underlying t with
      | some (.slice e)=>(tz P e).bind fun z=>(cO x).map fun x=>.clr z x
      | _=>none
    | _,_=>none
  | _=>none
def cCall (P:Program) (o:Oper):Option (FuncId × List Opd):=match o.op with
  | .call { callee:=.value (.func m),args,argTypes:=_ }=>if callable P m then (cOs args.toList).map fun l=>(m,l) else none
  | .call { callee:=.value (.tmp t),args,argTypes:=_ }=>(cOs args.toList).map fun l=>(DYN,.t t::l)
  | .call { callee:=.invoke r nm,args,argTypes:=_ }=>(cO r).bind fun x=>(nmId nm).bind fun k=>(cOs args.toList).map fun l=>(k,x::l)
  | _=>none
/-- What is not covered: a step that never has a value, so that nothing is to be shown of it. -/
def badI:I:=.lens (.k (.bool false))
theorem badI_none (f:Fr) (H:Hp):E1 badI f H=none:=rfl
def cK (P:Program) (draw:Bool) (o:Oper):Option Ik:=match cCall P o with
  | some (m,l)=>some (.call m l)
  | none=>some (.e ((cI P draw o).getD badI))
theorem cOo_ok {X:Option Operand} {x:Option Opd} (h:cOo X=some x):X.map cO=x.map some:=by
  cases X with
  | none=>simp [cOo] at h; subst h; rfl
  | some X =>
    simp only [cOo] at h
    obtain ⟨y,hy,rfl⟩:=Option.map_eq_some_iff.1 h
    simp [hy]
theorem cApp_ok {P:Program} {t:TypeId} {sb:Nat × Nat} (h:cApp P t=some sb):AppT P t (appE P t) sb.1 sb.2:=by
  unfold cApp at h
  split at h
  · rename_i e he
    split at h
    · rename_i i hi
      split at h
      · rename_i z hz
        split at h <;> simp at h
        subst h
        rename_i hh
        have hE:appE P t=e:=by simp only [appE,he]
        rw [hE]
        exact ⟨he,⟨i,z,hi,hz,rfl,rfl,hh.2.2⟩,hh.1,hh.2.1⟩
      · simp at h
    · simp at h
  · simp at h
theorem arr_eq1 {α:Type} {l:Array α} {x:α} (h:l.toList=[x]):l = #[x]:=by
  apply Array.ext'; simpa using h
theorem arr_eq2 {α:Type} {l:Array α} {x y:α} (h:l.toList=[x,y]):l = #[x,y]:=by
  apply Array.ext'; simpa using h
section
variable {P:Program} {o:Oper} {a:Act} {w:World} {im:Im} {H H':Hp} {f:Fr} {v:V}
theorem ofBytes_len (s:ByteArray):(ofBytes s).length=s.size*1:=by
  unfold ofBytes
  rw [List.length_map,Nat.mul_one,Array.length_toList]
  rfl
theorem ofBytes_one (s:ByteArray):(ofBytes s).all V.one=true:=by
  unfold ofBytes
  generalize s.data.toList=l
  induction l with
  | nil=>rfl
  | cons x r ih=>rw [List.map_cons,List.all_cons,ih]; rfl
/-- Nothing that isn't a cell is appended: but an empty slice may be. -/
theorem app_noone (hr:Rel im H w) (hf:FR im H w f a) {X Y:Operand} {x y:Opd} {t tx e e':TypeId} {sb:Nat × Nat} (hx:cO X=some x) (hy:cO Y=some y) (ho:o.op=.call { callee:=.builtin .append,args := #[X,Y],argTypes := #[t,tx] }) (T:AppT P t e sb.1 sb.2) (htx:P.underlying tx=some (.slice e'))
    {ys:List V} {k:Nat} (hk:slLen H (ev y f)=some k) (hys:slCells H sb.1 (ev y f)=some ys) (hone:¬ ys.all V.one=true) {v:V} (hv:appendV H e sb.1 sb.2 (ev x f) ys k=some (v,H')):Stp P o a w im H v H':=by
  obtain ⟨A,n,cap,vs,hc,hn,_,hlen,hvs,_⟩:=slCells_ok hr (ev_ok hf hy) hys
  rw [hk] at hn; injection hn with hn; subst hn
  have hne:ys ≠ []:=fun e=>hone (by rw [e]; rfl)
  have hk0:k ≠ 0:=fun e=>by
    subst e
    simp at hlen
    exact hne hlen
  exfalso
  unfold appendV at hv
  split at hv
  · split at hv
    · split at hv <;> simp_all
    · simp at hv
  · rw [if_neg hk0] at hv
    split at hv <;> simp_all
  · rw [if_neg hk0] at hv
    split at hv <;> simp_all
  · simp at hv
set_option maxHeartbeats 1000000 in
theorem e1_sound (hr:Rel im H w) (hf:FR im H w f a) {draw:Bool} {op:I} (hc:cI P draw o=some op) (h:E1 op f H=some (v,H')):Stp P o a w im H v H':=by
  unfold cI at hc
  split at hc
  · rename_i x ho
    obtain ⟨x',hx,rfl⟩:=Option.map_eq_some_iff.1 hc
    simp only [E1,Option.some.injEq,Prod.mk.injEq] at h
    obtain ⟨rfl,rfl⟩:=h
    exact s_mv hr hf hx (.inl ho)
  · rename_i x ho
    split at hc
    · rename_i e hu
      obtain ⟨sz,hsz,rfl⟩:=Option.map_eq_some_iff.1 hc
      simp only [E1,Option.some.injEq,Prod.mk.injEq] at h
      obtain ⟨rfl,rfl⟩:=h
      exact s_nilg hr sz ho
    · obtain ⟨x',hx,rfl⟩:=Option.map_eq_some_iff.1 hc
      simp only [E1,Option.some.injEq,Prod.mk.injEq] at h
      obtain ⟨rfl,rfl⟩:=h
      exact s_mv hr hf hx (.inr ho)
  · rename_i c x y ho
    obtain ⟨c',hcc,hc⟩:=Option.bind_eq_some_iff.1 hc
    obtain ⟨x',hx,hc⟩:=Option.bind_eq_some_iff.1 hc
    obtain ⟨y',hy,rfl⟩:=Option.map_eq_some_iff.1 hc
    simp only [E1] at h
    obtain ⟨t,ht,h⟩:=Option.map_eq_some_iff.1 h
    injection h with h1 h2; subst h1; subst h2
    exact s_pick hr hf hcc hx hy ho ht
  · rename_i e x ho
    obtain ⟨x',hx,rfl⟩:=Option.map_eq_some_iff.1 hc
    simp only [E1] at h
    split at h <;> simp at h
    obtain ⟨rfl,rfl⟩:=h
    rename_i h1
    exact s_box hr hf hx ho h1
  · rename_i e ho
    obtain ⟨z,hz,rfl⟩:=Option.map_eq_some_iff.1 hc
    unfold zop at h
    split at h
    · simp only [E1,Option.some.injEq,Prod.mk.injEq] at h
      obtain ⟨rfl,rfl⟩:=h
      exact s_zerob hr hz ho
    · simp only [E1,Option.some.injEq,Prod.mk.injEq] at h
      obtain ⟨rfl,rfl⟩:=h
      exact s_zero hr hz ho
  · rename_i t ps ho
    split at hc
    · rename_i hp
      obtain ⟨z,hz,hc⟩:=Option.bind_eq_some_iff.1 hc
      obtain ⟨l,hl,rfl⟩:=Option.map_eq_some_iff.1 hc
      simp only [E1] at h
      obtain ⟨q,hq,h⟩:=Option.map_eq_some_iff.1 h
      injection h with h1 h2; subst h1; subst h2
      exact s_build hr hf ho hz hp hl hq
    · simp at hc
  · rename_i t n ps ho
    split at hc
    · rename_i e hu
      split at hc
      · rename_i h0
        obtain ⟨sz,hsz,rfl⟩:=Option.map_eq_some_iff.1 hc
        simp [E1,fillV,statics] at h
        obtain ⟨rfl,rfl⟩:=h
        have hp0:ps = #[]:=by
          have:=h0.2
          apply Array.eq_empty_of_size_eq_zero
          simpa using this
        refine s_bsl0 hr (t:=t) (e:=e) (sz:=sz) ?_ hu hsz
        rw [ho,h0.1,hp0]
      · split at hc
        · rename_i hn
          obtain ⟨sz,hsz,hc⟩:=Option.bind_eq_some_iff.1 hc
          obtain ⟨z,hz,hc⟩:=Option.bind_eq_some_iff.1 hc
          obtain ⟨l,hl,rfl⟩:=Option.map_eq_some_iff.1 hc
          simp only [E1] at h
          obtain ⟨q,hq,h⟩:=Option.bind_eq_some_iff.1 h
          split at h <;> simp at h
          obtain ⟨rfl,rfl⟩:=h
          rename_i hst
          exact s_bsl hr hf ho hu hsz hz hl hq hst.1 (by unfold maxLen; omega)
        · simp at hc
    · simp at hc
  · rename_i t x ho
    obtain ⟨ag,hag,hc⟩:=Option.bind_eq_some_iff.1 hc
    obtain ⟨sz,hsz,hc⟩:=Option.bind_eq_some_iff.1 hc
    split at hc
    · rename_i h1
      obtain ⟨x',hx,rfl⟩:=Option.map_eq_some_iff.1 hc
      simp only [E1] at h
      obtain ⟨l,hl,h⟩:=Option.bind_eq_some_iff.1 h
      obtain ⟨v',hv,h⟩:=Option.map_eq_some_iff.1 h
      injection h with e1 e2; subst e1; subst e2
      exact s_load hr hf hx ho hag hsz h1 hl hv
    · simp at hc
  · rename_i t p x ho
    obtain ⟨sz,hsz,hc⟩:=Option.bind_eq_some_iff.1 hc
    obtain ⟨p',hp,hc⟩:=Option.bind_eq_some_iff.1 hc
    obtain ⟨x',hx,rfl⟩:=Option.map_eq_some_iff.1 hc
    simp only [E1] at h
    split at h
    · rename_i hl
      obtain ⟨H2,hs,h⟩:=Option.map_eq_some_iff.1 h
      injection h with e1 e2; subst e1; subst e2
      exact s_store hr hf hp hx ho hsz hl hs
    · simp at h
  · rename_i x ho
    obtain ⟨x',hx,rfl⟩:=Option.map_eq_some_iff.1 hc
    simp only [E1] at h
    split at h <;> simp at h
    obtain ⟨rfl,rfl⟩:=h
    rename_i h1
    exact s_nilc hr hf hx ho h1
  · rename_i op' t x y t' ho
    split at hc
    · obtain ⟨x',hx,hc⟩:=Option.bind_eq_some_iff.1 hc
      obtain ⟨y',hy,rfl⟩:=Option.map_eq_some_iff.1 hc
      simp only [E1] at h
      obtain ⟨m,hm,h⟩:=Option.bind_eq_some_iff.1 h
      obtain ⟨n,hn,h⟩:=Option.bind_eq_some_iff.1 h
      obtain ⟨r,hr',h⟩:=Option.map_eq_some_iff.1 h
      injection h with e1 e2; subst e1; subst e2
      exact s_bin hr hf hx hy ho hm hn hr'
    · obtain ⟨x',hx,hc⟩:=Option.bind_eq_some_iff.1 hc
      obtain ⟨y',hy,rfl⟩:=Option.map_eq_some_iff.1 hc
      simp only [E1] at h
      obtain ⟨m,hm,h⟩:=Option.bind_eq_some_iff.1 h
      obtain ⟨n,hn,h⟩:=Option.bind_eq_some_iff.1 h
      obtain ⟨r,hr',h⟩:=Option.map_eq_some_iff.1 h
      injection h with e1 e2; subst e1; subst e2
      exact s_bin hr hf hx hy ho hm hn hr'
    · rename_i hu
      split at hc
      · obtain ⟨x',hx,hc⟩:=Option.bind_eq_some_iff.1 hc
        obtain ⟨y',hy,rfl⟩:=Option.map_eq_some_iff.1 hc
        simp only [E1] at h
        obtain ⟨m,hm,h⟩:=Option.bind_eq_some_iff.1 h
        obtain ⟨n,hn,h⟩:=Option.map_eq_some_iff.1 h
        injection h with e1 e2; subst e1; subst e2
        exact s_bbin hr hf false hx hy ho hu hm hn
      · obtain ⟨x',hx,hc⟩:=Option.bind_eq_some_iff.1 hc
        obtain ⟨y',hy,rfl⟩:=Option.map_eq_some_iff.1 hc
        simp only [E1] at h
        obtain ⟨m,hm,h⟩:=Option.bind_eq_some_iff.1 h
        obtain ⟨n,hn,h⟩:=Option.map_eq_some_iff.1 h
        injection h with e1 e2; subst e1; subst e2
        exact s_bbin hr hf true hx hy ho hu hm hn
      · simp at hc
    · rename_i fs hu
      have hag:ag? P t=some true:=by unfold ag?; rw [hu]
      split at hc
      · rename_i hg
        obtain ⟨ks,hks,hc⟩:=Option.bind_eq_some_iff.1 hc
        obtain ⟨x',hx,hc⟩:=Option.bind_eq_some_iff.1 hc
        obtain ⟨y',hy,hc⟩:=Option.bind_eq_some_iff.1 hc
        split at hc <;> simp at hc <;> subst hc <;> simp only [E1] at h <;>
          (obtain ⟨m,hm,h⟩:=Option.bind_eq_some_iff.1 h
           obtain ⟨n,hn,h⟩:=Option.bind_eq_some_iff.1 h
           obtain ⟨b,hb,h⟩:=Option.map_eq_some_iff.1 h
           injection h with e1 e2; subst e1; subst e2)
        · exact s_eqa hr hf false hx hy ho hks hag hg hm hn hb
        · exact s_eqa hr hf true hx hy ho hks hag hg hm hn hb
      · simp at hc
    · rename_i n0 e0 hu
      have hag:ag? P t=some true:=by unfold ag?; rw [hu]
      split at hc
      · rename_i hg
        obtain ⟨ks,hks,hc⟩:=Option.bind_eq_some_iff.1 hc
        obtain ⟨x',hx,hc⟩:=Option.bind_eq_some_iff.1 hc
        obtain ⟨y',hy,hc⟩:=Option.bind_eq_some_iff.1 hc
        split at hc <;> simp at hc <;> subst hc <;> simp only [E1] at h <;>
          (obtain ⟨m,hm,h⟩:=Option.bind_eq_some_iff.1 h
           obtain ⟨n,hn,h⟩:=Option.bind_eq_some_iff.1 h
           obtain ⟨b,hb,h⟩:=Option.map_eq_some_iff.1 h
           injection h with e1 e2; subst e1; subst e2)
        · exact s_eqa hr hf false hx hy ho hks hag hg hm hn hb
        · exact s_eqa hr hf true hx hy ho hks hag hg hm hn hb
      · simp at hc
    · rename_i e hu
      split at hc
      · obtain ⟨x',hx,rfl⟩:=Option.map_eq_some_iff.1 hc
        simp only [E1] at h
        obtain ⟨b,hb,h⟩:=Option.map_eq_some_iff.1 h
        injection h with e1 e2; subst e1; subst e2
        exact s_isnil (e:=e) hr hf false true hx ho (by simpa using hu) rfl hb
      · obtain ⟨x',hx,rfl⟩:=Option.map_eq_some_iff.1 hc
        simp only [E1] at h
        obtain ⟨b,hb,h⟩:=Option.map_eq_some_iff.1 h
        injection h with e1 e2; subst e1; subst e2
        exact s_isnil (e:=e) hr hf true true hx ho (by simpa using hu) rfl hb
      · simp at hc
    · rename_i e hu
      split at hc
      · obtain ⟨x',hx,rfl⟩:=Option.map_eq_some_iff.1 hc
        simp only [E1] at h
        obtain ⟨b,hb,h⟩:=Option.map_eq_some_iff.1 h
        injection h with e1 e2; subst e1; subst e2
        exact s_isnil (e:=e) hr hf false false hx ho (by simpa using hu) rfl hb
      · obtain ⟨x',hx,rfl⟩:=Option.map_eq_some_iff.1 hc
        simp only [E1] at h
        obtain ⟨b,hb,h⟩:=Option.map_eq_some_iff.1 h
        injection h with e1 e2; subst e1; subst e2
        exact s_isnil (e:=e) hr hf true false hx ho (by simpa using hu) rfl hb
      · simp at hc
    · simp at hc
  · rename_i op' t x ho
    obtain ⟨x',hx,rfl⟩:=Option.map_eq_some_iff.1 hc
    simp only [E1] at h
    obtain ⟨m,hm,h⟩:=Option.bind_eq_some_iff.1 h
    obtain ⟨r,hr',h⟩:=Option.map_eq_some_iff.1 h
    injection h with e1 e2; subst e1; subst e2
    exact s_un hr hf hx ho hm hr'
  · rename_i s t x ho
    split at hc
    · rename_i ks k hu1 hu2
      obtain ⟨x',hx,rfl⟩:=Option.map_eq_some_iff.1 hc
      simp only [E1] at h
      obtain ⟨m,hm,h⟩:=Option.map_eq_some_iff.1 h
      injection h with e1 e2; subst e1; subst e2
      exact s_cint hr hf hx ho hu1 hu2 hm
    · rename_i hu1 hu2
      obtain ⟨x',hx,rfl⟩:=Option.map_eq_some_iff.1 hc
      simp only [E1] at h
      obtain ⟨m,hm,h⟩:=Option.map_eq_some_iff.1 h
      injection h with e1 e2; subst e1; subst e2
      exact s_cstr hr hf hx ho hu1 hu2 hm
    · rename_i e hu1 hu2
      split at hc
      · rename_i hu3
        obtain ⟨x',hx,rfl⟩:=Option.map_eq_some_iff.1 hc
        simp only [E1] at h
        obtain ⟨l,hl,h⟩:=Option.bind_eq_some_iff.1 h
        obtain ⟨b,hb,h⟩:=Option.map_eq_some_iff.1 h
        injection h with e1 e2; subst e1; subst e2
        exact s_bstr hr hf hx ho hu1 hu3 hu2 hl hb
      · simp at hc
    · rename_i e hu1 hu2
      split at hc
      · rename_i hu3
        obtain ⟨x',hx,rfl⟩:=Option.map_eq_some_iff.1 hc
        simp only [E1] at h
        obtain ⟨m,hm,h⟩:=Option.bind_eq_some_iff.1 h
        split at h <;> simp at h
        obtain ⟨rfl,rfl⟩:=h
        rename_i hlen
        exact s_strb hr hf hx ho hu1 hu2 hu3 hm hlen
      · simp at hc
    · simp at hc
  · rename_i t l c ho
    split at hc
    · rename_i e hu
      obtain ⟨z,hz,hc⟩:=Option.bind_eq_some_iff.1 hc
      obtain ⟨b,hb,hc⟩:=Option.bind_eq_some_iff.1 hc
      split at hc
      · rename_i hsz
        obtain ⟨l',hl,hc⟩:=Option.bind_eq_some_iff.1 hc
        obtain ⟨c',hcc,rfl⟩:=Option.map_eq_some_iff.1 hc
        simp only [E1] at h
        obtain ⟨m,hm,h⟩:=Option.bind_eq_some_iff.1 h
        obtain ⟨n,hn,h⟩:=Option.bind_eq_some_iff.1 h
        split at h
        · rename_i hh
          simp only [Option.some.injEq,Prod.mk.injEq] at h
          obtain ⟨rfl,rfl⟩:=h
          exact s_mks hr hf hl hcc ho hu hz hsz hb rfl hm hn hh.1 hh.2.1 hh.2.2.1 hh.2.2.2
        · simp at h
      · simp at hc
    · simp at hc
  · rename_i t x lo hi ho
    split at hc
    · rename_i hu
      obtain ⟨x',hx,hc⟩:=Option.bind_eq_some_iff.1 hc
      obtain ⟨lo',hlo,hc⟩:=Option.bind_eq_some_iff.1 hc
      obtain ⟨hi',hhi,rfl⟩:=Option.map_eq_some_iff.1 hc
      simp only [E1] at h
      obtain ⟨s,hs,h⟩:=Option.bind_eq_some_iff.1 h
      obtain ⟨b,hb,h⟩:=Option.map_eq_some_iff.1 h
      injection h with e1 e2; subst e1; subst e2
      exact s_sstr hr hf hx (cOo_ok hlo) (cOo_ok hhi) ho hu hs hb
    · rename_i e hu
      obtain ⟨sz,hsz,hc⟩:=Option.bind_eq_some_iff.1 hc
      obtain ⟨x',hx,hc⟩:=Option.bind_eq_some_iff.1 hc
      obtain ⟨lo',hlo,hc⟩:=Option.bind_eq_some_iff.1 hc
      obtain ⟨hi',hhi,rfl⟩:=Option.map_eq_some_iff.1 hc
      simp only [E1] at h
      obtain ⟨n,hn,h⟩:=Option.bind_eq_some_iff.1 h
      obtain ⟨b,hb,h⟩:=Option.bind_eq_some_iff.1 h
      obtain ⟨v',hv,h⟩:=Option.map_eq_some_iff.1 h
      injection h with e1 e2; subst e1; subst e2
      exact s_slice hr hf hx (cOo_ok hlo) (cOo_ok hhi) ho hu hsz hn hb hv
    · rename_i n e hu
      split at hc
      · rename_i hn
        obtain ⟨sz,hsz,hc⟩:=Option.bind_eq_some_iff.1 hc
        obtain ⟨x',hx,hc⟩:=Option.bind_eq_some_iff.1 hc
        obtain ⟨lo',hlo,hc⟩:=Option.bind_eq_some_iff.1 hc
        obtain ⟨hi',hhi,rfl⟩:=Option.map_eq_some_iff.1 hc
        simp only [E1] at h
        obtain ⟨b,hb,h⟩:=Option.bind_eq_some_iff.1 h
        obtain ⟨v',hv,h⟩:=Option.map_eq_some_iff.1 h
        injection h with e1 e2; subst e1; subst e2
        exact s_sarr hr hf hx (cOo_ok hlo) (cOo_ok hhi) ho hu hsz (by unfold maxLen; omega) hb hv
      · simp at hc
    · simp at hc
  · rename_i t x lo hi mx ho
    split at hc
    · rename_i e hu
      obtain ⟨sz,hsz,hc⟩:=Option.bind_eq_some_iff.1 hc
      obtain ⟨x',hx,hc⟩:=Option.bind_eq_some_iff.1 hc
      obtain ⟨lo',hlo,hc⟩:=Option.bind_eq_some_iff.1 hc
      obtain ⟨hi',hhi,hc⟩:=Option.bind_eq_some_iff.1 hc
      obtain ⟨mx',hmx,rfl⟩:=Option.map_eq_some_iff.1 hc
      simp only [E1] at h
      obtain ⟨n,hn,h⟩:=Option.bind_eq_some_iff.1 h
      obtain ⟨m,hm,h⟩:=Option.bind_eq_some_iff.1 h
      split at h
      · rename_i hmn
        obtain ⟨b,hb,h⟩:=Option.bind_eq_some_iff.1 h
        obtain ⟨v',hv,h⟩:=Option.map_eq_some_iff.1 h
        injection h with e1 e2; subst e1; subst e2
        exact s_sl3 hr hf hx (cOo_ok hlo) hhi hmx ho hu hsz hn hm hmn hb hv
      · simp at h
    · simp at hc
  · rename_i t x i ho
    split at hc
    · rename_i fs hu
      obtain ⟨fd,hfd,hc⟩:=Option.bind_eq_some_iff.1 hc
      obtain ⟨n,hn,hc⟩:=Option.bind_eq_some_iff.1 hc
      split at hc
      · rename_i h0
        obtain ⟨x',hx,rfl⟩:=Option.map_eq_some_iff.1 hc
        simp only [E1] at h
        split at h
        · rename_i ha
          obtain ⟨v',hv,h⟩:=Option.map_eq_some_iff.1 h
          injection h with e1 e2; subst e1; subst e2
          exact s_fld hr hf hx ho hu hfd hn h0 ha hv
        · simp at h
      · simp at hc
    · simp at hc
  · rename_i t x i ho
    split at hc
    · rename_i fs hu
      obtain ⟨fd,hfd,hc⟩:=Option.bind_eq_some_iff.1 hc
      obtain ⟨ag,hag,hc⟩:=Option.bind_eq_some_iff.1 hc
      obtain ⟨sz,hsz,hc⟩:=Option.bind_eq_some_iff.1 hc
      split at hc
      · rename_i h1
        obtain ⟨x',hx,rfl⟩:=Option.map_eq_some_iff.1 hc
        simp only [E1] at h
        obtain ⟨l,hl,h⟩:=Option.bind_eq_some_iff.1 h
        split at h
        · rename_i hn
          obtain ⟨v',hv,h⟩:=Option.map_eq_some_iff.1 h
          injection h with e1 e2; subst e1; subst e2
          exact s_part hr hf hx ho hu hfd hag hsz h1 hl hn hv
        · simp at h
      · simp at hc
    · simp at hc
  · rename_i t x i ho
    split at hc
    · rename_i n e hu
      obtain ⟨sz,hsz,hc⟩:=Option.bind_eq_some_iff.1 hc
      obtain ⟨x',hx,hc⟩:=Option.bind_eq_some_iff.1 hc
      obtain ⟨i',hi,rfl⟩:=Option.map_eq_some_iff.1 hc
      simp only [E1] at h
      split at h
      · rename_i ha
        obtain ⟨j,hj,h⟩:=Option.bind_eq_some_iff.1 h
        obtain ⟨k,hk,h⟩:=Option.bind_eq_some_iff.1 h
        obtain ⟨v',hv,h⟩:=Option.map_eq_some_iff.1 h
        injection h with e1 e2; subst e1; subst e2
        exact s_iaa hr hf hx hi ho hu hsz hj hk ha hv
      · simp at h
    · rename_i e hu
      obtain ⟨sz,hsz,hc⟩:=Option.bind_eq_some_iff.1 hc
      obtain ⟨x',hx,hc⟩:=Option.bind_eq_some_iff.1 hc
      obtain ⟨i',hi,rfl⟩:=Option.map_eq_some_iff.1 hc
      simp only [E1] at h
      obtain ⟨j,hj,h⟩:=Option.bind_eq_some_iff.1 h
      obtain ⟨n,hn,h⟩:=Option.bind_eq_some_iff.1 h
      obtain ⟨k,hk,h⟩:=Option.bind_eq_some_iff.1 h
      obtain ⟨v',hv,h⟩:=Option.map_eq_some_iff.1 h
      injection h with e1 e2; subst e1; subst e2
      exact s_ias hr hf hx hi ho hu hsz hj hn hk hv
    · simp at hc
  · rename_i t x i ho
    split at hc
    · rename_i n e hu
      obtain ⟨ag,hag,hc⟩:=Option.bind_eq_some_iff.1 hc
      obtain ⟨sz,hsz,hc⟩:=Option.bind_eq_some_iff.1 hc
      split at hc
      · rename_i h1
        obtain ⟨x',hx,hc⟩:=Option.bind_eq_some_iff.1 hc
        obtain ⟨i',hi,rfl⟩:=Option.map_eq_some_iff.1 hc
        simp only [E1] at h
        obtain ⟨j,hj,h⟩:=Option.bind_eq_some_iff.1 h
        obtain ⟨k,hk,h⟩:=Option.bind_eq_some_iff.1 h
        obtain ⟨l,hl,h⟩:=Option.bind_eq_some_iff.1 h
        split at h
        · rename_i hn
          obtain ⟨v',hv,h⟩:=Option.map_eq_some_iff.1 h
          injection h with e1 e2; subst e1; subst e2
          exact s_ixa hr hf hx hi ho hu hag hsz h1 hj hk hl hn hv
        · simp at h
      · simp at hc
    · rename_i hu
      obtain ⟨x',hx,hc⟩:=Option.bind_eq_some_iff.1 hc
      obtain ⟨i',hi,rfl⟩:=Option.map_eq_some_iff.1 hc
      simp only [E1] at h
      obtain ⟨j,hj,h⟩:=Option.bind_eq_some_iff.1 h
      obtain ⟨s,hs,h⟩:=Option.bind_eq_some_iff.1 h
      split at h
      · rename_i hh
        simp only [Option.some.injEq,Prod.mk.injEq] at h
        obtain ⟨rfl,rfl⟩:=h
        exact s_ixs hr hf hx hi ho hu hj hs hh.1 hh.2
      · simp at h
    · simp at hc
  · rename_i x i ho
    obtain ⟨x',hx,rfl⟩:=Option.map_eq_some_iff.1 hc
    simp only [E1] at h
    obtain ⟨l,hl,h⟩:=Option.bind_eq_some_iff.1 h
    obtain ⟨v',hv,h⟩:=Option.map_eq_some_iff.1 h
    injection h with e1 e2; subst e1; subst e2
    exact s_ext hr hf hx ho hl hv
  · rename_i m X Y ho
    split at hc
    · rename_i hX
      obtain ⟨l,hl,rfl⟩:=Option.map_eq_some_iff.1 hc
      simp only [E1,Option.some.injEq,Prod.mk.injEq] at h
      obtain ⟨rfl,rfl⟩:=h
      exact s_mkf hr hf hX ho (cOs_ok hf _ _ hl)
    · simp at hc
  · rename_i t x ho
    split at hc
    · simp at hc
    · rename_i d hne hu
      obtain ⟨x',hx,rfl⟩:=Option.map_eq_some_iff.1 hc
      simp only [E1] at h
      split at h <;> simp at h
      obtain ⟨rfl,rfl⟩:=h
      refine s_mki hr hf hx ho ?_
      rw [hu]
      cases d <;> first | trivial | exact (hne _ rfl).elim
    · simp at hc
  · rename_i args ts ho
    split at hc
    · rename_i x t hargs hts
      have hargs:=arr_eq1 hargs
      subst hargs
      split at hc
      · rename_i e hu
        obtain ⟨x',hx,rfl⟩:=Option.map_eq_some_iff.1 hc
        simp only [E1] at h
        obtain ⟨n,hn,h⟩:=Option.map_eq_some_iff.1 h
        injection h with e1 e2; subst e1; subst e2
        exact s_len hr hf hx ho hts hu hn
      · rename_i hu
        obtain ⟨x',hx,rfl⟩:=Option.map_eq_some_iff.1 hc
        simp only [E1] at h
        obtain ⟨n,hn,h⟩:=Option.map_eq_some_iff.1 h
        injection h with e1 e2; subst e1; subst e2
        exact s_lens hr hf hx ho hts hu hn
      · simp at hc
    · simp at hc
  · rename_i args ts ho
    split at hc
    · rename_i x y t tx hargs hts
      have hargs:=arr_eq2 hargs
      have hts:=arr_eq2 hts
      subst hargs
      subst hts
      obtain ⟨sb,hsb,hc⟩:=Option.bind_eq_some_iff.1 hc
      have T:=cApp_ok hsb
      obtain ⟨x',hx,hc⟩:=Option.bind_eq_some_iff.1 hc
      obtain ⟨y',hy,hc⟩:=Option.bind_eq_some_iff.1 hc
      split at hc
      · rename_i e' hu
        simp at hc; subst hc
        simp only [E1] at h
        obtain ⟨k,hk,h⟩:=Option.bind_eq_some_iff.1 h
        obtain ⟨ys,hys,h⟩:=Option.bind_eq_some_iff.1 h
        by_cases hone:ys.all V.one=true
        · obtain ⟨vs,hs,hvs,hlen⟩:=src_ok (P:=P) (sz:=sb.1) hr (ev_ok hf hy) hk hys hone hu T.pos
          exact s_app_core hr hf hx ho T hs hvs hlen hone h
        · exact app_noone hr hf hx hy ho T hu hk hys hone h
      · rename_i hu
        split at hc
        · rename_i hs1
          simp only [Option.some.injEq] at hc
          subst hc
          simp only [E1] at h
          obtain ⟨s,hs,h⟩:=Option.bind_eq_some_iff.1 h
          have hcs:=asStr_ok (ev_ok hf hy) hs
          have hsrc:Src P sb.1 tx (a.eval y) s.size (byteCells s) w:=by rw [hcs,hs1]; exact Src.ofString w hu s
          refine s_app_core hr hf hx ho T hsrc (ofBytes_ok s) (by rw [hs1]; exact ofBytes_len s) (ofBytes_one s) (by rw [hs1]; exact h)
        · simp at hc
      · simp at hc
    · simp at hc
  · rename_i args ts ho
    split at hc
    · rename_i x y hargs
      have hargs:=arr_eq2 hargs
      subst hargs
      obtain ⟨x',hx,hc⟩:=Option.bind_eq_some_iff.1 hc
      obtain ⟨y',hy,rfl⟩:=Option.map_eq_some_iff.1 hc
      simp only [E1] at h
      obtain ⟨m,hm,h⟩:=Option.bind_eq_some_iff.1 h
      obtain ⟨n,hn,h⟩:=Option.bind_eq_some_iff.1 h
      obtain ⟨r,hr',h⟩:=Option.map_eq_some_iff.1 h
      injection h with e1 e2; subst e1; subst e2
      exact s_mnx (mx:=false) hr hf hx hy ho hm hn hr'
    · simp at hc
  · rename_i args ts ho
    split at hc
    · rename_i x y hargs
      have hargs:=arr_eq2 hargs
      subst hargs
      obtain ⟨x',hx,hc⟩:=Option.bind_eq_some_iff.1 hc
      obtain ⟨y',hy,rfl⟩:=Option.map_eq_some_iff.1 hc
      simp only [E1] at h
      obtain ⟨m,hm,h⟩:=Option.bind_eq_some_iff.1 h
      obtain ⟨n,hn,h⟩:=Option.bind_eq_some_iff.1 h
      obtain ⟨r,hr',h⟩:=Option.map_eq_some_iff.1 h
      injection h with e1 e2; subst e1; subst e2
      exact s_mnx (mx:=true) hr hf hx hy ho hm hn hr'
    · simp at hc
  · rename_i args ts ho
    split at hc
    · rename_i x y t tx hargs hts
      have hargs:=arr_eq2 hargs
      have hts:=arr_eq2 hts
      subst hargs; subst hts
      split at hc
      · rename_i e hu
        split at hc
        · rename_i h1
          obtain ⟨x',hx,hc⟩:=Option.bind_eq_some_iff.1 hc
          obtain ⟨y',hy,rfl⟩:=Option.map_eq_some_iff.1 hc
          simp only [E1] at h
          obtain ⟨n,hn,h⟩:=Option.bind_eq_some_iff.1 h
          obtain ⟨ys,hys,h⟩:=Option.bind_eq_some_iff.1 h
          obtain ⟨H2,hcp,h⟩:=Option.map_eq_some_iff.1 h
          injection h with e1 e2; subst e1; subst e2
          exact s_cpy hr hf hx hy ho hu h1 hn hys hcp
        · simp at hc
      · simp at hc
    · simp at hc
  · rename_i args ts ho
    split at hc
    · rename_i x t hargs hts
      have hargs:=arr_eq1 hargs
      have hts:=arr_eq1 hts
      subst hargs; subst hts
      split at hc
      · rename_i e hu
        obtain ⟨z,hz,hc⟩:=Option.bind_eq_some_iff.1 hc
        obtain ⟨x',hx,rfl⟩:=Option.map_eq_some_iff.1 hc
        simp only [E1] at h
        obtain ⟨H2,hcl,h⟩:=Option.map_eq_some_iff.1 h
        injection h with e1 e2; subst e1; subst e2
        exact s_clr hr hf hx ho hu hz hcl
      · simp at hc
    · simp at hc
  · simp at hc
end
end Go.Proofs.YtoemlgdlejkliaaK
