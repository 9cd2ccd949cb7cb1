/- From a law's arguments, whatever they are, to abstract values; from a function's answer to the law's row. -/
import Derived.Test.YtoemlgdlejkliaaKm
import Derived.ProofKit
import Derived.OpenShut
import Derived.ShutString
import Derived.ChangeOld
import Derived.SizedLaws
namespace Go.Proofs.YtoemlgdlejkliaaK
set_option linter.unusedVariables false
set_option linter.unusedSimpArgs false
open Go.RowKit Go.ChangeShapes Go.WideShapes
inductive Sh where
  | bool
  | int (k:IntKind)
  | str
  | sl (b:Nat) (e:Sh)
  | st (fs:List Sh)
  | arr (n:Nat) (e:Sh)
mutual
def Sh.cells:Sh→Nat
  | .bool | .int _ | .str | .sl _ _=>1
  | .st fs=>cellsL fs
  | .arr n e=>n*e.cells
def cellsL:List Sh→Nat
  | []=>0
  | s::r=>s.cells+cellsL r
end
mutual
/-- The cells of a value of such a shape. -/
def Fit:Sh→List V→Prop
  | .bool,xs=>∃ b,xs=[.s (.bool b)]
  | .int k,xs=>∃ n,xs=[.s (.int k n)]∧(Lit.int k n).wf=true
  | .str,xs=>∃ s,xs=[.s (.string s)]∧s.size≤reachBytes
  | .sl b e,xs=>∃ ls:List (List V),xs=[.sl false ls.length ls.flatten]∧(∀ l∈ls,Fit e l)∧ls.length≤maxLen∧ls.length*b≤reachBytes
  | .st fs,xs=>FitL fs xs
  | .arr n e,xs=>∃ ls:List (List V),xs=ls.flatten∧ls.length=n∧∀ l∈ls,Fit e l
def FitL:List Sh→List V→Prop
  | [],xs=>xs=[]
  | s::r,xs=>∃ a b,xs=a++b∧Fit s a∧FitL r b
end
def shpF (P:Program) (sh:TypeId→Option Sh):List Field→Nat→Option (List Sh)
  | [],_=>some []
  | f::r,off=>(sh f.type).bind fun s=>if f.offset=off∧s.cells=P.cellsOf f.type then (shpF P sh r (off+s.cells)).map fun l=>s::l else none
def shp (P:Program):Nat→TypeId→Option Sh
  | 0,_=>none
  | k+1,t=>match P.underlying t with
    | some .bool=>some .bool
    | some (.int k)=>some (.int k)
    | some .string=>some .str
    | some (.slice e)=>(shp P k e).bind fun s=>if s.cells=P.cellsOf e∧0 < s.cells then some (.sl (P.bytesOf e) s) else none
    | some (.struct fs)=>(shpF P (shp P k) fs.toList 0).bind fun l=>if cellsL l=P.cellsOf t then some (.st l) else none
    | some (.array n e)=>(shp P k e).bind fun s=>if s.cells=P.cellsOf e∧n*s.cells=P.cellsOf t then some (.arr n s) else none
    | _=>none
def im0:Im:=⟨fun _=>none,fun _ _=>False⟩
section
variable {H:Type} {enc:TypeId × Value→H} {P:Program} {W:World}
/-- No part of what is read is larger than the form's reach. -/
def Light (P:Program) (t:TypeId) (d:DataW H):Prop:=∀ n∈d.weights P t,n≤reachBytes
theorem light_all {e:TypeId} {d:DataW H} {n:Nat}:∀ {l:List (DataW H)},d∈l→n∈d.weights P e→n∈DataW.weightsAll P e l
  | [],h,_=>by simp at h
  | x::r,h,hn=>by
    simp only [DataW.weightsAll,List.mem_append]
    rcases List.mem_cons.1 h with rfl | h
    · exact .inl hn
    · exact .inr (light_all h hn)
abbrev Rd (enc:TypeId × Value→H) (P:Program) (W:World):=DataW.trod enc P W 0 (fun _=>true) true
theorem open_fields {sh:TypeId→Option Sh} {n:Nat} {cs:List Value} (IH:∀ t s,sh t=some s→∀ cs d,Rd enc P W n t cs=some d→Light P t d.1→∃ xs,VRs im0 [] W xs cs∧Fit s xs) :
    ∀ (r:List Field) (off:Nat) (l:List Sh),shpF P sh r off=some l→(∀ f∈r,∃ d,Rd enc P W n f.type ((cs.drop f.offset).take (P.cellsOf f.type))=some d∧Light P f.type d.1)→∃ xs,VRs im0 [] W xs ((cs.drop off).take (cellsL l))∧FitL l xs
  | [],off,l,h,_=>by simp [shpF] at h; subst h; exact ⟨[],by simp [cellsL,VRs],rfl⟩
  | f::r,off,l,h,hf=>by
    simp only [shpF] at h
    obtain ⟨s,hs,h⟩:=Option.bind_eq_some_iff.1 h
    split at h
    · rename_i hc
      obtain ⟨l',hl',rfl⟩:=Option.map_eq_some_iff.1 h
      obtain ⟨d,hd,hlt⟩:=hf f (by simp)
      obtain ⟨xs,h1,h2⟩:=IH _ _ hs _ _ hd hlt
      obtain ⟨ys,k1,k2⟩:=open_fields IH r _ l' hl' fun g hg=>hf g (by simp [hg])
      refine ⟨xs++ys,?_,xs,ys,rfl,h2,k2⟩
      have e:(cs.drop off).take (cellsL (s::l'))=(cs.drop f.offset).take (P.cellsOf f.type)++(cs.drop (off+s.cells)).take (cellsL l'):=by
        rw [← hc.2,hc.1,cellsL,List.take_add,List.drop_drop]
      rw [e]
      exact h1.append k1
    · simp at h
theorem open_items {s:Sh} {n:Nat} {e:TypeId} (IH:∀ cs d,Rd enc P W n e cs=some d→Light P e d.1→∃ xs,VRs im0 [] W xs cs∧Fit s xs) :
    ∀ (m:Nat) (g:Nat→List Value),(∀ i,i < m→∃ d,Rd enc P W n e (g i)=some d∧Light P e d.1)→∃ ls:List (List V),ls.length=m∧(∀ l∈ls,Fit s l)∧VRs im0 [] W ls.flatten ((List.range m).map g).flatten
  | 0,g,_=>⟨[],rfl,by simp,by simp [VRs]⟩
  | m+1,g,h=>by
    obtain ⟨ls,h1,h2,h3⟩:=open_items IH m g fun i hi=>h i (by omega)
    obtain ⟨d,hd,hlt⟩:=h m (by omega)
    obtain ⟨xs,k1,k2⟩:=IH _ _ hd hlt
    refine ⟨ls++[xs],by simp [h1],fun l hl => ?_,?_⟩
    · rcases List.mem_append.1 hl with hl | hl
      · exact h2 l hl
      · simp at hl; subst hl; exact k2
    · rw [List.range_succ]
      simp only [List.map_append,List.flatten_append,List.map_cons,List.map_nil,List.flatten_cons,List.flatten_nil,List.append_nil]
      exact h3.append k1
theorem At.snoc {g o c:Nat} {vs ws:List Value} (h:At W g o vs) (hc:vs.length=c) (k:∀ j v,ws[j]? = some v→W.cell? ⟨g,o+c+j,none⟩=some v):At W g o (vs++ws):=fun j v hj=>by
  rw [List.getElem?_append] at hj
  split at hj
  · exact h j v hj
  · have:=k _ v hj
    rwa [show o+c+(j - vs.length)=o+j by omega] at this
theorem opened:∀ (k:Nat) (t:TypeId) (s:Sh),shp P k t=some s→∀ (fuel:Nat) (cs:List Value) (d:DataW H × List MemPlace),Rd enc P W fuel t cs=some d→Light P t d.1→∃ xs,VRs im0 [] W xs cs∧Fit s xs
  | 0,t,s,h=>by simp [shp] at h
  | k+1,t,s,h=>fun fuel cs d hd hlt=>by
    simp only [shp] at h
    split at h
    · rename_i ht
      simp at h; subst h
      obtain ⟨b,rfl,_⟩:=DataW.trod_bool ht hd
      exact ⟨[.s (.bool b)],⟨rfl,trivial⟩,b,rfl⟩
    · rename_i q ht
      simp at h; subst h
      obtain ⟨n,rfl,_,hw⟩:=DataW.trod_int ht hd
      exact ⟨[.s (.int q n)],⟨rfl,trivial⟩,n,rfl,hw⟩
    · rename_i ht
      simp at h; subst h
      obtain ⟨n,rfl,rfl,hw⟩:=DataW.trod_string ht hd
      exact ⟨[.s (.string n)],⟨rfl,trivial⟩,n,rfl,by simpa using hlt n.data.toList.length (by simp [DataW.weights])⟩
    · rename_i e ht
      obtain ⟨s',hs',h⟩:=Option.bind_eq_some_iff.1 h
      split at h
      · rename_i hc
        simp at h; subst h
        have IH:=opened k e s' hs'
        rcases DataW.trod_slice ht hd with ⟨rfl,_⟩ | ⟨a,len,cap,elems,rest,n,_,rfl,rfl,hb,hl,hm,hlen,hel,_,_⟩
        · exact ⟨[.sl false 0 []],⟨⟨none,0,rfl,Nat.le_refl _,Nat.zero_le _,fun e=>by simp at e,.inl rfl⟩,trivial⟩,[],rfl,by simp,Nat.zero_le _,by simp⟩
        · by_cases h0:len=0
          · subst h0
            exact ⟨[.sl false 0 []],⟨⟨some a,cap,rfl,hl,hm,fun e=>by simp at e,.inl rfl⟩,trivial⟩,[],rfl,by simp,Nat.zero_le _,by simp⟩
          · have hbl:len*P.bytesOf e≤reachBytes:=by
              have h1:=hlt ((elems.length+rest.length)*P.bytesOf e) (by simp [DataW.weights,ht])
              rw [hlen] at h1
              exact Nat.le_trans (Nat.mul_le_mul_right _ (Nat.le_add_right _ _)) h1
            have each:∀ i,i < len→∃ vs y,W.cells? 0 (a.add (i*P.cellsOf e)) (P.cellsOf e)=some vs∧Rd enc P W n e vs=some y∧Light P e y.1:=fun i hi=>by
              have h1:=hel i hi
              rw [List.getElem?_eq_getElem (by omega)] at h1
              obtain ⟨vs,h2,h3⟩:=Option.bind_eq_some_iff.1 h1
              refine ⟨vs,_,h2,h3,fun w hw=>hlt w ?_⟩
              simp only [DataW.weights,ht,List.mem_cons,List.mem_append]
              exact .inr (.inl (light_all (List.mem_map_of_mem (List.getElem_mem (by omega))) hw))
            have hc0:0 < P.cellsOf e:=by omega
            have hspot:a.spot=none∧a.block < W.heap.size:=by
              obtain ⟨vs,y,h2,_⟩:=each 0 (by omega)
              obtain ⟨_,h4,h5⟩:=World.cells?_some h2
              have h6:=h5 0 hc0
              rw [List.getElem?_eq_getElem (by omega)] at h6
              simp only [Nat.zero_mul,Addr.add,if_true] at h6
              unfold World.cell? at h6
              split at h6
              · rename_i c _ _ hh
                refine ⟨?_,(Array.getElem?_eq_some_iff.1 hh).1⟩
                split at h6
                · simp at h6
                · rename_i hs; simpa using hs
              · simp at h6
            have build:∀ m,m≤len→∃ (ls:List (List V)) (vs:List Value),ls.length=m∧vs.length=m*P.cellsOf e∧At W a.block a.off vs∧VRs im0 [] W ls.flatten vs∧∀ l∈ls,Fit s' l:=by
              intro m
              induction m with
              | zero=>intro _; exact ⟨[],[],rfl,by simp,fun j v hj=>by simp at hj,trivial,by simp⟩
              | succ m ih =>
                intro hm
                obtain ⟨ls,vs,h1,h2,h3,h4,h5⟩:=ih (by omega)
                obtain ⟨ws,y,k1,k2,klt⟩:=each m (by omega)
                obtain ⟨xs,k3,k4⟩:=IH _ _ _ k2 klt
                obtain ⟨_,k5,k6⟩:=World.cells?_some k1
                refine ⟨ls++[xs],vs++ws,by simp [h1],by simp [h2,k5,Nat.add_mul],h3.snoc h2 fun j v hj => ?_,by simpa using h4.append k3,fun l hl => ?_⟩
                · have hj':=(List.getElem?_eq_some_iff.1 hj).1
                  have:=k6 j (by omega)
                  rw [hj] at this
                  rw [← this]
                  obtain ⟨ab,ao,as⟩:=a
                  have:as=none:=hspot.1
                  subst this
                  rw [add_plain',add_plain']
                · rcases List.mem_append.1 hl with hl | hl
                  · exact h5 l hl
                  · simp at hl; subst hl; exact k4
            obtain ⟨ls,vs,h1,h2,h3,h4,h5⟩:=build len (Nat.le_refl _)
            refine ⟨[.sl false ls.length ls.flatten],⟨⟨some a,cap,by rw [h1],by omega,hm,fun e=>by simp at e,.inr ⟨a.block,a.off,vs,?_,?_,hspot.2,h3,h4⟩⟩,trivial⟩,ls,rfl,h5,by omega,by rw [h1]; exact hbl⟩
            · obtain ⟨ab,ao,as⟩:=a
              have:as=none:=hspot.1
              subst this
              rfl
            · rintro ⟨b,B,hB,_⟩
              simp at hB
      · simp at h
    · rename_i fs ht
      obtain ⟨l,hl,h⟩:=Option.bind_eq_some_iff.1 h
      split at h
      · rename_i hc
        simp at h; subst h
        obtain ⟨xs,n,_,rfl,hlen,hx,hf⟩:=DataW.trod_struct ht hd
        obtain ⟨ys,h1,h2⟩:=open_fields (n:=n) (cs:=cs) (fun t s hs cs d hd hlt=>opened k t s hs n cs d hd hlt) fs.toList 0 l hl fun f hf'=>by
          obtain ⟨i,hi,hie⟩:=List.getElem_of_mem hf'
          have hi':i < fs.size:=by simpa using hi
          have:=hf i f (by rw [Array.getElem?_eq_getElem hi']; simpa using hie)
          rw [List.getElem?_eq_getElem (by omega)] at this
          refine ⟨_,this,fun w hw=>hlt w ?_⟩
          simp only [DataW.weights,ht]
          exact DataW.weights_mem_each (j:=i) (t:=f.type) (d:=xs[i].1) (by rw [List.getElem?_map,Array.getElem?_toList,Array.getElem?_eq_getElem hi']; simp at hie ⊢; rw [hie]) (by rw [List.getElem?_map,List.getElem?_eq_getElem (by omega)]; rfl) w hw
        refine ⟨ys,?_,h2⟩
        rw [List.drop_zero,List.take_of_length_le (by omega)] at h1
        exact h1
      · simp at h
    · rename_i m e ht
      obtain ⟨s',hs',h⟩:=Option.bind_eq_some_iff.1 h
      split at h
      · rename_i hc
        simp at h; subst h
        obtain ⟨xs,n,_,rfl,hlen,hx,hf⟩:=DataW.trod_array ht hd
        obtain ⟨ls,h1,h2,h3⟩:=open_items (n:=n) (e:=e) (fun cs d hd hlt=>opened k e s' hs' n cs d hd hlt) m (fun i=>(cs.drop (i*P.cellsOf e)).take (P.cellsOf e)) fun i hi=>by
          have:=hf i hi
          rw [List.getElem?_eq_getElem (by omega)] at this
          refine ⟨_,this,fun w hw=>hlt w ?_⟩
          simp only [DataW.weights,ht]
          exact light_all (List.mem_map_of_mem (List.getElem_mem (by omega))) hw
        refine ⟨ls.flatten,?_,ls,rfl,h1,h2⟩
        have e2:∀ j,j≤m→((List.range j).map fun i=>(cs.drop (i*P.cellsOf e)).take (P.cellsOf e)).flatten=cs.take (j*P.cellsOf e):=by
          intro j
          induction j with
          | zero=>intro _; simp
          | succ j ih =>
            intro hj
            rw [List.range_succ,List.map_append,List.flatten_append,ih (by omega),Nat.add_mul,Nat.one_mul,List.take_add]
            simp
        rw [e2 m (Nat.le_refl _),List.take_of_length_le (by rw [hlen,← hc.1,hc.2]; exact Nat.le_refl _)] at h3
        exact h3
      · simp at h
    · simp at h
/-- An argument of such a shape. -/
def FitV:Sh→V→Prop
  | .st fs,x=>∃ xs,x=.agg xs∧FitL fs xs
  | .arr n e,x=>∃ xs,x=.agg xs∧Fit (.arr n e) xs
  | s,x=>Fit s [x]
def FitVs:List Sh→List V→Prop
  | [],xs=>xs=[]
  | s::r,xs=>∃ x ys,xs=x::ys∧FitV s x∧FitVs r ys
theorem cells_one {v:Value} (h:∀ cs,v ≠ .agg cs):v.cells.toList=[v]:=by
  cases v <;> first | rfl | (rename_i cs; exact absurd rfl (h cs))
theorem openV {k:Nat} {t:TypeId} {s:Sh} (hs:shp P k t=some s) {v:Value} {base:Nat} (hv:Value.okWide P W .any base t v) {d:DataW H} {ps:List MemPlace} (hd:DataW.Trod enc P W 0 (fun _=>true) true t v d ps) (hlt:Light P t d) :
    ∃ x,VR im0 [] W x v∧FitV s x:=by
  obtain ⟨fuel,hd⟩:=hd
  obtain ⟨xs,h1,h2⟩:=opened k t s hs fuel _ _ hd hlt
  have one:(∀ cs,v ≠ .agg cs)→∃ x,xs=[x]∧VR im0 [] W x v:=fun h=>by
    rw [cells_one h] at h1
    match xs,h1 with
    | [x],h1=>exact ⟨x,rfl,h1.1⟩
  cases k with
  | zero=>simp [shp] at hs
  | succ k =>
    simp only [shp] at hs
    split at hs
    · rename_i ht
      simp at hs; subst hs
      obtain ⟨b,rfl⟩:=okWide_bool ht hv
      obtain ⟨x,rfl,hx⟩:=one (by simp)
      exact ⟨x,hx,h2⟩
    · rename_i ht
      simp at hs; subst hs
      obtain ⟨b,rfl⟩:=okWide_int ht hv
      obtain ⟨x,rfl,hx⟩:=one (by simp)
      exact ⟨x,hx,h2⟩
    · rename_i ht
      simp at hs; subst hs
      obtain ⟨b,rfl⟩:=okWide_string ht hv
      obtain ⟨x,rfl,hx⟩:=one (by simp)
      exact ⟨x,hx,h2⟩
    · rename_i ht
      obtain ⟨s',_,h⟩:=Option.bind_eq_some_iff.1 hs
      split at h
      · simp at h; subst h
        obtain ⟨_,_,_,rfl⟩:=okWide_slice ht hv
        obtain ⟨x,rfl,hx⟩:=one (by simp)
        exact ⟨x,hx,h2⟩
      · simp at h
    · rename_i ht
      obtain ⟨s',_,h⟩:=Option.bind_eq_some_iff.1 hs
      split at h
      · simp at h; subst h
        obtain ⟨cs,rfl,_⟩:=okWide_struct ht hv
        exact ⟨.agg xs,⟨cs,rfl,h1⟩,xs,rfl,h2⟩
      · simp at h
    · rename_i ht
      obtain ⟨s',_,h⟩:=Option.bind_eq_some_iff.1 hs
      split at h
      · simp at h; subst h
        simp only [Value.okWide,ht] at hv
        obtain ⟨cs,rfl,_⟩:=hv
        exact ⟨.agg xs,⟨cs,rfl,h1⟩,xs,rfl,h2⟩
      · simp at h
    · simp at hs
theorem openVs {k:Nat} {base:Nat}:∀ {ts:List TypeId} {ss:List Sh} {vs:List Value} {ds:List (DataW H)} {ps:List MemPlace},ts.map (shp P k)=ss.map some→(∀ (j:Nat) t v,ts[j]? = some t→vs[j]? = some v→Value.okWide P W .any base t v) →
    DataW.TrodAll enc P W 0 (fun _=>true) true ts vs ds ps→(∀ (j:Nat) t d,ts[j]? = some t→ds[j]? = some d→Light P t d)→∃ xs,VRs im0 [] W xs vs∧FitVs ss xs
  | [],[],vs,ds,ps,_,_,h,_=>by obtain ⟨rfl,_,_⟩:=trodAll_nil h; exact ⟨[],trivial,rfl⟩
  | [],_::_,_,_,_,h,_,_,_=>by simp at h
  | _::_,[],_,_,_,h,_,_,_=>by simp at h
  | t::ts,s::ss,vs,ds,ps,hs,hv,h,hlt=>by
    obtain ⟨v,vs',d,ds',p,q,rfl,rfl,rfl,h1,h2⟩:=trodAll_cons h
    simp only [List.map_cons,List.cons.injEq] at hs
    obtain ⟨x,k1,k2⟩:=openV hs.1 (hv 0 t v rfl rfl) h1 (hlt 0 t d rfl rfl)
    obtain ⟨xs,k3,k4⟩:=openVs hs.2 (fun j t v ht hv'=>hv (j+1) t v ht hv') h2 (fun j t d ht hd=>hlt (j+1) t d ht hd)
    exact ⟨x::xs,⟨k1,k3⟩,x,xs,rfl,k2,k4⟩
/-- What is called with arguments of such shapes answers true and leaves what was there. -/
theorem law_calls {m:FuncId} {k base:Nat} {ts:List TypeId} {ss:List Sh} {args:Array Value} {ds:List (DataW H)} {ps:List MemPlace} (hs:ts.map (shp P k)=ss.map some)
    (hv:∀ (j:Nat) t v,ts[j]? = some t→args.toList[j]? = some v→Value.okWide P W .any base t v) (h:DataW.TrodAll enc P W 0 (fun _=>true) true ts args.toList ds ps)
    {us:List TypeId} {gs:List (DataW H)} (hlt:(DataW.weightsEach P (ts++us) (ds++gs)).all (· ≤ reachBytes)=true)
    (hgl:∀ a∈GL,∃ m,W.cell? ⟨a,0,none⟩=some (.int .i64 m)) (con:∀ xs,FitVs ss xs→Con P m xs [] (.s (.bool true)) []) (hm:Nat.blt m 4294967296=true:=by rfl):Calls P m args W fun e W'=>e=.returned (.bool true)∧Below W.heap.size W W':=by
  obtain ⟨xs,h1,h2⟩:=openVs hs hv h fun j t d ht hd n hn=>by
    have:=List.all_eq_true.1 hlt n (DataW.weights_mem_each (j:=j) (by rw [List.getElem?_append_left (List.getElem?_eq_some_iff.1 ht).1]; exact ht) (by rw [List.getElem?_append_left (List.getElem?_eq_some_iff.1 hd).1]; exact hd) n hn)
    simpa using this
  have hr:Rel im0 [] W:=⟨fun b B hB=>by simp at hB,fun b b' B B' g hB=>by simp at hB,fun a ha=>⟨fun ⟨b,B,hB,_⟩=>by simp at hB,hgl a ha⟩,fun b B hB=>by simp at hB⟩
  have hcon:=con xs h2 im0 W args.toList hr h1
  rw [CallsD.st hm] at hcon
  refine hcon.mono fun e W' hq => ?_
  obtain ⟨im',c,rfl,_,hx,hc⟩:=hq
  have hc:c=.bool true:=hc
  subst hc
  exact ⟨rfl,hx.os,hx.tape,hx.output,hx.size,fun g hg=>(hx.keep g hg fun ⟨b,B,hB,_⟩=>by simp at hB).1⟩
theorem trodAll_stays (hl:laidOutB P=true) {W':World} (hb:Below W.heap.size W W'):∀ {ts:List TypeId} {vs:List Value} {ds:List (DataW H)} {ps:List MemPlace},(ts.all fun t=>P.readableRec t&&decide (t < P.types.size))=true →
    DataW.TrodAll enc P W 0 (fun _=>true) true ts vs ds ps→DataW.TrodAll enc P W' 0 (fun b=>decide (b < W.heap.size)) true ts vs ds ps
  | [],vs,ds,ps,_,h=>by obtain ⟨rfl,rfl,rfl⟩:=trodAll_nil h; exact trodAll_mk0
  | t::ts,vs,ds,ps,ha,h=>by
    obtain ⟨v,vs',d,ds',p,q,rfl,rfl,rfl,h1,h2⟩:=trodAll_cons h
    simp only [List.all_cons,Bool.and_eq_true,decide_eq_true_eq] at ha
    refine trodAll_cons_mk (Below.trod hl ha.1.1 ha.1.2 h1 hb fun x hx => ?_) (trodAll_stays hl hb ha.2 h2)
    obtain ⟨m,hm⟩:=h1
    exact DataW.trod_lt m _ _ _ hm x hx
end
end Go.Proofs.YtoemlgdlejkliaaK
