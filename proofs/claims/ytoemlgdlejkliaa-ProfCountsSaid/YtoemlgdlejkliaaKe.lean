/- Each operation of the machine does what its abstract step says: slices, strings, parts. -/
import Derived.Test.YtoemlgdlejkliaaKd
namespace Go.Proofs.YtoemlgdlejkliaaK
set_option linter.unusedVariables false
set_option linter.unusedSimpArgs false
open Go.RowKit
section
variable {P:Program} {o:Oper} {a:Act} {w:World} {im:Im} {H H':Hp} {f:Fr} {v:V}
theorem slLen_ok {x:V} {c:Value} {n:Nat} (h:VR im H w x c) (hl:slLen H x=some n):∃ A cap,c=.slice A n cap∧n≤cap∧cap≤maxLen:=by
  cases x with
  | ref b ver o' m =>
    simp only [slLen] at hl
    split at hl <;> simp at hl
    subst hl
    rename_i hs
    obtain ⟨B,hB⟩:=Option.isSome_iff_exists.1 hs
    obtain ⟨h1,h2,h3⟩:=live_ok hB
    obtain ⟨_,B',hB',_,h⟩:=h
    rw [h1] at hB'; injection hB' with hB'; subst hB'
    obtain ⟨A,cap,hc,hn,hm,_⟩:=h h2 h3
    exact ⟨A,cap,hc,hn,hm⟩
  | sl full m cs =>
    simp only [slLen,Option.some.injEq] at hl; subst hl
    obtain ⟨A,cap,hc,hn,hm,_⟩:=h
    exact ⟨A,cap,hc,hn,hm⟩
  | s y =>
    have hy:y=.slice none 0 0∧n=0:=by
      unfold slLen at hl
      split at hl <;> simp_all
    obtain ⟨rfl,rfl⟩:=hy
    exact ⟨none,0,h,Nat.le_refl _,by simp [maxLen]⟩
  | ptr b ver o=>simp [slLen] at hl
  | ip cs=>simp [slLen] at hl
  | agg cs=>simp [slLen] at hl
  | tup cs=>simp [slLen] at hl
  | clo _ cs=>simp [slLen] at hl
  | ifc t x=>simp [slLen] at hl
  | any=>simp [slLen] at hl
theorem slCells_ok (hr:Rel im H w) {x:V} {c:Value} {sz:Nat} {l:List V} (h:VR im H w x c) (hl:slCells H sz x=some l) :
    ∃ A n cap vs,c=.slice A n cap∧slLen H x=some n∧n≤cap∧l.length=n*sz∧VRs im H w l vs∧((A=none∧vs=[])∨∃ ad,A=some ad∧∀ j v,vs[j]? = some v→w.cell? (ad.add j)=some v):=by
  cases x with
  | ref b ver o' m =>
    simp only [slCells] at hl
    cases hB:live H b ver with
    | none=>simp [hB] at hl
    | some B =>
      simp only [hB] at hl
      split at hl <;> simp at hl
      subst hl
      rename_i hn
      obtain ⟨h1,h2,h3⟩:=live_ok hB
      obtain ⟨_,B',hB',_,h⟩:=h
      rw [h1] at hB'; injection hB' with hB'; subst hB'
      obtain ⟨A,cap,hc,hnc,hm,hg⟩:=h h2 h3
      have hlen:slLen H (.ref b ver o' m)=some m:=by simp [slLen,hB]
      rcases hg with hg | ⟨g,hg,hA,_⟩
      · have hm0:m=0:=by omega
        subst hm0
        refine ⟨A,0,cap,[],hc,hlen,hnc,by simp,by simp [VRs],?_⟩
        cases A with
        | none=>exact .inl ⟨rfl,rfl⟩
        | some ad=>exact .inr ⟨ad,rfl,fun j v hj=>by simp at hj⟩
      · have:=hr.row b B h1 h3
        rw [hg] at this
        obtain ⟨arr,t,fr,vs,k1,k2,k3,k4,_⟩:=this
        refine ⟨A,m,cap,(vs.drop o').take (m*sz),hc,hlen,hnc,by simp; omega,(k4.drop o').take _,.inr ⟨⟨g,o',none⟩,hA,fun j v hj => ?_⟩⟩
        rw [List.getElem?_take] at hj
        split at hj
        · rw [List.getElem?_drop] at hj
          rw [add_plain']
          simp [World.cell?,k1,k3 _ _ hj]
        · simp at hj
  | sl full m cs =>
    simp only [slCells] at hl
    split at hl <;> simp at hl
    subst hl
    rename_i hn
    obtain ⟨A,cap,hc,hnc,hm,hf,hg⟩:=h
    have hlen:slLen H (.sl full m cs)=some m:=rfl
    rcases hg with hg | ⟨g,o',vs,hA,ho,hgs,hat,hvs⟩
    · subst hg
      refine ⟨A,0,cap,[],hc,hlen,hnc,by simp,by simp [VRs],?_⟩
      cases A with
      | none=>exact .inl ⟨rfl,rfl⟩
      | some ad=>exact .inr ⟨ad,rfl,fun j v hj=>by simp at hj⟩
    · refine ⟨A,m,cap,vs.take (m*sz),hc,hlen,hnc,by simp; omega,hvs.take _,.inr ⟨⟨g,o',none⟩,hA,fun j v hj => ?_⟩⟩
      rw [List.getElem?_take] at hj
      split at hj
      · rw [add_plain']; exact hat _ _ hj
      · simp at hj
  | s y =>
    have hy:y=.slice none 0 0∧l=[]:=by
      unfold slCells at hl
      split at hl <;> simp_all
    obtain ⟨rfl,rfl⟩:=hy
    exact ⟨none,0,0,[],h,rfl,Nat.le_refl _,by simp,by simp [VRs],.inl ⟨rfl,rfl⟩⟩
  | ptr b ver o=>simp [slCells] at hl
  | ip cs=>simp [slCells] at hl
  | agg cs=>simp [slCells] at hl
  | tup cs=>simp [slCells] at hl
  | clo _ cs=>simp [slCells] at hl
  | ifc t x=>simp [slCells] at hl
  | any=>simp [slCells] at hl
theorem slAt_ok {x v:V} {c:Value} {n k sz:Nat} {i:Nat} (hx:VR im H w x c) (hl:slLen H x=some n) (hi:i < n) (hv:slAt x (i*sz)=some v) :
    ∃ g o' cap,c=.slice (some ⟨g,o',none⟩) n cap∧VR im H w v (.pointer (some ⟨g,o'+i*sz,none⟩)):=by
  cases x with
  | ref b ver o' m =>
    simp only [slAt,Option.some.injEq] at hv; subst hv
    simp only [slLen] at hl
    split at hl <;> simp at hl
    subst hl
    rename_i hs
    obtain ⟨B,hB⟩:=Option.isSome_iff_exists.1 hs
    obtain ⟨h1,h2,h3⟩:=live_ok hB
    obtain ⟨_,B',hB',hle,h⟩:=hx
    rw [h1] at hB'; injection hB' with hB'; subst hB'
    obtain ⟨A,cap,hc,hn,hm,hg⟩:=h h2 h3
    rcases hg with hg | ⟨g,hg,hA,_⟩
    · omega
    · subst hA
      exact ⟨g,o',cap,hc,rfl,B,h1,hle,fun _ _=>⟨g,hg,rfl⟩⟩
  | sl full m cs =>
    simp only [slAt,Option.some.injEq] at hv; subst hv
    simp only [slLen,Option.some.injEq] at hl; subst hl
    obtain ⟨A,cap,hc,hnc,hm,hf,hg⟩:=hx
    rcases hg with hg | ⟨g,o',vs,hA,ho,hgs,hat,hvs⟩
    · omega
    · subst hA
      refine ⟨g,o',cap,hc,g,o'+i*sz,vs.drop (i*sz),rfl,ho,hgs,fun j v hj => ?_,hvs.drop _⟩
      rw [List.getElem?_drop] at hj
      have:=hat _ _ hj
      rwa [show o'+(i*sz+j)=o'+i*sz+j by omega] at this
  | s y=>simp [slAt] at hv
  | ptr b ver o=>simp [slAt] at hv
  | ip cs=>simp [slAt] at hv
  | agg cs=>simp [slAt] at hv
  | tup cs=>simp [slAt] at hv
  | clo _ cs=>simp [slAt] at hv
  | ifc t x=>simp [slAt] at hv
  | any=>simp [slAt] at hv
theorem s_ias (hr:Rel im H w) (hf:FR im H w f a) {X Y:Operand} {x y:Opd} {t e:TypeId} {sz:Nat} (hx:cO X=some x) (hy:cO Y=some y) (ho:o.op=.indexAddr t X Y) (ht:P.underlying t=some (.slice e)) (hsz:tsz P e=some sz)
    {i:Int} {n k:Nat} {v:V} (hi:asI (ev y f)=some i) (hn:slLen H (ev x f)=some n) (hk:idx sz n i=some k) (hv:slAt (ev x f) k=some v):Stp P o a w im H v H:=by
  obtain ⟨h0,h1,rfl⟩:=idx_ok hk
  obtain ⟨ki,hci⟩:=asI_ok (ev_ok hf hy) hi
  obtain ⟨g,o',cap,hc,hvr⟩:=slAt_ok (k:=0) (ev_ok hf hx) hn (by omega:i.toNat < n) hv
  refine stp_pure hr _ ?_ hvr
  unfold tsz at hsz
  cases hi':P.info? e with
  | none=>simp [hi'] at hsz
  | some inf =>
    simp [hi'] at hsz
    simp [execOp,ho,hc,hci,Instr.indexAt,asIntOf,run_underlying ht,h0,h1,sizeOf,typeInfo,hi',hsz,add_plain']
theorem s_len (hr:Rel im H w) (hf:FR im H w f a) {X:Operand} {x:Opd} {t e:TypeId} {ts:Array TypeId} (hx:cO X=some x) (ho:o.op=.call { callee:=.builtin .len,args := #[X],argTypes:=ts }) (hts:ts[0]? = some t) (ht:P.underlying t=some (.slice e))
    {n:Nat} (hn:slLen H (ev x f)=some n):Stp P o a w im H (.s (.int .i64 (n:Nat))) H:=by
  obtain ⟨A,cap,hs,_⟩:=slLen_ok (ev_ok hf hx) hn
  refine stp_pure hr (.int .i64 (n:Nat)) ?_ rfl
  simp [execOp,ho,resolve,invoke,builtin,Builtin.len_,hs,hts,run_underlying ht,goInt]
theorem s_lens (hr:Rel im H w) (hf:FR im H w f a) {X:Operand} {x:Opd} {t:TypeId} {ts:Array TypeId} (hx:cO X=some x) (ho:o.op=.call { callee:=.builtin .len,args := #[X],argTypes:=ts }) (hts:ts[0]? = some t) (ht:P.underlying t=some .string)
    {s:ByteArray} (hn:asStr (ev x f)=some s):Stp P o a w im H (.s (.int .i64 (s.size:Nat))) H:=by
  have hs:=asStr_ok (ev_ok hf hx) hn
  refine stp_pure hr (.int .i64 (s.size:Nat)) ?_ rfl
  simp [execOp,ho,resolve,invoke,builtin,Builtin.len_,hs,hts,run_underlying ht,goInt]
theorem part_ok {t:TypeId} {vs:Array Value} {off sz:Nat} {ag:Bool} {l:List V} {v:V} (hvs:VRs im H w l vs.toList) (hag:ag? P t=some ag) (hsz:tsz P t=some sz) (h1:ag=true∨sz=1) (hn:off+sz≤l.length) (hv:one? ag ((l.drop off).take sz)=some v) :
    ∃ c,(part t vs off).run P w=.ok c w∧VR im H w v c:=by
  unfold ag? at hag
  unfold tsz at hsz
  cases hu:P.underlying t with
  | none=>simp [hu] at hag
  | some d =>
    cases hi:P.info? t with
    | none=>simp [hi] at hsz
    | some i =>
      simp [hi] at hsz
      cases ag with
      | true =>
        have hd:(isAgg t).run P w=.ok true w:=by
          simp only [hu] at hag
          unfold isAgg
          split at hag <;> simp_all [run_underlying hu]
        refine ⟨.agg (vs.extract off (off+sz)),?_,?_⟩
        · simp only [part,Sem.run_bind,hd,Result.andThen_ok,if_true,sizeOf,typeInfo,run_program,hi,hsz,Sem.run_pure]
        · simp only [one?,if_true,Option.some.injEq] at hv; subst hv
          refine ⟨_,rfl,?_⟩
          have:=(hvs.drop off).take sz
          rw [Array.toList_extract,List.extract_eq_take_drop]
          rwa [show off+sz - off=sz by omega]
      | false =>
        have hs1:sz=1:=by rcases h1 with h1 | h1 <;> simp_all
        rw [hs1] at hv hn
        have hd:(isAgg t).run P w=.ok false w:=by
          simp only [hu] at hag
          unfold isAgg
          split at hag <;> simp_all [run_underlying hu]
        have hlo:l[off]? = some v:=by
          have:(l.drop off).take 1=[l[off]]:=by
            rw [List.drop_eq_getElem_cons (by omega)]; rfl
          rw [this] at hv
          simp [one?] at hv
          rw [← hv,List.getElem?_eq_getElem]
        obtain ⟨c,hc,hvr⟩:=VRs.get off hvs hlo
        have hc':vs[off]? = some c:=by simpa using hc
        refine ⟨c,?_,hvr⟩
        simp only [part,Sem.run_bind,hd,Result.andThen_ok,if_false,Bool.false_eq_true,hc',Sem.run_pure]
theorem s_part (hr:Rel im H w) (hf:FR im H w f a) {X:Operand} {x:Opd} {t:TypeId} {i:Nat} {fs:Array Field} {fd:Field} {ag:Bool} {sz:Nat} (hx:cO X=some x) (ho:o.op=.field t X i) (ht:P.underlying t=some (.struct fs)) (hi:fs[i]? = some fd)
    (hag:ag? P fd.type=some ag) (hsz:tsz P fd.type=some sz) (h1:ag=true∨sz=1) {l:List V} {v:V} (hl:asAgg (ev x f)=some l) (hn:fd.offset+sz≤l.length) (hv:one? ag ((l.drop fd.offset).take sz)=some v):Stp P o a w im H v H:=by
  obtain ⟨vs,hc,hvs⟩:=asAgg_ok (ev_ok hf hx) hl
  obtain ⟨c,hrun,hvr⟩:=part_ok (P:=P) hvs hag hsz h1 hn hv
  refine stp_pure hr c ?_ hvr
  simp only [execOp,ho,hc,Instr.field,Go.asAgg,Sem.run_bind,run_underlying ht,Result.andThen_ok,hi,Sem.run_pure,hrun]
theorem s_ixa (hr:Rel im H w) (hf:FR im H w f a) {X Y:Operand} {x y:Opd} {t e:TypeId} {n sz:Nat} {ag:Bool} (hx:cO X=some x) (hy:cO Y=some y) (ho:o.op=.index t X Y) (ht:P.underlying t=some (.array n e))
    (hag:ag? P e=some ag) (hsz:tsz P e=some sz) (h1:ag=true∨sz=1) {i:Int} {k:Nat} {l:List V} {v:V} (hi:asI (ev y f)=some i) (hk:idx sz n i=some k) (hl:asAgg (ev x f)=some l) (hn:k+sz≤l.length) (hv:one? ag ((l.drop k).take sz)=some v):Stp P o a w im H v H:=by
  obtain ⟨vs,hc,hvs⟩:=asAgg_ok (ev_ok hf hx) hl
  obtain ⟨h0,h2,rfl⟩:=idx_ok hk
  obtain ⟨ki,hci⟩:=asI_ok (ev_ok hf hy) hi
  obtain ⟨c,hrun,hvr⟩:=part_ok (P:=P) hvs hag hsz h1 hn hv
  refine stp_pure hr c ?_ hvr
  have hs:(sizeOf e).run P w=.ok sz w:=by
    unfold tsz at hsz
    cases hi':P.info? e with
    | none=>simp [hi'] at hsz
    | some inf=>simp [hi'] at hsz; simp [sizeOf,typeInfo,hi',hsz]
  simp only [execOp,ho,hc,hci,Instr.index,asIntOf,Sem.run_bind,run_underlying ht,Result.andThen_ok,Sem.run_pure,h0,h2,and_self,if_true,hs,hrun]
theorem s_ixs (hr:Rel im H w) (hf:FR im H w f a) {X Y:Operand} {x y:Opd} {t:TypeId} (hx:cO X=some x) (hy:cO Y=some y) (ho:o.op=.index t X Y) (ht:P.underlying t=some .string)
    {i:Int} {s:ByteArray} (hi:asI (ev y f)=some i) (hs:asStr (ev x f)=some s) (h0:0≤i) (h1:i < s.size):Stp P o a w im H (.s (.int .u8 (s.data.getD i.toNat 0).toNat)) H:=by
  have hc:=asStr_ok (ev_ok hf hx) hs
  obtain ⟨ki,hci⟩:=asI_ok (ev_ok hf hy) hi
  have hlt:i.toNat < s.size:=by omega
  have hget:s[i.toNat]? = some (s.data.getD i.toNat 0):=by
    rw [getElem?_pos s i.toNat hlt]
    have:i.toNat < s.data.size:=hlt
    simp only [Array.getD,dif_pos this]
    rfl
  refine stp_pure hr (.int .u8 (s.data.getD i.toNat 0).toNat) ?_ rfl
  simp only [execOp,ho,hc,hci,Instr.index,asIntOf,Sem.run_bind,run_underlying ht,Result.andThen_ok,Sem.run_pure,h0,if_true,hget]
/-! ### Literals -/
theorem wr_toList (vs:List Value) (arr:Array Value) (o':Nat) (h:o'+vs.length≤arr.size):(wr arr o' vs).toList=arr.toList.take o'++vs++arr.toList.drop (o'+vs.length):=by
  apply List.ext_getElem?
  intro j
  rw [List.append_assoc,List.getElem?_append,Array.getElem?_toList]
  have hto:(arr.toList.take o').length=o':=by simp; omega
  rw [hto]
  by_cases h1:j < o'
  · rw [if_pos h1,wr_out _ _ _ _ (.inl h1),List.getElem?_take,if_pos h1]; simp
  · rw [if_neg h1,List.getElem?_append]
    by_cases h2:j - o' < vs.length
    · rw [if_pos h2]
      have:=wr_in vs arr o' (j - o') h h2
      rwa [show o'+(j - o')=j by omega] at this
    · rw [if_neg h2,wr_out _ _ _ _ (.inr (by omega)),List.getElem?_drop]
      rw [show o'+vs.length+(j - o' - vs.length)=j by omega]; simp
theorem foldl_wr:∀ (vs:List Value) (k o':Nat) (arr:Array Value),(vs.zipIdx k).foldl (fun cs (x:Value × Nat)=>cs.setIfInBounds (o'+x.2) x.1) arr=wr arr (o'+k) vs
  | [],_,_,_=>rfl
  | v::r,k,o',arr=>by
    simp only [List.zipIdx_cons,List.foldl_cons,wr]
    rw [foldl_wr r (k+1) o' _]
    rfl
def cParts (place:Nat→Option (Nat × Nat)):List (Nat × Operand)→Option (List (Nat × Nat × Opd))
  | []=>some []
  | (i,X)::r=>(place i).bind fun p=>(cO X).bind fun x=>(cParts place r).map fun l=>(p.1,p.2,x)::l
theorem fill_ok (hf:FR im H w f a) {place:Nat→Option (Nat × Nat)}:∀ (parts:List (Nat × Operand)) (ps:List (Nat × Nat × Opd)) (cs l:List V) (arr:Array Value),cParts place parts=some ps→VRs im H w cs arr.toList→fillV f cs ps=some l →
    ∃ cells,Instr.fill place arr (parts.map fun x=>(x.1,a.eval x.2))=some cells∧VRs im H w l cells.toList
  | [],ps,cs,l,arr,hp,hcs,hl=>by
    simp [cParts] at hp; subst hp
    simp [fillV] at hl; subst hl
    exact ⟨arr,rfl,hcs⟩
  | (i,X)::r,ps,cs,l,arr,hp,hcs,hl=>by
    simp only [cParts] at hp
    obtain ⟨⟨off,sz⟩,hpl,hp⟩:=Option.bind_eq_some_iff.1 hp
    obtain ⟨x,hx,hp⟩:=Option.bind_eq_some_iff.1 hp
    obtain ⟨ps',hps',hp⟩:=Option.map_eq_some_iff.1 hp
    subst hp
    simp only [fillV] at hl
    split at hl
    · rename_i hh
      obtain ⟨h1,h2,h3⟩:=hh
      have hcell:=(ev_ok hf hx).cells (cells_ok h3)
      have hlen:=hcell.length
      have hlen':(a.eval X).cells.size=(ev x f).cells.length:=by simp at hlen; omega
      have hal:=hcs.length
      simp only [Array.length_toList] at hal
      have hw':off+(a.eval X).cells.toList.length≤arr.size:=by simp; omega
      obtain ⟨cells,hc1,hc2⟩:=fill_ok hf r ps' (splice cs off (ev x f).cells) l (wr arr off (a.eval X).cells.toList) hps' (by
        rw [wr_toList _ _ _ hw']
        unfold splice
        rw [show (a.eval X).cells.toList.length=(ev x f).cells.length by simp; omega]
        exact ((hcs.take _).append hcell).append (hcs.drop _)) hl
      refine ⟨cells,?_,hc2⟩
      simp only [List.map_cons,Instr.fill,hpl]
      rw [if_neg (by simp; omega)]
      rw [← Array.foldl_toList,Array.toList_zipIdx,foldl_wr]
      exact hc1
    · simp at hl
def place (P:Program) (t:TypeId) (i:Nat):Option (Nat × Nat):=match P.underlying t with
  | some (.array _ e)=>(P.info? e).map fun ie=>(i*ie.size,ie.size)
  | some (.struct fields)=>(fields.toList.mapM (fun f=>(P.info? f.type).map fun i=>(f.offset,i.size))).bind fun places=>places.toArray[i]?
  | _=>none
def placeOk (P:Program) (t:TypeId):Bool:=match P.underlying t with
  | some (.array _ e)=>(P.info? e).isSome
  | some (.struct fields)=>(fields.toList.mapM (fun f=>(P.info? f.type).map fun i=>(f.offset,i.size))).isSome
  | _=>false
theorem built_ok {t:TypeId} {z:List Value} (hz:tz P t=some z) (hp:placeOk P t=true) (parts:List (Nat × Value)):P.built t parts=Instr.fill (place P t) z.toArray parts:=by
  unfold tz at hz
  cases hi:P.info? t with
  | none=>simp [hi] at hz
  | some it =>
    cases hzz:it.zero with
    | none=>simp [hi,hzz] at hz
    | some zv =>
      simp [hi,hzz] at hz
      subst hz
      unfold placeOk at hp
      unfold Program.built
      simp only [hi]
      cases hu:P.underlying t with
      | none=>simp [hu] at hp
      | some d =>
        cases d <;> simp [hu] at hp
        · obtain ⟨ie,hie⟩:=Option.isSome_iff_exists.1 hp
          have:place P t=fun i=>some (i*ie.size,ie.size):=by
            funext i; simp [place,hu,hie]
          rw [this]; simp [hie,hzz]
        · obtain ⟨places,hpl⟩:=Option.isSome_iff_exists.1 hp
          have:place P t=fun i=>places.toArray[i]? := by
            funext i; simp [place,hu,hpl]
          rw [this]; simp [hzz,hpl]
theorem s_build (hr:Rel im H w) (hf:FR im H w f a) {t:TypeId} {parts:Array (Nat × Operand)} {z:List Value} {ps:List (Nat × Nat × Opd)} (ho:o.op=.build t parts) (hz:tz P t=some z) (hp:placeOk P t=true) (hc:cParts (place P t) parts.toList=some ps)
    {l:List V} (hl:fillV f (z.map .s) ps=some l):Stp P o a w im H (.agg l) H:=by
  obtain ⟨cells,h1,h2⟩:=fill_ok hf parts.toList ps (z.map .s) l z.toArray hc (map_s_ok z) hl
  refine stp_pure hr (.agg cells) ?_ ⟨cells,rfl,h2⟩
  have:=run_build (P:=P) w t (parts.map fun (i,x)=>(i,a.eval x)) cells (by rw [built_ok hz hp,← h1]; simp)
  simp only [execOp,ho,Sem.run_bind,this,Result.andThen_ok,Sem.run_pure]
def bz (P:Program) (e:TypeId) (n:Nat):Option (List Value):=match P.info? e with
  | some i=>match i.zero with
    | some z=>if n*i.size≤2 ^ 24∧n*i.size ≠ 0 then some ((Array.range (n*i.size)).map (z.cells[· % z.cells.size]!)).toList else none
    | none=>none
  | none=>none
theorem s_bsl (hr:Rel im H w) (hf:FR im H w f a) {t e:TypeId} {n sz:Nat} {parts:Array (Nat × Operand)} {z:List Value} {ps:List (Nat × Nat × Opd)} (ho:o.op=.buildSlice t n parts) (ht:P.underlying t=some (.slice e)) (hsz:tsz P e=some sz) (hz:bz P e n=some z)
    (hc:cParts (fun i=>some (i*sz,sz)) parts.toList=some ps) {l:List V} (hl:fillV f (z.map .s) ps=some l) (hst:statics l=true) (hn:n≤maxLen):Stp P o a w im H (.sl true n l) H:=by
  obtain ⟨cells,h1,h2⟩:=fill_ok hf parts.toList ps (z.map .s) l z.toArray hc (map_s_ok z) hl
  unfold bz at hz
  unfold tsz at hsz
  cases hi:P.info? e with
  | none=>simp [hi] at hz
  | some i =>
    cases hzz:i.zero with
    | none=>simp [hi,hzz] at hz
    | some zv =>
      simp only [hi,hzz] at hz
      simp [hi] at hsz
      subst hsz
      split at hz <;> simp at hz
      rename_i hh
      have hrun:=run_buildSlice (P:=P) w t e n (parts.map fun (i,x)=>(i,a.eval x)) cells i zv ht hi hzz (by omega) hh.2 (by rw [show (Array.map (fun x=>zv.cells[x % zv.cells.size]!) (Array.range (n*i.size)))=z.toArray by rw [← hz]; apply Array.ext'; simp]; rw [← h1]; simp)
      obtain ⟨k1,k2⟩:=hr.alloc (.cells cells e)
      refine ⟨im,_,.slice (some ⟨w.heap.size,0,none⟩) n n,.inl ?_,k1,k2,?_⟩
      · simp only [execOp,ho,Sem.run_bind,hrun,Result.andThen_ok,Sem.run_pure]
      · refine ⟨some ⟨w.heap.size,0,none⟩,n,rfl,Nat.le_refl _,hn,fun _=>rfl,.inr ⟨w.heap.size,0,cells.toList,rfl,fun ho' => ?_,by simp [alloc_size],At.of_row (arr:=cells) (t:=e) (fr:=(0,0)) (by rw [alloc_heap,if_pos rfl]) (fun j v hj=>by simpa using hj),VRs.ext k2 _ _ h2⟩⟩
        have:=hr.own_lt ho'
        omega
theorem s_bsl0 (hr:Rel im H w) {t e:TypeId} {sz:Nat} (ho:o.op=.buildSlice t 0 #[]) (ht:P.underlying t=some (.slice e)) (hsz:tsz P e=some sz):Stp P o a w im H (.sl true 0 []) H:=by
  unfold tsz at hsz
  cases hi:P.info? e with
  | none=>simp [hi] at hsz
  | some i =>
    obtain ⟨k1,k2⟩:=hr.alloc (.cells #[] e)
    refine ⟨im,_,.slice (some ⟨w.heap.size,0,none⟩) 0 0,.inl ?_,k1,k2,⟨_,0,rfl,Nat.le_refl _,by simp [maxLen],fun _=>rfl,.inl rfl⟩⟩
    simp [execOp,ho,Instr.buildSlice,run_underlying ht,sizeOf,typeInfo,hi,Instr.fill,newRow]
    congr 2
    apply Array.ext'; simp
/-- A literal that is one's own. -/
theorem s_bslo (hr:Rel im H w) (hf:FR im H w f a) {t e:TypeId} {n sz:Nat} {parts:Array (Nat × Operand)} {z:List Value} {ps:List (Nat × Nat × Opd)} (ho:o.op=.buildSlice t n parts) (ht:P.underlying t=some (.slice e)) (hsz:tsz P e=some sz) (hz:bz P e n=some z)
    (hc:cParts (fun i=>some (i*sz,sz)) parts.toList=some ps) {l:List V} (hl:fillV f (z.map .s) ps=some l) (hn:n≤maxLen):Stp P o a w im H (.ref H.length 0 0 n) (H++[⟨0,.grow,sz,l⟩]):=by
  obtain ⟨cells,h1,h2⟩:=fill_ok hf parts.toList ps (z.map .s) l z.toArray hc (map_s_ok z) hl
  unfold bz at hz
  unfold tsz at hsz
  cases hi:P.info? e with
  | none=>simp [hi] at hz
  | some i =>
    cases hzz:i.zero with
    | none=>simp [hi,hzz] at hz
    | some zv =>
      simp only [hi,hzz] at hz
      simp [hi] at hsz
      subst hsz
      split at hz <;> simp at hz
      rename_i hh
      have hrun:=run_buildSlice (P:=P) w t e n (parts.map fun (i,x)=>(i,a.eval x)) cells i zv ht hi hzz (by omega) hh.2 (by rw [show (Array.map (fun x=>zv.cells[x % zv.cells.size]!) (Array.range (n*i.size)))=z.toArray by rw [← hz]; apply Array.ext'; simp]; rw [← h1]; simp)
      have hcs:cells.size=n*i.size:=by
        have e1:=h2.length
        have e2:∀ (ps:List (Nat × Nat × Opd)) (cs l:List V),fillV f cs ps=some l→l.length=cs.length:=by
          intro ps
          induction ps with
          | nil=>intro cs l h; simp [fillV] at h; rw [h]
          | cons x r ih =>
            intro cs l h
            obtain ⟨o,k,x⟩:=x
            simp only [fillV] at h
            split at h
            · rename_i hc
              rw [ih _ _ h]
              simp only [splice,List.length_append,List.length_take,List.length_drop]
              omega
            · simp at h
        have e3:=e2 _ _ _ hl
        rw [← hz] at e3
        simp at e3 e1
        omega
      obtain ⟨k1,k2⟩:=hr.new .grow i.size l cells e (0,0) cells.toList nofun (fun j _=>by simp) (fun j v hj=>by simpa using hj) h2
      refine ⟨_,_,.slice (some ⟨w.heap.size,0,none⟩) n n,.inl ?_,k1,k2,rfl,⟨0,.grow,i.size,l⟩,by simp,Nat.le_refl _,fun _ _=>⟨_,_,rfl,Nat.le_refl _,hn,.inr ⟨w.heap.size,by simp [imNew],rfl,?_⟩⟩⟩
      · simp only [execOp,ho,Sem.run_bind,hrun,Result.andThen_ok,Sem.run_pure]
      · rw [own_new,hcs]; simp
theorem s_bslo0 (hr:Rel im H w) {t e:TypeId} {sz:Nat} (ho:o.op=.buildSlice t 0 #[]) (ht:P.underlying t=some (.slice e)) (hsz:tsz P e=some sz):Stp P o a w im H (.ref H.length 0 0 0) (H++[⟨0,.grow,sz,[]⟩]):=by
  unfold tsz at hsz
  cases hi:P.info? e with
  | none=>simp [hi] at hsz
  | some i =>
    obtain ⟨k1,k2⟩:=hr.new .grow sz [] #[] e (0,0) [] nofun (fun j _=>by simp) (fun j v hj=>by simp at hj) trivial
    refine ⟨_,_,.slice (some ⟨w.heap.size,0,none⟩) 0 0,.inl ?_,k1,k2,rfl,⟨0,.grow,sz,[]⟩,by simp,Nat.le_refl _,fun _ _=>⟨_,_,rfl,Nat.le_refl _,by simp [maxLen],.inl ⟨rfl,fun a ha=>by injection ha with ha; subst ha; simp [imNew]⟩⟩⟩
    simp [execOp,ho,Instr.buildSlice,run_underlying ht,sizeOf,typeInfo,hi,Instr.fill,newRow]
    congr 2
    apply Array.ext'; simp
theorem s_mki (hr:Rel im H w) (hf:FR im H w f a) {X:Operand} {x:Opd} {t:TypeId} (hx:cO X=some x) (ho:o.op=.makeInterface t X) (ht:match P.underlying t with | some (.interface _)=>False | some _=>True | none=>False):Stp P o a w im H (.ifc t (ev x f)) H:=by
  refine stp_pure hr (.iface t (a.eval X)) ?_ ⟨_,rfl,ev_ok hf hx⟩
  cases hu:P.underlying t with
  | none=>simp [hu] at ht
  | some d =>
    simp only [hu] at ht
    simp only [execOp,ho,Instr.makeInterface,Sem.run_bind,run_underlying hu,Result.andThen_ok]
    split at ht <;> simp_all
theorem s_mnx (hr:Rel im H w) (hf:FR im H w f a) {X Y:Operand} {x y:Opd} {mx:Bool} {ts:Array TypeId} (hx:cO X=some x) (hy:cO Y=some y) (ho:o.op=.call { callee:=.builtin (if mx then .max else .min),args := #[X,Y],argTypes:=ts }) {m n r:Value} (hm:asS (ev x f)=some m) (hn:asS (ev y f)=some n)
    (h:mnx mx m n=some r):Stp P o a w im H (.s r) H:=by
  refine stp_pure hr r ?_ rfl
  have h1:=asS_ok (ev_ok hf hx) hm
  have h2:=asS_ok (ev_ok hf hy) hn
  unfold mnx at h
  split at h <;> simp at h
  subst h
  cases mx <;> simp [execOp,ho,h1,h2,resolve,invoke,builtin,Builtin.max_,Builtin.min_,Builtin.max2,Builtin.min2]
/-! ### Strings and slices, cut -/
theorem bounds_ok (hf:FR im H w f a) {n:Nat} {LO HI:Option Operand} {lo hi:Option Opd} (hlo:LO.map cO=lo.map some) (hhi:HI.map cO=hi.map some) {l h:Nat} (hb:bounds f n lo hi=some (l,h)) (isSl:Bool) (len cap:Nat) (hlen:len=n) (hcap:n≤cap) :
    (Instr.sliceBounds isSl len cap (LO.map a.eval) (HI.map a.eval) none).run P w=.ok (l,h,cap) w∧l≤h∧h≤n:=by
  unfold bounds at hb
  obtain ⟨hh,h1,hb⟩:=Option.bind_eq_some_iff.1 hb
  obtain ⟨ll,h2,hb⟩:=Option.bind_eq_some_iff.1 hb
  split at hb <;> simp at hb
  rename_i hc
  obtain ⟨rfl,rfl⟩:=hb
  subst hlen
  refine ⟨?_,by omega,by omega⟩
  unfold Instr.sliceBounds
  cases HI with
  | none =>
    cases hi with
    | some _=>simp at hhi
    | none =>
      simp at h1; subst h1
      cases LO with
      | none =>
        cases lo with
        | some _=>simp at hlo
        | none=>simp at h2; subst h2; simp
      | some X =>
        cases lo with
        | none=>simp at hlo
        | some x =>
          simp at hlo
          obtain ⟨k,hk⟩:=asI_ok (ev_ok hf hlo) h2
          simp [hk,Instr.sliceBound,asIntOf,hc.1]
          omega
  | some Y =>
    cases hi with
    | none=>simp at hhi
    | some y =>
      simp at hhi
      obtain ⟨k,hk⟩:=asI_ok (ev_ok hf hhi) h1
      have e1:0≤hh∧hh≤(cap:Int):=by omega
      cases LO with
      | none =>
        cases lo with
        | some _=>simp at hlo
        | none=>simp at h2; subst h2; simp [hk,Instr.sliceBound,asIntOf,e1]
      | some X =>
        cases lo with
        | none=>simp at hlo
        | some x =>
          simp at hlo
          obtain ⟨k',hk'⟩:=asI_ok (ev_ok hf hlo) h2
          have e2:0≤ll∧ll≤(hh.toNat:Int):=by omega
          simp [hk,hk',Instr.sliceBound,asIntOf,e1,e2]
          intro hx; omega
theorem s_sstr (hr:Rel im H w) (hf:FR im H w f a) {X:Operand} {x:Opd} {LO HI:Option Operand} {lo hi:Option Opd} {t:TypeId} (hx:cO X=some x) (hlo:LO.map cO=lo.map some) (hhi:HI.map cO=hi.map some) (ho:o.op=.slice t X LO HI none) (ht:P.underlying t=some .string)
    {s:ByteArray} (hs:asStr (ev x f)=some s) {l h:Nat} (hb:bounds f s.size lo hi=some (l,h)):Stp P o a w im H (.s (.string (s.extract l h))) H:=by
  have hc:=asStr_ok (ev_ok hf hx) hs
  obtain ⟨hrun,_,_⟩:=bounds_ok (P:=P) (w:=w) hf hlo hhi hb false s.size s.size rfl (Nat.le_refl _)
  refine stp_pure hr (.string (s.extract l h)) ?_ rfl
  simp only [execOp,ho,hc,Instr.sliceAt,Sem.run_bind,run_underlying ht,Result.andThen_ok,Instr.slice,Option.map_none,Option.isSome_none,Bool.false_eq_true,if_false,Sem.run_pure]
  simp only [hrun,Result.andThen_ok,Sem.run_pure]
theorem slCut_ok {sz:Nat} {x v:V} {c:Value} {n l h:Nat} (hx:VR im H w x c) (hl:slLen H x=some n) (h1:l≤h) (h2:h≤n) (hv:slCut H sz x l h=some v) :
    ∃ A cap,c=.slice A n cap∧n≤cap∧VR im H w v (.slice (if cap=l then A else A.map (·.add (l*sz))) (h - l) (cap - l)):=by
  cases x with
  | ref b ver o' m =>
    simp only [slCut] at hv
    obtain ⟨B,hB,hv⟩:=Option.bind_eq_some_iff.1 hv
    split at hv <;> simp at hv
    subst hv
    rename_i hsz
    simp [slLen,hB] at hl
    subst hl
    obtain ⟨q1,q2,q3⟩:=live_ok hB
    obtain ⟨_,B',hB',hle,hx⟩:=hx
    rw [q1] at hB'; injection hB' with hB'; subst hB'
    obtain ⟨A,cap,hc,hn,hm,hg⟩:=hx q2 q3
    refine ⟨A,cap,hc,hn,rfl,B,q1,hle,fun _ _=>⟨_,_,rfl,by omega,by omega,?_⟩⟩
    by_cases hcl:cap=l
    · refine .inl ⟨by omega,fun a ha => ?_⟩
      rw [if_pos hcl] at ha
      rcases hg with hg | ⟨g,hg,hA,hrow⟩
      · exact hg.2 a ha
      · rw [hA] at ha; injection ha with ha; subst ha; exact hg
    · rcases hg with hg | ⟨g,hg,hA,hrow⟩
      · omega
      · refine .inr ⟨g,hg,?_,?_⟩
        · rw [if_neg hcl,hA]; simp [add_plain']
        · rw [hsz] at hrow ⊢
          have:cap*sz=l*sz+(cap - l)*sz:=by rw [← Nat.add_mul]; congr 1; omega
          omega
  | sl full m cs =>
    simp only [slCut,Option.some.injEq] at hv; subst hv
    simp only [slLen,Option.some.injEq] at hl; subst hl
    obtain ⟨A,cap,hc,hn,hm,hf',hg⟩:=hx
    refine ⟨A,cap,hc,hn,_,_,rfl,by omega,by omega,fun hfl => ?_,?_⟩
    · simp at hfl
      have:=hf' hfl.1
      omega
    · by_cases hlh:h - l=0
      · exact .inl hlh
      · rcases hg with hg | ⟨g,o',vs,hA,ho',hgs,hat,hvs⟩
        · omega
        · refine .inr ⟨g,o'+l*sz,vs.drop (l*sz),?_,ho',hgs,fun j v hj => ?_,hvs.drop _⟩
          · rw [if_neg (by omega),hA]; simp [add_plain']
          · rw [List.getElem?_drop] at hj
            have:=hat _ _ hj
            rwa [show o'+(l*sz+j)=o'+l*sz+j by omega] at this
  | s y =>
    have hy:y=.slice none 0 0∧v=.s (.slice none 0 0):=by
      unfold slCut at hv
      split at hv <;> simp_all
    obtain ⟨rfl,rfl⟩:=hy
    simp [slLen] at hl
    subst hl
    refine ⟨none,0,hx,Nat.le_refl _,?_⟩
    have:l=0∧h=0:=by omega
    obtain ⟨rfl,rfl⟩:=this
    rfl
  | ptr b ver o=>simp [slCut] at hv
  | ip cs=>simp [slCut] at hv
  | agg cs=>simp [slCut] at hv
  | tup cs=>simp [slCut] at hv
  | clo _ cs=>simp [slCut] at hv
  | ifc t x=>simp [slCut] at hv
  | any=>simp [slCut] at hv
theorem s_slice (hr:Rel im H w) (hf:FR im H w f a) {X:Operand} {x:Opd} {LO HI:Option Operand} {lo hi:Option Opd} {t e:TypeId} {sz:Nat} (hx:cO X=some x) (hlo:LO.map cO=lo.map some) (hhi:HI.map cO=hi.map some) (ho:o.op=.slice t X LO HI none) (ht:P.underlying t=some (.slice e)) (hsz:tsz P e=some sz)
    {n l h:Nat} {v:V} (hn:slLen H (ev x f)=some n) (hb:bounds f n lo hi=some (l,h)) (hv:slCut H sz (ev x f) l h=some v):Stp P o a w im H v H:=by
  obtain ⟨A0,cap0,hc0,hnc0,_⟩:=slLen_ok (ev_ok hf hx) hn
  obtain ⟨hrun,k1,k2⟩:=bounds_ok (P:=P) (w:=w) hf hlo hhi hb true n cap0 rfl hnc0
  obtain ⟨A,cap,hc,hnc,hvr⟩:=slCut_ok (ev_ok hf hx) hn k1 k2 hv
  rw [hc0] at hc
  injection hc with e1 e2 e3
  subst e1; subst e3
  refine stp_pure hr _ ?_ hvr
  have hs:(sizeOf e).run P w=.ok sz w:=by
    unfold tsz at hsz
    cases hi':P.info? e with
    | none=>simp [hi'] at hsz
    | some inf=>simp [hi'] at hsz; simp [sizeOf,typeInfo,hi',hsz]
  simp only [execOp,ho,hc0,Instr.sliceAt,Sem.run_bind,run_underlying ht,Result.andThen_ok,Instr.slice,Option.map_none]
  simp only [hrun,Result.andThen_ok,hs,Sem.run_pure]
theorem bounds_ok3 (hf:FR im H w f a) {LO:Option Operand} {HI MX:Operand} {lo:Option Opd} {hi mx:Opd} (hlo:LO.map cO=lo.map some) (hhi:cO HI=some hi) (hmx:cO MX=some mx) {m:Int} {l h:Nat} (hm:asI (ev mx f)=some m) (hm0:0≤m) (cap:Nat) (hmc:m≤(cap:Int)) (hb:bounds f m.toNat lo (some hi)=some (l,h)) (len:Nat) :
    (Instr.sliceBounds true len cap (LO.map a.eval) (some (a.eval HI)) (some (a.eval MX))).run P w=.ok (l,h,m.toNat) w∧l≤h∧h≤m.toNat:=by
  unfold bounds at hb
  obtain ⟨hh,h1,hb⟩:=Option.bind_eq_some_iff.1 hb
  obtain ⟨ll,h2,hb⟩:=Option.bind_eq_some_iff.1 hb
  split at hb <;> simp at hb
  rename_i hc
  obtain ⟨rfl,rfl⟩:=hb
  refine ⟨?_,by omega,by omega⟩
  unfold Instr.sliceBounds
  obtain ⟨k0,hk0⟩:=asI_ok (ev_ok hf hmx) hm
  obtain ⟨k,hk⟩:=asI_ok (ev_ok hf hhi) h1
  have e0:0≤m∧m≤(cap:Int):=⟨hm0,hmc⟩
  have e1:0≤hh∧hh≤(m.toNat:Int):=by omega
  cases LO with
  | none =>
    cases lo with
    | some _=>simp at hlo
    | none=>simp at h2; subst h2; simp [hk0,hk,Instr.sliceBound,asIntOf,e0]; intro hq; exfalso; have:=hq e1.1; omega
  | some X =>
    cases lo with
    | none=>simp at hlo
    | some x =>
      simp at hlo
      obtain ⟨k',hk'⟩:=asI_ok (ev_ok hf hlo) h2
      have e2:0≤ll∧ll≤(hh.toNat:Int):=by omega
      simp [hk0,hk,hk',Instr.sliceBound,asIntOf,e0]
      rw [if_pos (by omega),if_pos (by omega)]
theorem sl3_ok {sz:Nat} {x v:V} {c:Value} {n l h m:Nat} (hx:VR im H w x c) (hl:slLen H x=some n) (h1:l≤h) (h2:h≤m) (h3:m≤n) (hv:sl3Cut sz x l h=some v) :
    ∃ A cap,c=.slice A n cap∧n≤cap∧VR im H w v (.slice (if m=l then A else A.map (·.add (l*sz))) (h - l) (m - l)):=by
  cases x with
  | sl u k cs =>
    simp only [sl3Cut,Option.some.injEq] at hv
    subst hv
    obtain ⟨A,cap,hc,hn,hvr⟩:=slCut_ok (v:=.sl (u&&h == k) (h - l) (cs.drop (l*sz))) (sz:=sz) hx hl h1 (by omega) (by simp only [slCut])
    obtain ⟨A',cap',e,g1,g2,_,g4⟩:=hvr
    injection e with e1 e2 e3
    refine ⟨A,cap,hc,hn,_,_,rfl,by omega,by omega,fun e=>by simp at e,?_⟩
    by_cases hlh:h=l
    · exact .inl (by omega)
    · rw [if_neg (by omega)]
      rw [if_neg (by omega)] at e1
      rw [e1]
      exact g4
  | _=>simp [sl3Cut] at hv
theorem s_sl3 (hr:Rel im H w) (hf:FR im H w f a) {X HI MX:Operand} {x hi mx:Opd} {LO:Option Operand} {lo:Option Opd} {t e:TypeId} {sz:Nat} (hx:cO X=some x) (hlo:LO.map cO=lo.map some) (hhi:cO HI=some hi) (hmx:cO MX=some mx) (ho:o.op=.slice t X LO (some HI) (some MX)) (ht:P.underlying t=some (.slice e)) (hsz:tsz P e=some sz)
    {n l h:Nat} {m:Int} {v:V} (hn:slLen H (ev x f)=some n) (hm:asI (ev mx f)=some m) (hmn:0≤m∧m≤(n:Int)) (hb:bounds f m.toNat lo (some hi)=some (l,h)) (hv:sl3Cut sz (ev x f) l h=some v):Stp P o a w im H v H:=by
  obtain ⟨A0,cap0,hc0,hnc0,_⟩:=slLen_ok (ev_ok hf hx) hn
  obtain ⟨hrun,k1,k2⟩:=bounds_ok3 (P:=P) (w:=w) hf hlo hhi hmx hm hmn.1 cap0 (by omega) hb n
  obtain ⟨A,cap,hc,hnc,hvr⟩:=sl3_ok (ev_ok hf hx) hn k1 k2 (by omega) hv
  rw [hc0] at hc
  injection hc with e1 e2 e3
  subst e1; subst e3
  refine stp_pure hr _ ?_ hvr
  have hs:(sizeOf e).run P w=.ok sz w:=by
    unfold tsz at hsz
    cases hi':P.info? e with
    | none=>simp [hi'] at hsz
    | some inf=>simp [hi'] at hsz; simp [sizeOf,typeInfo,hi',hsz]
  simp only [execOp,ho,hc0,Instr.sliceAt,Sem.run_bind,run_underlying ht,Result.andThen_ok,Instr.slice,Option.map_some]
  simp only [hrun,Result.andThen_ok,hs,Sem.run_pure]
theorem s_sarr (hr:Rel im H w) (hf:FR im H w f a) {X:Operand} {x:Opd} {LO HI:Option Operand} {lo hi:Option Opd} {t e:TypeId} {n sz:Nat} (hx:cO X=some x) (hlo:LO.map cO=lo.map some) (hhi:HI.map cO=hi.map some) (ho:o.op=.slice t X LO HI none) (ht:P.underlying t=some (.array n e)) (hsz:tsz P e=some sz) (hmax:n≤maxLen)
    {l h:Nat} {v:V} (hb:bounds f n lo hi=some (l,h)) (hv:arrCut H n sz (ev x f) l h=some v):Stp P o a w im H v H:=by
  obtain ⟨hrun,k1,k2⟩:=bounds_ok (P:=P) (w:=w) hf hlo hhi hb false n n rfl (Nat.le_refl _)
  have hvx:=ev_ok hf hx
  cases hex:ev x f with
  | ptr b ver o' =>
    rw [hex] at hv hvx
    simp only [arrCut] at hv
    obtain ⟨B,hB,hv⟩:=Option.bind_eq_some_iff.1 hv
    split at hv <;> simp at hv
    subst hv
    rename_i hcnd
    obtain ⟨g,arr,ty,fr,vs,hg,hc,hw,_,harr,hvs,_,_⟩:=ptr_cells hr hvx hB hcnd.2
    obtain ⟨q1,q2,q3⟩:=live_ok hB
    have hs:(sizeOf e).run P w=.ok sz w:=by
      unfold tsz at hsz
      cases hi':P.info? e with
      | none=>simp [hi'] at hsz
      | some inf=>simp [hi'] at hsz; simp [sizeOf,typeInfo,hi',hsz]
    refine stp_pure hr (.slice (some (if n=l then ⟨g,o',none⟩ else (⟨g,o',none⟩:Addr).add (l*sz))) (h - l) (n - l)) ?_ ⟨rfl,B,q1,by omega,fun _ _=>⟨_,_,rfl,by omega,by omega,?_⟩⟩
    · simp only [execOp,ho,hc,Instr.sliceAt,Sem.run_bind,run_underlying ht,Result.andThen_ok,Option.map_none,Instr.sureAddr,Sem.run_pure]
      simp only [hrun,Result.andThen_ok,hs,Sem.run_pure]
    · by_cases hnl:n=l
      · exact .inl ⟨by omega,fun a ha=>by rw [if_pos hnl] at ha; injection ha with ha; subst ha; exact hg⟩
      · refine .inr ⟨g,hg,by rw [if_neg hnl,add_plain'],?_⟩
        have hrow:rowSize w g=arr.size:=by unfold rowSize; rw [hw]
        rw [hrow,hcnd.1]
        have hl:=hvs.length
        have:n*sz=l*sz+(n - l)*sz:=by rw [← Nat.add_mul]; congr 1; omega
        by_cases h0:B.cs.length=0
        · omega
        · have:=harr (vs.length - 1) _ (List.getElem?_eq_getElem (by omega))
          have:=(Array.getElem?_eq_some_iff.1 this).1
          omega
  | s y=>rw [hex] at hv; simp [arrCut] at hv
  | ref b ver o n=>rw [hex] at hv; simp [arrCut] at hv
  | sl full n cs=>rw [hex] at hv; simp [arrCut] at hv
  | ip cs=>rw [hex] at hv; simp [arrCut] at hv
  | agg cs=>rw [hex] at hv; simp [arrCut] at hv
  | tup cs=>rw [hex] at hv; simp [arrCut] at hv
  | clo _ cs=>rw [hex] at hv; simp [arrCut] at hv
  | ifc t x=>rw [hex] at hv; simp [arrCut] at hv
  | any=>rw [hex] at hv; simp [arrCut] at hv
end
end Go.Proofs.YtoemlgdlejkliaaK
