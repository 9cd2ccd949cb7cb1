/- Structs and arrays held against each other; what is nil. -/
import Derived.Test.YtoemlgdlejkliaaKg
import Derived.Laws.StructEq
import Derived.ChangeKeysEq
namespace Go.Proofs.YtoemlgdlejkliaaK
set_option linter.unusedVariables false
set_option linter.unusedSimpArgs false
open Go.RowKit
def eqv:TK→Value→Value→Option Bool
  | .int,.int k a,.int k' b=>if k=k' then some (a == b) else none
  | .bool,.bool a,.bool b=>some (a == b)
  | .str,.string a,.string b=>some (a == b)
  | _,_,_=>none
def eqvs:List TK→List Value→List Value→Option Bool
  | [],[],[]=>some true
  | k::ks,x::xs,y::ys=>(eqv k x y).bind fun a=>(eqvs ks xs ys).map fun b=>a&&b
  | _,_,_=>none
def mkv (ag:Bool) (l:List Value):Value:=if ag then .agg l.toArray else l.headD undef
def flatF (P:Program) (fl:TypeId→Option (List TK)):List Field→Nat→Option (List TK)
  | [],_=>some []
  | f::r,off=>if f.offset=off∧(f.name == "_")=false∧(ag? P f.type).isSome then (fl f.type).bind fun ks =>
      if tsz P f.type=some ks.length∧(ag? P f.type=some true∨ks.length=1) then (flatF P fl r (off+ks.length)).map fun l=>ks++l else none else none
def flat (P:Program):Nat→TypeId→Option (List TK)
  | 0,_=>none
  | n+1,t=>match P.underlying t with
    | some .bool=>if tsz P t=some 1 then some [.bool] else none
    | some (.int _)=>if tsz P t=some 1 then some [.int] else none
    | some .string=>if tsz P t=some 1 then some [.str] else none
    | some (.struct fs)=>if P.stoodInHeld t=false then (flatF P (flat P n) fs.toList 0).bind fun ks=>if tsz P t=some ks.length then some ks else none else none
    | some (.array m e)=>(flat P n e).bind fun ks =>
        if (ag? P e).isSome∧(P.info? e).isSome∧tsz P e=some (P.cellsOf e)∧ks.length=P.cellsOf e∧(ag? P e=some true∨P.cellsOf e=1)∧tsz P t=some (m*P.cellsOf e) then some (List.replicate m ks).flatten else none
    | _=>none
section
variable {P:Program} {w:World}
theorem partv {t:TypeId} {xs:Array Value} {off s:Nat} {ag:Bool} (hag:ag? P t=some ag) (hs:tsz P t=some s) (h1:ag=true∨s=1) (hn:off+s≤xs.size):(part t xs off).run P w=.ok (mkv ag ((xs.toList.drop off).take s)) w:=by
  unfold ag? at hag
  unfold tsz at hs
  cases hu:P.underlying t with
  | none=>simp [hu] at hag
  | some d =>
    cases hi:P.info? t with
    | none=>simp [hi] at hs
    | some i =>
      simp only [hi,Option.map_some,Option.some.injEq] at hs
      cases ag with
      | true =>
        have hd:(isAgg t).run P w=.ok true w:=by
          simp only [hu] at hag
          unfold isAgg
          split at hag <;> simp_all [run_underlying hu]
        simp only [part,Sem.run_bind,hd,Result.andThen_ok,if_true,sizeOf,typeInfo,run_program,hi,hs,Sem.run_pure,mkv]
        congr 2
        apply Array.ext'
        simp [List.extract_eq_take_drop]
      | false =>
        have hs1:s=1:=by rcases h1 with h1 | h1 <;> simp_all
        rw [hs1] at hn ⊢
        have hd:(isAgg t).run P w=.ok false w:=by
          simp only [hu] at hag
          unfold isAgg
          split at hag <;> simp_all [run_underlying hu]
        have hlt:off < xs.size:=by omega
        have h2:(xs.toList.drop off).take 1=[xs[off]]:=by
          rw [List.drop_eq_getElem_cons (by simpa using hlt)]; simp
        simp only [part,Sem.run_bind,hd,Result.andThen_ok,if_false,Bool.false_eq_true,Array.getElem?_eq_getElem hlt,Sem.run_pure,mkv,h2]
        rfl
theorem eqvs_cut:∀ (k:Nat) (ks:List TK) (l l':List Value) (r:Bool),eqvs ks l l'=some r→∃ r1 r2,eqvs (ks.take k) (l.take k) (l'.take k)=some r1∧eqvs (ks.drop k) (l.drop k) (l'.drop k)=some r2∧r=(r1&&r2)
  | 0,ks,l,l',r,h=>⟨true,r,by simp [eqvs],h,by simp⟩
  | k+1,[],[],[],r,h=>⟨true,true,by simp [eqvs],by simp [eqvs],by simpa [eqvs] using h.symm⟩
  | k+1,q::ks,x::xs,y::ys,r,h=>by
    simp only [eqvs] at h
    obtain ⟨a,ha,h⟩:=Option.bind_eq_some_iff.1 h
    obtain ⟨b,hb,rfl⟩:=Option.map_eq_some_iff.1 h
    obtain ⟨r1,r2,h1,h2,rfl⟩:=eqvs_cut k ks xs ys b hb
    exact ⟨a&&r1,r2,by simp [eqvs,ha,h1],h2,by simp [Bool.and_assoc]⟩
  | _+1,[],[],_::_,_,h=>by simp [eqvs] at h
  | _+1,[],_::_,_,_,h=>by simp [eqvs] at h
  | _+1,_::_,[],_,_,h=>by simp [eqvs] at h
  | _+1,_::_,_::_,[],_,h=>by simp [eqvs] at h
theorem eq_fields (fl:TypeId→Option (List TK)) (d:Nat) (xs ys:Array Value) (IH:∀ t ag ks,fl t=some ks→ag? P t=some ag→tsz P t=some ks.length→∀ lx ly r,lx.length=ks.length→ly.length=ks.length→eqvs ks lx ly=some r→(Op.equalIn d t (mkv ag lx) (mkv ag ly)).run P w=.ok r w) :
    ∀ (fs:List Field) (off:Nat) (ks:List TK),flatF P fl fs off=some ks→xs.size=off+ks.length→ys.size=off+ks.length→∀ r,eqvs ks (xs.toList.drop off) (ys.toList.drop off)=some r→(Op.eqFields d xs ys fs).run P w=.ok r w
  | [],off,ks,h,hx,hy,r,hr=>by
    simp [flatF] at h; subst h
    rw [List.drop_eq_nil_of_le (by simp at hx ⊢; omega),List.drop_eq_nil_of_le (by simp at hy ⊢; omega)] at hr
    simp [eqvs] at hr; subst hr
    simp [Op.eqFields]
  | f::fs,off,ks,h,hx,hy,r,hr=>by
    simp only [flatF] at h
    split at h
    · rename_i hh
      obtain ⟨h1,h2,h4⟩:=hh
      obtain ⟨kf,hkf,h⟩:=Option.bind_eq_some_iff.1 h
      split at h
      · rename_i hh2
        obtain ⟨hs,hag1⟩:=hh2
        obtain ⟨kr,hkr,rfl⟩:=Option.map_eq_some_iff.1 h
        obtain ⟨ag,hag⟩:=Option.isSome_iff_exists.1 h4
        obtain ⟨r1,r2,e1,e2,e3⟩:=eqvs_cut kf.length _ _ _ _ hr
        rw [List.take_left'  rfl] at e1
        rw [List.drop_left' rfl,List.drop_drop,List.drop_drop] at e2
        simp only [List.length_append] at hx hy
        have hrest:=eq_fields fl d xs ys IH fs (off+kf.length) kr hkr (by omega) (by omega) r2 e2
        have h1':ag=true∨kf.length=1:=by rcases hag1 with hag1 | hag1 <;> simp_all
        have hnm:f.name ≠ "_" := by simpa using h2
        have pa:=partv (w:=w) (xs:=xs) (off:=off) hag hs h1' (by omega)
        have pb:=partv (w:=w) (xs:=ys) (off:=off) hag hs h1' (by omega)
        have he:=IH f.type ag kf hkf hag hs _ _ r1 (by simp; omega) (by simp; omega) e1
        rw [Op.eqFields]
        simp only [if_pos hnm,Sem.run_bind,h1,pa,pb,he,Result.andThen_ok]
        subst e3
        cases r1
        · simp
        · simpa using hrest
      · simp at h
    · simp at h
theorem eq_items (d:Nat) (e:TypeId) (ag:Bool) (ke:List TK) (xs ys:Array Value) (hag:ag? P e=some ag) (hs:tsz P e=some ke.length) (h1:ag=true∨ke.length=1) (IH:∀ lx ly r,lx.length=ke.length→ly.length=ke.length→eqvs ke lx ly=some r→(Op.equalIn d e (mkv ag lx) (mkv ag ly)).run P w=.ok r w) :
    ∀ (m k:Nat),xs.size=(k+m)*ke.length→ys.size=(k+m)*ke.length→∀ r,eqvs (List.replicate m ke).flatten (xs.toList.drop (k*ke.length)) (ys.toList.drop (k*ke.length))=some r→(Op.eqItems d e ke.length xs ys (List.range' k m)).run P w=.ok r w
  | 0,k,hx,hy,r,hr=>by
    rw [Nat.add_zero] at hx hy
    rw [List.drop_eq_nil_of_le (by simp; omega),List.drop_eq_nil_of_le (by simp; omega)] at hr
    simp [eqvs] at hr; subst hr
    simp [Op.eqItems]
  | m+1,k,hx,hy,r,hr=>by
    obtain ⟨r1,r2,e1,e2,e3⟩:=eqvs_cut ke.length _ _ _ _ hr
    rw [List.replicate_succ,List.flatten_cons,List.take_left' rfl] at e1
    rw [List.replicate_succ,List.flatten_cons,List.drop_left' rfl,List.drop_drop,List.drop_drop,show k*ke.length+ke.length=(k+1)*ke.length by rw [Nat.add_mul]; omega] at e2
    have hrest:=eq_items d e ag ke xs ys hag hs h1 IH m (k+1) (by rw [hx]; congr 1; omega) (by rw [hy]; congr 1; omega) r2 e2
    have hle:k*ke.length+ke.length≤(k+(m+1))*ke.length:=by rw [← Nat.succ_mul]; exact Nat.mul_le_mul_right _ (by omega)
    have pa:=partv (w:=w) (xs:=xs) (off:=k*ke.length) hag hs h1 (by omega)
    have pb:=partv (w:=w) (xs:=ys) (off:=k*ke.length) hag hs h1 (by omega)
    have he:=IH _ _ r1 (by simp; omega) (by simp; omega) e1
    rw [List.range'_succ]
    simp only [Op.eqItems,Sem.run_bind,pa,pb,he,Result.andThen_ok]
    subst e3
    cases r1
    · simp
    · simpa using hrest
theorem eq_flat:∀ (n:Nat) (t:TypeId) (ag:Bool) (ks:List TK) (d:Nat),flat P n t=some ks→ag? P t=some ag→n≤d→∀ lx ly r,lx.length=ks.length→ly.length=ks.length→eqvs ks lx ly=some r→(Op.equalIn d t (mkv ag lx) (mkv ag ly)).run P w=.ok r w
  | 0,t,ag,ks,d,h,_,_,_,_,_,_,_,_=>by simp [flat] at h
  | n+1,t,ag,ks,0,h,_,hd,_,_,_,_,_,_=>by omega
  | n+1,t,ag,ks,d+1,h,hag,hd,lx,ly,r,hlx,hly,hr=>by
    unfold flat at h
    cases hu:P.underlying t with
    | none=>simp [hu] at h
    | some de =>
      unfold ag? at hag
      simp only [hu] at h hag
      have scalar:∀ q,ag=false→ks=[q]→(∀ x y b,eqv q x y=some b→(Op.equalIn (d+1) t x y).run P w=.ok b w)→(Op.equalIn (d+1) t (mkv ag lx) (mkv ag ly)).run P w=.ok r w:=by
        intro q e hk hsc
        subst e
        subst hk
        match lx,ly,hlx,hly with
        | [x],[y],_,_ =>
          simp only [eqvs] at hr
          obtain ⟨a,ha,hr⟩:=Option.bind_eq_some_iff.1 hr
          simp at hr; subst hr
          exact hsc x y a ha
      cases de with
      | bool =>
        simp at h hag
        refine scalar .bool hag h.2.symm fun x y b hb => ?_
        unfold eqv at hb
        split at hb <;> simp_all
        subst hb
        exact equalIn_bool hu d _ _
      | int k0 =>
        simp at h hag
        refine scalar .int hag h.2.symm fun x y b hb => ?_
        unfold eqv at hb
        split at hb <;> simp_all
        obtain ⟨rfl,rfl⟩:=hb
        simp [Op.equalIn,run_underlying hu]
      | string =>
        simp at h hag
        refine scalar .str hag h.2.symm fun x y b hb => ?_
        unfold eqv at hb
        split at hb <;> simp_all
        subst hb
        simp [Op.equalIn,run_underlying hu]
      | struct fs =>
        simp at hag
        simp only at h
        split at h
        · rename_i hst
          obtain ⟨kf,hkf,h⟩:=Option.bind_eq_some_iff.1 h
          split at h <;> simp at h
          subst h
          subst hag
          have hfo:P.fieldsOf t=fs:=by simp [Program.fieldsOf,hu]
          have:=run_equalIn_struct (P:=P) w d t lx.toArray ly.toArray (by rw [hfo]; exact hu) hst
          simp only [mkv,if_true]
          rw [this,hfo]
          exact eq_fields (flat P n) d lx.toArray ly.toArray (fun t ag ks hk hag' _ lx ly r h1 h2 h3=>eq_flat n t ag ks d hk hag' (by omega) lx ly r h1 h2 h3) fs.toList 0 kf hkf (by simp; omega) (by simp; omega) r (by simpa using hr)
        · simp at h
      | array m e =>
        simp at hag
        simp only at h
        obtain ⟨ke,hke,h⟩:=Option.bind_eq_some_iff.1 h
        split at h <;> simp at h
        rename_i hh
        obtain ⟨ha,hi,hte,hkl,h1,hts⟩:=hh
        subst h
        subst hag
        obtain ⟨age,hage⟩:=Option.isSome_iff_exists.1 ha
        obtain ⟨ie,hie⟩:=Option.isSome_iff_exists.1 hi
        have:=run_equalIn_array (P:=P) w d (n:=m) lx.toArray ly.toArray hu hie
        simp only [mkv,if_true]
        rw [this,← hkl,List.range_eq_range']
        refine eq_items d e age ke lx.toArray ly.toArray hage (by rw [hkl]; exact hte) (by rw [hkl]; rcases h1 with h1 | h1 <;> simp_all) (fun lx ly r q1 q2 q3=>eq_flat n e age ke d hke hage (by omega) lx ly r q1 q2 q3) m 0 (by simp at hlx ⊢; omega) (by simp at hly ⊢; omega) r (by simpa using hr)
      | _=>simp at h
end
section
variable {P:Program} {o:Oper} {a:Act} {w:World} {im:Im} {H H':Hp} {f:Fr} {v:V}
theorem eqKs_ok:∀ (ks:List TK) (l l':List V) (vs vs':List Value) (r:Bool),eqKs ks l l'=some r→VRs im H w l vs→VRs im H w l' vs'→eqvs ks vs vs'=some r
  | [],[],[],[],[],r,h,_,_=>by simpa [eqKs,eqvs] using h
  | k::ks,x::l,y::l',c::vs,c'::vs',r,h,hv,hv'=>by
    simp only [eqKs] at h
    obtain ⟨a,ha,h⟩:=Option.bind_eq_some_iff.1 h
    obtain ⟨b,hb,rfl⟩:=Option.map_eq_some_iff.1 h
    have ih:=eqKs_ok ks l l' vs vs' b hb hv.2 hv'.2
    have:eqv k c c'=some a:=by
      unfold eqK at ha
      split at ha
      · rw [hv.1.s_inv,hv'.1.s_inv]; simpa [eqv] using ha
      · rw [hv.1.s_inv,hv'.1.s_inv]; simpa [eqv] using ha
      · rw [hv.1.s_inv,hv'.1.s_inv]; simpa [eqv] using ha
      · simp at ha
    simp [eqvs,this,ih]
  | [],[],[],_::_,_,_,_,h,_=>h.elim
  | [],[],[],[],_::_,_,_,_,h=>h.elim
  | [],_::_,_,_,_,_,h,_,_=>by simp [eqKs] at h
  | [],[],_::_,_,_,_,h,_,_=>by simp [eqKs] at h
  | _::_,[],_,_,_,_,h,_,_=>by simp [eqKs] at h
  | _::_,_::_,[],_,_,_,h,_,_=>by simp [eqKs] at h
  | _::_,_::_,_::_,[],_,_,_,h,_=>h.elim
  | _::_,_::_,_::_,_::_,[],_,_,_,h=>h.elim
theorem eqKs_len:∀ (ks:List TK) (l l':List V) (r:Bool),eqKs ks l l'=some r→l.length=ks.length∧l'.length=ks.length
  | [],[],[],_,_=>⟨rfl,rfl⟩
  | k::ks,x::l,y::l',r,h=>by
    simp only [eqKs] at h
    obtain ⟨a,ha,h⟩:=Option.bind_eq_some_iff.1 h
    obtain ⟨b,hb,rfl⟩:=Option.map_eq_some_iff.1 h
    obtain ⟨h1,h2⟩:=eqKs_len ks l l' b hb
    simp [h1,h2]
  | [],_::_,_,_,h=>by simp [eqKs] at h
  | [],[],_::_,_,h=>by simp [eqKs] at h
  | _::_,[],_,_,h=>by simp [eqKs] at h
  | _::_,_::_,[],_,h=>by simp [eqKs] at h
theorem s_eqa (hr:Rel im H w) (hf:FR im H w f a) {X Y:Operand} {x y:Opd} {t t':TypeId} {ks:List TK} (neg:Bool) (hx:cO X=some x) (hy:cO Y=some y) (ho:o.op=.binOp (if neg then .neq else .eql) t X Y t') (ht:flat P 20 t=some ks) (hag:ag? P t=some true) (hg:P.eqGuardType P.depth t=false)
    {l l':List V} {b:Bool} (hl:asAgg (ev x f)=some l) (hl':asAgg (ev y f)=some l') (hb:eqKs ks l l'=some b):Stp P o a w im H (.s (.bool (if neg then !b else b))) H:=by
  obtain ⟨vs,hc,hvs⟩:=asAgg_ok (ev_ok hf hx) hl
  obtain ⟨vs',hc',hvs'⟩:=asAgg_ok (ev_ok hf hy) hl'
  obtain ⟨k1,k2⟩:=eqKs_len ks l l' b hb
  have e1:=hvs.length
  have e2:=hvs'.length
  have he:(Op.equal t (.agg vs) (.agg vs')).run P w=.ok b w:=by
    have:=eq_flat (P:=P) (w:=w) 20 t true ks 10000 ht hag (by omega) vs.toList vs'.toList b (by omega) (by omega) (eqKs_ok ks l l' _ _ b hb hvs hvs')
    simp only [mkv,if_true,Array.toArray_toList] at this
    exact this
  have hgd:∀ op,(eqGuard op t X Y (.agg vs) (.agg vs')).run P w=.ok () w:=fun op=>run_eqGuard_agg w op t X Y vs vs' hg
  refine stp_pure hr (.bool (if neg then !b else b)) ?_ rfl
  cases neg
  · have hb:binOp .eql t (.agg vs) (.agg vs')=(do pure (.bool (← Op.equal t (.agg vs) (.agg vs')))):=rfl
    simp only [execOp,ho,hc,hc',Bool.false_eq_true,if_false,Sem.run_bind,hgd,hb,he,Result.andThen_ok,Sem.run_pure]
  · have hb:binOp .neq t (.agg vs) (.agg vs')=(do pure (.bool (!(← Op.equal t (.agg vs) (.agg vs'))))):=rfl
    simp only [execOp,ho,hc,hc',if_true,Sem.run_bind,hgd,hb,he,Result.andThen_ok,Sem.run_pure]
theorem equalIn_nil_slice {t e:TypeId} (ht:P.underlying t=some (.slice e)) (d:Nat) (A:Option Addr) (n c:Nat):(Op.equalIn (d+1) t (.slice A n c) (.slice none 0 0)).run P w=.ok A.isNone w:=by
  cases A <;> simp [Op.equalIn,run_underlying ht]
theorem equalIn_nil_ptr {t e:TypeId} (ht:P.underlying t=some (.pointer e)) (d:Nat) (A:Option Addr):(Op.equalIn (d+1) t (.pointer A) (.pointer none)).run P w=.ok A.isNone w:=by
  cases A <;> simp [Op.equalIn,run_underlying ht]
theorem nil_sl {x:V} {c:Value} {b:Bool} (h:VR im H w x c) (hb:nil? true H x=some b):∃ A n cap,c=.slice A n cap∧A.isNone=b:=by
  simp only [nil?,if_true] at hb
  cases x with
  | s y =>
    have hy:y=.slice none 0 0∧b=true:=by
      split at hb <;> simp_all
    obtain ⟨rfl,rfl⟩:=hy
    exact ⟨none,0,0,h.s_inv,rfl⟩
  | sl full n cs =>
    (try simp only at hb)
    split at hb <;> simp at hb
    subst hb
    rename_i hn
    obtain ⟨A,cap,hc,_,_,_,hg⟩:=h
    rcases hg with hg | ⟨g,o',vs,hA,_⟩
    · exact absurd hg hn
    · exact ⟨A,n,cap,hc,by rw [hA]; rfl⟩
  | ref b' ver o' n =>
    (try simp only at hb)
    split at hb <;> simp at hb
    subst hb
    rename_i hh
    obtain ⟨hn,hs⟩:=hh
    obtain ⟨B,hB⟩:=Option.isSome_iff_exists.1 hs
    obtain ⟨h1,h2,h3⟩:=live_ok hB
    obtain ⟨_,B',hB',_,h⟩:=h
    rw [h1] at hB'; injection hB' with hB'; subst hB'
    obtain ⟨A,cap,hc,hnc,hm,hg⟩:=h h2 h3
    rcases hg with hg | ⟨g,hg,hA,_⟩
    · omega
    · exact ⟨A,n,cap,hc,by rw [hA]; rfl⟩
  | ptr b' ver o=>simp at hb
  | ip cs=>simp at hb
  | agg cs=>simp at hb
  | tup cs=>simp at hb
  | clo _ cs=>simp at hb
  | ifc t x=>simp at hb
  | any=>simp at hb
theorem nil_ptr {x:V} {c:Value} {b:Bool} (h:VR im H w x c) (hb:nil? false H x=some b):∃ A,c=.pointer A∧A.isNone=b:=by
  simp only [nil?,Bool.false_eq_true,if_false] at hb
  cases x with
  | s y =>
    have hy:y=.pointer none∧b=true:=by
      split at hb <;> simp_all
    obtain ⟨rfl,rfl⟩:=hy
    exact ⟨none,h.s_inv,rfl⟩
  | ptr b' ver o =>
    (try simp only at hb)
    split at hb <;> simp at hb
    subst hb
    rename_i hs
    obtain ⟨g,o',hc⟩:=isAddr_ok h (by simpa [isAddr] using hs)
    exact ⟨_,hc,rfl⟩
  | ip cs =>
    simp at hb; subst hb
    obtain ⟨g,o',vs,hc,_⟩:=h
    exact ⟨_,hc,rfl⟩
  | sl full n cs=>simp at hb
  | ref b' ver o' n=>simp at hb
  | agg cs=>simp at hb
  | tup cs=>simp at hb
  | clo _ cs=>simp at hb
  | ifc t x=>simp at hb
  | any=>simp at hb
theorem s_isnil (hr:Rel im H w) (hf:FR im H w f a) {X Y:Operand} {x:Opd} {t t' e:TypeId} (neg isl:Bool) (hx:cO X=some x) (ho:o.op=.binOp (if neg then .neq else .eql) t X Y t')
    (ht:P.underlying t=some (if isl then .slice e else .pointer e)) (hY:Y=.const (if isl then .slice none 0 0 else .pointer none)) {b:Bool} (hb:nil? isl H (ev x f)=some b):Stp P o a w im H (.s (.bool (if neg then !b else b))) H:=by
  have key:∃ y,a.eval Y=y∧(∀ op,(eqGuard op t X Y (a.eval X) y).run P w=.ok () w)∧(Op.equal t (a.eval X) y).run P w=.ok b w∧binOp .eql t (a.eval X) y=(do pure (.bool (← Op.equal t (a.eval X) y)))∧binOp .neq t (a.eval X) y=(do pure (.bool (!(← Op.equal t (a.eval X) y)))):=by
    subst hY
    cases isl
    · obtain ⟨A,hc,hA⟩:=nil_ptr (ev_ok hf hx) hb
      refine ⟨.pointer none,rfl,fun op => ?_,?_,?_,?_⟩
      · rw [hc]; cases op <;> rfl
      · rw [hc,← hA]; exact equalIn_nil_ptr (e:=e) (by simpa using ht) 9999 A
      · rw [hc]; cases A <;> rfl
      · rw [hc]; cases A <;> rfl
    · obtain ⟨A,n,cap,hc,hA⟩:=nil_sl (ev_ok hf hx) hb
      refine ⟨.slice none 0 0,rfl,fun op => ?_,?_,?_,?_⟩
      · rw [hc]; cases op <;> rfl
      · rw [hc,← hA]; exact equalIn_nil_slice (e:=e) (by simpa using ht) 9999 A n cap
      · rw [hc]; rfl
      · rw [hc]; rfl
  obtain ⟨y,hy,hgd,he,hb1,hb2⟩:=key
  refine stp_pure hr (.bool (if neg then !b else b)) ?_ rfl
  cases neg
  · simp only [execOp,ho,hy,Bool.false_eq_true,if_false,Sem.run_bind,hgd,hb1,he,Result.andThen_ok,Sem.run_pure]
  · simp only [execOp,ho,hy,if_true,Sem.run_bind,hgd,hb2,he,Result.andThen_ok,Sem.run_pure]
/-- What is known no more. -/
theorem Rel.trim {im H w} (hr:Rel im H w) {b k:Nat} {B:Blk} (hB:H[b]? = some B):Rel im (H.set b { B with cs:=B.cs.take k }) w∧Ext im H w im (H.set b { B with cs:=B.cs.take k }) w:=by
  have hb:b < H.length:=(List.getElem?_eq_some_iff.1 hB).1
  have hset:∀ x,(H.set b { B with cs:=B.cs.take k })[x]? = if x=b then some { B with cs:=B.cs.take k } else H[x]? := by
    intro x
    rw [List.getElem?_set]
    by_cases e:b=x
    · subst e; simp [hb]
    · rw [if_neg e,if_neg (by omega)]
  have back:∀ (x:Nat) (X:Blk),(H.set b { B with cs:=B.cs.take k })[x]? = some X→∃ X0:Blk,H[x]? = some X0∧X0.kind=X.kind∧X0.ver=X.ver∧X0.sz=X.sz∧(X.cs=X0.cs∨X.cs=X0.cs.take k):=by
    intro x X hX
    rw [hset] at hX
    by_cases e:x=b
    · subst e
      rw [if_pos rfl] at hX; injection hX with hX; subst hX
      exact ⟨B,hB,rfl,rfl,rfl,.inr rfl⟩
    · rw [if_neg e] at hX
      exact ⟨X,hX,rfl,rfl,rfl,.inl rfl⟩
  have hO:∀ g,Own im (H.set b { B with cs:=B.cs.take k }) g→Own im H g:=fun g ⟨x,X,h1,h2,h3⟩=>by
    obtain ⟨X0,k1,k2,_⟩:=back x X h1
    exact ⟨x,X0,k1,by rw [k2]; exact h2,h3⟩
  have hx:Ext im H w im (H.set b { B with cs:=B.cs.take k }) w:=by
    refine ⟨rfl,rfl,rfl,Nat.le_refl _,by simp,fun g hg ho=>⟨rfl,fun e=>ho (hO g e)⟩,fun x X X' hX hX' => ?_⟩
    obtain ⟨X0,k1,k2,k3,k4,_⟩:=back x X' hX'
    rw [hX] at k1; injection k1 with k1; subst k1
    exact ⟨by omega,fun _ hd=>⟨by rw [k2]; exact hd,rfl,k4.symm,fun _ _=>rfl⟩⟩
  refine ⟨⟨fun x X hX hd => ?_,fun x x' X X' g hX hX' hd hd' hi hi' => ?_,hr.glob.ext hx,hr.keep hr.sub_lt (fun x X hX _=>.inl ⟨rfl,rfl,by obtain ⟨X0,k1,k2,_⟩:=back x X hX; exact ⟨X0,k1,k2⟩⟩) (fun x X g hX hd hg=>.inl (by obtain ⟨X0,k1,k2,_⟩:=back x X hX; exact ⟨x,X0,k1,by rw [k2]; exact hd,hg⟩)) fun _ _ _ _ _ _ _=>rfl⟩,hx⟩
  · obtain ⟨X0,k1,k2,k3,k4,k5⟩:=back x X hX
    have hrow:=hr.row x X0 k1 (by rw [k2]; exact hd)
    cases hg:im x with
    | none =>
      rw [hg] at hrow
      rw [← k2]
      refine ⟨hrow.1,?_⟩
      rcases k5 with k5 | k5
      · rw [k5]; exact hrow.2
      · rw [k5,hrow.2]; simp
    | some g =>
      rw [hg] at hrow
      obtain ⟨arr,t,fr,vs,r1,r2,r3,r4,r5⟩:=hrow
      rcases k5 with k5 | k5
      · exact ⟨arr,t,fr,vs,r1,r2,r3,by rw [k5]; exact VRs.ext hx _ _ r4,by rw [← k2]; exact r5⟩
      · refine ⟨arr,t,fr,vs.take k,r1,r2,fun j v hj => ?_,by rw [k5]; exact VRs.ext hx _ _ (r4.take k),by rw [← k2]; exact r5⟩
        rw [List.getElem?_take] at hj
        split at hj
        · exact r3 j v hj
        · simp at hj
  · obtain ⟨X0,k1,k2,_⟩:=back x X hX
    obtain ⟨X0',k1',k2',_⟩:=back x' X' hX'
    exact hr.inj x x' X0 X0' g k1 k1' (by rw [k2]; exact hd) (by rw [k2']; exact hd') hi hi'
theorem s_mkf (hr:Rel im H w) (hf:FR im H w f a) {m:FuncId} {X Y:Array Operand} {l:List Opd} (hx:X.toList=[]) (ho:o.op=.makeFunc (.func m) X Y) (hv:VRs im H w (l.map (ev · f)) (Y.toList.map a.eval)):Stp P o a w im H (.clo m (l.map (ev · f))) H:=by
  have hX:X = #[]:=Array.toList_eq_nil_iff.1 hx
  subst hX
  refine stp_pure hr (.func (.func m) #[] (Y.map a.eval)) ?_ ⟨Y.map a.eval,rfl,by simpa using hv⟩
  simp [execOp,ho,Instr.makeFunc]
theorem s_clr (hr:Rel im H w) (hf:FR im H w f a) {X:Operand} {x:Opd} {t e:TypeId} {z:List Value} (hx:cO X=some x) (ho:o.op=.call { callee:=.builtin .clear,args := #[X],argTypes := #[t] }) (ht:P.underlying t=some (.slice e)) (hz:tz P e=some z) (h:clrV H z (ev x f)=some H'):Stp P o a w im H (.tup []) H':=by
  have hvx:=ev_ok hf hx
  cases hev:ev x f with
  | ref b ver q n =>
    rw [hev] at h hvx
    simp only [clrV] at h
    obtain ⟨B,hB,h⟩:=Option.bind_eq_some_iff.1 h
    split at h <;> simp at h
    subst h
    rename_i hc
    obtain ⟨hsz,hone⟩:=hc
    obtain ⟨q1,q2,q3⟩:=live_ok hB
    obtain ⟨_,B',hB',_,hv⟩:=hvx
    rw [q1] at hB'; injection hB' with hB'; subst hB'
    obtain ⟨A,cap,hcv,hn,hm,hg⟩:=hv q2 q3
    have hexec:∀ (w':World),(Builtin.clear_ #[t] o.type #[a.eval X]).run P w=.ok (.tuple #[]) w'→(execOp a.eval o).run P w=.ok (.value (.tuple #[])) w':=fun w' h=>by
      simp [execOp,ho,resolve,invoke,builtin,h]
    obtain ⟨t1,t2⟩:=hr.trim (k:=q) q1
    have none_:n=0→Stp P o a w im H (.tup []) (H.set b { B with cs:=B.cs.take q }):=fun h0=>by
      refine ⟨im,w,.tuple #[],.inl (hexec w ?_),t1,t2,#[],rfl,trivial⟩
      subst h0
      rw [hcv]
      cases A <;> simp [Builtin.clear_,run_underlying ht]
    rcases hg with hg | ⟨g,hg,hA,hz2⟩
    · exact none_ (by omega)
    · by_cases h0:n=0
      · exact none_ h0
      subst hA
      have hrow:=hr.row b B q1 q3
      rw [hg] at hrow
      obtain ⟨arr,t',fr,vs,hw,hfr,harr,hvs,_⟩:=hrow
      have hrs:rowSize w g=arr.size:=by unfold rowSize; rw [hw]
      have hfit:q+n*z.length≤arr.size:=by
        rw [← hsz]
        have:n*B.sz≤cap*B.sz:=Nat.mul_le_mul_right _ hn
        omega
      unfold tz at hz
      cases hi:P.info? e with
      | none=>simp [hi] at hz
      | some i =>
        cases hzz:i.zero with
        | none=>simp [hi,hzz] at hz
        | some zv =>
          simp only [hi,hzz,Option.map_some,Option.bind_some,Option.some.injEq] at hz
          obtain ⟨L,hL⟩:∃ L,(Builtin.zeroCells zv.cells n).toList=L:=⟨_,rfl⟩
          have hlen:L.length=n*z.length:=by rw [← hL,← hz]; simp [Builtin.zeroCells]
          have h1:∀ v∈L,v.oneCell'=true:=by
            rw [← hL]
            intro v hv
            simp only [Builtin.zeroCells,Array.toList_map,List.mem_map] at hv
            obtain ⟨j,hj,rfl⟩:=hv
            have hj:j < n*zv.cells.size:=by simpa using hj
            have hpos:0 < zv.cells.size:=by
              rcases Nat.eq_zero_or_pos zv.cells.size with e | e
              · rw [e] at hj; simp at hj
              · exact e
            have hlt:=Nat.mod_lt j hpos
            rw [getElem!_pos zv.cells _ hlt]
            rw [← hz] at hone
            exact List.all_eq_true.1 hone _ (by simp)
          have hrun:=run_storeCells_cells (P:=P) g q L 0 w (fun j hj=>by
            have:q+j < arr.size:=by omega
            simp [World.cell?,hw,this]) (fun j hj=>by
            have:=hfr (q+j) (by omega)
            simp [World.frozen?,hw]; omega) h1
          simp only [Nat.add_zero] at hrun
          obtain ⟨k1,k2⟩:=hr.write q L { B with cs:=B.cs.take q } q1 q3 hg hw hfr (Nat.le_refl _) rfl rfl (vs.take q) (fun j v hj=>by
            rw [List.getElem?_take] at hj
            split at hj
            · rw [wr_out _ _ _ _ (.inl (by omega))]; exact harr _ _ hj
            · simp at hj) (hvs.take q) (live_res hB)
          refine ⟨im,_,.tuple #[],.inl (hexec _ ?_),k1,k2,#[],rfl,trivial⟩
          rw [hcv]
          obtain ⟨m,rfl⟩:∃ m,n=m+1:=⟨n - 1,by omega⟩
          simp [Builtin.clear_,run_underlying ht,zeroValue,typeInfo,hi,hzz,hL,hrun]
  | _=>rw [hev] at h; simp [clrV] at h
end
end Go.Proofs.YtoemlgdlejkliaaK
