/- Parts and counts, as lists. No program in sight. -/
import Derived.Test.YtoemlgdlejkliaaUB
import Derived.Test.YtoemlgdlejkliaaF
namespace Go.Proofs.YtoemlgdlejkliaaK
set_option linter.unusedVariables false
set_option linter.unusedSimpArgs false
open Go.RowKit
abbrev Sp:=prof_Spot
abbrev Rc:=api_Rec
def cntM (r:List Rc):Nat:=(r.filter (·.Mine)).length
def fstM (r:List Rc) (a:Int):Int:=match r.find? (·.Mine) with
  | some x=>x.Addr
  | none=>a
theorem start_l (recs:List Rc) (e:Bool):∀ (r:List Rc) (i k:Nat),recs.drop i=r→i+r.length≤1000 →
    slice_Part_Start_l0 ⟨recs,e⟩ (k+r.length+1) i=some (match r.find? (·.Mine) with | some x=>.ret (x.Addr,true) | none=>.go ())
  | [],i,k,h,hm=>by
    unfold slice_Part_Start_l0
    rw [if_neg (fun e=>gtNil h (of_decide_eq_true e))]; rfl
  | x::r,i,k,h,hm=>by
    obtain ⟨h1,h2,h3⟩:=gtCons h
    rw [show k+(x::r).length+1=(k+r.length+1)+1 by simp; omega]
    unfold slice_Part_Start_l0
    simp only [List.length_cons] at hm
    rw [if_pos (decide_eq_true h2.2),if_pos h2,h1]
    cases hx:x.Mine with
    | true=>rw [if_pos rfl,List.find?_cons_of_pos (by exact hx)]
    | false=>rw [if_neg (by simp),List.find?_cons_of_neg (by simp [hx]),wrapS (by omega),start_l recs e r (i+1) k h3 (by omega)]
theorem own_l (recs:List Rc) (e:Bool):∀ (r:List Rc) (i k n:Nat),recs.drop i=r→i+r.length≤1000→n+r.length≤1000→slice_Part_Own_l0 ⟨recs,e⟩ (k+r.length+1) n i=some ((n+cntM r:Nat):Int)
  | [],i,k,n,h,hm,hn=>by
    unfold slice_Part_Own_l0
    rw [if_neg (fun e=>gtNil h (of_decide_eq_true e))]; rfl
  | x::r,i,k,n,h,hm,hn=>by
    obtain ⟨h1,h2,h3⟩:=gtCons h
    rw [show k+(x::r).length+1=(k+r.length+1)+1 by simp; omega]
    unfold slice_Part_Own_l0
    simp only [List.length_cons] at hm hn
    rw [if_pos (decide_eq_true h2.2),if_pos h2,h1]
    unfold cntM
    cases hx:x.Mine with
    | true =>
      rw [if_pos rfl,wrapS (by omega),wrapS (by omega),own_l recs e r (i+1) k (n+1) h3 (by omega) (by omega),List.filter_cons_of_pos (by exact hx),List.length_cons]
      unfold cntM
      congr 2; omega
    | false=>rw [if_neg (by simp),wrapS (by omega),own_l recs e r (i+1) k n h3 (by omega) (by omega),List.filter_cons_of_neg (by simp [hx])]; rfl
def startQ (recs:List Rc):Int × Bool:=match recs.find? (·.Mine) with
  | some x=>(x.Addr,true)
  | none=>(0,false)
theorem start_is (recs:List Rc) (e:Bool) (h:recs.length≤900):slice_Part_Start ⟨recs,e⟩=some (startQ recs):=by
  unfold startQ
  obtain ⟨k,hk⟩:=bigS recs.length (by omega)
  unfold slice_Part_Start
  rw [hk,show (0:Int)=((0:Nat):Int) from rfl,start_l recs e recs 0 k rfl (by omega)]
  cases recs.find? (·.Mine) <;> rfl
theorem own_is (recs:List Rc) (e:Bool) (h:recs.length≤900):slice_Part_Own ⟨recs,e⟩=some (cntM recs:Int):=by
  obtain ⟨k,hk⟩:=bigS recs.length (by omega)
  unfold slice_Part_Own
  have:=own_l recs e recs 0 k 0 rfl (by omega) (by omega)
  have:slice_Part_Own_l0 ⟨recs,e⟩ (k+recs.length+1) 0 0=_:=this
  rw [hk,this,Option.bind_some,Nat.zero_add]
theorem cntM_le (r:List Rc):cntM r≤r.length:=List.length_filter_le _ _
theorem lost_is (recs:List Rc) (e:Bool) (h:recs.length≤900):slice_Part_Lost ⟨recs,e⟩=some ((recs.length:Int) - cntM recs):=by
  have hc:=cntM_le recs
  unfold slice_Part_Lost
  rw [own_is recs e h,Option.bind_some]
  congr 1
  exact wrap_i64 (by show _≤(recs.length:Int) - _; omega) (by show (recs.length:Int) - _ < _; omega)
/-- From the end on: how many, and the address of the first one. -/
theorem addl_is (recs:List Rc):∀ (j k n:Nat) (a:Int),j≤recs.length→recs.length≤900→n+j≤1000→spinetlaw53_add_l0 recs (k+j+1) n a ((j:Int) - 1)=some (((n+cntM (recs.take j):Nat):Int),fstM (recs.take j) a)
  | 0,k,n,a,hj,hr,hn=>by
    unfold spinetlaw53_add_l0
    rw [if_neg (by simp)]; rfl
  | j+1,k,n,a,hj,hr,hn=>by
    have hjl:j < recs.length:=by omega
    have hg:gt recs (j:Int)=recs[j]:=gtAt (List.getElem?_eq_getElem hjl)
    have hi:0≤((j+1:Nat):Int) - 1∧((j+1:Nat):Int) - 1 < ln recs:=by unfold ln; omega
    have e:((j+1:Nat):Int) - 1=(j:Int):=by omega
    rw [show k+(j+1)+1=(k+j+1)+1 by omega]
    unfold spinetlaw53_add_l0
    rw [e] at hi ⊢
    have hw:IntKind.wrap .i64 ((j:Int) - 1)=(j:Int) - 1:=wrap_i64 (by omega) (by omega)
    rw [if_pos (decide_eq_true hi.1),if_pos hi,hg,hw,List.take_add_one,List.getElem?_eq_getElem hjl,Option.toList_some]
    have hc:cntM (recs.take j++[recs[j]])=cntM (recs.take j)+if recs[j].Mine=true then 1 else 0:=by
      unfold cntM
      rw [List.filter_append,List.length_append]
      cases hx:recs[j].Mine <;> simp [hx]
    have hf:fstM (recs.take j++[recs[j]]) a=fstM (recs.take j) (if recs[j].Mine=true then recs[j].Addr else a):=by
      unfold fstM
      rw [List.find?_append]
      cases hq:(recs.take j).find? (·.Mine) with
      | some y=>rfl
      | none=>cases hx:recs[j].Mine <;> simp [hx]
    rw [hc,hf]
    cases hx:recs[j].Mine with
    | true =>
      rw [if_pos rfl,if_pos hi,wrapS (by omega),addl_is recs j k (n+1) _ (by omega) hr (by omega),if_pos rfl,if_pos rfl]
      congr 2; omega
    | false=>rw [if_neg (by simp),addl_is recs j k n a (by omega) hr (by omega),if_neg (by simp),if_neg (by simp)]; rfl
theorem st_set (l:List Sp) (i:Nat) (a:Sp):st l (i:Int) a=l.set i a:=by simp [st]
theorem gt_set (l:List Sp) (i:Nat) (a:Sp) (h:i < l.length):gt (l.set i a) (i:Int)=a:=gtAt (by simp [h])
/-- A count that grows. -/
def more (s:Sp) (own lost:Int):Sp:=⟨s.At,IntKind.wrap .i64 (s.Times+1),IntKind.wrap .i64 (s.Cycles+own),IntKind.wrap .i64 (s.Lost+lost)⟩
theorem addm_is (l:List Sp) (recs:List Rc) (own a:Int):∀ (r:List Sp) (i k:Nat),l.drop i=r→i≤1000→l.length≤1000 →
    (spinetlaw53_add_l1 l recs own a (k+r.length+1) i=some (.go ())∧∀ s∈r,s.At ≠ a)∨∃ (j:Nat) (s:Sp),spinetlaw53_add_l1 l recs own a (k+r.length+1) i=some (.ret (l.set j (more s own (IntKind.wrap .i64 (ln recs - own)))))∧l[j]? = some s∧s.At=a
  | [],i,k,h,hi,hm=>.inl ⟨by unfold spinetlaw53_add_l1; rw [if_neg (fun e=>gtNil h (of_decide_eq_true e))],fun s hs=>by simp at hs⟩
  | s::r,i,k,h,hi,hm=>by
    obtain ⟨h1,h2,h3⟩:=gtCons h
    obtain ⟨d1,d2,d3⟩:=dropAt h
    rw [show k+(s::r).length+1=(k+r.length+1)+1 by simp; omega]
    unfold spinetlaw53_add_l1
    rw [if_pos (decide_eq_true h2.2),if_pos h2]
    by_cases ha:s.At=a
    · rw [if_pos (by rw [h1]; simp [ha]),if_pos h2,if_pos h2]
      have hl:∀ b:Sp,0≤(i:Int)∧(i:Int) < ln (l.set i b):=fun b=>by unfold ln; rw [List.length_set]; exact ⟨by omega,by omega⟩
      simp only [st_set]
      simp only [h1,gt_set _ _ _ d3]
      have e2:∀ b c:Sp,(l.set i b).set i c=l.set i c:=fun b c=>List.set_set _
      simp only [e2,gt_set _ _ _ d3,if_pos (hl _)]
      exact .inr ⟨i,s,rfl,d1,ha⟩
    · rw [if_neg (by rw [h1]; simpa using ha),wrapS (by omega)]
      rcases addm_is l recs own a r (i+1) k h3 (by omega) hm with ⟨h4,h5⟩ | h4
      · exact .inl ⟨h4,fun q hq=>by rcases List.mem_cons.1 hq with e | e; exact e ▸ ha; exact h5 q e⟩
      · exact .inr h4
end Go.Proofs.YtoemlgdlejkliaaK
