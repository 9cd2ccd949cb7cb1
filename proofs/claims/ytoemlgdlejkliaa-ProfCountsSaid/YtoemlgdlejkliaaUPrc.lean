/- The order of counts. No program in sight. -/
import Derived.Test.YtoemlgdlejkliaaUPrb
namespace Go.Proofs.YtoemlgdlejkliaaK
set_option linter.unusedVariables false
set_option linter.unusedSimpArgs false
open Go.RowKit Go.Sort
theorem cat0_is (ss:List (List Sp)):∀ (r:List (List Sp)) (i k n:Nat),ss.drop i=r→i+r.length≤1000→n+r.flatten.length≤100000→slices_Concat_sl_prof_Spot_prof_Spot_l0 ss (k+r.length+1) n i=some ((n+r.flatten.length:Nat):Int)
  | [],i,k,n,h,hm,hn=>by
    unfold slices_Concat_sl_prof_Spot_prof_Spot_l0
    rw [if_neg (fun e=>gtNil h (of_decide_eq_true e))]; rfl
  | x::r,i,k,n,h,hm,hn=>by
    obtain ⟨h1,h2,h3⟩:=gtCons h
    rw [show k+(x::r).length+1=(k+r.length+1)+1 by simp; omega]
    simp only [List.length_cons,List.flatten_cons,List.length_append] at hm hn ⊢
    unfold slices_Concat_sl_prof_Spot_prof_Spot_l0
    have hw:IntKind.wrap .i64 ((n:Int)+ln x)=((n+x.length:Nat):Int):=(wrap_i64 (by unfold ln; omega) (by unfold ln; omega)).trans (by unfold ln; omega)
    rw [if_pos (decide_eq_true h2.2),if_pos h2,h1,hw,if_neg (by simp; omega),wrapS (by omega),cat0_is ss r (i+1) k (n+x.length) h3 (by omega) (by omega)]
    congr 2; omega
theorem cat1_is (ss:List (List Sp)):∀ (r:List (List Sp)) (i k:Nat) (acc:List Sp),ss.drop i=r→i+r.length≤1000→acc.length+r.flatten.length≤100000→slices_Concat_sl_prof_Spot_prof_Spot_l1 ss (k+r.length+1) acc i=some (acc++r.flatten)
  | [],i,k,acc,h,hm,hn=>by
    unfold slices_Concat_sl_prof_Spot_prof_Spot_l1
    rw [if_neg (fun e=>gtNil h (of_decide_eq_true e))]; simp
  | x::r,i,k,acc,h,hm,hn=>by
    obtain ⟨h1,h2,h3⟩:=gtCons h
    rw [show k+(x::r).length+1=(k+r.length+1)+1 by simp; omega]
    simp only [List.length_cons,List.flatten_cons,List.length_append] at hm hn ⊢
    unfold slices_Concat_sl_prof_Spot_prof_Spot_l1
    rw [if_pos (decide_eq_true h2.2),if_pos h2,h1,if_pos (by omega),wrapS (by omega),cat1_is ss r (i+1) k (acc++x) h3 (by omega) (by rw [List.length_append]; omega),List.append_assoc]
theorem concat_is (ss:List (List Sp)) (h:ss.length≤900) (hn:ss.flatten.length≤100000):slices_Concat_sl_prof_Spot_prof_Spot ss=some ss.flatten:=by
  obtain ⟨k,hk⟩:=bigS ss.length (by omega)
  have h0:=cat0_is ss ss 0 k 0 rfl (by omega) (by omega)
  have h1:=cat1_is ss ss 0 k [] rfl (by omega) (by simpa using hn)
  have h0:slices_Concat_sl_prof_Spot_prof_Spot_l0 ss (k+ss.length+1) 0 0=_:=h0
  have h1:slices_Concat_sl_prof_Spot_prof_Spot_l1 ss (k+ss.length+1) [] 0=_:=h1
  unfold slices_Concat_sl_prof_Spot_prof_Spot
  rw [hk,h0,Option.bind_some,if_pos (by omega),h1,Option.bind_some,List.nil_append]
def befB (a b:Sp):Bool:=(decide (b.Cycles < a.Cycles))||((a.Cycles == b.Cycles)&&(decide (a.At < b.At)))
theorem befB_is (a b:Sp):befB a b=ltOf spC (tup a) (tup b):=by
  rw [spC_lt]
  unfold befB tup
  rw [Bool.eq_iff_iff]
  simp
  omega
theorem place_is (l top:List Sp) (i:Nat) (x:Sp) (hx:gt l (i:Int)=x) (hi:0≤(i:Int)∧(i:Int) < ln l) (ht:top.length≤1000):∀ (c k:Nat),c≤top.length →
    ∃ j:Nat,spinetlaw53_ProfCounts_l6 l top i (k+c+1) c=some (j:Int)∧j≤c∧(∀ y∈(top.take c).drop j,befB x y=true)∧(j=0∨∃ y,top[j - 1]? = some y∧befB x y=false)
  | 0,k,hc=>by
    refine ⟨0,?_,Nat.le_refl _,by simp,.inl rfl⟩
    unfold spinetlaw53_ProfCounts_l6
    simp
  | c+1,k,hc=>by
    have hcl:c < top.length:=by omega
    have hw:IntKind.wrap .i64 (((c+1:Nat):Int) - 1)=(c:Int):=(wrap_i64 (by omega) (by omega)).trans (by omega)
    have hg:gt top (c:Int)=top[c]:=gtAt (List.getElem?_eq_getElem hcl)
    have hd:decide (0 < ((c+1:Nat):Int))=true:=decide_eq_true (by omega)
    rw [show k+(c+1)+1=(k+c+1)+1 by omega]
    unfold spinetlaw53_ProfCounts_l6
    rw [hw,if_pos (fun _=>hi),if_pos (fun _=>by unfold ln; omega),hd,if_pos rfl,hx,hg]
    unfold spinetlaw53_before
    rw [Option.bind_some,Bool.true_and]
    have hb:((decide (top[c].Cycles < x.Cycles))||((x.Cycles == top[c].Cycles)&&(decide (x.At < top[c].At))))=befB x top[c]:=rfl
    rw [hb]
    cases hbf:befB x top[c] with
    | true =>
      rw [if_pos rfl]
      obtain ⟨j,h1,h2,h3,h4⟩:=place_is l top i x hx hi ht c k (by omega)
      refine ⟨j,h1,by omega,fun y hy => ?_,h4⟩
      rw [List.take_add_one,List.getElem?_eq_getElem hcl,Option.toList_some,List.drop_append] at hy
      rcases List.mem_append.1 hy with e | e
      · exact h3 y e
      · have:y=top[c]:=by have:=List.mem_of_mem_drop e; simpa using this
        rw [this]; exact hbf
    | false =>
      rw [if_neg (by simp)]
      refine ⟨c+1,rfl,Nat.le_refl _,fun y hy => ?_,.inr ⟨top[c],by simp [List.getElem?_eq_getElem hcl],hbf⟩⟩
      rw [List.drop_eq_nil_of_le (by rw [List.length_take]; omega)] at hy
      simp at hy
/-- Rows in order. -/
def Ord (top:List Sp):Prop:=top.Pairwise fun a b=>befB b a=false
theorem Ord.put {top:List Sp} (h:Ord top) (x:Sp) {j:Nat} (hj:j≤top.length) (h1:∀ y∈top.drop j,befB x y=true) (h2:j=0∨∃ y,top[j - 1]? = some y∧befB x y=false):Ord (top.take j++[x]++top.drop j):=by
  have e:top=top.take j++top.drop j:=(List.take_append_drop j top).symm
  have hp:(top.take j++top.drop j).Pairwise fun a b=>befB b a=false:=e ▸ h
  obtain ⟨p1,p2,p3⟩:=List.pairwise_append.1 hp
  have hlow:∀ y∈top.take j,befB x y=false:=by
    rcases h2 with h2 | ⟨z,hz,hzb⟩
    · subst h2; intro y hy; simp at hy
    · have hj0:0 < j:=by
        rcases Nat.eq_zero_or_pos j with e0 | e0
        · subst e0
          exfalso
          cases top with
          | nil=>simp at hz
          | cons a r =>
            have hz':a=z:=by simpa using hz
            have:=h1 a (by simp)
            rw [hz',hzb] at this
            cases this
        · exact e0
      intro y hy
      have hj1:j - 1 < top.length:=by omega
      have et:top.take j=top.take (j - 1)++[z]:=by
        have:j=(j - 1)+1:=by omega
        rw [this,List.take_add_one,← this,hz]; rfl
      rw [et] at hy p1
      rcases List.mem_append.1 hy with e1 | e1
      · have hyz:=(List.pairwise_append.1 p1).2.2 y e1 z (by simp)
        cases hb:befB x y with
        | false=>rfl
        | true =>
          exfalso
          rw [befB_is] at hb hyz hzb
          have:=spC_swo.ntrans (tup x) (tup z) (tup y) hzb hyz
          rw [this] at hb
          cases hb
      · have:y=z:=by simpa using e1
        rw [this]; exact hzb
  unfold Ord
  rw [List.append_assoc,List.pairwise_append]
  refine ⟨p1,?_,?_⟩
  · rw [List.singleton_append,List.pairwise_cons]
    refine ⟨fun y hy => ?_,p2⟩
    have:=h1 y hy
    rw [befB_is] at this ⊢
    exact spC_swo.asymmA this
  · intro a ha b hb
    rw [List.singleton_append] at hb
    rcases List.mem_cons.1 hb with rfl | hb
    · exact hlow a ha
    · exact p3 a ha b hb
def hereT (pre:List Sp) (a:Int):SpT × Bool:=match pre.find? (·.At == a) with
  | some s=>(tup s,true)
  | none=>(sp0,false)
def sumS (f:Sp→Int) (pre:List Sp):Int:=IntKind.wrap .i64 (pre.map f).sum
theorem sumS_snoc (f:Sp→Int) (pre:List Sp) (s:Sp):IntKind.wrap .i64 (sumS f pre+f s)=sumS f (pre++[s]):=by
  unfold sumS
  rw [wrap_add,List.map_append,List.sum_append]
  simp
theorem tops_l (a:Int) (l:List Sp) (hl:l.length≤60) (hnd:(l.map (·.At)).Nodup):∀ (r:List Sp) (i k:Nat) (top:List Sp),l.drop i=r→i≤60→Ord top→top.Perm (l.take i) →
    ∃ top',spinetlaw53_ProfCounts_l5 a l (k+r.length+1) (sumS (·.Times) (l.take i)) (sumS (·.Cycles) (l.take i)) (sumS (·.Lost) (l.take i)) (hereT (l.take i) a).1.1 (hereT (l.take i) a).1.2.1 (hereT (l.take i) a).1.2.2.1 (hereT (l.take i) a).1.2.2.2 top (hereT (l.take i) a).2 i =
      some (sumS (·.Times) l,sumS (·.Cycles) l,sumS (·.Lost) l,(hereT l a).1.1,(hereT l a).1.2.1,(hereT l a).1.2.2.1,(hereT l a).1.2.2.2,top',(hereT l a).2)∧Ord top'∧top'.Perm l
  | [],i,k,top,h,hi,ho,hp=>by
    have hle:l.length≤i:=List.drop_eq_nil_iff.1 h
    rw [List.take_of_length_le hle] at hp ⊢
    refine ⟨top,?_,ho,hp⟩
    unfold spinetlaw53_ProfCounts_l5
    rw [if_neg (fun e=>gtNil h (of_decide_eq_true e))]
  | s::r,i,k,top,h,hi,ho,hp=>by
    obtain ⟨h1,h2,h3⟩:=gtCons h
    obtain ⟨d1,d2,d3⟩:=dropAt h
    have hil:i < 60:=by omega
    have htl:top.length=i:=by rw [hp.length_eq,List.length_take]; omega
    rw [show k+(s::r).length+1=(k+r.length+1)+1 by simp; omega]
    have hts:l.take (i+1)=l.take i++[s]:=by rw [List.take_add_one,d1]; rfl
    have ih:=fun top' ho' hp'=>tops_l a l hl hnd r (i+1) k top' h3 (by omega) ho' hp'
    generalize hrec:spinetlaw53_ProfCounts_l5 a l (k+r.length+1)=rec at ih
    have hstep:∀ m29 m30 m31 m32 b5,(m29,m30,m31,m32)=(hereT (l.take (i+1)) a).1→b5=(hereT (l.take (i+1)) a).2→∃ top',spinetlaw53_ProfCounts_j0 rec l (sumS (·.Times) (l.take i)) (sumS (·.Cycles) (l.take i)) (sumS (·.Lost) (l.take i)) top i m29 m30 m31 m32 b5 =
        some (sumS (·.Times) l,sumS (·.Cycles) l,sumS (·.Lost) l,(hereT l a).1.1,(hereT l a).1.2.1,(hereT l a).1.2.2.1,(hereT l a).1.2.2.2,top',(hereT l a).2)∧Ord top'∧top'.Perm l:=by
      intro m29 m30 m31 m32 b5 e1 e2
      obtain ⟨k2,hk2⟩:=bigS top.length (by omega)
      obtain ⟨j,p1,p2,p3,p4⟩:=place_is l top i s h1 h2 (by omega) top.length k2 (Nat.le_refl _)
      rw [List.take_length] at p3
      have p1:spinetlaw53_ProfCounts_l6 l top i (k2+top.length+1) (ln top)=_:=p1
      unfold spinetlaw53_ProfCounts_j0
      have hjl:0≤(j:Int)∧(j:Int)≤ln top:=by unfold ln; omega
      rw [hk2,p1,Option.bind_some,if_pos hjl,if_pos h2,if_pos hjl,h1,Int.toNat_natCast,List.drop_zero,Nat.sub_zero,List.take_of_length_le (l:=top.drop j) (by rw [List.length_drop]; omega)]
      have hfl:[top.take j,[s],top.drop j].flatten=top.take j++[s]++top.drop j:=by simp
      rw [concat_is _ (by simp) (by rw [hfl]; simp; omega),Option.bind_some,hfl,sumS_snoc (·.Times),sumS_snoc (·.Cycles),sumS_snoc (·.Lost),← hts,wrapS (by omega)]
      have:=ih (top.take j++[s]++top.drop j) (ho.put s p2 p3 p4) (by
        rw [hts,List.append_assoc,List.singleton_append]
        refine List.perm_middle.trans ?_
        rw [List.take_append_drop]
        exact (List.Perm.cons s hp).trans (List.perm_append_singleton s _).symm)
      rw [← e1,← e2] at this
      exact this
    unfold spinetlaw53_ProfCounts_l5
    rw [hrec,if_pos (decide_eq_true h2.2),if_pos h2,if_pos h2,if_pos h2,if_pos h2,h1]
    by_cases ha:s.At=a
    · rw [if_pos (by simpa using ha),if_pos h2]
      have hnone:(l.take i).find? (·.At == a)=none:=by
        rw [List.find?_eq_none]
        intro p hp' e
        have hpa:p.At=a:=by simpa using e
        have e4:l=l.take i++s::r:=by
          rw [← h]
          exact (List.take_append_drop i l).symm
        rw [e4,List.map_append,List.map_cons,List.nodup_append] at hnd
        exact hnd.2.2 p.At (List.mem_map_of_mem hp') s.At (by simp) (by rw [hpa,ha])
      have hh:hereT (l.take (i+1)) a=(tup s,true):=by
        unfold hereT
        rw [hts,List.find?_append,hnone]
        simp [ha]
      exact hstep _ _ _ _ _ (by rw [hh]; rfl) (by rw [hh])
    · rw [if_neg (by simpa using ha)]
      have hh:hereT (l.take (i+1)) a=hereT (l.take i) a:=by
        unfold hereT
        rw [hts,List.find?_append]
        have:[s].find? (·.At == a)=none:=by simp [ha]
        rw [this,Option.or_none]
      exact hstep _ _ _ _ _ (by rw [hh]) (by rw [hh])
end Go.Proofs.YtoemlgdlejkliaaK
