/- Which name is nearest: from the row, from the table. No program in sight. -/
import Derived.Test.YtaoomioogojfhaaUSymc
namespace Go.Proofs.YtaoomioogojfhaaK
set_option linter.unusedVariables false
set_option linter.unusedSimpArgs false
open Go.RowKit
theorem keyLess (a b:ByteArray):Op.bytesLess a.toList b.toList=decide (a.data.toList < b.data.toList):=by rw [toList_is,toList_is,bytesLess_eq]
/-- The nearest so far. -/
def nearF (at_:Int) (acc:ByteArray × Int × Bool) (p:PR):ByteArray × Int × Bool :=
  if ((decide (0≤at_ - p.At))&&(((!acc.2.2)||(decide (at_ - p.At < acc.2.1)))||((at_ - p.At == acc.2.1)&&(Op.bytesLess p.Name.toList acc.1.toList))))=true then (p.Name,at_ - p.At,true) else acc
theorem l1_is (at_:Int) (ha:0≤at_∧at_ < 65536) (m:List PR) (hm:m.length≤60) (hF:Fine m):∀ (r:List PR) (i k:Nat) (N H:List ByteArray) (acc:ByteArray × Int × Bool),m.drop i=r→i≤60→N.length≤i→H.length≤i →
    spinetlaw41_SymbolsPlays_l1 at_ m (k+r.length+1) N H acc.1 acc.2.1 acc.2.2 i=some (N++r.map (·.Name),H++(r.filter fun p=>p.At == at_).map (·.Name),(r.foldl (nearF at_) acc).1,(r.foldl (nearF at_) acc).2.1,(r.foldl (nearF at_) acc).2.2)
  | [],i,k,N,H,acc,h,hi,hN,hH=>by
    unfold spinetlaw41_SymbolsPlays_l1
    rw [if_neg (fun e=>gtNil h (of_decide_eq_true e))]
    simp
  | p::r,i,k,N,H,acc,h,hi,hN,hH=>by
    obtain ⟨h1,h2,h3⟩:=gtCons h
    have hil:i < 60:=by have:=(dropAt h).2.2; omega
    have hp:=hF p (List.mem_of_getElem? (dropAt h).1)
    rw [show k+(p::r).length+1=(k+r.length+1)+1 by simp; omega]
    have w1:IntKind.wrap .i64 at_=at_:=wrap_i64 (by omega) (by omega)
    have w2:IntKind.wrap .i64 p.At=p.At:=wrap_i64 (by omega) (by omega)
    have w3:IntKind.wrap .i64 (at_ - p.At)=at_ - p.At:=wrap_i64 (by omega) (by omega)
    have ih:=fun N' H' acc' hN' hH'=>l1_is at_ ha m hm hF r (i+1) k N' H' acc' h3 (by omega) hN' hH'
    generalize hrec:spinetlaw41_SymbolsPlays_l1 at_ m (k+r.length+1)=rec at ih
    have hj:∀ H':List ByteArray,H'.length≤i+1→spinetlaw41_SymbolsPlays_j2 rec at_ m N acc.1 acc.2.1 acc.2.2 i H'=some ((N++[p.Name])++r.map (·.Name),H'++(r.filter fun p=>p.At == at_).map (·.Name),(r.foldl (nearF at_) (nearF at_ acc p)).1,(r.foldl (nearF at_) (nearF at_ acc p)).2.1,(r.foldl (nearF at_) (nearF at_ acc p)).2.2):=fun H' hH'=>by
      unfold spinetlaw41_SymbolsPlays_j2
      rw [if_pos h2,h1,w1,w2,w3,if_pos (fun _=>h2),wrapS (by omega)]
      have:=ih (N++[p.Name]) H' (nearF at_ acc p) (by simp; omega) hH'
      rw [← this]
      by_cases hc:((decide (0≤at_ - p.At))&&(((!acc.2.2)||(decide (at_ - p.At < acc.2.1)))||((at_ - p.At == acc.2.1)&&(Op.bytesLess p.Name.toList acc.1.toList))))=true
      · rw [if_pos hc,if_pos h2]
        unfold nearF
        rw [if_pos hc]
      · rw [if_neg hc]
        unfold nearF
        rw [if_neg hc]
    unfold spinetlaw41_SymbolsPlays_l1
    rw [hrec,if_pos (decide_eq_true h2.2),if_pos h2,h1,if_pos (by simp; omega),if_pos h2,List.map_cons,List.foldl_cons]
    by_cases hc:(p.At == at_)=true
    · rw [if_pos hc,if_pos h2,if_pos (by simp; omega),hj _ (by simp; omega)]
      simp [List.filter_cons,hc]
    · rw [if_neg hc,hj _ (by omega)]
      simp [List.filter_cons,hc]
/-- What the nearest is. -/
structure NearR (at_:Int) (m:List PR) (acc:ByteArray × Int × Bool):Prop where
  no:acc.2.2=false→acc.1=⟨#[]⟩∧acc.2.1=0∧∀ q∈m,at_ < q.At
  yes:acc.2.2=true→∃ p∈m,p.Name=acc.1∧acc.2.1=at_ - p.At∧p.At≤at_∧∀ q∈m,q.At≤at_→q.At < p.At∨q.At=p.At∧pkey p≤pkey q
theorem NearR.step {at_:Int} {m:List PR} {acc:ByteArray × Int × Bool} (h:NearR at_ m acc) (p:PR):NearR at_ (m++[p]) (nearF at_ acc p):=by
  have mem:∀ q,q∈m++[p]→q∈m∨q=p:=fun q hq=>by simpa using hq
  unfold nearF
  rw [keyLess]
  cases hs:acc.2.2 with
  | false =>
    obtain ⟨h1,h2,h3⟩:=h.no hs
    by_cases hd:0≤at_ - p.At
    · rw [if_pos (by rw [decide_eq_true hd]; rfl)]
      refine ⟨(fun e=>by simp at e),fun _=>⟨p,by simp,rfl,rfl,by omega,fun q hq hqa => ?_⟩⟩
      rcases mem q hq with e | rfl
      · have:=h3 q e; omega
      · exact .inr ⟨rfl,List.le_refl _⟩
    · rw [if_neg (by rw [decide_eq_false hd]; simp)]
      refine ⟨fun _=>⟨h1,h2,fun q hq => ?_⟩,fun e=>by rw [hs] at e; cases e⟩
      rcases mem q hq with e | rfl
      · exact h3 q e
      · omega
  | true =>
    obtain ⟨p0,m0,h1,h2,h3,h4⟩:=h.yes hs
    have hk0:acc.1.data.toList=pkey p0:=by rw [← h1]; rfl
    have hk:p.Name.data.toList=pkey p:=rfl
    rw [hk0,hk,h2]
    by_cases hc:((decide (0≤at_ - p.At))&&(((!true)||(decide (at_ - p.At < at_ - p0.At)))||((at_ - p.At == at_ - p0.At)&&(decide (pkey p < pkey p0)))))=true
    · rw [if_pos hc]
      simp only [Bool.and_eq_true,Bool.or_eq_true,decide_eq_true_eq,Bool.not_true,Bool.false_eq_true,false_or,beq_iff_eq] at hc
      obtain ⟨c1,c2⟩:=hc
      refine ⟨(fun e=>by simp at e),fun _=>⟨p,by simp,rfl,rfl,by omega,fun q hq hqa => ?_⟩⟩
      rcases mem q hq with e | rfl
      · rcases c2 with c2 | ⟨c2,c3⟩
        · rcases h4 q e hqa with k | ⟨k,_⟩
          · exact .inl (by omega)
          · exact .inl (by omega)
        · rcases h4 q e hqa with k | ⟨k,k2⟩
          · exact .inl (by omega)
          · exact .inr ⟨by omega,List.le_trans (List.le_of_lt c3) k2⟩
      · exact .inr ⟨rfl,List.le_refl _⟩
    · rw [if_neg hc]
      simp only [Bool.and_eq_true,Bool.or_eq_true,decide_eq_true_eq,Bool.not_true,Bool.false_eq_true,false_or,beq_iff_eq,not_and,not_or] at hc
      refine ⟨fun e=>(by rw [hs] at e; cases e),fun _=>⟨p0,by simp [m0],h1,h2,h3,fun q hq hqa => ?_⟩⟩
      rcases mem q hq with e | rfl
      · exact h4 q e hqa
      · obtain ⟨c1,c2⟩:=hc (by omega)
        rcases Int.lt_or_le q.At p0.At with k | k
        · exact .inl k
        · exact .inr ⟨by omega,List.not_lt.1 (c2 (by omega))⟩
theorem NearR.fold {at_:Int}:∀ (r m:List PR) (acc:ByteArray × Int × Bool),NearR at_ m acc→NearR at_ (m++r) (r.foldl (nearF at_) acc)
  | [],m,acc,h=>by simpa using h
  | p::r,m,acc,h=>by
    have:=NearR.fold r (m++[p]) (nearF at_ acc p) (h.step p)
    simpa using this
theorem near_row (at_:Int) (m:List PR):NearR at_ m (m.foldl (nearF at_) (⟨#[]⟩,0,false)):=by
  have:=NearR.fold m [] (⟨#[]⟩,0,false) (at_:=at_) ⟨fun _=>⟨rfl,rfl,fun q hq=>by simp at hq⟩,fun e=>by simp at e⟩
  simpa using this
/-- The nearest in the table. -/
structure NearS (T:SymT) (a:Int) (L:List (List UInt8)) (acc:List UInt8 × Bool):Prop where
  no:acc.2=false→∀ s∈L,a < (symGet T ⟨s.toArray⟩).getD 0
  yes:acc.2=true→acc.1∈L∧(symGet T ⟨acc.1.toArray⟩).getD 0≤a∧∀ s∈L,(symGet T ⟨s.toArray⟩).getD 0≤a→(symGet T ⟨s.toArray⟩).getD 0 < (symGet T ⟨acc.1.toArray⟩).getD 0∨(symGet T ⟨s.toArray⟩).getD 0=(symGet T ⟨acc.1.toArray⟩).getD 0∧acc.1≤s
theorem NearS.step {T:SymT} {a:Int} {L:List (List UInt8)} {acc:List UInt8 × Bool} (h:NearS T a L acc) (s:List UInt8) (hs:∀ t∈L,t≤s):NearS T a (L++[s]) (symNearF T a acc s):=by
  have mem:∀ q,q∈L++[s]→q∈L∨q=s:=fun q hq=>by simpa using hq
  unfold symNearF
  cases h2:acc.2 with
  | false =>
    have h3:=h.no h2
    by_cases hd:(symGet T ⟨s.toArray⟩).getD 0≤a
    · rw [if_pos (by simp [hd])]
      refine ⟨fun e=>by simp at e,fun _=>⟨by simp,hd,fun q hq hqa => ?_⟩⟩
      rcases mem q hq with e | rfl
      · have:=h3 q e; omega
      · exact .inr ⟨rfl,List.le_refl _⟩
    · rw [if_neg (by simp [hd])]
      refine ⟨fun _ q hq => ?_,fun e=>by rw [h2] at e; cases e⟩
      rcases mem q hq with e | rfl
      · exact h3 q e
      · omega
  | true =>
    obtain ⟨h3,h4,h5⟩:=h.yes h2
    by_cases hd:(symGet T ⟨s.toArray⟩).getD 0≤a∧(symGet T ⟨acc.1.toArray⟩).getD 0 < (symGet T ⟨s.toArray⟩).getD 0
    · rw [if_pos (by simp [hd.1,hd.2])]
      refine ⟨fun e=>by simp at e,fun _=>⟨by simp,hd.1,fun q hq hqa => ?_⟩⟩
      rcases mem q hq with e | rfl
      · rcases h5 q e hqa with k | ⟨k,_⟩
        · exact .inl (by show _ < (symGet T ⟨s.toArray⟩).getD 0; omega)
        · exact .inl (by show _ < (symGet T ⟨s.toArray⟩).getD 0; omega)
      · exact .inr ⟨rfl,List.le_refl _⟩
    · rw [if_neg (by simpa using hd)]
      refine ⟨fun e=>(by rw [h2] at e; cases e),fun _=>⟨by simp [h3],h4,fun q hq hqa => ?_⟩⟩
      rcases mem q hq with e | rfl
      · exact h5 q e hqa
      · rcases Int.lt_or_le ((symGet T ⟨q.toArray⟩).getD 0) ((symGet T ⟨acc.1.toArray⟩).getD 0) with k | k
        · exact .inl k
        · have:¬ (symGet T ⟨acc.1.toArray⟩).getD 0 < (symGet T ⟨q.toArray⟩).getD 0:=fun e=>hd ⟨hqa,e⟩
          exact .inr ⟨by omega,hs _ h3⟩
theorem NearS.fold {T:SymT} {a:Int}:∀ (R L:List (List UInt8)) (acc:List UInt8 × Bool),(L++R).Pairwise (· ≤ ·)→NearS T a L acc→NearS T a (L++R) (R.foldl (symNearF T a) acc)
  | [],L,acc,_,h=>by simpa using h
  | s::R,L,acc,hp,h=>by
    have hL:∀ t∈L,t≤s:=fun t ht=>(List.pairwise_append.1 hp).2.2 t ht s (by simp)
    have:=NearS.fold R (L++[s]) (symNearF T a acc s) (by simpa using hp) (h.step s hL)
    simpa using this
theorem names_sorted (l:SymT):(symNames l).Pairwise (· ≤ ·):=by
  have tr:∀ a b c:List UInt8,(decide (a≤b))=true→(decide (b≤c))=true→(decide (a≤c))=true:=fun a b c h1 h2=>decide_eq_true (List.le_trans (of_decide_eq_true h1) (of_decide_eq_true h2))
  have to:∀ a b:List UInt8,((decide (a≤b))||(decide (b≤a)))=true:=fun a b=>by
    rcases List.le_total a b with h | h <;> simp [h]
  unfold symNames
  exact (List.pairwise_mergeSort tr to _).imp fun h=>of_decide_eq_true h
theorem near_table (T:SymT) (a:Int):NearS T a (symNames T) (symNear T a):=by
  have:=NearS.fold (T:=T) (a:=a) (symNames T) [] ([],false) (by simpa using names_sorted T) ⟨fun _ s hs=>by simp at hs,fun e=>by simp at e⟩
  rw [List.nil_append] at this
  exact this
theorem Inv.names {T m} (h:Inv T m) {s:List UInt8}:s∈symNames T↔∃ p∈m,pkey p=s:=by
  unfold symNames
  rw [(List.mergeSort_perm _ _).mem_iff,h.keys.mem_iff,List.mem_map]
theorem Inv.val {T m} (h:Inv T m) {p:PR} (hp:p∈m):symGet T ⟨(pkey p).toArray⟩=some p.At:=h.getS hp rfl
theorem near_is {T m} (h:Inv T m) (hF:Fine m) (at_:Int) (ha:0≤at_∧at_ < 65536):symNearR T at_=m.foldl (nearF at_) (⟨#[]⟩,0,false):=by
  have h1:=near_row at_ m
  have h2:=near_table T at_
  generalize hR:m.foldl (nearF at_) (⟨#[]⟩,0,false)=R at h1 ⊢
  obtain ⟨near,off,some_⟩:=R
  unfold symNearR
  generalize symNear T at_=S at h2 ⊢
  obtain ⟨s,b⟩:=S
  cases b with
  | false =>
    cases some_ with
    | false =>
      obtain ⟨e1,e2,_⟩:=h1.no rfl
      rw [if_neg (by simp)]
      simp only at e1 e2
      rw [e1,e2]
    | true =>
      obtain ⟨p,hp,_,_,k,_⟩:=h1.yes rfl
      have:=h2.no rfl (pkey p) (h.names.2 ⟨p,hp,rfl⟩)
      rw [h.val hp] at this
      simp at this
      omega
  | true =>
    obtain ⟨k1,k2,k3⟩:=h2.yes rfl
    obtain ⟨q,hq,e⟩:=h.names.1 k1
    simp only at e
    subst e
    simp only [h.val hq,Option.getD_some] at k2 k3
    cases some_ with
    | false =>
      obtain ⟨_,_,k⟩:=h1.no rfl
      have:=k q hq
      omega
    | true =>
      obtain ⟨p,hp,e1,e2,k,k4⟩:=h1.yes rfl
      simp only at e1 e2
      have c1:=k4 q hq k2
      have c2:=k3 (pkey p) (h.names.2 ⟨p,hp,rfl⟩) (by rw [h.val hp]; exact k)
      rw [h.val hp] at c2
      simp only [Option.getD_some] at c2
      have hA:q.At=p.At:=by omega
      have hk:pkey q=pkey p:=by
        rcases c1 with c1 | ⟨_,c1⟩
        · omega
        · rcases c2 with c2 | ⟨_,c2⟩
          · omega
          · exact List.le_antisymm c2 c1
      have hqa:=hF q hq
      rw [if_pos rfl,h.val hq]
      simp only [Option.getD_some]
      rw [wrap_i64 (by omega) (by omega),hk,hA,← e1,e2]
      rfl
end Go.Proofs.YtaoomioogojfhaaK
