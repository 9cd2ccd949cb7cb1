/- SymbolsPlays: the law. No program in sight. -/
import Derived.Test.YtaoomioogojfhaaUSymd
namespace Go.Proofs.YtaoomioogojfhaaK
set_option linter.unusedVariables false
set_option linter.unusedSimpArgs false
open Go.RowKit
theorem eq_l (a:List ByteArray) (ha:a.length≤1000):∀ (r:List ByteArray) (i k:Nat),a.drop i=r→i≤1000→slices_Equal_sl_string_string_l0 a a (k+r.length+1) i=some (.go ())
  | [],i,k,h,hi=>by
    unfold slices_Equal_sl_string_string_l0
    rw [if_neg (fun e=>gtNil h (of_decide_eq_true e))]
  | p::r,i,k,h,hi=>by
    obtain ⟨h1,h2,h3⟩:=gtCons h
    rw [show k+(p::r).length+1=(k+r.length+1)+1 by simp; omega]
    unfold slices_Equal_sl_string_string_l0
    rw [if_pos (decide_eq_true h2.2),if_pos h2,if_pos h2,if_neg (by simp),wrapS (by omega)]
    exact eq_l a ha r (i+1) k h3 (by have:=(dropAt h).2.2; omega)
theorem eq_self (a:List ByteArray) (ha:a.length≤1000):slices_Equal_sl_string_string a a=some true:=by
  obtain ⟨k,hk⟩:=bigS a.length (by omega)
  unfold slices_Equal_sl_string_string
  rw [if_neg (by simp),hk,show (0:Int)=((0:Nat):Int) from rfl,eq_l a ha a 0 k rfl (by omega)]
  rfl
theorem names_is {T m} (h:Inv T m):symNs T=sortS (m.map (·.Name)):=by
  unfold symNs sortS
  congr 1
  rw [List.map_map]
  exact (symNames_perm h.keys.symm).symm
theorem here_is {T m} (h:Inv T m) (at_:Int):symAs T at_=sortS ((m.filter fun p=>p.At == at_).map (·.Name)):=by
  unfold symAs sortS
  congr 1
  rw [List.map_map]
  have tr:∀ a b c:List UInt8,(decide (a≤b))=true→(decide (b≤c))=true→(decide (a≤c))=true:=fun a b c h1 h2=>decide_eq_true (List.le_trans (of_decide_eq_true h1) (of_decide_eq_true h2))
  have to:∀ a b:List UInt8,((decide (a≤b))||(decide (b≤a)))=true:=fun a b=>by
    rcases List.le_total a b with h | h <;> simp [h]
  refine List.Perm.eq_of_pairwise (le:=fun x y=>x≤y) (fun a b _ _ h1 h2=>List.le_antisymm h1 h2) ((names_sorted T).filter _) ((List.pairwise_mergeSort tr to _).imp fun h=>of_decide_eq_true h) ?_
  refine List.Perm.trans ?_ (List.mergeSort_perm _ _).symm
  have h1:(symNames T).Perm (m.map pkey):=(List.mergeSort_perm _ _).trans h.keys
  refine (h1.filter _).trans ?_
  rw [List.filter_map]
  refine List.Perm.of_eq ?_
  show List.map pkey _=List.map pkey _
  congr 1
  refine List.filter_congr fun p hp => ?_
  have:=h.val hp
  unfold symGet at this
  show ((((T.find? fun q=>q.1 == pkey p).map (·.2)).getD 0) == at_)=_
  rw [this]
  rfl
theorem alive41:spinetlaw41_alive=some true:=by
  unfold spinetlaw41_alive
  have hb:rightB (⟨#[97]⟩:ByteArray)=true:=by decide +kernel
  rw [right_is _ (by decide),Option.bind_some,hb,if_pos (by decide),if_pos (by decide)]
  have hs:symSet ([]:SymT) (⟨#[97]⟩:ByteArray) 5 true=(0,[([97],5)]):=by decide +kernel
  rw [hs,if_pos (by decide),if_pos (by decide)]
  have hn:symNames [([97],5)]=[[97]]:=by unfold symNames; simp
  have hr:symNearR [([97],5)] 7=(⟨#[97]⟩,2,true):=by
    unfold symNearR symNear
    rw [hn]
    decide +kernel
  rw [hr]
  decide +kernel
theorem symbolsPlays_true (l:List PR) (at_:Int) (ask:ByteArray) (hA:∀ p∈l,0≤p.At∧p.At < 65536) (ha:0≤at_∧at_ < 65536):spinetlaw41_SymbolsPlays l at_ ask=some true:=by
  unfold spinetlaw41_SymbolsPlays
  by_cases hc:((decide (60 < (ln l)))||(decide (100 < (sln ask))))=true
  · rw [if_pos hc]
  rw [if_neg hc]
  simp only [Bool.or_eq_true,decide_eq_true_eq,not_or] at hc
  have hl:l.length≤60:=by have:=hc.1; unfold ln at this; omega
  have hq:ask.size≤100:=by have:=hc.2; unfold sln at this; omega
  obtain ⟨k,hk⟩:=bigS l.length (by omega)
  rcases play_l l hl hA l 0 k [] [] rfl (by omega) ⟨List.Perm.refl _,List.nodup_nil⟩ (Nat.le_refl _) (fun p hp=>by simp at hp) with h | ⟨T,m,h,hI,hm,hF⟩
  · have h:spinetlaw41_SymbolsPlays_l0 l (k+l.length+1) [] [] 0=_:=h
    rw [hk,h]; rfl
  have h:spinetlaw41_SymbolsPlays_l0 l (k+l.length+1) [] [] 0=_:=h
  rw [hk,h,Option.bind_some]
  simp only
  obtain ⟨k2,hk2⟩:=bigS m.length (by omega)
  have h2:=l1_is at_ ha m hm hF m 0 k2 [] [] (⟨#[]⟩,0,false) rfl (by omega) (by simp) (by simp)
  have hB:BIG=k2+m.length+1:=hk2
  rw [show k+l.length+1=k2+m.length+1 from hk.symm.trans hB]
  have h2':spinetlaw41_SymbolsPlays_l1 at_ m (k2+m.length+1) [] [] ⟨#[]⟩ 0 false 0=_:=h2
  rw [h2',Option.bind_some]
  simp only [List.nil_append]
  have hnr:=near_is hI hF at_ ha
  generalize hR:m.foldl (nearF at_) (⟨#[]⟩,0,false)=R at hnr ⊢
  have hTl:=hI.length
  obtain ⟨x,hx,hxr⟩:=find_is m ask (by omega)
  have hlen:∀ q:List PR,q.length≤60→(q.map (·.Name)).length < 4611686018427387904:=fun q h=>by rw [List.length_map]; omega
  have hfl:(m.filter fun p=>p.At == at_).length≤60:=Nat.le_trans (List.length_filter_le _ _) hm
  rw [if_pos (hlen m hm),if_pos (hlen _ hfl),if_pos (by unfold symSz; omega),hx,Option.bind_some]
  have hln:ln m=(m.length:Int):=rfl
  have hall:∀ p∈T,p.1.length≤symSz:=fun p hp=>by
    obtain ⟨q,hq,rfl⟩:=hI.mem.1 hp
    have:=(hF q hq).1
    show q.Name.data.toList.length≤symSz
    unfold symSz
    rw [Array.length_toList]
    exact Nat.le_trans this (by omega)
  have hc1:((symGet T ask).isSome&&(!(!((symGet T ask).isSome == (decide (0≤x))))))=true→0≤(x:Int)∧x < ln m:=by
    rcases hxr with ⟨rfl,hno⟩ | ⟨j,q,rfl,hq',hk'⟩
    · rw [hI.getN hno]; intro e; simp at e
    · have:=(List.getElem?_eq_some_iff.1 hq').1
      exact fun _=>⟨by omega,by omega⟩
  have hc2:¬ (((!((symGet T ask).isSome == (decide (0≤x))))||((symGet T ask).isSome&&((IntKind.wrap .u16 ((symGet T ask).getD 0)) != (gt m x).At)))||((!(symGet T ask).isSome)&&((IntKind.wrap .u16 ((symGet T ask).getD 0)) != 0)))=true:=by
    rcases hxr with ⟨rfl,hno⟩ | ⟨j,q,rfl,hq',hk'⟩
    · rw [hI.getN hno]
      have:IntKind.wrap .u16 0=0:=by decide +kernel
      simp [this]
    · have hqm:=List.mem_of_getElem? hq'
      rw [hI.getS hqm hk',gtAt hq',decide_eq_true (by omega)]
      have:=(hF q hqm).2
      simp only [Option.isSome_some,Option.getD_some]
      rw [wrap_u16 this.1 this.2]
      simp
  have hlT:T.length*16≤140737488355328:=by omega
  have heq:(((T.length:Nat):Int) == (ln m))=true:=by rw [hln]; simp; omega
  have hms:∀ q:List PR,q.length≤60→(sortS (q.map (·.Name))).length≤1000:=fun q h=>by rw [sortS_len,List.length_map]; omega
  rw [if_pos hc1,if_neg hc2,if_pos ha,if_pos hlT,if_pos hall,if_pos (fun _=>hlT),heq,if_pos rfl,names_is hI,eq_self _ (hms m hm),Option.bind_some]
  rw [if_pos (fun _=>ha),if_pos (fun _=>hlT),if_pos (fun _=>hall),if_pos (by rfl),here_is hI,eq_self _ (hms _ hfl),Option.bind_some,hnr]
  simp only [BEq.rfl,Bool.and_self,if_true]
  rw [alive41]
  rfl
end Go.Proofs.YtaoomioogojfhaaK
