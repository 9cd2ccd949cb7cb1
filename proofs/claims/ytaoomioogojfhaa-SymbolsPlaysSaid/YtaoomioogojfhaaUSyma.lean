/- Names and what they stand for: a row of pairs beside a table. No program in sight. -/
import Derived.Test.YtaoomioogojfhaaUB
import Derived.Test.YtaoomioogojfhaaF
import Derived.Sort.Walk0
namespace Go.Proofs.YtaoomioogojfhaaK
set_option linter.unusedVariables false
set_option linter.unusedSimpArgs false
open Go.RowKit
abbrev PR:=spinetlaw41_Pair
def pkey (p:PR):List UInt8:=p.Name.data.toList
def penc (p:PR):List UInt8 × Int:=(pkey p,p.At)
theorem key_eq (p:PR) (s:ByteArray):(p.Name.toList == s.toList)=(pkey p == s.data.toList):=by rw [toList_is,toList_is]; rfl
/-- What find answers. -/
def FindR (m:List PR) (s:ByteArray) (x:Int):Prop:=(x = -1∧∀ p∈m,pkey p ≠ s.data.toList)∨∃ (i:Nat) (p:PR),x=i∧m[i]? = some p∧pkey p=s.data.toList
theorem find_l (m:List PR) (s:ByteArray):∀ (r:List PR) (i k:Nat),m.drop i=r→i≤1000→m.length≤1000 →
    (spinetlaw41_find_l0 m s (k+r.length+1) i=some (.go ())∧∀ p∈r,pkey p ≠ s.data.toList)∨∃ (j:Nat) (p:PR),spinetlaw41_find_l0 m s (k+r.length+1) i=some (.ret j)∧m[j]? = some p∧pkey p=s.data.toList
  | [],i,k,h,hi,hm=>.inl ⟨by unfold spinetlaw41_find_l0; rw [if_neg (fun e=>gtNil h (of_decide_eq_true e))],fun p hp=>by simp at hp⟩
  | p::r,i,k,h,hi,hm=>by
    obtain ⟨h1,h2,h3⟩:=gtCons h
    have e:k+(p::r).length+1=(k+r.length+1)+1:=by simp; omega
    rw [e]
    unfold spinetlaw41_find_l0
    rw [if_pos (decide_eq_true h2.2),if_pos h2,h1,key_eq]
    by_cases hk:pkey p=s.data.toList
    · rw [if_pos (by rw [hk]; simp)]
      exact .inr ⟨i,p,rfl,(dropAt h).1,hk⟩
    · rw [if_neg (by simpa using hk),wrapS (by omega)]
      rcases find_l m s r (i+1) k h3 (by have:=(dropAt h).2.2; omega) hm with ⟨h4,h5⟩ | h4
      · exact .inl ⟨h4,fun q hq=>by rcases List.mem_cons.1 hq with e | e; exact e ▸ hk; exact h5 q e⟩
      · exact .inr h4
theorem find_is (m:List PR) (s:ByteArray) (hm:m.length≤1000):∃ x,spinetlaw41_find m s=some x∧FindR m s x:=by
  obtain ⟨k,hk⟩:=bigS m.length (by omega)
  unfold spinetlaw41_find
  rw [hk]
  rcases find_l m s m 0 k rfl (by omega) hm with ⟨h1,h2⟩ | ⟨j,p,h1,h2,h3⟩
  · exact ⟨-1,by rw [show (0:Int)=((0:Nat):Int) from rfl,h1]; rfl,.inl ⟨rfl,h2⟩⟩
  · exact ⟨j,by rw [show (0:Int)=((0:Nat):Int) from rfl,h1]; rfl,.inr ⟨j,p,rfl,h2,h3⟩⟩
/-- The table has what the row has. -/
structure Inv (T:SymT) (m:List PR):Prop where
  perm:T.Perm (m.map penc)
  nodup:(m.map pkey).Nodup
theorem nodup_inj:∀ {m:List PR},(m.map pkey).Nodup→∀ {p q:PR},p∈m→q∈m→pkey p=pkey q→p=q
  | a::m,h,p,q,hp,hq,e=>by
    rw [List.map_cons,List.nodup_cons] at h
    rcases List.mem_cons.1 hp with rfl | hp' <;> rcases List.mem_cons.1 hq with rfl | hq'
    · rfl
    · exact absurd (by rw [e]; exact List.mem_map_of_mem hq') h.1
    · exact absurd (by rw [← e]; exact List.mem_map_of_mem hp') h.1
    · exact nodup_inj h.2 hp' hq' e
theorem Inv.keys {T m} (h:Inv T m):(T.map (·.1)).Perm (m.map pkey):=by
  have:=h.perm.map (·.1)
  rw [List.map_map] at this
  exact this
theorem Inv.mem {T m} (h:Inv T m) {x:List UInt8 × Int}:x∈T↔∃ p∈m,penc p=x:=by rw [h.perm.mem_iff,List.mem_map]
theorem Inv.getN {T m} (h:Inv T m) {s:ByteArray} (hs:∀ p∈m,pkey p ≠ s.data.toList):symGet T s=none:=by
  unfold symGet
  rw [Option.map_eq_none_iff,List.find?_eq_none]
  intro x hx
  obtain ⟨p,hp,rfl⟩:=h.mem.1 hx
  simpa [penc] using hs p hp
theorem Inv.getS {T m} (h:Inv T m) {s:ByteArray} {p:PR} (hp:p∈m) (hs:pkey p=s.data.toList):symGet T s=some p.At:=by
  unfold symGet
  cases hf:T.find? fun p=>p.1 == s.data.toList with
  | none =>
    rw [List.find?_eq_none] at hf
    exact absurd (by simp [penc,hs]) (hf _ (h.mem.2 ⟨p,hp,rfl⟩))
  | some y =>
    obtain ⟨q,hq,rfl⟩:=h.mem.1 (List.mem_of_find?_eq_some hf)
    have:=List.find?_some hf
    have e:pkey q=s.data.toList:=by simpa [penc] using this
    rw [nodup_inj h.nodup hq hp (e.trans hs.symm)]
    rfl
theorem symIns_perm (x:List UInt8 × Int):∀ l:SymT,(symIns x l).Perm (x::l)
  | []=>List.Perm.refl _
  | y::r=>by
    unfold symIns
    split
    · exact List.Perm.refl _
    · exact (List.Perm.cons y (symIns_perm x r)).trans (List.Perm.swap x y r)
theorem filter_all {m:List PR} {s:List UInt8} (h:∀ p∈m,pkey p ≠ s):(m.filter fun p=>!(pkey p == s))=m:=by
  rw [List.filter_eq_self]
  intro p hp
  simpa using h p hp
theorem map_filter (m:List PR) (s:List UInt8):(m.map penc).filter (fun p=>!(p.1 == s))=(m.filter fun p=>!(pkey p == s)).map penc:=by
  rw [List.filter_map]; rfl
theorem Inv.delNone {T m} (h:Inv T m) {s:ByteArray} (hs:∀ p∈m,pkey p ≠ s.data.toList):Inv (symDel T s) m:=by
  refine ⟨?_,h.nodup⟩
  have:=h.perm.filter (fun p=>!(p.1 == s.data.toList))
  rw [map_filter,filter_all hs] at this
  exact this
/-- One that is there once: the rest. -/
theorem rest_is:∀ {m:List PR} {i:Nat} {p:PR},(m.map pkey).Nodup→m[i]? = some p→(m.filter fun q=>!(pkey q == pkey p))=m.take i++m.drop (i+1)
  | a::m,0,p,h,hp=>by
    rw [List.map_cons,List.nodup_cons] at h
    simp at hp
    subst hp
    rw [List.filter_cons_of_neg (by simp),filter_all (fun q hq e=>h.1 (by rw [← e]; exact List.mem_map_of_mem hq))]
    rfl
  | a::m,i+1,p,h,hp=>by
    rw [List.map_cons,List.nodup_cons] at h
    have hp:m[i]? = some p:=by simpa using hp
    have hm:=List.mem_of_getElem? hp
    rw [List.filter_cons_of_pos (by
      have:pkey a ≠ pkey p:=fun e=>h.1 (by rw [e]; exact List.mem_map_of_mem hm)
      simpa using this),rest_is h.2 hp]
    rfl
theorem Inv.del {T m} (h:Inv T m) {s:ByteArray} {i:Nat} {p:PR} (hp:m[i]? = some p) (hs:pkey p=s.data.toList):Inv (symDel T s) (m.take i++m.drop (i+1)):=by
  have:=h.perm.filter (fun p=>!(p.1 == s.data.toList))
  rw [map_filter,← hs,rest_is h.nodup hp] at this
  refine ⟨by unfold symDel; rw [← hs]; exact this,?_⟩
  rw [← rest_is h.nodup hp,show (m.filter fun q=>!(pkey q == pkey p)).map pkey=(m.map pkey).filter (fun k=>!(k == pkey p)) by rw [List.filter_map]; rfl]
  exact h.nodup.filter _
theorem Inv.put {T m} (h:Inv T m) {p:PR} (hs:∀ q∈m,pkey q ≠ pkey p):Inv (symPut T p.Name p.At) (m++[p]):=by
  have h0:=h.delNone (s:=p.Name) hs
  refine ⟨?_,?_⟩
  · refine (symIns_perm _ _).trans ?_
    refine (List.Perm.cons _ h0.perm).trans ?_
    rw [List.map_append]
    exact (List.perm_append_singleton (penc p) (m.map penc)).symm
  · rw [List.map_append,List.nodup_append]
    exact ⟨h.nodup,by simp,fun a ha b hb e=>by
      obtain ⟨q,hq,rfl⟩:=List.mem_map.1 ha
      have:b=pkey p:=by simpa using hb
      exact hs q hq (e.trans this)⟩
theorem take_drop_perm {m:List PR} {i:Nat} {p:PR} (hp:m[i]? = some p):(p::(m.take i++m.drop (i+1))).Perm m:=by
  have hi:=(List.getElem?_eq_some_iff.1 hp).1
  have e:m=m.take i++p::m.drop (i+1):=by
    have:=(List.getElem?_eq_some_iff.1 hp).2
    rw [← this,List.getElem_cons_drop,List.take_append_drop]
  exact List.perm_middle.symm.trans (by rw [← e])
theorem Inv.again {T m} (h:Inv T m) {p:PR} {i:Nat} {q:PR} (hq:m[i]? = some q) (hs:pkey q=pkey p) (ha:q.At=p.At):Inv (symPut T p.Name p.At) m:=by
  have h0:=h.del (s:=p.Name) hq hs
  refine ⟨?_,h.nodup⟩
  refine (symIns_perm _ _).trans ?_
  have e:(p.Name.data.toList,p.At)=penc q:=by unfold penc; rw [hs,ha]; rfl
  rw [e]
  exact (List.Perm.cons _ h0.perm).trans ((take_drop_perm hq).map penc)
end Go.Proofs.YtaoomioogojfhaaK
