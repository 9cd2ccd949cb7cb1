/- Counts beside a table. No program in sight. -/
import Derived.Test.YtoemlgdlejkliaaUPra
namespace Go.Proofs.YtoemlgdlejkliaaK
set_option linter.unusedVariables false
set_option linter.unusedSimpArgs false
open Go.RowKit
def tup (s:Sp):SpT:=(s.At,s.Times,s.Cycles,s.Lost)
def enc (s:Sp):Int × SpT:=(s.At,tup s)
/-- The table has what the row has. -/
structure InvP (T:ProfT) (l:List Sp):Prop where
  perm:T.Perm (l.map enc)
  nodup:(l.map (·.At)).Nodup
  rng:∀ s∈l,0≤s.At∧s.At < 65536
theorem nodup_at:∀ {m:List Sp},(m.map (·.At)).Nodup→∀ {p q:Sp},p∈m→q∈m→p.At=q.At→p=q
  | a::m,h,p,q,hp,hq,e=>by
    rw [List.map_cons,List.nodup_cons] at h
    rcases List.mem_cons.1 hp with rfl | hp' <;> rcases List.mem_cons.1 hq with rfl | hq'
    · rfl
    · exact absurd (by rw [e]; exact List.mem_map_of_mem (f:=(·.At)) hq') h.1
    · exact absurd (by rw [← e]; exact List.mem_map_of_mem (f:=(·.At)) hp') h.1
    · exact nodup_at h.2 hp' hq' e
theorem InvP.mem {T m} (h:InvP T m) {x:Int × SpT}:x∈T↔∃ p∈m,enc p=x:=by rw [h.perm.mem_iff,List.mem_map]
theorem InvP.getN {T m} (h:InvP T m) {a:Int} (hs:∀ p∈m,p.At ≠ a):profGet T a=none:=by
  unfold profGet
  rw [Option.map_eq_none_iff,List.find?_eq_none]
  intro x hx
  obtain ⟨p,hp,rfl⟩:=h.mem.1 hx
  simpa [enc] using hs p hp
theorem InvP.getS {T m} (h:InvP T m) {a:Int} {p:Sp} (hp:p∈m) (hs:p.At=a):profGet T a=some (tup p):=by
  unfold profGet
  cases hf:T.find? fun p=>p.1 == a with
  | none =>
    rw [List.find?_eq_none] at hf
    exact absurd (by simp [enc,hs]) (hf _ (h.mem.2 ⟨p,hp,rfl⟩))
  | some y =>
    obtain ⟨q,hq,rfl⟩:=h.mem.1 (List.mem_of_find?_eq_some hf)
    have:=List.find?_some hf
    have e:q.At=a:=by simpa [enc] using this
    rw [nodup_at h.nodup hq hp (e.trans hs.symm)]
    rfl
theorem profIns_perm (x:Int × SpT):∀ l:ProfT,(profIns x l).Perm (x::l)
  | []=>List.Perm.refl _
  | y::r=>by
    unfold profIns
    split
    · exact List.Perm.refl _
    · exact (List.Perm.cons y (profIns_perm x r)).trans (List.Perm.swap x y r)
theorem filt_all {m:List Sp} {a:Int} (h:∀ p∈m,p.At ≠ a):(m.filter fun p=>!(p.At == a))=m:=by
  rw [List.filter_eq_self]
  intro p hp
  simpa using h p hp
theorem map_filt (m:List Sp) (a:Int):(m.map enc).filter (fun p=>!(p.1 == a))=(m.filter fun p=>!(p.At == a)).map enc:=by
  rw [List.filter_map]; rfl
theorem rest_at:∀ {m:List Sp} {i:Nat} {p:Sp},(m.map (·.At)).Nodup→m[i]? = some p→(m.filter fun q=>!(q.At == p.At))=m.take i++m.drop (i+1)
  | a::m,0,p,h,hp=>by
    rw [List.map_cons,List.nodup_cons] at h
    simp at hp
    subst hp
    rw [List.filter_cons_of_neg (by simp),filt_all (fun q hq e=>h.1 (by rw [← e]; exact List.mem_map_of_mem (f:=(·.At)) hq))]
    rfl
  | a::m,i+1,p,h,hp=>by
    rw [List.map_cons,List.nodup_cons] at h
    have hp:m[i]? = some p:=by simpa using hp
    have hm:=List.mem_of_getElem? hp
    rw [List.filter_cons_of_pos (by
      have:a.At ≠ p.At:=fun e=>h.1 (by rw [e]; exact List.mem_map_of_mem (f:=(·.At)) hm)
      simpa using this),rest_at h.2 hp]
    rfl
theorem set_perm {m:List Sp} {i:Nat} {p q:Sp} (hp:m[i]? = some p):(q::(m.take i++m.drop (i+1))).Perm (m.set i q):=by
  have hi:=(List.getElem?_eq_some_iff.1 hp).1
  rw [List.set_eq_take_append_cons_drop,if_pos hi]
  exact List.perm_middle.symm
theorem InvP.over {T m} (h:InvP T m) {a:Int} {i:Nat} {p q:Sp} (hp:m[i]? = some p) (hpa:p.At=a) (hq:q.At=a):InvP (profPut T a (tup q)) (m.set i q):=by
  have hdel:=h.perm.filter (fun p=>!(p.1 == a))
  rw [map_filt,← hpa,rest_at h.nodup hp] at hdel
  have hperm:(m.set i q).Perm (q::(m.take i++m.drop (i+1))):=(set_perm hp).symm
  have hat:(m.set i q).map (·.At)=m.map (·.At):=by
    rw [List.map_set]
    have hi:=(List.getElem?_eq_some_iff.1 hp)
    apply List.ext_getElem?
    intro j
    rw [List.getElem?_set]
    split
    · rename_i e
      subst e
      rw [List.length_map,if_pos hi.1,List.getElem?_map,hp]
      simp [hpa,hq]
    · rfl
  refine ⟨?_,by rw [hat]; exact h.nodup,fun s hs => ?_⟩
  · refine (profIns_perm _ _).trans ?_
    have e:(a,tup q)=enc q:=by unfold enc; rw [hq]
    rw [e]
    unfold profDel
    rw [← hpa]
    exact (List.Perm.cons _ hdel).trans (hperm.symm.map enc)
  · have:=(List.mem_or_eq_of_mem_set hs)
    rcases this with h1 | h1
    · exact h.rng s h1
    · rw [h1,hq,← hpa]; exact h.rng p (List.mem_of_getElem? hp)
theorem InvP.push {T m} (h:InvP T m) {q:Sp} (hs:∀ p∈m,p.At ≠ q.At) (hr:0≤q.At∧q.At < 65536):InvP (profPut T q.At (tup q)) (m++[q]):=by
  have h0:=h.perm.filter (fun p=>!(p.1 == q.At))
  rw [map_filt,filt_all hs] at h0
  refine ⟨?_,?_,fun s hs' => ?_⟩
  · refine (profIns_perm _ _).trans ?_
    refine (List.Perm.cons _ h0).trans ?_
    rw [List.map_append]
    exact (List.perm_append_singleton (enc q) (m.map enc)).symm
  · rw [List.map_append,List.nodup_append]
    exact ⟨h.nodup,by simp,fun a ha b hb e=>by
      obtain ⟨p,hp,rfl⟩:=List.mem_map.1 ha
      have:b=q.At:=by simpa using hb
      exact hs p hp (e.trans this)⟩
  · rcases List.mem_append.1 hs' with e | e
    · exact h.rng s e
    · have:s=q:=by simpa using e
      rw [this]; exact hr
theorem cnt_none {recs:List Rc}:recs.find? (·.Mine)=none↔cntM recs=0:=by
  unfold cntM
  rw [List.find?_eq_none,List.length_eq_zero_iff,List.filter_eq_nil_iff]
theorem add_step {T:ProfT} {l:List Sp} (h:InvP T l) (recs:List Rc) (hr:recs.length≤30) (hl:l.length≤900) (hA:∀ x∈recs,0≤x.Addr∧x.Addr < 65536) :
    ∃ l',spinetlaw53_add l recs=some l'∧InvP (profAdd T ((startQ recs).1,(startQ recs).2,(cntM recs:Int),(recs.length:Int) - cntM recs)) l'∧l'.length≤l.length+1:=by
  have hc:=cntM_le recs
  obtain ⟨k,hk⟩:=bigS recs.length (by omega)
  have hw:IntKind.wrap .i64 (ln recs - 1)=(recs.length:Int) - 1:=wrap_i64 (by unfold ln; omega) (by unfold ln; omega)
  have h1:=addl_is recs recs.length k 0 0 (Nat.le_refl _) (by omega) (by omega)
  rw [List.take_length,Nat.zero_add] at h1
  have h1:spinetlaw53_add_l0 recs (k+recs.length+1) 0 0 ((recs.length:Int) - 1)=_:=h1
  unfold spinetlaw53_add
  rw [hk,hw,h1,Option.bind_some]
  simp only
  cases hf:recs.find? (·.Mine) with
  | none =>
    have h0:=cnt_none.1 hf
    rw [h0,if_pos (by rfl)]
    refine ⟨l,rfl,?_,by omega⟩
    unfold startQ
    rw [hf]
    exact h
  | some x =>
    have h0:cntM recs ≠ 0:=fun e=>by rw [cnt_none.2 e] at hf; cases hf
    have hx:=hA x (List.mem_of_find?_eq_some hf)
    have hfst:fstM recs 0=x.Addr:=by unfold fstM; rw [hf]
    have hq:startQ recs=(x.Addr,true):=by unfold startQ; rw [hf]
    have hwl:IntKind.wrap .i64 (ln recs - (cntM recs:Int))=(recs.length:Int) - cntM recs:=wrap_i64 (by unfold ln; omega) (by unfold ln; omega)
    rw [if_neg (by simp; omega),if_pos (by omega),hfst,hq]
    obtain ⟨k2,hk2⟩:=bigS l.length (by omega)
    rw [show k+recs.length+1=k2+l.length+1 from hk.symm.trans hk2]
    rcases addm_is l recs (cntM recs) x.Addr l 0 k2 rfl (by omega) (by omega) with ⟨h2,h3⟩ | ⟨j,s,h2,h3,h4⟩
    · have h2:spinetlaw53_add_l1 l recs (cntM recs) x.Addr (k2+l.length+1) 0=_:=h2
      rw [h2,Option.bind_some]
      simp only
      rw [if_pos (by simp; omega),hwl]
      refine ⟨_,rfl,?_,by simp⟩
      have hp:=h.push (q:=⟨x.Addr,1,(cntM recs:Int),(recs.length:Int) - cntM recs⟩) h3 hx
      have e:profAdd T (x.Addr,true,(cntM recs:Int),(recs.length:Int) - cntM recs)=profPut T x.Addr (tup ⟨x.Addr,1,(cntM recs:Int),(recs.length:Int) - cntM recs⟩):=by
        rw [profAdd_t,h.getN h3]
        have w1:IntKind.wrap .i64 (0+1)=1:=by decide +kernel
        have w2:IntKind.wrap .i64 (0+(cntM recs:Int))=cntM recs:=(wrap_i64 (by omega) (by omega)).trans (by omega)
        have w3:IntKind.wrap .i64 (0+((recs.length:Int) - cntM recs))=(recs.length:Int) - cntM recs:=(wrap_i64 (by omega) (by omega)).trans (by omega)
        simp only [Option.getD_none,sp0]
        rw [w1,w2,w3]
        rfl
      rw [e]
      exact hp
    · have h2:spinetlaw53_add_l1 l recs (cntM recs) x.Addr (k2+l.length+1) 0=_:=h2
      rw [h2,Option.bind_some]
      refine ⟨_,rfl,?_,by simp⟩
      rw [hwl]
      have hp:=h.over h3 h4 (q:=more s (cntM recs) ((recs.length:Int) - cntM recs)) h4
      have e:profAdd T (x.Addr,true,(cntM recs:Int),(recs.length:Int) - cntM recs)=profPut T x.Addr (tup (more s (cntM recs) ((recs.length:Int) - cntM recs))):=by
        rw [profAdd_t,h.getS (List.mem_of_getElem? h3) h4]
        simp only [Option.getD_some,tup,more]
        rw [h4]
      rw [e]
      exact hp
/-- The table beside the row, part by part. -/
theorem parts_l (parts:List (List Rc)) (hA:∀ r∈parts,∀ x∈r,0≤x.Addr∧x.Addr < 65536) (hp:parts.length≤60):∀ (r:List (List Rc)) (i k:Nat) (T:ProfT) (l:List Sp),parts.drop i=r→i≤60→InvP T l→l.length≤i →
    spinetlaw53_ProfCounts_l0 parts (k+r.length+1) T l i=some (.ret true)∨∃ T' l',spinetlaw53_ProfCounts_l0 parts (k+r.length+1) T l i=some (.go (T',l'))∧InvP T' l'∧l'.length≤60
  | [],i,k,T,l,h,hi,hI,hl=>.inr ⟨T,l,by unfold spinetlaw53_ProfCounts_l0; rw [if_neg (fun e=>gtNil h (of_decide_eq_true e))],hI,by omega⟩
  | x::r,i,k,T,l,h,hi,hI,hl=>by
    obtain ⟨h1,h2,h3⟩:=gtCons h
    have hil:i < 60:=by have:=(dropAt h).2.2; omega
    have hxA:=hA x (List.mem_of_getElem? (dropAt h).1)
    rw [show k+(x::r).length+1=(k+r.length+1)+1 by simp; omega]
    have ih:=fun T' l' hI' hl'=>parts_l parts hA hp r (i+1) k T' l' h3 (by omega) hI' hl'
    generalize hrec:spinetlaw53_ProfCounts_l0 parts (k+r.length+1)=rec at ih
    unfold spinetlaw53_ProfCounts_l0
    rw [hrec,if_pos (decide_eq_true h2.2),if_pos h2,h1]
    by_cases hn:x.length≤30
    case neg=>rw [if_pos (decide_eq_true (by unfold ln; omega))]; exact .inl rfl
    rw [if_neg (by intro e; have:=of_decide_eq_true e; unfold ln at this; omega),if_pos h2,start_is _ _ (by omega),Option.bind_some,own_is _ _ (by omega),Option.bind_some,lost_is _ _ (by omega),Option.bind_some]
    have hrg:0≤(startQ x).1∧(startQ x).1 < 65536:=by
      unfold startQ
      split
      · rename_i y hy; exact hxA y (List.mem_of_find?_eq_some hy)
      · exact ⟨by decide,by decide⟩
    have hTl:T.length=l.length:=by rw [hI.perm.length_eq,List.length_map]
    obtain ⟨l',e1,e2,e3⟩:=add_step hI x hn (by omega) hxA
    rw [if_pos hrg,if_pos ⟨by decide,by omega⟩,if_pos h2,e1,Option.bind_some,wrapS (by omega)]
    exact ih _ _ e2 (by omega)
end Go.Proofs.YtoemlgdlejkliaaK
