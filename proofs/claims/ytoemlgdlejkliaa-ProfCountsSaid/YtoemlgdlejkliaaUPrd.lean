/- ProfCounts: the law. No program in sight. -/
import Derived.Test.YtoemlgdlejkliaaUPrc
namespace Go.Proofs.YtoemlgdlejkliaaK
set_option linter.unusedVariables false
set_option linter.unusedSimpArgs false
open Go.RowKit Go.Sort
theorem speq_l (a:List Sp) (ha:a.length≤1000):∀ (r:List Sp) (i k:Nat),a.drop i=r→i≤1000→slices_Equal_sl_prof_Spot_prof_Spot_l0 a a (k+r.length+1) i=some (.go ())
  | [],i,k,h,hi=>by
    unfold slices_Equal_sl_prof_Spot_prof_Spot_l0
    rw [if_neg (fun e=>gtNil h (of_decide_eq_true e))]
  | p::r,i,k,h,hi=>by
    obtain ⟨h1,h2,h3⟩:=gtCons h
    rw [show k+(p::r).length+1=(k+r.length+1)+1 by simp; omega]
    unfold slices_Equal_sl_prof_Spot_prof_Spot_l0
    rw [if_pos (decide_eq_true h2.2),if_pos h2,if_pos h2,if_neg (by simp),wrapS (by omega)]
    exact speq_l a ha r (i+1) k h3 (by have:=(dropAt h).2.2; omega)
theorem speq_self (a:List Sp) (ha:a.length≤1000):slices_Equal_sl_prof_Spot_prof_Spot a a=some true:=by
  obtain ⟨k,hk⟩:=bigS a.length (by omega)
  have:=speq_l a ha a 0 k rfl (by omega)
  have:slices_Equal_sl_prof_Spot_prof_Spot_l0 a a (k+a.length+1) 0=_:=this
  unfold slices_Equal_sl_prof_Spot_prof_Spot
  rw [if_neg (by simp),hk,this]
  rfl
theorem InvP.here {T:ProfT} {l:List Sp} (h:InvP T l) (a:Int):(profGet T a).getD sp0=(hereT l a).1∧(profGet T a).isSome=(hereT l a).2:=by
  unfold hereT
  cases hf:l.find? (·.At == a) with
  | none =>
    rw [List.find?_eq_none] at hf
    rw [h.getN fun p hp e=>hf p hp (by simp [e])]
    exact ⟨rfl,rfl⟩
  | some s =>
    have:=List.find?_some hf
    rw [h.getS (List.mem_of_find?_eq_some hf) (by simpa using this)]
    exact ⟨rfl,rfl⟩
theorem InvP.sums {T:ProfT} {l:List Sp} (h:InvP T l):profSum T=(0,sumS (·.Times) l,sumS (·.Cycles) l,sumS (·.Lost) l):=by
  unfold profSum sumS
  have e:∀ f:SpT→Int,(T.map fun p=>f p.2).sum=(l.map fun s=>f (tup s)).sum:=fun f=>by
    have:=sum_perm (h.perm.map fun p=>f p.2)
    rw [this,List.map_map]
    rfl
  have e1:=e (fun t=>t.2.1)
  have e2:=e (fun t=>t.2.2.1)
  have e3:=e (fun t=>t.2.2.2)
  rw [e1,e2,e3]
  rfl
theorem InvP.top {T:ProfT} {l top:List Sp} (h:InvP T l) (ho:Ord top) (hp:top.Perm l) (many:Int):(profTop T many).map (fun s=>(⟨s.1,s.2.1,s.2.2.1,s.2.2.2⟩:prof_Spot))=top.take (min (max many 0) (top.length:Int)).toNat:=by
  have hk:∀ p∈T,p.2.1=p.1:=fun p hp=>by
    obtain ⟨s,_,rfl⟩:=h.mem.1 hp
    rfl
  have hT:(T.map (·.1)).Perm (l.map (·.At)):=by
    have:=h.perm.map (·.1)
    rw [List.map_map] at this
    exact this
  have hT2:(T.map (·.2)).Perm (l.map tup):=by
    have:=h.perm.map (·.2)
    rw [List.map_map] at this
    exact this
  have hu:=sort_unique (ys:=top.map tup) (xs:=l.map tup) (l:=T) (hp.map tup) hT2.symm hk ((hT.nodup_iff).2 h.nodup) (by
    rw [List.pairwise_map]
    exact ho.imp fun hab=>by rw [befB_is] at hab; exact hab)
  unfold profTop
  rw [← hu,List.length_map,← List.map_take,List.map_map]
  have:((fun s:SpT=>(⟨s.1,s.2.1,s.2.2.1,s.2.2.2⟩:prof_Spot)) ∘ tup)=id:=funext fun s=>rfl
  rw [this,List.map_id]
theorem alive53:spinetlaw53_alive=some true:=by
  unfold spinetlaw53_alive
  rw [start_is _ _ (by decide),Option.bind_some,own_is _ _ (by decide),Option.bind_some,lost_is _ _ (by decide),Option.bind_some,if_pos (by decide +kernel),start_is _ _ (by decide),Option.bind_some,own_is _ _ (by decide),Option.bind_some,lost_is _ _ (by decide),Option.bind_some,if_pos (by decide +kernel),if_pos (by decide),if_pos (by decide)]
  decide +kernel
theorem profCounts_true (parts:List (List Rc)) (at_ many:Int) (hA:∀ r∈parts,∀ x∈r,0≤x.Addr∧x.Addr < 65536) (ha:0≤at_∧at_ < 65536):spinetlaw53_ProfCounts parts at_ many=some true:=by
  unfold spinetlaw53_ProfCounts
  by_cases hc:(60:Int) < ln parts
  · rw [if_pos (decide_eq_true hc)]
  rw [if_neg (fun e=>hc (of_decide_eq_true e))]
  have hp:parts.length≤60:=by unfold ln at hc; omega
  obtain ⟨k,hk⟩:=bigS parts.length (by omega)
  rcases parts_l parts hA hp parts 0 k [] [] rfl (by omega) ⟨List.Perm.refl _,List.nodup_nil,fun s hs=>by simp at hs⟩ (Nat.le_refl _) with h | ⟨T,l,h,hI,hl⟩
  · have h:spinetlaw53_ProfCounts_l0 parts (k+parts.length+1) [] [] 0=_:=h
    rw [hk,h]; rfl
  have h:spinetlaw53_ProfCounts_l0 parts (k+parts.length+1) [] [] 0=_:=h
  rw [hk,h,Option.bind_some]
  simp only
  obtain ⟨k2,hk2⟩:=bigS l.length (by omega)
  obtain ⟨top,h5,ho,hpt⟩:=tops_l at_ l hl hI.nodup l 0 k2 [] rfl (by omega) List.Pairwise.nil (by simp)
  have e0:∀ f:Sp→Int,sumS f (l.take 0)=0:=fun f=>by unfold sumS; simp; decide +kernel
  have e1:hereT (l.take 0) at_=(sp0,false):=rfl
  rw [e0,e0,e0,e1] at h5
  have h5:spinetlaw53_ProfCounts_l5 at_ l (k2+l.length+1) 0 0 0 0 0 0 0 [] false 0=_:=h5
  rw [show k+parts.length+1=k2+l.length+1 from hk.symm.trans hk2,h5,Option.bind_some]
  simp only
  obtain ⟨g1,g2⟩:=hI.here at_
  have gs:=hI.sums
  have hTl:T.length=l.length:=by rw [hI.perm.length_eq,List.length_map]
  have htl:top.length=l.length:=hpt.length_eq
  have hkT:∀ p∈T,p.2.1=p.1:=fun p hp=>by
    obtain ⟨s,_,rfl⟩:=hI.mem.1 hp
    rfl
  have hbytes:(T.length+1)*32≤140737488355328:=by omega
  have hK:(if (ln top) < (if 0 > many then 0 else many) then (ln top) else (if 0 > many then 0 else many))=min (max many 0) (top.length:Int):=by
    unfold ln
    split <;> split <;> omega
  rw [g1,g2,gs,hK]
  generalize hereT l at_=H
  have hKb:0≤min (max many 0) (top.length:Int)∧min (max many 0) (top.length:Int)≤ln top:=by unfold ln; omega
  have htop:=hI.top ho hpt many
  rw [if_pos ha,if_pos (fun _=>hbytes),if_pos (fun _=>hkT),if_pos (fun _=>hKb),htop,List.drop_zero,Nat.sub_zero]
  simp only [BEq.rfl,Bool.and_self,Bool.not_true,Bool.or_self,Bool.not_false,if_true]
  rw [speq_self _ (by rw [List.length_take]; omega),Option.bind_some,if_neg (by simp),if_pos ha]
  have c1:profGet ([]:ProfT) at_=none:=rfl
  have c2:profSum ([]:ProfT)=(0,0,0,0):=by decide +kernel
  have c3:profTop ([]:ProfT) 99=[]:=by simp [profTop,profSort]
  rw [c1,c2,c3,if_pos (fun _=>by decide),if_pos (fun _ p hp=>by simp at hp),if_pos (by rfl),alive53]
  rfl
end Go.Proofs.YtoemlgdlejkliaaK
