/- Package prof, by hand: Clear, Sum. -/
import Derived.Test.YtoemlgdlejkliaaPy
namespace Go.Proofs.YtoemlgdlejkliaaK
set_option linter.unusedVariables false
set_option linter.unusedSimpArgs false
set_option maxRecDepth 100000
set_option maxHeartbeats 4000000
open Go.RowKit Go.WideMaps Go.ChangeMaps Go.MapKept
/-- What turns in the machine's memory where counts turn. -/
structure PTabW (w w':World) (b:Nat) (x:Option Nat) (x':Option Nat) (l':ProfT):Prop where
  cell:w'.cell? ⟨b,0,none⟩=some (.map x')
  is:PMapIs w' x' l'
  size:w.heap.size≤w'.heap.size
  keep:∀ k,k < w.heap.size→k ≠ b→x ≠ some k→w'.heap[k]? = w.heap[k]?
  fresh:∀ k,x'=some k→x=some k∨w.heap.size≤k
  row:∀ arr t fr,w.heap[b]? = some (.cells arr t fr)→∃ arr',w'.heap[b]? = some (.cells arr' t fr)∧arr'.size=arr.size
  os:w'.os=w.os
  tape:w'.tape=w.tape
  output:w'.output=w.output
theorem clear_walk (b:Nat) (w:World) (x:Option Nat) (l:ProfT) (hc:w.cell? ⟨b,0,none⟩=some (.map x)) (hm:PMapIs w x l) (hx:x ≠ some b) :
    Calls Try.prog 12 #[.pointer (some ⟨b,0,none⟩)] w fun e w'=>e=.returned (.tuple #[])∧PTabW w w' b x x []:=by
  obtain ⟨w',hrun,h1,h2,h3,h4,h5,h6⟩:=hm.clear 0
  go_enter Try.func12,Try.ntmps12
  go_wp2
  go_end0
  have hb:=h3 b hx
  exact ⟨rfl,by rw [World.cell?_of_block (w:=w) hb]; exact hc,h1,Nat.le_of_eq h2.symm,fun k _ _ hk=>h3 k hk,fun k hk=>.inl hk,fun arr t fr h=>⟨arr,hb.trans h,rfl⟩,h4,h5,h6⟩
/-- What is counted of those that have come. -/
def sumL (f:SpT→Int) (l:ProfT) (left:Lit→Bool):Int:=((l.filter fun p=>!left (.int .u16 p.1)).map fun p=>f p.2).sum
theorem sumL_start (f:SpT→Int) (l:ProfT):sumL f l (Maps.has (profD l))=0:=by
  unfold sumL
  have:(l.filter fun p=>!(Maps.has (profD l) (.int .u16 p.1)))=[]:=by
    rw [List.filter_eq_nil_iff]
    intro p hp
    rw [profD_has]
    unfold profGet
    rw [Option.isSome_map]
    have:(l.find? fun q=>q.1 == p.1).isSome=true:=by rw [List.find?_isSome]; exact ⟨p,hp,by simp⟩
    rw [this]; simp
  rw [this]; rfl
theorem filter_one {l:ProfT} (hn:(l.map (·.1)).Nodup) {left:Lit→Bool} {x:Int} (hx:left (.int .u16 x)=true) {c:SpT} (hc:profGet l x=some c) :
    (l.filter fun p=>!(left (.int .u16 p.1)&&!(Lit.int .u16 p.1).sameKey (.int .u16 x))).Perm ((x,c)::l.filter fun p=>!left (.int .u16 p.1)):=by
  induction l with
  | nil=>simp [profGet] at hc
  | cons p r ih =>
    rw [List.map_cons,List.nodup_cons] at hn
    have hsk:(Lit.int .u16 p.1).sameKey (.int .u16 x)=(p.1 == x):=profE_same p x
    by_cases e:p.1=x
    · have hcp:p.2=c:=by
        unfold profGet at hc
        rw [List.find?_cons_of_pos (by simp [e])] at hc
        simpa using hc
      have hp:p=(x,c):=by rw [← e,← hcp]
      rw [List.filter_cons_of_pos (by rw [hsk]; simp [e]),List.filter_cons_of_neg (by rw [e,hx]; simp),hp]
      refine List.Perm.cons _ (List.Perm.of_eq (List.filter_congr fun q hq => ?_))
      have:(Lit.int .u16 q.1).sameKey (.int .u16 x)=false:=by
        rw [show (Lit.int .u16 q.1).sameKey (.int .u16 x)=(q.1 == x) from profE_same q x]
        have:q.1 ≠ x:=fun e'=>hn.1 (by rw [e,← e']; exact List.mem_map_of_mem hq)
        simpa using this
      rw [this]; simp
    · have hc':profGet r x=some c:=by
        unfold profGet at hc ⊢
        rw [List.find?_cons_of_neg (by simpa using e)] at hc
        exact hc
      have hsf:(p.1 == x)=false:=by simpa using e
      rw [hsf] at hsk
      cases hl:left (.int .u16 p.1) with
      | true =>
        rw [List.filter_cons_of_neg (by rw [hl,hsk]; simp),List.filter_cons_of_neg (by rw [hl]; simp)]
        exact ih hn.2 hc'
      | false =>
        rw [List.filter_cons_of_pos (by rw [hl]; simp),List.filter_cons_of_pos (by rw [hl]; simp)]
        exact (List.Perm.cons p (ih hn.2 hc')).trans (List.Perm.swap _ _ _)
theorem sum_perm {a b:List Int} (h:a.Perm b):a.sum=b.sum:=by
  induction h with
  | nil=>rfl
  | cons x _ ih=>simp [ih]
  | swap x y l=>simp only [List.sum_cons]; omega
  | trans _ _ h1 h2=>rw [h1,h2]
theorem sumL_step (f:SpT→Int) {l:ProfT} (hn:(l.map (·.1)).Nodup) {left:Lit→Bool} {x:Int} (hx:left (.int .u16 x)=true) {c:SpT} (hc:profGet l x=some c) :
    sumL f l (fun z=>left z&&!z.sameKey (.int .u16 x))=sumL f l left+f c:=by
  unfold sumL
  have:=sum_perm ((filter_one hn hx hc).map fun p=>f p.2)
  rw [List.map_cons,List.sum_cons] at this
  exact this.trans (Int.add_comm _ _)
theorem sumL_end (f:SpT→Int) (l:ProfT) {left:Lit→Bool} (h:∀ z,left z=false):sumL f l left=(l.map fun p=>f p.2).sum:=by
  unfold sumL
  rw [List.filter_eq_self.2 (fun p _=>by rw [h]; rfl)]
theorem wrap_add (a b:Int):IntKind.wrap .i64 (IntKind.wrap .i64 a+b)=IntKind.wrap .i64 (a+b):=by
  simp only [IntKind.wrap,IntKind.bits,IntKind.signed]
  simp
  omega
def profSum (l:ProfT):SpT:=(0,IntKind.wrap .i64 (l.map fun p=>p.2.2.1).sum,IntKind.wrap .i64 (l.map fun p=>p.2.2.2.1).sum,IntKind.wrap .i64 (l.map fun p=>p.2.2.2.2).sum)
theorem keys_nodup {w:World} {m:Nat} {l:ProfT} (h:PMapIs w (some m) l):(l.map (·.1)).Nodup:=by
  obtain ⟨es,he,hp,_⟩:=World.ownsMap.entries h pm_keyed
  injection he with he
  subst he
  rw [List.pairwise_map] at hp
  rw [List.Nodup,List.pairwise_map]
  exact hp.imp fun hne e=>hne (by simp [profE,e])
theorem block4 {W:World} {g:Nat} {v0 v1 v2 v3:Value} (h:W.heap[g]? = some (.cells #[v0,v1,v2,v3] PME (0,0))) :
    W.cell? ⟨g,0,none⟩=some v0∧W.cell? ⟨g,1,none⟩=some v1∧W.cell? ⟨g,2,none⟩=some v2∧W.cell? ⟨g,3,none⟩=some v3∧W.frozen? ⟨g,0,none⟩=false∧W.frozen? ⟨g,1,none⟩=false∧W.frozen? ⟨g,2,none⟩=false∧W.frozen? ⟨g,3,none⟩=false:=by
  refine ⟨?_,?_,?_,?_,?_,?_,?_,?_⟩ <;> simp [World.cell?,World.frozen?,h]
theorem put4 {W:World} {g:Nat} {u0 u1 u2 u3 v0 v1 v2 v3:Value} (h:W.heap[g]? = some (.cells #[u0,u1,u2,u3] PME (0,0))) (k:Nat) :
    ((((W.setCell ⟨g,0,none⟩ v0).setCell ⟨g,1,none⟩ v1).setCell ⟨g,2,none⟩ v2).setCell ⟨g,3,none⟩ v3).heap[k]? = if k=g then some (.cells #[v0,v1,v2,v3] PME (0,0)) else W.heap[k]? :=
  setCells_heap g PME (0,0) [v0,v1,v2,v3] 0 W _ h k
theorem put4_below {B:Nat} {a W:World} (h:Below B a W) {g:Nat} (hg:B≤g) {v0 v1 v2 v3:Value}:Below B a ((((W.setCell ⟨g,0,none⟩ v0).setCell ⟨g,1,none⟩ v1).setCell ⟨g,2,none⟩ v2).setCell ⟨g,3,none⟩ v3) :=
  (((h.setCell (p:=⟨g,0,none⟩) hg v0).setCell (p:=⟨g,1,none⟩) hg v1).setCell (p:=⟨g,2,none⟩) hg v2).setCell (p:=⟨g,3,none⟩) hg v3
theorem put3 {W:World} {g:Nat} {u0 u1 u2 u3 v1 v2 v3:Value} (h:W.heap[g]? = some (.cells #[u0,u1,u2,u3] PME (0,0))) (k:Nat) :
    (((W.setCell ⟨g,1,none⟩ v1).setCell ⟨g,2,none⟩ v2).setCell ⟨g,3,none⟩ v3).heap[k]? = if k=g then some (.cells #[u0,v1,v2,v3] PME (0,0)) else W.heap[k]? :=
  setCells_heap g PME (0,0) [v1,v2,v3] 1 W _ h k
theorem put3_grown {W:World} {g:Nat} {u0 u1 u2 u3 v1 v2 v3:Value} (h:W.heap[g]? = some (.cells #[u0,u1,u2,u3] PME (0,0))) :
    W.grownBy (((W.setCell ⟨g,1,none⟩ v1).setCell ⟨g,2,none⟩ v2).setCell ⟨g,3,none⟩ v3) (some g):=by
  have:=setCells_rest g [v1,v2,v3] 1 W
  exact ⟨this.1,this.2.1,this.2.2.1,Nat.le_of_eq this.2.2.2.symm,fun i hi hne=>by rw [put3 h,if_neg (fun e=>hne (by rw [e]))]⟩
/-- What has come. -/
theorem came {l:ProfT} {x:Int} {kl:Lit} {c:SpT} {y1:DataW SpT} {y2:List MemPlace} (hk:keyOf Try.prog PMK (.int .u16 x)=some kl) (hv:spR (spV c)=some (y1,y2)) (hat:∀ zd,(profD l).atKey kl zd=y1):kl=.int .u16 x∧profGet l x=some c:=by
  obtain ⟨x',e,rfl,_⟩:=Maps.keyOf_int_inv pmk_und hk
  injection e with _ e
  subst e
  rw [spR_V] at hv
  simp only [Option.some.injEq,Prod.mk.injEq] at hv
  obtain ⟨rfl,rfl⟩:=hv
  refine ⟨rfl,?_⟩
  have h1:=hat (.lit (.int .i64 1))
  rw [profD_at] at h1
  cases hg:profGet l x with
  | none=>rw [hg] at h1; cases h1
  | some v=>rw [hg] at h1; simp at h1; rw [h1]
theorem wrap64_wrap (a:Int):wrap64 a=IntKind.wrap .i64 a:=by rw [IntKind.wrap_i64]; unfold wrap64; rfl
theorem sum_walk (b:Nat) (w:World) (x:Option Nat) (l:ProfT) (hc:w.cell? ⟨b,0,none⟩=some (.map x)) (hm:PMapIs w x l) :
    Calls Try.prog 9 #[.pointer (some ⟨b,0,none⟩)] w fun e w'=>e=.returned (spV (profSum l))∧Below w.heap.size w w':=by
  cases x with
  | none =>
    have h:l=[]:=hm
    subst h
    have hc':∀ o o',_:=fun o o'=>cell_alloc (cell_alloc hc o) o'
    have hrg:∀ W:World,_:=fun W=>run_range_nilMap (P:=Try.prog) W PMT PMK PME pmt_und
    have hnx:∀ (o o':Obj) ty,(Instr.next (.pointer (some ⟨w.heap.size+1+1,0,none⟩)) false ty).run Try.prog (((w.alloc o).alloc o').alloc (.mapIter none 0 #[] 0))=.ok (.tuple #[.bool false]) (((w.alloc o).alloc o').alloc (.mapIter none 0 #[] 0)):=fun o o' ty=>by
      have:=run_next_nilMap (P:=Try.prog) ((w.alloc o).alloc o') ty 0 0 #[]
      rw [alloc_size,alloc_size] at this
      exact this
    go_enter Try.func9,Try.ntmps9
    go_wp2
    refine wp_loop_rounds 1 ?_
    rw [rounds_succ]
    go_wp2
    refine bodyPost_ret_by (res_cell rfl _ _ w.heap.size 35 sp0 (0,0) rfl ?_) rfl ⟨rfl,?_⟩
    · rw [(MapKept.heap_alloc _ _).2 _ (by rw [alloc_size,alloc_size]; omega)]
      exact heap_alloc2_old w _ _
    · exact (((Below.refl w.heap.size w).alloc (Nat.le_refl _) _).alloc (by rw [alloc_size]; omega) _).alloc (by rw [alloc_size,alloc_size]; omega) _
  | some m =>
    have hc':∀ o o',_:=fun o o'=>cell_alloc (cell_alloc hc o) o'
    have hnd:=keys_nodup hm
    have hml:=hm.lt
    have hbl:=cell_lt hc
    have e2:∀ o o',((w.alloc o).alloc o').heap.size=w.heap.size+2:=fun o o'=>by rw [alloc_size,alloc_size]
    go_enter Try.func9,Try.ntmps9
    go_wp2_with (first
      | (at_range; refine wpList_range_own _ rfl _ PMT rfl PMK PME pm_keyed pmt_und _ m l.length _ rfl ((World.ownsMap.alloc (World.ownsMap.alloc hm _) _)) ?_; intro w0 hrg0 hg0 hs0)
      | go_in)
    go_frame
    rw [e2] at hrg0 hs0 ⊢
    go_loopw [] (fun wr=>∃ (left:Lit→Bool) (cnt:Nat),wr.ranges Try.prog PMK spR m (w.heap.size+2) l.length (profD l) left cnt∧wr.heap[w.heap.size]? = some (.cells #[.int .u16 0,.int .i64 0,.int .i64 0,.int .i64 0] PME (0,0)) ∧
        wr.heap[w.heap.size+1]? = some (.cells #[.int .u16 0,.int .i64 (IntKind.wrap .i64 (sumL (·.2.1) l left)),.int .i64 (IntKind.wrap .i64 (sumL (·.2.2.1) l left)),.int .i64 (IntKind.wrap .i64 (sumL (·.2.2.2) l left))] PME (0,0))∧Below w.heap.size w wr)
      (fun wr=>wr.rangeLeft m (w.heap.size+2))
    case atStart =>
      refine ⟨_,_,hrg0,?_,?_,?_⟩
      · rw [hg0.block _ (by rw [e2]; omega) (by simp)]
        exact heap_alloc2_old w _ _
      · rw [hg0.block _ (by rw [e2]; omega) (by simp),sumL_start,sumL_start,sumL_start]
        exact heap_alloc2_new w _ _
      · exact (((Below.refl w.heap.size w).alloc (Nat.le_refl _) _).alloc (by rw [alloc_size]; omega) _).grown hg0 (by rw [e2]; omega) (fun j hj=>by cases hj)
    case round =>
      obtain ⟨left,cnt,hrg,h2,h3,hbw⟩:=hrel
      have hsz:=hrg.lt
      obtain ⟨c0,c1,c2,c3,f0,f1,f2,f3⟩:=block4 h3
      obtain ⟨_,_,_,_,q0,q1,q2,q3⟩:=block4 h2
      go_wp2_with (first
        | (at_next; refine wpList_next_ranges (α:=Int) (β:=SpT) _ rfl _ rfl PMK pm_keyed spR (Value.int .u16) spV (fun key kl hkey=>by obtain ⟨x,rfl,_⟩:=Maps.keyOf_int_inv pmk_und hkey; exact ⟨x,rfl⟩) (fun v y hv=>by obtain ⟨c,rfl,_⟩:=spR_inv hv; exact ⟨c,rfl⟩) m (w.heap.size+2) l.length _ _ _ rfl hrg ?_ ?_)
        | go_in)
      · intro hc0 hl0
        rw [sumL_end _ _ hl0,sumL_end _ _ hl0,sumL_end _ _ hl0] at h3
        go_wp2
        refine bodyPost_ret_by (res_cell rfl _ _ w.heap.size PME (profSum l) (0,0) rfl ?_) rfl ⟨rfl,?_⟩
        · rw [put4 h2,if_pos rfl,sumL_end _ _ hl0,sumL_end _ _ hl0,sumL_end _ _ hl0]
          simp only [profSum,IntKind.wrap_i64,wrap64]
        · exact put4_below hbw (Nat.le_refl _)
      · intro x a1 a2 a3 a4 kl y1 y2 w1 cnt1 hkx hlx hvc hat hrg1 hlt hg1 hs1 hen
        have h2':w1.heap[w.heap.size]? = _:=(hg1.block _ (by omega) (by simp)).trans h2
        have h3':w1.heap[w.heap.size+1]? = _:=(hg1.block _ (by omega) (by simp)).trans h3
        simp only [spV] at hen ⊢
        clear c0 c1 c2 c3 f0 f1 f2 f3 q0 q1 q2 q3
        have h3A:∀ o,(w1.alloc o).heap[w.heap.size+1]? = _:=fun o=>((MapKept.heap_alloc w1 o).2 _ (by omega)).trans h3'
        have c1:∀ o,_:=fun o=>(block4 (h3A o)).2.1
        have c2:∀ o,_:=fun o=>(block4 (h3A o)).2.2.1
        have c3:∀ o,_:=fun o=>(block4 (h3A o)).2.2.2.1
        have f1:∀ o,_:=fun o=>(block4 (h3A o)).2.2.2.2.2.1
        have f2:∀ o,_:=fun o=>(block4 (h3A o)).2.2.2.2.2.2.1
        have f3:∀ o,_:=fun o=>(block4 (h3A o)).2.2.2.2.2.2.2
        clear h3A
        have hne:w.heap.size+1 < w1.heap.size:=by omega
        go_wp2
        obtain ⟨rfl,hget⟩:=came (c:=(a1,a2,a3,a4)) hkx hvc hat
        have hst:∀ f:SpT→Int,sumL f l (fun z=>left z&&!z.sameKey (.int .u16 x))=sumL f l left+f (a1,a2,a3,a4):=fun f=>sumL_step f hnd hlx hget
        have h3A:∀ o,(w1.alloc o).heap[w.heap.size+1]? = _:=fun o=>((MapKept.heap_alloc w1 o).2 _ (by omega)).trans h3'
        have h2A:∀ o,(w1.alloc o).heap[w.heap.size]? = _:=fun o=>((MapKept.heap_alloc w1 o).2 _ (by omega)).trans h2'
        have hG:=put3_grown (h3A (.cells #[.int .u16 a1,.int .i64 a2,.int .i64 a3,.int .i64 a4] PME)) (v1:=.int .i64 (wrap64 (wrap64 (sumL (fun x=>x.2.1) l left)+a2))) (v2:=.int .i64 (wrap64 (wrap64 (sumL (fun x=>x.2.2.1) l left)+a3))) (v3:=.int .i64 (wrap64 (wrap64 (sumL (fun x=>x.2.2.2) l left)+a4)))
        have hR:=(hrg1.alloc (.cells #[.int .u16 a1,.int .i64 a2,.int .i64 a3,.int .i64 a4] PME)).kept hG (by simp; omega) (by simp)
        refine ⟨⟨_,cnt1,hR,?_,?_,?_⟩,?_⟩
        · rw [put3 (h3A _),if_neg (by omega)]
          exact h2A _
        · rw [put3 (h3A _),if_pos rfl,hst,hst,hst]
          simp only [wrap64_wrap,wrap_add]
        · have hb1:Below w.heap.size w w1:=hbw.grown hg1 hbw.size (fun j hj=>by cases hj; omega)
          exact ((hb1.alloc hb1.size _).grown hG (by rw [alloc_size]; have:=hb1.size; omega) (fun j hj=>by cases hj; omega))
        · rw [hR.left_eq,hrg.left_eq]; exact hlt
end Go.Proofs.YtoemlgdlejkliaaK
