/- slices.Clone and slices.Grow of counts, by hand: they make a row of their own. -/
import Derived.Test.YtoemlgdlejkliaaPh
import Derived.Lib.SliceRun
import Derived.Lib.Walk
namespace Go.Proofs.YtoemlgdlejkliaaK
set_option linter.unusedVariables false
set_option linter.unusedSimpArgs false
set_option maxRecDepth 100000
set_option maxHeartbeats 4000000
open Go.RowKit
theorem addr_add (g o j:Nat):(⟨g,o,none⟩:Addr).add j=⟨g,o+j,none⟩:=by unfold Addr.add; split <;> simp_all
theorem row_empty (w:World) (base:Nat) (hb:base≤w.heap.size):(w.alloc (.cells #[] PME)).ownsRow base PME 4 (.slice (some ⟨w.heap.size,0,none⟩) 0 0) 0 [] :=
  ⟨rfl,.inr ⟨w.heap.size,0,#[],rfl,hb,(MapKept.heap_alloc w _).1,Nat.le_refl _,Nat.zero_le _,rfl,rfl⟩⟩
theorem pm_parts:∃ i0,Try.prog.info? PME=some i0∧i0.zero=some (spV sp0)∧i0.size=4∧i0.bytes=32 :=
  info_parts (show (Try.prog.info? PME).map (fun i=>(i.zero,i.size,i.bytes))=some (some (spV sp0),4,32) by kernel_rfl)
theorem clone_walk (A:Option Addr) (cap:Nat) (xs:List SpT) (w:World) (hA:xs.length=0∨∃ g o,A=some ⟨g,o,none⟩∧g < w.heap.size∧∀ j u,(xs.flatMap spVs)[j]? = some u→w.cell? ⟨g,o+j,none⟩=some u) (hm:xs.length≤maxLen) (hb:xs.length*32≤140737488355328) :
    Calls Try.prog 17 #[.slice A xs.length cap] w fun e w'=>∃ v,e=.returned v∧w'.ownsRow w.heap.size PME 4 v xs.length (xs.flatMap spVs)∧Below w.heap.size w w':=by
  have mixed:Try.prog.follows .mixedOrders=true:=by kernel_rfl
  have q:∀ (w:World) (a:Option Addr) (n c n' c':Nat),(binOp .eql 28 (.slice a n c) (.slice none n' c')).run Try.prog w=.ok (.bool a.isNone) w:=fun w a n c n' c'=>Lib.run_eql_slice_nil w _ _ a n c n' c' Try.underlying28
  obtain ⟨i0,hi,hz0,hz1,hz2⟩:=pm_parts
  cases A with
  | none =>
    have h0:xs=[]:=by
      rcases hA with h | ⟨g,o,h,_⟩
      · exact List.eq_nil_of_length_eq_zero h
      · cases h
    subst h0
    go_enter Try.func17,Try.ntmps17
    go_wp2
    go_ret
    exact ⟨_,rfl,World.ownsRow_nil _ _ _ _,Below.refl _ _⟩
  | some ad =>
    have hnews:∀ j u,(xs.flatMap spVs)[j]? = some u→(w.alloc (.cells #[] PME)).cell? (ad.add j)=some u:=by
      intro j u hj
      rcases hA with h | ⟨g,o,h,hg,hc⟩
      · rw [List.eq_nil_of_length_eq_zero h] at hj; simp at hj
      · injection h with h
        subst h
        rw [addr_add,World.cell?_of_block (w:=w) ((MapKept.heap_alloc w _).2 g hg)]
        exact hc j u hj
    have hone:∀ u∈xs.flatMap spVs,u.oneCell'=true:=by
      intro u hu
      obtain ⟨x,_,hx⟩:=List.mem_flatMap.1 hu
      simp [spVs] at hx
      rcases hx with rfl | rfl | rfl | rfl <;> rfl
    have hflen:=spf_len xs
    go_enter Try.func17,Try.ntmps17
    go_wp2_with (at_builtin; refine wpList_append_own _ rfl _ _ 28 rfl w.heap.size PME i0 (spV sp0) 4 32 Try.underlying28 hi hz0 hz1 hz2 rfl (by decide) _ 0 [] rfl (row_empty w w.heap.size (Nat.le_refl _)) ad xs.length cap (xs.flatMap spVs) rfl hflen hnews hone (by rw [Nat.zero_add]; exact hm) (by rw [Nat.zero_add]; exact hb) (by rw [alloc_size]; exact Nat.le_succ _) ?_; intro v' w3 hown' hgrow3 hnil3)
    go_ret
    refine ⟨_,rfl,?_,((Below.refl w.heap.size w).alloc (Nat.le_refl _) _).grown hgrow3 (by rw [alloc_size]; exact Nat.le_succ _) (fun j hj=>by cases hj; exact Nat.le_refl _)⟩
    rw [Nat.zero_add,List.nil_append] at hown'
    exact hown'
theorem grow_walk (n:Nat) (w:World) (hn:n≤1000000) :
    Calls Try.prog 18 #[.slice none 0 0,.int .i64 n] w fun e w'=>∃ v,e=.returned v∧w'.ownsRow w.heap.size PME 4 v 0 []∧Below w.heap.size w w':=by
  obtain ⟨i0,hi,hz0,hz1,hz2⟩:=pm_parts
  have mixed:Try.prog.follows .mixedOrders=true:=by kernel_rfl
  by_cases h0:n=0
  · subst h0
    go_enter Try.func18,Try.ntmps18
    go_wp2
    go_ret
    exact ⟨_,rfl,World.ownsRow_nil _ _ _ _,Below.refl _ _⟩
  · have h1:(0:Int) < (n:Int):=by omega
    have h2:¬ (n:Int) < 0:=by omega
    have h3:n≤maxLen:=by unfold maxLen; omega
    have hb32:Try.t35.bytes=32:=rfl
    have hq1:¬ (281474976710656:Int) < (n:Int)*((Try.t35.bytes:Nat):Int):=by rw [hb32]; omega
    have hq2:¬ 281474976710656 < Builtin.nextslicecap n 0*Try.t35.bytes:=by rw [hb32,nextslicecap_zero (Nat.pos_of_ne_zero h0)]; omega
    have hge:=grownCap_ge w n 0 PME
    have hle:=grownCap_le_maxLen w n 0 PME h3
    unfold grownCap at hge hle
    clear hb32
    go_enter Try.func18,Try.ntmps18
    go_wp2
    all_goals first
      | (exfalso; exact absurd (by assumption) hq1)
      | (exfalso; exact absurd (by assumption) hq2)
      | skip
    go_ret
    generalize ((Question.appendCap n 0 PME).cut (w.tape w.drawn (Question.appendCap n 0 PME)))=cap at *
    refine ⟨_,rfl,⟨rfl,.inr ⟨w.heap.size,cap,_,rfl,Nat.le_refl _,(MapKept.heap_alloc w _).1,Nat.zero_le _,hle,?_,by simp⟩⟩,((Below.refl w.heap.size w).alloc (Nat.le_refl _) _).trans ⟨rfl,rfl,rfl,Nat.le_refl _,fun _ _=>rfl⟩⟩
    rw [Array.size_append,size_zeroCells,size_zeroCells]
    show n*4+(cap - n)*4=cap*4
    omega
/-- A row that is new, wherever it lies, is a block of the function's own. -/
theorem Rel.newAt {im H w w'} (h:Rel im H w) (hb:Below w.heap.size w w') {g:Nat} (hg:w.heap.size≤g) (sz:Nat) (cs:List V) (arr:Array Value) (t:TypeId) (vs:List Value) (h3:w'.heap[g]? = some (.cells arr t (0,0))) (hvs:∀ (j:Nat) (v:Value),vs[j]? = some v→arr[j]? = some v) (hr:∀ w,VRs im H w cs vs) :
    Rel (imNew im H.length g) (H++[⟨0,.grow,sz,cs⟩]) w'∧Ext im H w (imNew im H.length g) (H++[⟨0,.grow,sz,cs⟩]) w':=by
  have hgl:g < w'.heap.size:=(Array.getElem?_eq_some_iff.1 h3).1
  have s1:({ w' with heap:=w'.heap.extract 0 g }:World).heap.size=g:=by show (w'.heap.extract 0 g).size=g; rw [Array.size_extract]; omega
  have s2:({ w' with heap:=w'.heap.extract 0 (g+1) }:World).heap.size=g+1:=by show (w'.heap.extract 0 (g+1)).size=g+1; rw [Array.size_extract]; omega
  have e1:∀ k,k < g→({ w' with heap:=w'.heap.extract 0 g }:World).heap[k]? = w'.heap[k]? := fun k hk=>by show (w'.heap.extract 0 g)[k]? = _; rw [Array.getElem?_extract,if_pos (by omega),Nat.zero_add]
  have e2:∀ k,k < g+1→({ w' with heap:=w'.heap.extract 0 (g+1) }:World).heap[k]? = w'.heap[k]? := fun k hk=>by show (w'.heap.extract 0 (g+1))[k]? = _; rw [Array.getElem?_extract,if_pos (by omega),Nat.zero_add]
  obtain ⟨k1,k2⟩:=h.grow (w':={ w' with heap:=w'.heap.extract 0 g }) (by rw [s1]; exact hg) (fun k hk=>by rw [e1 k (by omega)]; exact hb.block k hk) hb.os hb.tape hb.output
  obtain ⟨m1,m2⟩:=k1.newW .grow sz cs arr t (0,0) vs nofun (fun j _ h=>by omega) hvs (hr _) { w' with heap:=w'.heap.extract 0 (g+1) } (by rw [s1,s2]) (fun k hk=>by rw [s1] at hk; rw [e1 k hk,e2 k (by omega)]) (by rw [s1,e2 g (by omega)]; exact h3) rfl rfl rfl
  rw [s1] at m1 m2
  obtain ⟨n1,n2⟩:=m1.grow (w':=w') (by rw [s2]; exact hgl) (fun k hk=>by rw [s2] at hk; exact (e2 k hk).symm) rfl rfl rfl
  exact ⟨n1,(k2.trans m2).trans n2⟩
theorem row_fresh {n0:Nat} {m:FuncId} {args:List V} {L:Hp} {xs:List SpT} {cs:List V} (hm:Nat.blt m 4294967296=true) (hn:n0≤L.length) (hst:statics args=true) (hcs:∀ im H w,VRs im H w cs (xs.flatMap spVs)) (hcst:statics cs=true)
    (h:∀ im H w cargs,Rel im H w→VRs im H w args cargs→Calls Try.prog m cargs.toArray w fun e w'=>∃ v,e=.returned v∧w'.ownsRow w.heap.size PME 4 v xs.length (xs.flatMap spVs)∧Below w.heap.size w w') :
    CalL n0 Try.prog m args L (.ref L.length 0 0 xs.length) (L++[⟨0,.grow,4,cs⟩]):=by
  refine ⟨by simp,fun ρ G hE => ?_⟩
  intro im w cargs hr ha
  rw [CallsD.st hm]
  rw [rns_stat _ _ hst] at ha
  have hsn:=hE.snoc L ⟨0,.grow,4,cs⟩ hn
  have hsn:G L++[⟨0,.grow,4,cs⟩]=G (L++[⟨0,.grow,4,cs⟩]):=by simpa only [Blk.rn,rns_stat _ _ hcst] using hsn
  have hlen:=hE.len L hn
  refine (h im _ w cargs hr ha).mono ?_
  rintro e w' ⟨v,rfl,hrow,hb⟩
  rw [← hsn]
  have hget:(G L++[(⟨0,.grow,4,cs⟩:Blk)])[ρ L.length]? = some ⟨0,.grow,4,cs⟩:=by rw [getElem?_snoc,if_pos hlen.symm]
  rcases hrow.2 with ⟨rfl,h0⟩ | ⟨g,cap,cur,rfl,hbase,hg,h1,h2,h3,h4⟩
  · obtain rfl:xs=[]:=List.eq_nil_of_length_eq_zero h0
    obtain rfl:cs=[]:=by
      have:=hcs im (G L) w
      cases cs with
      | nil=>rfl
      | cons a r=>exact this.elim
    obtain ⟨k1,k2⟩:=hr.grow hb.size (fun k hk=>hb.block k hk) hb.os hb.tape hb.output
    obtain ⟨m1,m2⟩:=k1.nilk 4 .grow (.inl rfl)
    refine ⟨_,_,rfl,m1,k2.trans m2,rfl,⟨0,.grow,4,[]⟩,hget,Nat.le_refl _,fun _ _=>⟨none,0,rfl,Nat.le_refl _,Nat.zero_le _,.inl ⟨rfl,fun a e=>by cases e⟩⟩⟩
  · obtain ⟨m1,m2⟩:=hr.newAt hb hbase 4 cs cur PME (xs.flatMap spVs) hg (fun j v hj=>by
      have hj':=hj
      have hl:=(List.getElem?_eq_some_iff.1 hj).1
      rw [hrow.1] at hl
      rw [← h4,List.getElem?_take,if_pos hl,Array.getElem?_toList] at hj'
      exact hj') (fun w=>hcs im (G L) w)
    refine ⟨_,_,rfl,m1,m2,rfl,⟨0,.grow,4,cs⟩,hget,Nat.le_refl _,fun _ _=>⟨some ⟨g,0,none⟩,cap,rfl,h1,h2,.inr ⟨g,?_,rfl,?_⟩⟩⟩
    · rw [imNew_f,if_pos hlen.symm]
    · unfold rowSize
      rw [hg]
      show 0+cap*4≤cur.size
      omega
theorem spCs_of {im:Im} {H:Hp} {w:World}:∀ (xs:List SpT) (vs:List Value),VRs im H w (xs.flatMap spCs) vs→vs=xs.flatMap spVs
  | [],[],_=>rfl
  | [],_::_,h=>h.elim
  | x::r,vs,h=>by
    rw [List.flatMap_cons] at h
    match vs,h with
    | a::b::c::d::vs,h =>
      obtain ⟨h1,h2,h3,h4,h5⟩:=h
      have h1:a=.int .u16 x.1:=h1
      have h2:b=.int .i64 x.2.1:=h2
      have h3:c=.int .i64 x.2.2.1:=h3
      have h4:d=.int .i64 x.2.2.2:=h4
      rw [List.flatMap_cons,← spCs_of r vs h5,h1,h2,h3,h4]
      rfl
theorem spCs_stat:∀ xs:List SpT,statics (xs.flatMap spCs)=true
  | []=>rfl
  | x::r=>by rw [List.flatMap_cons,stat_app,spCs_stat r]; rfl
theorem cat_spCs {α:Type} (un:α→SpT) (g:α→List V) (hg:∀ a,g a=spCs (un a)) (s:List α):cat g s=(s.map un).flatMap spCs:=by
  unfold cat
  rw [List.flatMap_def,List.map_map,show g=spCs ∘ un from funext hg]
/-- A copy is a row of one's own. -/
theorem spots_clone {α:Type} (un:α→SpT) (g:α→List V) (hg:∀ a,g a=spCs (un a)) (s:List α) {n0:Nat} {L:Hp} (hn:Nat.ble n0 L.length=true) (hs:s.length*32≤140737488355328) :
    CalL n0 Try.prog 17 [.sl false s.length (cat g s)] L (.ref L.length 0 0 s.length) (L++[⟨0,.grow,4,cat g s⟩]):=by
  have e:=cat_spCs un g hg s
  have hl:s.length=(s.map un).length:=by rw [List.length_map]
  rw [e,hl]
  rw [hl] at hs
  generalize s.map un=xs at *
  refine row_fresh rfl (Nat.le_of_ble_eq_true hn) (by show (statics _&&true)=true; rw [spCs_stat]; rfl) (fun im H w=>sp_vrs xs) (spCs_stat xs) ?_
  intro im H w cargs hr ha
  match cargs,ha with
  | [c],ha =>
    obtain ⟨A,cap,rfl,h1,h2,_,h4⟩:=ha.1
    refine clone_walk A cap xs w ?_ (Nat.le_trans h1 h2) hs
    rcases h4 with h4 | ⟨k,o,vs,hA,ho,hgl,hat,hvs⟩
    · exact .inl h4
    · refine .inr ⟨k,o,hA,hgl,fun j u hj=>hat j u ?_⟩
      rw [spCs_of xs vs hvs]
      exact hj
/-- Room: an empty row of one's own. -/
theorem spots_grow {α:Type} (g:α→List V) (n:Int) {n0:Nat} {L:Hp} (hn:Nat.ble n0 L.length=true) (h:0≤n∧n≤1000000) :
    CalL n0 Try.prog 18 [.s (.slice none 0 0),.s (.int .i64 n)] L (.ref L.length 0 0 0) (L++[⟨0,.grow,4,cat g ([]:List α)⟩]):=by
  obtain ⟨k,rfl⟩:=Int.eq_ofNat_of_zero_le h.1
  refine row_fresh (xs:=[]) (cs:=[]) rfl (Nat.le_of_ble_eq_true hn) rfl (fun im H w=>trivial) rfl ?_
  intro im H w cargs hr ha
  match cargs,ha with
  | [c,d],ha =>
    have h1:c=.slice none 0 0:=ha.1
    have h2:d=.int .i64 (k:Int):=ha.2.1
    subst h1 h2
    exact grow_walk k w (by omega)
theorem CalL.told {n0:Nat} {P:Program} {m:FuncId} {args:List V} {L L0 L' L1:Hp} {r r0:V} (h:CalL n0 P m args L0 r0 L1) (e:L=L0) (e1:r0=r) (e2:L1=L'):CalL n0 P m args L r L':=by
  subst e e1 e2; exact h
end Go.Proofs.YtoemlgdlejkliaaK
