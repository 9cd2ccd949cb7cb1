/- Package prof, by hand: Top. -/
import Derived.Test.YtoemlgdlejkliaaPc
namespace Go.Proofs.YtoemlgdlejkliaaK
set_option linter.unusedVariables false
set_option linter.unusedSimpArgs false
set_option maxRecDepth 100000
set_option maxHeartbeats 4000000
open Go.RowKit Go.Shelf Go.Sort Go.WideMaps Go.ChangeMaps Go.MapKept
def spVs (s:SpT):List Value:=[.int .u16 s.1,.int .i64 s.2.1,.int .i64 s.2.2.1,.int .i64 s.2.2.2]
theorem cmpZ_neg (x y:Int):cmpZ x y < 0↔x < y:=by unfold cmpZ; split <;> (try split) <;> omega
theorem cmpZ_zero (x y:Int):cmpZ x y=0↔x=y:=by unfold cmpZ; split <;> (try split) <;> omega
theorem spC_lt (x y:SpT):ltOf spC x y=decide (y.2.2.1 < x.2.2.1∨y.2.2.1=x.2.2.1∧x.1 < y.1):=by
  unfold ltOf spC
  congr 1
  rw [eq_iff_iff]
  split
  · rename_i h
    rw [cmpZ_zero] at h
    rw [cmpZ_neg]
    omega
  · rename_i h
    rw [cmpZ_zero] at h
    rw [cmpZ_neg]
    omega
theorem spC_swo:SWO (ltOf spC) where
  irrefl x:=by rw [spC_lt]; simp
  trans x y z h1 h2:=by rw [spC_lt] at *; simp only [decide_eq_true_eq] at *; omega
  ntrans x y z h1 h2:=by rw [spC_lt] at *; simp only [decide_eq_false_iff_not] at *; omega
theorem spC_lays (blk off size:Nat) (w:World):CmpLays Try.prog 20 #[] spVs 4 spC blk off size w :=
  fun _ _ _ _ x y=>compare_walk x y _
/-- The counts, those with most cycles first. -/
def profSort (xs:List SpT):List SpT:=xs.mergeSort fun x y=>!(ltOf spC) y x
theorem sort_unique {xs ys:List SpT} {l:ProfT} (hp:ys.Perm xs) (hl:xs.Perm (l.map (·.2))) (hk:∀ p∈l,p.2.1=p.1) (hn:(l.map (·.1)).Nodup) (hs:ys.Pairwise fun x y=>ltOf spC y x=false):ys=profSort (l.map (·.2)):=by
  have tr:∀ a b c:SpT,(!(ltOf spC) b a)=true→(!(ltOf spC) c b)=true→(!(ltOf spC) c a)=true:=fun a b c h1 h2=>by
    simp only [Bool.not_eq_true'] at *
    exact spC_swo.ntrans c b a h2 h1
  have to:∀ a b:SpT,((!(ltOf spC) b a)||(!(ltOf spC) a b))=true:=fun a b=>by
    cases h:ltOf spC b a with
    | false=>simp
    | true=>simp [spC_swo.asymmA h]
  have key:∀ (l:ProfT),(l.map (·.1)).Nodup→(∀ p∈l,p.2.1=p.1)→∀ p∈l,∀ q∈l,p.2.1=q.2.1→p=q:=by
    intro l
    induction l with
    | nil=>intro _ _ p hp; simp at hp
    | cons a r ih =>
      intro hn hk p hp q hq e
      rw [List.map_cons,List.nodup_cons] at hn
      have e':p.1=q.1:=by rw [← hk p hp,← hk q hq,e]
      rcases List.mem_cons.1 hp with h1 | h1 <;> rcases List.mem_cons.1 hq with h2 | h2
      · rw [h1,h2]
      · exact absurd (by rw [← h1,e']; exact List.mem_map_of_mem h2) hn.1
      · exact absurd (by rw [← h2,← e']; exact List.mem_map_of_mem h1) hn.1
      · exact ih hn.2 (fun p hp=>hk p (List.mem_cons_of_mem _ hp)) p h1 q h2 e
  unfold profSort
  refine List.Perm.eq_of_pairwise (le:=fun x y=>(!(ltOf spC) y x)=true) (fun a b ha hb h1 h2 => ?_) (hs.imp fun h=>by rw [h]; rfl) (List.pairwise_mergeSort tr to _) ((hp.trans hl).trans (List.mergeSort_perm _ _).symm)
  have ha':=(hp.trans hl).mem_iff.1 ha
  have hb':=(List.mergeSort_perm _ _).mem_iff.1 hb
  obtain ⟨p,hp,rfl⟩:=List.mem_map.1 ha'
  obtain ⟨q,hq,rfl⟩:=List.mem_map.1 hb'
  simp only [Bool.not_eq_true',spC_lt,decide_eq_false_iff_not] at h1 h2
  rw [key l hn hk p hp q hq (by omega)]
/-- A row of counts that is new. -/
def RowV (W:World) (base:Nat) (v:Value) (xs:List SpT):Prop:=∃ A cap,v=.slice A xs.length cap∧xs.length≤cap∧cap≤maxLen ∧
  (xs.length=0∨∃ g,A=some ⟨g,0,none⟩∧base≤g∧g < W.heap.size∧∀ j u,(xs.flatMap spVs)[j]? = some u→W.cell? ⟨g,j,none⟩=some u)
def profTop (l:ProfT) (many:Int):List SpT:=(profSort (l.map (·.2))).take (min (max many 0) ((profSort (l.map (·.2))).length:Int)).toNat
theorem spf_len (ys:List SpT):(ys.flatMap spVs).length=ys.length*4:=by
  induction ys with
  | nil=>rfl
  | cons y r ih=>rw [List.flatMap_cons,List.length_append,ih]; simp [spVs]; omega
theorem spf_get:∀ (ys:List SpT) (t:Nat),t < ys.length*4→(ys.flatMap spVs)[t]? = (spVs (ys[t / 4]!))[t % 4]?
  | [],t,h=>by simp at h
  | y::r,t,h=>by
    rw [List.flatMap_cons]
    rcases Nat.lt_or_ge t 4 with h4 | h4
    · rw [List.getElem?_append_left (by simpa [spVs] using h4),Nat.div_eq_of_lt h4,Nat.mod_eq_of_lt h4]; rfl
    · obtain ⟨q,rfl⟩:∃ q,t=q+4:=⟨t - 4,by omega⟩
      rw [List.getElem?_append_right (by simp [spVs]),show q+4 - (spVs y).length=q by simp [spVs],spf_get r q (by simp at h; omega),Nat.add_mod_right,Nat.add_div_right _ (by omega)]
      rfl
theorem spf_eq (ys:List SpT):flatK spVs 4 ys.toArray=(ys.flatMap spVs).toArray:=by
  refine ext_get! (by rw [size_flatK,List.size_toArray,List.size_toArray,spf_len]) fun t ht => ?_
  have ht':t < ys.length*4:=by simpa using ht
  rw [get_flatK spVs 4 ys.toArray t (by simpa using ht')]
  have h:=spf_get ys t ht'
  have e1:(ys.toArray)[t / 4]! = ys[t / 4]! := by simp
  rw [e1]
  have h2:((ys.flatMap spVs).toArray)[t]! = ((ys.flatMap spVs)[t]?).getD default:=by
    rw [getElem!_def]; simp; rfl
  have h3:(spVs (ys[t / 4]!))[t % 4]! = ((spVs (ys[t / 4]!))[t % 4]?).getD default:=by
    rw [getElem!_def]; simp; rfl
  rw [h2,h3,h]
theorem pm_agg (w:World):(isAgg (Try.sortf19_ren.t 24)).run Try.prog w=.ok true w:=Try.isAgg35 w
theorem pm_size (w:World):(Go.sizeOf (Try.sortf19_ren.t 24)).run Try.prog w=.ok 4 w:=Try.sizeOf35 w
/-- The row is sorted. -/
theorem sortf_walk (g cap:Nat) (xs:List SpT) (W:World) (cur:Array Value) (hg:W.heap[g]? = some (.cells cur PME (0,0))) (hx:cur.toList.take (xs.length*4)=xs.flatMap spVs) (hs:xs.length < 4611686018427387904) :
    Calls Try.prog 19 #[.slice (some ⟨g,0,none⟩) xs.length cap,.func (.func 20) #[] #[]] W fun e w'=>e=.returned (.tuple #[]) ∧
      ∃ ys:List SpT,ys.Perm xs∧(ys.Pairwise fun x y=>ltOf spC y x=false)∧(∀ j u,(ys.flatMap spVs)[j]? = some u→w'.cell? ⟨g,j,none⟩=some u)∧Below g W w':=by
  have hgl:g < W.heap.size:=(Array.getElem?_eq_some_iff.1 hg).1
  have hH:HoldsK spVs 4 W g 0 xs.toArray:=by
    intro j hj
    rw [spf_eq] at hj ⊢
    have hj:j < (xs.flatMap spVs).length:=by simpa using hj
    have hj4:j < xs.length*4:=by rw [← spf_len]; exact hj
    have hc:cur[j]? = some ((xs.flatMap spVs)[j]):=by
      have:=List.getElem?_eq_getElem hj
      rw [← this,← hx,List.getElem?_take,if_pos hj4,Array.getElem?_toList]
    refine ⟨?_,?_⟩
    · simp only [World.cell?,hg,Nat.zero_add]
      rw [hc,getElem!_def]
      simp [List.getElem?_eq_getElem hj]
    · simp [World.frozen?,hg]
  have eg:∀ args w,(callFunc 20 args).run Try.prog w=.ok (.enter 20 args) w:=enters_of Try.func20 (by kernel_rfl) rfl
  have hcon:=AnyQ.slices_SortFunc Try.sortf19 4 pm_agg pm_size spVs (fun _=>rfl) (fun x v hv=>by simp [spVs] at hv; rcases hv with rfl | rfl | rfl | rfl <;> rfl) spC spC_swo 20 #[] g 0 cap xs.toArray W eg (spC_lays g 0 xs.toArray.size W) hH hgl (by simpa using hs)
  have hcon:Calls Try.prog 19 #[.slice (some ⟨g,0,none⟩) xs.length cap,.func (.func 20) #[] #[]] W _:=hcon
  refine hcon.mono ?_
  rintro e w' ⟨rfl,d',n,os,hP,hS,rfl⟩
  obtain ⟨hsz,_,hperm⟩:=hP
  have hsz:d'.size=xs.length:=by simpa using hsz
  have e1:d'.extract 0 xs.toArray.size=d':=by rw [List.size_toArray,← hsz]; exact Array.extract_size
  rw [e1,Array.extract_size] at hperm
  refine ⟨rfl,d'.toList,by simpa using hperm,?_,?_,?_⟩
  · rw [List.pairwise_iff_getElem]
    intro i j hi hj hij
    have hi':i < d'.size:=by simpa using hi
    have hj':j < d'.size:=by simpa using hj
    have:=hS i j (Nat.zero_le _) hij (by simp; omega)
    rw [getElem!_pos d' j hj',getElem!_pos d' i hi'] at this
    simpa using this
  · intro j u hj
    have hl:j < (d'.toList.flatMap spVs).length:=(List.getElem?_eq_some_iff.1 hj).1
    have hK:Holds id (Sort.grow (putRow id (Sort.ahead W n) g 0 (flatK spVs 4 d')) os) g 0 (flatK spVs 4 d') :=
      holds_grow id _ os g 0 _ (by rw [size_putRow]; exact hgl) (holds_putRow id (Sort.ahead W n) g 0 (flatK spVs 4 xs.toArray) (flatK spVs 4 d') (holds_ahead id W n g 0 _ hH) (by simp [hsz]))
    have e3:flatK spVs 4 d'=(d'.toList.flatMap spVs).toArray:=by rw [← spf_eq]
    have:=(hK j (by rw [e3]; simpa using hl)).1
    rw [Nat.zero_add] at this
    show (Sort.grow (putRow id (Sort.ahead W n) g 0 (flatK spVs 4 d')) os).cell? ⟨g,j,none⟩=some u
    rw [this,e3]
    simp only [id]
    rw [getElem!_def]
    simp [hj]
  · refine ⟨rfl,rfl,rfl,by show _≤(Sort.grow _ os).heap.size; rw [size_grow]; show _≤(putRow id (Sort.ahead W n) g 0 (flatK spVs 4 d')).heap.size+_; rw [size_putRow]; show W.heap.size≤W.heap.size+_; omega,fun k hk => ?_⟩
    have hkl:k < W.heap.size:=by omega
    show (Sort.grow (putRow id (Sort.ahead W n) g 0 (flatK spVs 4 d')) os).heap[k]? = _
    rw [heap_grow_old _ _ (by rw [size_putRow]; exact hkl)]
    show (W.heap.modify g (onCells (putCells id 0 (flatK spVs 4 d'))))[k]? = _
    rw [Array.getElem?_modify,if_neg (by omega)]
theorem come_none (l:ProfT):(l.filter fun p=>!(Maps.has (profD l) (.int .u16 p.1)))=[]:=by
  rw [List.filter_eq_nil_iff]
  intro p hp
  rw [profD_has]
  unfold profGet
  rw [Option.isSome_map]
  have:(l.find? fun q=>q.1 == p.1).isSome=true:=by rw [List.find?_isSome]; exact ⟨p,hp,by simp⟩
  rw [this]; simp
theorem come_all (l:ProfT) {left:Lit→Bool} (h:∀ z,left z=false):(l.filter fun p=>!left (.int .u16 p.1))=l :=
  List.filter_eq_self.2 fun p _=>by rw [h]; rfl
theorem min_many (a:Int) (n:Nat):(min (max a 0) (n:Int)).toNat≤n:=by omega
theorem few_one {a b c n:Nat} (h1:a=b+1) (h2:c=b) (h3:a≤n):c+1≤n:=by omega
theorem few_max {a b:Nat} (h:a+1≤b) (hl:(b+1)*32≤140737488355328):a+1≤maxLen:=by unfold maxLen; omega
theorem few_bytes {a b:Nat} (h:a+1≤b) (hl:(b+1)*32≤140737488355328):(a+1)*32≤140737488355328:=by omega
theorem new4 (W:World) (o:Obj) (s:SpT):∀ j u,(spVs s)[j]? = some u→((W.alloc o).alloc (.cells #[.int .u16 s.1,.int .i64 s.2.1,.int .i64 s.2.2.1,.int .i64 s.2.2.2] PME)).cell? ((⟨W.heap.size+1,0,none⟩:Addr).add j)=some u:=by
  intro j u hj
  have h:=heap_alloc2_new W o (.cells #[.int .u16 s.1,.int .i64 s.2.1,.int .i64 s.2.2.1,.int .i64 s.2.2.2] PME)
  obtain ⟨h0,h1,h2,h3,_⟩:=block4 h
  match j,hj with
  | 0,hj=>exact h0.trans hj
  | 1,hj=>exact h1.trans hj
  | 2,hj=>exact h2.trans hj
  | 3,hj=>exact h3.trans hj
theorem few_len {a b:Nat} (h:a≤b) (hl:(b+1)*32≤140737488355328):a < 4611686018427387904:=by omega
theorem top_walk (b:Nat) (w:World) (x:Option Nat) (l:ProfT) (many:Int) (hc:w.cell? ⟨b,0,none⟩=some (.map x)) (hm:PMapIs w x l) (hl:(l.length+1)*32≤140737488355328) (hk:∀ p∈l,p.2.1=p.1) :
    Calls Try.prog 11 #[.pointer (some ⟨b,0,none⟩),.int .i64 many] w fun e w'=>∃ v,e=.returned v∧RowV w' w.heap.size v (profTop l many)∧Below w.heap.size w w':=by
  cases x with
  | none =>
    have h:l=[]:=hm
    subst h
    have hrg:∀ W:World,_:=fun W=>run_range_nilMap (P:=Try.prog) W PMT PMK PME pmt_und
    have hnx:∀ ty,(Instr.next (.pointer (some ⟨w.heap.size,0,none⟩)) false ty).run Try.prog (w.alloc (.mapIter none 0 #[] 0))=_:=fun ty=>run_next_nilMap (P:=Try.prog) w ty 0 0 #[]
    have hnone:=fun W:World=>AnyF.slices_SortFunc_none Try.sortf19 none 0 (.func (.func 20) #[] #[]) W
    have hnone:∀ W,Calls Try.prog 19 _ W _:=hnone
    go_enter Try.func11,Try.ntmps11
    go_wp2
    refine wp_loop_rounds 1 ?_
    rw [rounds_succ]
    go_wp2_with (go_at_call 19; refine (hnone _).mono ?_; rintro e w' ⟨rfl,rfl⟩)
    go_ret
    have e0:profTop [] many=[]:=by simp [profTop,profSort]
    have e1:(min (max many 0) 0).toNat=0:=by omega
    refine ⟨_,rfl,?_,(Below.refl w.heap.size w).alloc (Nat.le_refl _) _⟩
    rw [e0,e1]
    exact ⟨none,0,rfl,Nat.le_refl _,Nat.zero_le _,.inl rfl⟩
  | some m =>
    have hnd:=keys_nodup hm
    have hml:=hm.lt
    have hbl:=cell_lt hc
    go_enter Try.func11,Try.ntmps11
    go_wp2_with (first
      | (at_range; refine wpList_range_own _ rfl _ PMT rfl PMK PME pm_keyed pmt_und _ m l.length _ rfl hm ?_; intro w0 hrg0 hg0 hs0)
      | go_in)
    go_frame
    go_loopw [5] (fun vo wr=>∃ (left:Lit→Bool) (cnt:Nat) (xs:List SpT),wr.ranges Try.prog PMK spR m w.heap.size l.length (profD l) left cnt∧wr.ownsRow (w.heap.size+1) PME 4 vo xs.length (xs.flatMap spVs) ∧
        xs.Perm ((l.filter fun p=>!left (.int .u16 p.1)).map (·.2))∧Below w.heap.size w wr)
      (fun _ wr=>wr.rangeLeft m w.heap.size)
    case atStart =>
      refine ⟨_,_,[],hrg0,World.ownsRow_nil _ _ _ _,?_,(Below.refl w.heap.size w).grown hg0 (Nat.le_refl _) (fun j hj=>by cases hj)⟩
      rw [come_none]; exact List.Perm.refl _
    case round =>
      obtain ⟨left,cnt,xs,hrg,hrow,hpm,hbw⟩:=hrel
      have hsz:=hrg.lt
      have hxl:xs.length≤l.length:=by rw [hpm.length_eq,List.length_map]; exact List.length_filter_le _ _
      go_wp2_with (first
        | (at_next; refine wpList_next_ranges (α:=Int) (β:=SpT) _ rfl _ rfl PMK pm_keyed spR (Value.int .u16) spV (fun key kl hkey=>by obtain ⟨x,rfl,_⟩:=Maps.keyOf_int_inv pmk_und hkey; exact ⟨x,rfl⟩) (fun v y hv=>by obtain ⟨c,rfl,_⟩:=spR_inv hv; exact ⟨c,rfl⟩) m w.heap.size l.length _ _ _ rfl hrg ?_ ?_)
        | go_in)
      · intro hc0 hl0
        rw [come_all l hl0] at hpm
        rcases hrow.2 with ⟨rfl,hx0⟩ | ⟨g,cap,cur,rfl,hbase,hg,h1,h2,h3,h4⟩
        · obtain rfl:xs=[]:=List.eq_nil_of_length_eq_zero hx0
          obtain rfl:l=[]:=by
            have:=hpm.length_eq
            rw [List.length_map] at this
            exact List.eq_nil_of_length_eq_zero this.symm
          have hnone:=AnyF.slices_SortFunc_none Try.sortf19 none 0 (.func (.func 20) #[] #[]) wr
          have hnone:Calls Try.prog 19 _ _ _:=hnone
          go_wp2_with (go_at_call 19; refine hnone.mono ?_; rintro e w' ⟨rfl,rfl⟩)
          go_ret
          have e0:profTop [] many=[]:=by simp [profTop,profSort]
          have e1:(min (max many 0) 0).toNat=0:=by omega
          refine ⟨_,rfl,?_,hbw⟩
          rw [e0,e1]
          exact ⟨none,0,rfl,Nat.le_refl _,Nat.zero_le _,.inl rfl⟩
        · have hsort:=sortf_walk g cap xs wr cur hg h4 (few_len hxl hl)
          clear hrg
          go_wp2_with (go_at_call 19; refine hsort.mono ?_; rintro e w' ⟨rfl,ys,hy1,hy2,hy3,hy4⟩)
          go_ret
          have hu:=sort_unique hy1 hpm hk hnd hy2
          have hyl:ys.length=xs.length:=hy1.length_eq
          have hpt:profTop l many=ys.take (min (max many 0) (xs.length:Int)).toNat:=by unfold profTop; rw [← hu,hyl]
          have hkl:(min (max many 0) (xs.length:Int)).toNat≤xs.length:=min_many _ _
          generalize (min (max many 0) (xs.length:Int)).toNat=k at hpt hkl ⊢
          have hptl:(ys.take k).length=k:=by rw [List.length_take,hyl]; exact Nat.min_eq_left hkl
          refine ⟨_,rfl,?_,hbw.trans (hy4.mono (Nat.le_of_succ_le hbase))⟩
          rw [hpt]
          refine ⟨_,cap,by rw [hptl]; rfl,by rw [hptl]; exact Nat.le_trans hkl h1,h2,.inr ⟨g,rfl,Nat.le_of_succ_le hbase,?_,fun j u hj => ?_⟩⟩
          · exact Nat.lt_of_lt_of_le (Array.getElem?_eq_some_iff.1 hg).1 hy4.size
          · refine hy3 j u ?_
            have e:ys=ys.take k++ys.drop k:=(List.take_append_drop k ys).symm
            rw [e,List.flatMap_append,List.getElem?_append_left (List.getElem?_eq_some_iff.1 hj).1]
            exact hj
      · intro x a1 a2 a3 a4 kl y1 y2 w1 cnt1 hkx hlx hvc hat hrg1 hlt hg1 hs1 hen
        obtain ⟨rfl,hget⟩:=came (c:=(a1,a2,a3,a4)) hkx hvc hat
        have hone:=(filter_one hnd hlx hget).map (·.2)
        have hlt1:xs.length+1≤l.length:=by
          have h1:=hone.length_eq
          have h2:=hpm.length_eq
          rw [List.length_map,List.length_map] at h1
          rw [List.length_map] at h2
          have h3:(l.filter fun p=>!(left (.int .u16 p.1)&&!(Lit.int .u16 p.1).sameKey (.int .u16 x))).length≤l.length:=List.length_filter_le _ _
          rw [List.length_cons] at h1
          exact few_one h1 h2 h3
        obtain ⟨i0,hi,hz0,hz1,hz2⟩:=info_parts (show (Try.prog.info? PME).map (fun i=>(i.zero,i.size,i.bytes))=some (some (spV sp0),4,32) by kernel_rfl)
        have hown1:w1.ownsRow (w.heap.size+1) PME 4 u5 xs.length (xs.flatMap spVs):=hrow.kept hg1 (by
          cases hv:u5.ownBlock with
          | none=>exact .inl rfl
          | some k=>exact .inr fun e=>by injection e with e; have:=(hrow.lt k hv).1; omega)
        simp only [spV] at hen ⊢
        have hb1:Below w.heap.size w w1:=hbw.grown hg1 hbw.size (fun j hj=>by cases hj; exact Nat.le_refl _)
        have hsz1:w.heap.size < w1.heap.size:=by rw [hs1]; exact hsz
        have hm1:xs.length+1≤maxLen:=few_max hlt1 hl
        have hm2:(xs.length+1)*32≤140737488355328:=few_bytes hlt1 hl
        have hlast:=hrg.left_eq
        clear hrow hs1 hg1 hbw
        go_wp2_with (at_builtin; refine wpList_append_own _ rfl _ _ 28 rfl (w.heap.size+1) PME i0 (spV sp0) 4 32 Try.underlying28 hi hz0 hz1 hz2 rfl (by decide) _ _ _ rfl ((hown1.alloc _).alloc _) ⟨w1.heap.size+1,0,none⟩ 1 1 (spVs (a1,a2,a3,a4)) rfl rfl (new4 w1 _ (a1,a2,a3,a4)) (fun u hu=>by simp [spVs] at hu; rcases hu with rfl | rfl | rfl | rfl <;> rfl) hm1 hm2 (by rw [alloc_size,alloc_size]; exact Nat.le_trans hsz1 (Nat.le_add_right _ 2)) ?_; intro v' w3 hown' hgrow3 hnil3)
        have hlt2:=hown1.lt
        have hR:=((hrg1.alloc (.cells #[.int .u16 a1,.int .i64 a2,.int .i64 a3,.int .i64 a4] PME)).alloc (.cells #[.int .u16 a1,.int .i64 a2,.int .i64 a3,.int .i64 a4] PME)).kept hgrow3
          (fun e=>by have:=(hlt2 _ e.symm).1; omega) (fun e=>by have:=(hlt2 _ e.symm).1; omega)
        go_roundw
        case rel =>
          refine ⟨_,cnt1,xs++[(a1,a2,a3,a4)],hR,?_,?_,?_⟩
          · rw [List.length_append,List.flatMap_append]
            simpa using hown'
          · refine (List.perm_append_singleton _ _).trans ?_
            exact (List.Perm.cons _ hpm).trans hone.symm
          · exact ((hb1.alloc hb1.size _).alloc (by rw [alloc_size]; have:=hb1.size; omega) _).grown hgrow3 (by rw [alloc_size,alloc_size]; have:=hb1.size; omega) (fun j hj=>by have:=(hlt2 _ hj).1; omega)
        case measure=>rw [hR.left_eq,hlast]; exact hlt
end Go.Proofs.YtoemlgdlejkliaaK
