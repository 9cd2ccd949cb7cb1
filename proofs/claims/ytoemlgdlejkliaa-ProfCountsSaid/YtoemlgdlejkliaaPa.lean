/- Package prof, by hand: Add. -/
import Derived.Test.YtoemlgdlejkliaaPt
import Derived.Deep.RegionHeld3
namespace Go.Proofs.YtoemlgdlejkliaaK
set_option linter.unusedVariables false
set_option linter.unusedSimpArgs false
set_option maxRecDepth 100000
set_option maxHeartbeats 4000000
open Go.RowKit Go.Shelf Go.Sort Go.WideMaps Go.ChangeMaps Go.MapKept
/-- A part, in the machine; what is told of it. -/
structure PartM where
  A:Option Addr
  n:Nat
  cap:Nat
  e:Bool
  at_:Int
  ok:Bool
  own:Int
  lost:Int
def PartM.v (p:PartM):Value:=.agg #[.slice p.A p.n p.cap,.bool p.e]
def profAdd (l:ProfT) (q:Int × Bool × Int × Int):ProfT :=
  if q.2.1=true then profPut l q.1 (q.1,IntKind.wrap .i64 (((profGet l q.1).getD sp0).2.1+1),IntKind.wrap .i64 (((profGet l q.1).getD sp0).2.2.1+q.2.2.1),IntKind.wrap .i64 (((profGet l q.1).getD sp0).2.2.2+q.2.2.2)) else l
def PartM.q (p:PartM):Int × Bool × Int × Int:=(p.at_,p.ok,p.own,p.lost)
/-- Nothing that was there has turned but the counts. -/
structure KeepW (w W:World) (b:Nat) (x:Option Nat):Prop where
  os:W.os=w.os
  tape:W.tape=w.tape
  output:W.output=w.output
  size:w.heap.size≤W.heap.size
  keep:∀ k,k < w.heap.size→k ≠ b→x ≠ some k→W.heap[k]? = w.heap[k]?
theorem PTabW.kept {w w':World} {b:Nat} {x x':Option Nat} {l:ProfT} (h:PTabW w w' b x x' l):KeepW w w' b x:=⟨h.os,h.tape,h.output,h.size,h.keep⟩
theorem KeepW.below {w W W':World} {b:Nat} {x:Option Nat} {B:Nat} (h:KeepW w W b x) (hb:Below B W W') (hB:w.heap.size≤B):KeepW w W' b x :=
  ⟨hb.os.trans h.os,hb.tape.trans h.tape,hb.output.trans h.output,Nat.le_trans h.size hb.size,fun k hk hkb hx=>(hb.block k (Nat.lt_of_lt_of_le hk hB)).trans (h.keep k hk hkb hx)⟩
def PartCalls (w:World) (b:Nat) (x:Option Nat) (p:PartM):Prop:=∀ W,KeepW w W b x →
  Calls Try.prog 14 #[p.v] W (fun e w'=>e=.returned (.tuple #[.int .u16 p.at_,.bool p.ok])∧Below W.heap.size W w') ∧
  Calls Try.prog 15 #[p.v] W (fun e w'=>e=.returned (.int .i64 p.own)∧Below W.heap.size W w') ∧
  Calls Try.prog 16 #[p.v] W (fun e w'=>e=.returned (.int .i64 p.lost)∧Below W.heap.size W w')
theorem PTabW.below {w W W':World} {b:Nat} {x x':Option Nat} {l:ProfT} {B:Nat} (h:PTabW w W b x x' l) (hb:Below B W W') (hB:W.heap.size≤B) (hbl:b < w.heap.size):PTabW w W' b x x' l:=by
  have hbb:W'.heap[b]? = W.heap[b]? := hb.block b (Nat.lt_of_lt_of_le hbl (Nat.le_trans h.size hB))
  refine ⟨by rw [World.cell?_of_block (w:=W) hbb]; exact h.cell,h.is.kept fun m e=>hb.block m (by subst e; exact Nat.lt_of_lt_of_le h.is.lt hB),Nat.le_trans h.size hb.size,fun k hk hkb hx=>(hb.block k (Nat.lt_of_lt_of_le hk (Nat.le_trans h.size hB))).trans (h.keep k hk hkb hx),h.fresh,fun arr t fr ha => ?_,hb.os.trans h.os,hb.tape.trans h.tape,hb.output.trans h.output⟩
  obtain ⟨arr',k1,k2⟩:=h.row arr t fr ha
  exact ⟨arr',hbb.trans k1,k2⟩
theorem PTabW.store {w W W':World} {b:Nat} {x:Option Nat} {m:Nat} {l l':ProfT} (h:PTabW w W b x (some m) l) (hbl:b < w.heap.size) (hmb:m ≠ b) (hm:PMapIs W' (some m) l') (hs:W'.heap.size=W.heap.size) (hk:∀ k,k ≠ m→W'.heap[k]? = W.heap[k]?) (os:W'.os=W.os) (tape:W'.tape=W.tape) (output:W'.output=W.output):PTabW w W' b x (some m) l':=by
  have hbb:W'.heap[b]? = W.heap[b]? := hk b fun e=>hmb e.symm
  refine ⟨by rw [World.cell?_of_block (w:=W) hbb]; exact h.cell,hm,by rw [hs]; exact h.size,fun k hkl hkb hx => ?_,h.fresh,fun arr t fr ha => ?_,os.trans h.os,tape.trans h.tape,output.trans h.output⟩
  · refine (hk k fun e => ?_).trans (h.keep k hkl hkb hx)
    rcases h.fresh m rfl with h1 | h1
    · exact hx (by rw [h1,e])
    · omega
  · obtain ⟨arr',k1,k2⟩:=h.row arr t fr ha
    exact ⟨arr',hbb.trans k1,k2⟩
theorem profIns_len (x:Int × SpT):∀ l:ProfT,(profIns x l).length=l.length+1
  | []=>rfl
  | y::r=>by unfold profIns; split <;> simp [profIns_len x r]
theorem profAdd_len:∀ (qs:List (Int × Bool × Int × Int)) (l:ProfT),(qs.foldl profAdd l).length≤l.length+qs.length
  | [],l=>Nat.le_refl _
  | q::qs,l=>by
    have h1:=profAdd_len qs (profAdd l q)
    have h2:(profAdd l q).length≤l.length+1:=by
      unfold profAdd
      split
      · unfold profPut
        rw [profIns_len]
        have:=List.length_filter_le (fun p:Int × SpT=>!(p.1 == q.1)) l
        unfold profDel
        omega
      · omega
    rw [List.foldl_cons,List.length_cons]
    omega
/-- What stands while a part is counted. -/
structure SumW (w W:World) (b:Nat) (x:Option Nat) (m:Nat) (l:ProfT) (n:Nat):Prop where
  tab:PTabW w W b x (some m) l
  size:n < W.heap.size
theorem SumW.below {w W W':World} {b:Nat} {x:Option Nat} {m n:Nat} {l:ProfT} (h:SumW w W b x m l n) (hb:Below W.heap.size W W') (hbl:b < w.heap.size):SumW w W' b x m l n:=⟨h.tab.below hb (Nat.le_refl _) hbl,Nat.lt_of_lt_of_le h.size hb.size⟩
theorem SumW.drew {w W:World} {b:Nat} {x:Option Nat} {m n:Nat} {l:ProfT} (h:SumW w W b x m l n) (hbl:b < w.heap.size):SumW w W.drew b x m l n:=h.below ⟨rfl,rfl,rfl,Nat.le_refl _,fun _ _=>rfl⟩ hbl
theorem own_keep {w:World} {b:Nat} {x:Option Nat} {m n r:Nat} {l1:ProfT} {pA:Option Addr} {pn pc:Nat} {pe:Bool} {pat own lost s1 s2 s3:Int} {ok:Bool} (hpc:PartCalls w b x ⟨pA,pn,pc,pe,pat,ok,own,lost⟩) (hbl:b < w.heap.size) (hrn:r < n) (W:World) (hW:W.cell? ⟨b,0,none⟩=some (.map (some m))∧W.cell? ⟨n,1,none⟩=some (.int .i64 s1)∧W.cell? ⟨n,2,none⟩=some (.int .i64 s2)∧W.cell? ⟨n,3,none⟩=some (.int .i64 s3)∧W.cell? ⟨r,0,none⟩=some (.slice pA pn pc)∧W.cell? ⟨r,1,none⟩=some (.bool pe)∧SumW w W b x m l1 n) :
    Calls Try.prog 15 #[.agg #[.slice pA pn pc,.bool pe]] W fun e w'=>e=.returned (.int .i64 own)∧w'.cell? ⟨b,0,none⟩=some (.map (some m))∧w'.cell? ⟨n,1,none⟩=some (.int .i64 s1)∧w'.cell? ⟨n,2,none⟩=some (.int .i64 s2)∧w'.cell? ⟨n,3,none⟩=some (.int .i64 s3)∧w'.cell? ⟨r,0,none⟩=some (.slice pA pn pc)∧w'.cell? ⟨r,1,none⟩=some (.bool pe)∧SumW w w' b x m l1 n:=by
  obtain ⟨d1,d2,d3,d4,d5,d6,d7⟩:=hW
  refine ((hpc W d7.tab.kept).2.1).mono ?_
  rintro e w' ⟨rfl,hb⟩
  have hlt:=d7.size
  exact ⟨rfl,(hb.cell (p:=⟨b,0,none⟩) (cell_lt d1)).trans d1,(hb.cell (p:=⟨n,1,none⟩) hlt).trans d2,(hb.cell (p:=⟨n,2,none⟩) hlt).trans d3,(hb.cell (p:=⟨n,3,none⟩) hlt).trans d4,(hb.cell (p:=⟨r,0,none⟩) (Nat.lt_trans hrn hlt)).trans d5,(hb.cell (p:=⟨r,1,none⟩) (Nat.lt_trans hrn hlt)).trans d6,d7.below hb hbl⟩
theorem lost_keep {w:World} {b:Nat} {x:Option Nat} {m n r:Nat} {l1:ProfT} {pA:Option Addr} {pn pc:Nat} {pe:Bool} {pat own lost s1 s2 s3:Int} {ok:Bool} (hpc:PartCalls w b x ⟨pA,pn,pc,pe,pat,ok,own,lost⟩) (hbl:b < w.heap.size) (hrn:r < n) (W:World) (hW:W.cell? ⟨b,0,none⟩=some (.map (some m))∧W.cell? ⟨n,1,none⟩=some (.int .i64 s1)∧W.cell? ⟨n,2,none⟩=some (.int .i64 s2)∧W.cell? ⟨n,3,none⟩=some (.int .i64 s3)∧W.cell? ⟨r,0,none⟩=some (.slice pA pn pc)∧W.cell? ⟨r,1,none⟩=some (.bool pe)∧SumW w W b x m l1 n) :
    Calls Try.prog 16 #[.agg #[.slice pA pn pc,.bool pe]] W fun e w'=>e=.returned (.int .i64 lost)∧w'.cell? ⟨b,0,none⟩=some (.map (some m))∧w'.cell? ⟨n,1,none⟩=some (.int .i64 s1)∧w'.cell? ⟨n,2,none⟩=some (.int .i64 s2)∧w'.cell? ⟨n,3,none⟩=some (.int .i64 s3)∧w'.cell? ⟨r,0,none⟩=some (.slice pA pn pc)∧w'.cell? ⟨r,1,none⟩=some (.bool pe)∧SumW w w' b x m l1 n:=by
  obtain ⟨d1,d2,d3,d4,d5,d6,d7⟩:=hW
  refine ((hpc W d7.tab.kept).2.2).mono ?_
  rintro e w' ⟨rfl,hb⟩
  have hlt:=d7.size
  exact ⟨rfl,(hb.cell (p:=⟨b,0,none⟩) (cell_lt d1)).trans d1,(hb.cell (p:=⟨n,1,none⟩) hlt).trans d2,(hb.cell (p:=⟨n,2,none⟩) hlt).trans d3,(hb.cell (p:=⟨n,3,none⟩) hlt).trans d4,(hb.cell (p:=⟨r,0,none⟩) (Nat.lt_trans hrn hlt)).trans d5,(hb.cell (p:=⟨r,1,none⟩) (Nat.lt_trans hrn hlt)).trans d6,d7.below hb hbl⟩
theorem upd_keep {w:World} {b:Nat} {x:Option Nat} {m n r:Nat} {l1:ProfT} {pA:Option Addr} {pn pc:Nat} {pe:Bool} {pat own lost s1 s2 s3:Int} (hbl:b < w.heap.size) (hmb:b ≠ m) (hmw:n ≠ m) (hmr:r ≠ m) (hat:0≤pat∧pat < 65536) (hll:l1.length < maxLen)
    (W:World) (g1:W.cell? ⟨b,0,none⟩=some (.map (some m))) (g2:W.cell? ⟨n,1,none⟩=some (.int .i64 s1)) (g3:W.cell? ⟨n,2,none⟩=some (.int .i64 s2)) (g4:W.cell? ⟨n,3,none⟩=some (.int .i64 s3)) (g5:W.cell? ⟨r,0,none⟩=some (.slice pA pn pc)) (g6:W.cell? ⟨r,1,none⟩=some (.bool pe)) (g7:SumW w W b x m l1 n) :
    ∃ w4,(Instr.mapUpdate PMT (.map (some m)) (.int .u16 pat) (.agg #[.int .u16 pat,.int .i64 (IntKind.wrap .i64 (s1+1)),.int .i64 (IntKind.wrap .i64 (s2+own)),.int .i64 (IntKind.wrap .i64 (s3+lost))])).run Try.prog W=.ok () w4∧w4.cell? ⟨b,0,none⟩=some (.map (some m))∧w4.cell? ⟨n,1,none⟩=some (.int .i64 s1)∧w4.cell? ⟨n,2,none⟩=some (.int .i64 s2)∧w4.cell? ⟨n,3,none⟩=some (.int .i64 s3)∧w4.cell? ⟨r,0,none⟩=some (.slice pA pn pc)∧w4.cell? ⟨r,1,none⟩=some (.bool pe) ∧
      PTabW w w4 b x (some m) (profPut l1 pat (pat,IntKind.wrap .i64 (s1+1),IntKind.wrap .i64 (s2+own),IntKind.wrap .i64 (s3+lost))):=by
  obtain ⟨w4,hrun,m1,m2,m3,m4,m5,m6⟩:=g7.tab.is.set pat hat (pat,IntKind.wrap .i64 (s1+1),IntKind.wrap .i64 (s2+own),IntKind.wrap .i64 (s3+lost)) hll
  exact ⟨w4,hrun,(World.cell?_of_block (a:=⟨b,0,none⟩) (m3 b hmb)).trans g1,(World.cell?_of_block (a:=⟨n,1,none⟩) (m3 _ hmw)).trans g2,(World.cell?_of_block (a:=⟨n,2,none⟩) (m3 _ hmw)).trans g3,(World.cell?_of_block (a:=⟨n,3,none⟩) (m3 _ hmw)).trans g4,(World.cell?_of_block (a:=⟨r,0,none⟩) (m3 _ hmr)).trans g5,(World.cell?_of_block (a:=⟨r,1,none⟩) (m3 _ hmr)).trans g6,
    g7.tab.store hbl (fun e=>hmb e.symm) m1 m2 m3 m4 m5 m6⟩
theorem profAdd_t (l:ProfT) (a own lost:Int):profAdd l (a,true,own,lost)=profPut l a (a,IntKind.wrap .i64 (((profGet l a).getD sp0).2.1+1),IntKind.wrap .i64 (((profGet l a).getD sp0).2.2.1+own),IntKind.wrap .i64 (((profGet l a).getD sp0).2.2.2+lost)):=rfl
/-- The box of a part, and that of a count, behind it. -/
theorem box_cells {W0 W:World} {r:Nat} {v0 v1:Value} {t:TypeId} {fr:Nat × Nat} (h:W0.heap[r]? = some (.cells #[v0,v1] t fr)) (hr:r < W0.heap.size) (hk:W.heap[r]? = W0.heap[r]?) (hlt:r < W.heap.size) (o:Obj):(W.alloc o).cell? ⟨r,0,none⟩=some v0∧(W.alloc o).cell? ⟨r,1,none⟩=some v1:=by
  unfold World.cell?
  rw [(MapKept.heap_alloc W o).2 _ hlt,hk,h]
  exact ⟨rfl,rfl⟩
theorem ptab_new (w:World) (b:Nat) (hb:b < w.heap.size) (hc:w.cell? ⟨b,0,none⟩=some (.map none)) (W:World) (hW:W=(w.setCell ⟨b,0,none⟩ (.map (some w.heap.size))).alloc (.map #[] 0)):W.cell? ⟨b,0,none⟩=some (.map (some w.heap.size)) ∧
    PMapIs W (some w.heap.size) []∧W.heap.size=w.heap.size+1∧(∀ k,k < w.heap.size→k ≠ b→W.heap[k]? = w.heap[k]?)∧∀ arr t fr,w.heap[b]? = some (.cells arr t fr)→W.heap[b]? = some (.cells (arr.setIfInBounds 0 (.map (some w.heap.size))) t fr):=by
  have hcell:∃ arr t fr,w.heap[b]? = some (.cells arr t fr)∧arr[0]? = some (.map none):=by
    unfold World.cell? at hc
    cases h:w.heap[b]? with
    | none=>rw [h] at hc; simp at hc
    | some o =>
      rw [h] at hc
      cases o <;> simp at hc
      exact ⟨_,_,_,rfl,hc⟩
  obtain ⟨arr,t,fr,h1,h2⟩:=hcell
  have hsz:(w.setCell ⟨b,0,none⟩ (.map (some w.heap.size))).heap.size=w.heap.size:=by simp [World.setCell]
  have key:∀ k,W.heap[k]? = if k=w.heap.size then some (.map #[] 0) else if k=b then some (.cells (arr.setIfInBounds 0 (.map (some w.heap.size))) t fr) else w.heap[k]? := by
    intro k
    rw [hW,alloc_heap,hsz]
    by_cases e0:k=w.heap.size
    · rw [if_pos e0,if_pos e0]
    · rw [if_neg e0,if_neg e0]
      simp only [World.setCell,Array.getElem?_modify]
      by_cases e:b=k
      · subst e
        rw [if_pos rfl,if_pos rfl,h1]; rfl
      · rw [if_neg e,if_neg (fun h=>e h.symm)]
  have hne:b ≠ w.heap.size:=by omega
  refine ⟨?_,?_,?_,fun k hk hkb => ?_,fun arr' t' fr' h => ?_⟩
  · unfold World.cell?
    rw [key,if_neg hne,if_pos rfl]
    have:=(Array.getElem?_eq_some_iff.1 h2).1
    simp [this]
  · have:=World.ownsMap_made (H:=SpT) (w.setCell ⟨b,0,none⟩ (.map (some w.heap.size))) Try.prog PMK spR
    rw [← hW,hsz] at this
    exact this
  · rw [hW,alloc_size,hsz]
  · rw [key,if_neg (by omega),if_neg hkb]
  · rw [h1] at h
    simp only [Option.some.injEq,Obj.cells.injEq] at h
    obtain ⟨rfl,rfl,rfl⟩:=h
    rw [key,if_neg hne,if_pos rfl]
theorem PTabW.frozen {w W:World} {b:Nat} {x x':Option Nat} {l:ProfT} (h:PTabW w W b x x' l) {v:Value} (hc:w.cell? ⟨b,0,none⟩=some v) (hf:w.frozen? ⟨b,0,none⟩=false):W.frozen? ⟨b,0,none⟩=false:=by
  obtain ⟨c,e,fr,h1,h2⟩:=Sort.cells_of_cell? hc
  obtain ⟨arr',k1,k2⟩:=h.row c e fr h1
  simp only [World.frozen?,h1] at hf
  simp only [World.frozen?,k1]
  exact hf
theorem PTabW.new {w W W':World} {b:Nat} {x:Option Nat} (h:PTabW w W b x none []) (hbl:b < w.heap.size) (hW:W'=(W.setCell ⟨b,0,none⟩ (.map (some W.heap.size))).alloc (.map #[] 0)):PTabW w W' b x (some W.heap.size) []:=by
  obtain ⟨hcB,hmB,hsB,hkB,hrB⟩:=ptab_new W b (Nat.lt_of_lt_of_le hbl h.size) h.cell W' hW
  refine ⟨hcB,hmB,by have:=h.size; omega,fun k hk hkb hx=>(hkB k (Nat.lt_of_lt_of_le hk h.size) hkb).trans (h.keep k hk hkb hx),fun k hk => ?_,fun arr t fr ha => ?_,?_,?_,?_⟩
  · injection hk with hk
    subst hk
    exact .inr h.size
  · obtain ⟨arr',k1,k2⟩:=h.row arr t fr ha
    exact ⟨_,hrB arr' t fr k1,by simp [k2]⟩
  · rw [hW]; exact h.os
  · rw [hW]; exact h.tape
  · rw [hW]; exact h.output
theorem add_walk (b:Nat) (w:World) (x:Option Nat) (l:ProfT) (ps:List PartM) (A:Option Addr) (cap:Nat) (hc:w.cell? ⟨b,0,none⟩=some (.map x)) (hf:w.frozen? ⟨b,0,none⟩=false) (hm:PMapIs w x l) (hx:x ≠ some b)
    (hA:ps.length=0∨∃ g o,A=some ⟨g,o,none⟩∧g < w.heap.size∧g ≠ b∧x ≠ some g∧∀ i p,ps[i]? = some p→w.cell? ⟨g,o+i*2,none⟩=some (.slice p.A p.n p.cap)∧w.cell? ⟨g,o+i*2+1,none⟩=some (.bool p.e))
    (hp:∀ p∈ps,PartCalls w b x p∧0≤p.at_∧p.at_ < 65536) (hps:ps.length≤1000000) (hl:l.length≤1000000) :
    Calls Try.prog 4 #[.pointer (some ⟨b,0,none⟩),.slice A ps.length cap] w fun e w'=>e=.returned (.tuple #[])∧∃ x',PTabW w w' b x x' ((ps.map PartM.q).foldl profAdd l):=by
  have hbl:=cell_lt hc
  go_enter Try.func4,Try.ntmps4
  go_wp2
  go_loopw [11] (fun i wr=>∃ (k:Nat) (x':Option Nat),k≤ps.length∧i=.int .i64 k∧PTabW w wr b x x' (((ps.take k).map PartM.q).foldl profAdd l)∧x' ≠ some b) (fun i _=>ps.length - (match i with | .int _ q=>q.toNat | _=>0))
  case atStart=>exact ⟨0,x,Nat.zero_le _,rfl,⟨hc,hm,Nat.le_refl _,fun _ _ _ _=>rfl,fun k hk=>.inl hk,fun arr t fr h=>⟨arr,h,rfl⟩,rfl,rfl,rfl⟩,hx⟩
  case round =>
    obtain ⟨k,x',hk,rfl,hT,hxb⟩:=hrel
    by_cases hkn:k < ps.length
    · obtain ⟨g,o,rfl,hg1,hg2,hg3,hcells⟩:∃ g o,A=some ⟨g,o,none⟩∧g < w.heap.size∧g ≠ b∧x ≠ some g∧∀ i p,ps[i]? = some p→w.cell? ⟨g,o+i*2,none⟩=some (.slice p.A p.n p.cap)∧w.cell? ⟨g,o+i*2+1,none⟩=some (.bool p.e):=by
        rcases hA with h | h
        · omega
        · exact h
      have hpk:ps[k]? = some ps[k]:=List.getElem?_eq_getElem hkn
      obtain ⟨hpc,hat⟩:=hp _ (List.getElem_mem hkn)
      have hgw:=hT.keep g hg1 hg2 hg3
      have c1:wr.cell? ⟨g,o+k*2,none⟩=some (.slice ps[k].A ps[k].n ps[k].cap):=(World.cell?_of_block (a:=⟨g,o+k*2,none⟩) hgw).trans (hcells k _ hpk).1
      have c2:wr.cell? ⟨g,o+k*2+1,none⟩=some (.bool ps[k].e):=(World.cell?_of_block (a:=⟨g,o+k*2+1,none⟩) hgw).trans (hcells k _ hpk).2
      have hk1:(k:Int) < (ps.length:Int):=by omega
      clear hcells hA
      generalize ps[k]=p at *
      obtain ⟨pA,pn,pc,pe,pat,pok,pown,plost⟩:=p
      simp only at c1 c2 hat
      have hS:∀ o,_:=fun o=>(hpc _ (hT.kept.below ((Below.refl wr.heap.size wr).alloc (Nat.le_refl _) o) hT.size)).1
      simp only [PartM.v] at hS
      have hsucc:((ps.take (k+1)).map PartM.q).foldl profAdd l=profAdd (((ps.take k).map PartM.q).foldl profAdd l) (pat,pok,pown,plost):=by
        rw [List.take_add_one,hpk]
        simp [PartM.q]
      have hll:(((ps.take k).map PartM.q).foldl profAdd l).length < maxLen:=by
        have h1:=profAdd_len ((ps.take k).map PartM.q) l
        rw [List.length_map,List.length_take] at h1
        unfold maxLen
        omega
      generalize ((ps.take k).map PartM.q).foldl profAdd l=l1 at *
      have hkw:IntKind.wrap .i64 ((k:Int)+1)=((k+1:Nat):Int):=by rw [IntKind.wrap_i64]; omega
      cases pok with
      | false =>
        go_wp2_with (go_at_call 14; refine (hS _).mono ?_; rintro e w1 ⟨rfl,hb1⟩)
        refine ⟨⟨k+1,x',hkn,by simp,?_,hxb⟩,?_⟩
        · rw [hsucc]
          exact (hT.below ((Below.refl wr.heap.size wr).alloc (Nat.le_refl _) _) (Nat.le_refl _) hbl).below hb1 (Nat.le_refl _) hbl
        · show ps.length - ((k:Int)+1).toNat < ps.length - (k:Int).toNat; omega
      | true =>
        rw [profAdd_t] at hsucc
        cases x' with
        | some m =>
          have heq:∀ W,(binOp .eql PMT (.map (some m)) (.map none)).run Try.prog W=.ok (.bool false) W:=fun W=>run_eql_map_nil W PMT PMK PME (some m) pmt_und
          go_wp2_with (go_at_call 14; refine (hS _).mono ?_; rintro e w1 ⟨rfl,hb1⟩; have hT1:=(hT.below ((Below.refl wr.heap.size wr).alloc (Nat.le_refl _) (.cells #[.slice pA pn pc,.bool pe] 32)) (Nat.le_refl _) hbl).below hb1 (Nat.le_refl _) hbl; have hc1:=hT1.cell; have hlk:=hT1.is.look pat hat false; simp only [Bool.false_eq_true,if_false] at hlk; generalize (profGet l1 pat).getD sp0=sp at hlk hsucc; obtain ⟨s0,s1,s2,s3⟩:=sp; simp only [spV] at hlk)
          have hlt1:wr.heap.size < w1.heap.size:=by have:=hb1.size; rw [alloc_size] at this; omega
          have hkeep:w1.heap[wr.heap.size]? = (wr.alloc (.cells #[.slice pA pn pc,.bool pe] 32)).heap[wr.heap.size]? := hb1.block _ (by rw [alloc_size]; omega)
          have hmb:b ≠ m:=fun e=>hxb (by rw [e])
          have hmr:wr.heap.size ≠ m:=Nat.ne_of_gt hT.is.lt
          have hmw:w1.heap.size ≠ m:=Nat.ne_of_gt (Nat.lt_trans hT.is.lt hlt1)
          have hbox:=(MapKept.heap_alloc wr (.cells #[.slice pA pn pc,.bool pe] 32)).1
          have hbox0:wr.heap.size < (wr.alloc (.cells #[.slice pA pn pc,.bool pe] 32)).heap.size:=by rw [alloc_size]; omega
          obtain ⟨e1,e2⟩:=box_cells hbox hbox0 hkeep hlt1 (.cells #[.int .u16 s0,.int .i64 s1,.int .i64 s2,.int .i64 s3] PME)
          have hsa:SumW w (w1.alloc (.cells #[.int .u16 s0,.int .i64 s1,.int .i64 s2,.int .i64 s3] PME)) b x m l1 w1.heap.size:=⟨hT1.below ((Below.refl w1.heap.size w1).alloc (Nat.le_refl _) _) (Nat.le_refl _) hbl,by rw [alloc_size]; omega⟩
          have hcb:=hsa.tab.cell
          obtain ⟨_,e3,e4,e5,_⟩:=block4 (W:=w1.alloc (.cells #[.int .u16 s0,.int .i64 s1,.int .i64 s2,.int .i64 s3] PME)) (MapKept.heap_alloc w1 _).1
          have hOwn:=fun W=>own_keep (m:=m) (l1:=l1) (s1:=s1) (s2:=s2) (s3:=s3) hpc hbl hlt1 W
          have hLost:=fun W=>lost_keep (m:=m) (l1:=l1) (s1:=s1) (s2:=s2) (s3:=s3) hpc hbl hlt1 W
          have hFin:=fun W=>upd_keep (x:=x) (pA:=pA) (pn:=pn) (pc:=pc) (pe:=pe) (own:=pown) (lost:=plost) (s1:=s1) (s2:=s2) (s3:=s3) (l1:=l1) hbl hmb hmw hmr hat hll W
          generalize (w1.alloc (.cells #[.int .u16 s0,.int .i64 s1,.int .i64 s2,.int .i64 s3] PME))=W0 at *
          go_region_held3 (fun w'=>w'.cell? ⟨b,0,none⟩=some (.map (some m))∧w'.cell? ⟨w1.heap.size,1,none⟩=some (.int .i64 s1)∧w'.cell? ⟨w1.heap.size,2,none⟩=some (.int .i64 s2)∧w'.cell? ⟨w1.heap.size,3,none⟩=some (.int .i64 s3)∧w'.cell? ⟨wr.heap.size,0,none⟩=some (.slice pA pn pc)∧w'.cell? ⟨wr.heap.size,1,none⟩=some (.bool pe))
            (first | (refine ⟨?_,?_,?_,?_,?_,?_⟩ <;> first | assumption | assumption))
            (first | (go_at_call 15; refine (hOwn _ ?_).mono ?_; (refine ⟨?_,?_,?_,?_,?_,?_,?_⟩ <;> first | assumption | exact hsa.drew hbl); rintro e w' ⟨rfl,g1,g2,g3,g4,g5,g6,g7⟩) | (go_at_call 16; refine (hLost _ ?_).mono ?_; (refine ⟨?_,?_,?_,?_,?_,?_,?_⟩ <;> first | assumption | exact hsa.drew hbl); rintro e w' ⟨rfl,g1,g2,g3,g4,g5,g6,g7⟩; obtain ⟨w4,hrun,k1,k2,k3,k4,k5,k6,hT4⟩:=hFin w' g1 g2 g3 g4 g5 g6 g7))
          go_wp2
          refine ⟨⟨k+1,some m,hkn,by simp,?_,fun e=>hmb (by injection e with e; exact e.symm)⟩,?_⟩
          · rw [hsucc]; exact hT4
          · show ps.length - ((k:Int)+1).toNat < ps.length - (k:Int).toNat; omega
        | none =>
          obtain rfl:l1=[]:=hT.is
          have heq:∀ W,(binOp .eql PMT (.map none) (.map none)).run Try.prog W=.ok (.bool true) W:=fun W=>run_eql_map_nil W PMT PMK PME none pmt_und
          have hmm:=@run_makeMap Try.prog
          go_wp2_with (go_at_call 14; refine (hS _).mono ?_; rintro e w1 ⟨rfl,hb1⟩; have hT1:=(hT.below ((Below.refl wr.heap.size wr).alloc (Nat.le_refl _) (.cells #[.slice pA pn pc,.bool pe] 32)) (Nat.le_refl _) hbl).below hb1 (Nat.le_refl _) hbl; have hc1:=hT1.cell; have hf1:=hT1.frozen hc hf; have hbl1:b < w1.heap.size:=Nat.lt_of_lt_of_le hbl hT1.size; have hA:=((Below.refl w1.heap.size w1).alloc (Nat.le_refl _) (.map #[] 0)); have hcA:=(hA.cell (p:=⟨b,0,none⟩) hbl1).trans hc1; have hfA:=(hA.frozen (p:=⟨b,0,none⟩) hbl1).trans hf1; have hT2:=hT1.new hbl rfl; have hc2:=hT2.cell; have hlk:=hT2.is.look pat hat false; simp only [Bool.false_eq_true,if_false] at hlk; generalize (profGet [] pat).getD sp0=sp at hlk hsucc; obtain ⟨s0,s1,s2,s3⟩:=sp; simp only [spV] at hlk)
          generalize hW2:((w1.setCell ⟨b,0,none⟩ (.map (some w1.heap.size))).alloc (.map #[] 0))=W2 at *
          have hb1s:wr.heap.size < w1.heap.size:=by have:=hb1.size; rw [alloc_size] at this; omega
          have hsn:W2.heap.size=w1.heap.size+1:=by rw [← hW2,alloc_size]; simp [World.setCell]
          have hlt1:wr.heap.size < w1.heap.size+1:=by omega
          have hltW:wr.heap.size < W2.heap.size:=by rw [hsn]; exact hlt1
          have hwb:wr.heap.size ≠ b:=by have:=hT.size; omega
          have hkeep:W2.heap[wr.heap.size]? = (wr.alloc (.cells #[.slice pA pn pc,.bool pe] 32)).heap[wr.heap.size]? := by
            rw [← hW2,(MapKept.heap_alloc _ _).2 _ (by simp [World.setCell]; exact hb1s)]
            simp only [World.setCell,Array.getElem?_modify]
            rw [if_neg (fun e=>hwb e.symm)]
            exact hb1.block _ (by rw [alloc_size]; omega)
          have hmb:b ≠ w1.heap.size:=by omega
          have hmr:wr.heap.size ≠ w1.heap.size:=by omega
          have hmw:w1.heap.size+1 ≠ w1.heap.size:=by omega
          have hbox:=(MapKept.heap_alloc wr (.cells #[.slice pA pn pc,.bool pe] 32)).1
          have hbox0:wr.heap.size < (wr.alloc (.cells #[.slice pA pn pc,.bool pe] 32)).heap.size:=by rw [alloc_size]; omega
          obtain ⟨e1,e2⟩:=box_cells hbox hbox0 hkeep hltW (.cells #[.int .u16 s0,.int .i64 s1,.int .i64 s2,.int .i64 s3] PME)
          have hsa:SumW w (W2.alloc (.cells #[.int .u16 s0,.int .i64 s1,.int .i64 s2,.int .i64 s3] PME)) b x w1.heap.size [] (w1.heap.size+1):=⟨hT2.below ((Below.refl W2.heap.size W2).alloc (Nat.le_refl _) _) (Nat.le_refl _) hbl,by rw [alloc_size,hsn]; omega⟩
          have hcb:=hsa.tab.cell
          have hbk:(W2.alloc (.cells #[.int .u16 s0,.int .i64 s1,.int .i64 s2,.int .i64 s3] PME)).heap[w1.heap.size+1]? = some (.cells #[.int .u16 s0,.int .i64 s1,.int .i64 s2,.int .i64 s3] PME (0,0)):=by rw [← hsn]; exact (MapKept.heap_alloc W2 _).1
          obtain ⟨_,e3,e4,e5,_⟩:=block4 hbk
          have hOwn:=fun W=>own_keep (m:=w1.heap.size) (l1:=[]) (s1:=s1) (s2:=s2) (s3:=s3) hpc hbl hlt1 W
          have hLost:=fun W=>lost_keep (m:=w1.heap.size) (l1:=[]) (s1:=s1) (s2:=s2) (s3:=s3) hpc hbl hlt1 W
          have hFin:=fun W=>upd_keep (x:=x) (pA:=pA) (pn:=pn) (pc:=pc) (pe:=pe) (own:=pown) (lost:=plost) (s1:=s1) (s2:=s2) (s3:=s3) (l1:=[]) hbl hmb hmw hmr hat hll W
          clear hbk hbox hbox0 hkeep hT2 hc2 hlk hcA hfA hA
          generalize (W2.alloc (.cells #[.int .u16 s0,.int .i64 s1,.int .i64 s2,.int .i64 s3] PME))=W0 at *
          go_region_held3 (fun w'=>w'.cell? ⟨b,0,none⟩=some (.map (some w1.heap.size))∧w'.cell? ⟨w1.heap.size+1,1,none⟩=some (.int .i64 s1)∧w'.cell? ⟨w1.heap.size+1,2,none⟩=some (.int .i64 s2)∧w'.cell? ⟨w1.heap.size+1,3,none⟩=some (.int .i64 s3)∧w'.cell? ⟨wr.heap.size,0,none⟩=some (.slice pA pn pc)∧w'.cell? ⟨wr.heap.size,1,none⟩=some (.bool pe))
            (first | (refine ⟨?_,?_,?_,?_,?_,?_⟩ <;> first | assumption | assumption))
            (first | (go_at_call 15; refine (hOwn _ ?_).mono ?_; (refine ⟨?_,?_,?_,?_,?_,?_,?_⟩ <;> first | assumption | exact hsa.drew hbl); rintro e w' ⟨rfl,g1,g2,g3,g4,g5,g6,g7⟩) | (go_at_call 16; refine (hLost _ ?_).mono ?_; (refine ⟨?_,?_,?_,?_,?_,?_,?_⟩ <;> first | assumption | exact hsa.drew hbl); rintro e w' ⟨rfl,g1,g2,g3,g4,g5,g6,g7⟩; obtain ⟨w4,hrun,k1,k2,k3,k4,k5,k6,hT4⟩:=hFin w' g1 g2 g3 g4 g5 g6 g7))
          go_wp2
          refine ⟨⟨k+1,some w1.heap.size,hkn,by simp,?_,fun e=>hmb (by injection e with e; exact e.symm)⟩,?_⟩
          · rw [hsucc]; exact hT4
          · show ps.length - ((k:Int)+1).toNat < ps.length - (k:Int).toNat; omega
    · have hke:k=ps.length:=by omega
      go_wp2
      go_end0
      rw [hke,List.take_length] at hT
      exact ⟨rfl,x',hT⟩
end Go.Proofs.YtoemlgdlejkliaaK
