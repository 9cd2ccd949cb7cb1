/- slices.Sort of a row of one's own that holds strings: by hand, over the kit's contract. -/
import Derived.Test.YtaoomioogojfhaaRs
import Derived.Test.YtaoomioogojfhaaSi
namespace Go.Proofs.YtaoomioogojfhaaK
set_option linter.unusedVariables false
set_option linter.unusedSimpArgs false
open Go.RowKit Go.Sort Go.Shelf
def sortS (x:List ByteArray):List ByteArray:=((x.map fun s=>s.data.toList).mergeSort fun a b=>decide (a≤b)).map fun l=>⟨l.toArray⟩
theorem sortS_len {x:List ByteArray}:(sortS x).length=x.length:=by unfold sortS; simp [List.length_mergeSort]
theorem strs_enc:∀ (l:List (List UInt8)) {im:Im} {H:Hp} {w:World},VRs im H w (cat nS (l.map fun s=>(⟨s.toArray⟩:ByteArray))) (l.map encStr)
  | [],_,_,_=>trivial
  | s::l,_,_,_=>⟨rfl,strs_enc l⟩
theorem strs_of:∀ (x:List ByteArray) {im:Im} {H:Hp} {w:World} {vs:List Value},VRs im H w (cat nS x) vs→vs=(x.map fun s=>s.data.toList).map encStr
  | [],_,_,_,[],_=>rfl
  | [],_,_,_,v::vs,h=>h.elim
  | s::x,_,_,_,[],h=>h.elim
  | s::x,_,_,_,v::vs,h=>by
    have e:v=.string s:=h.1
    rw [List.map_cons,List.map_cons,← strs_of x h.2,e]
/-- What a row is behind putRow. -/
theorem putRow_heap {w:World} {g:Nat} {arr:Array Value} {t:TypeId} {fr:Nat × Nat} (h:w.heap[g]? = some (.cells arr t fr)) (D:List (List UInt8)) (n:Nat) (hD:D.length≤arr.size) (k:Nat) :
    (putRow encStr (Sort.ahead w n) g 0 D.toArray).heap[k]? = (w.setCells g 0 (D.map encStr)).heap[k]? := by
  rw [setCells_heap g t fr (D.map encStr) 0 w arr h k]
  show (w.heap.modify g (onCells (putCells encStr 0 D.toArray)))[k]? = _
  rw [Array.getElem?_modify]
  by_cases e:k=g
  · subst e
    rw [if_pos rfl,if_pos rfl,h]
    show some (Obj.cells (putCells encStr 0 D.toArray arr) t fr)=_
    congr 2
    apply Array.ext_getElem?
    intro j
    unfold putCells
    rw [Array.getElem?_mapIdx]
    rcases Nat.lt_or_ge j D.length with hj | hj
    · have:=wr_in (D.map encStr) arr 0 j (by simpa using hD) (by simpa using hj)
      rw [Nat.zero_add] at this
      rw [this,Array.getElem?_eq_getElem (by omega)]
      simp [hj]
    · rw [wr_out (D.map encStr) arr 0 j (.inr (by simpa using hj))]
      cases arr[j]? with
      | none=>rfl
      | some v=>simp; intro h'; omega
  · rw [if_neg (fun h=>e h.symm),if_neg e]
theorem sort_con (x:List ByteArray) (ver:Nat) (hx:x.length < 4611686018427387904) :
    ConL Try.prog 9 [.ref 0 ver 0 x.length] [⟨ver,.grow,1,cat nS x⟩] (.tup []) [⟨ver,.grow,1,cat nS (sortS x)⟩]:=by
  refine ⟨Nat.le_refl _,fun ρ G hE => ?_⟩
  intro im w cargs hr ha
  rw [CallsD.st (by rfl)]
  have hb:=hE.get [⟨ver,.grow,1,cat nS x⟩] 0 _ (Nat.le_refl _) rfl
  have hb:(G [⟨ver,.grow,1,cat nS x⟩])[ρ 0]? = some ⟨ver,.grow,1,cat nS x⟩:=by simpa only [Blk.rn,rns_stat _ _ (cat_stat (g:=nS) x)] using hb
  have hset:=hE.set [⟨ver,.grow,1,cat nS x⟩] 0 ⟨ver,.grow,1,cat nS (sortS x)⟩ (Nat.le_refl _) (by simp)
  have hset:(G [⟨ver,.grow,1,cat nS x⟩]).set (ρ 0) ⟨ver,.grow,1,cat nS (sortS x)⟩=G [⟨ver,.grow,1,cat nS (sortS x)⟩]:=by simpa only [Blk.rn,rns_stat _ _ (cat_stat (g:=nS) (sortS x)),List.set_cons_zero] using hset
  match cargs,ha with
  | [c],ha =>
    obtain ⟨⟨_,B',hB',_,hv⟩,_⟩:=ha
    rw [hb] at hB'; injection hB' with hB'; subst hB'
    obtain ⟨A,cap,rfl,hn,hm,hA⟩:=hv rfl nofun
    cases x with
    | nil =>
      refine (AnyM.slices_Sort_string_none Try.sort9 A cap w).mono ?_
      rintro e w' ⟨rfl,rfl⟩
      have e0:sortS []=[]:=by unfold sortS; simp
      rw [e0]
      exact ⟨im,_,rfl,hr,Ext.refl _ _ _,#[],rfl,trivial⟩
    | cons s0 x0 =>
      have hc0:cap ≠ 0:=fun e=>by rw [e] at hn; simp at hn
      obtain ⟨g,hg,rfl,hcap⟩:∃ g,im (ρ 0)=some g∧A=some ⟨g,0,none⟩∧0+cap*1≤rowSize w g:=by
        rcases hA with ⟨e,_⟩ | h
        · exact absurd e hc0
        · exact h
      have hrow:=hr.row _ _ hb nofun
      rw [hg] at hrow
      obtain ⟨arr,t,fr,vs,h1,h2,h3,h4,_⟩:=hrow
      have hvs:=strs_of (s0::x0) h4
      generalize hX:s0::x0=x at *
      generalize hS:(x.map fun s=>s.data.toList)=ss at *
      have hlen:ss.length=x.length:=by rw [← hS,List.length_map]
      have hsz:x.length≤arr.size:=by
        rcases Nat.lt_or_ge (x.length - 1) arr.size with h | h
        · omega
        · exfalso
          have hl : x.length - 1 < vs.length := by rw [hvs, List.length_map, hlen]; have : 0 < x.length := by rw [← hX]; simp
                                                   omega
          have:=h3 _ _ (List.getElem?_eq_getElem hl)
          rw [Array.getElem?_eq_none h] at this
          cases this
      have hH:Holds encStr w g 0 ss.toArray:=by
        intro j hj
        have hj:j < ss.length:=by simpa using hj
        have hjv:vs[j]? = some (encStr ss[j]):=by rw [hvs,List.getElem?_map,List.getElem?_eq_getElem hj]; rfl
        have ha:=h3 _ _ hjv
        have hja:j < arr.size:=(Array.getElem?_eq_some_iff.1 ha).1
        refine ⟨by simp only [World.cell?,h1,Nat.zero_add]; rw [ha]; simp [hj],?_⟩
        have:=h2 j hja
        simp only [World.frozen?,h1,Nat.zero_add]
        simp only [not_and,Nat.not_lt] at this
        rcases Nat.lt_or_ge j fr.1 with h' | h'
        · simp; omega
        · have:=this h'; simp; omega
      have hgl:g < w.heap.size:=(Array.getElem?_eq_some_iff.1 h1).1
      rw [← hlen]
      refine (AnyM.slices_Sort_string Try.sort9 g 0 cap ss w hH hgl (by omega)).mono ?_
      rintro e w' ⟨rfl,n,os,rfl⟩
      generalize hD:ss.mergeSort (fun a b=>decide (a≤b))=D
      have hDl:D.length=x.length:=by rw [← hD,List.length_mergeSort,hlen]
      have hx2:sortS x=D.map fun s=>(⟨s.toArray⟩:ByteArray):=by unfold sortS; rw [hS,hD]
      obtain ⟨k1,k2⟩:=hr.write (b:=ρ 0) (g:=g) 0 (D.map encStr) ⟨ver,.grow,1,cat nS (sortS x)⟩ hb nofun hg h1 h2 (Nat.le_refl _) rfl rfl (D.map encStr)
        (fun j v hj=>by
          have hjl:j < (D.map encStr).length:=(List.getElem?_eq_some_iff.1 hj).1
          have:=wr_in (D.map encStr) arr 0 j (by rw [List.length_map]; omega) hjl
          rw [Nat.zero_add] at this
          rw [this,hj]) (by rw [hx2]; exact strs_enc D) rfl
      rw [hset] at k1 k2
      obtain ⟨e1,e2,e3,e4⟩:=setCells_rest g (D.map encStr) 0 w
      have hsize:(putRow encStr (Sort.ahead w n) g 0 D.toArray).heap.size=w.heap.size:=by
        show (w.heap.modify g _).size=_
        rw [Array.size_modify]
      obtain ⟨m1,m2⟩:=k1.grow (w':=Sort.grow (putRow encStr (Sort.ahead w n) g 0 D.toArray) os) (by
          show _≤(_++os).size
          rw [Array.size_append,hsize,e4]; omega) (fun k hk=>by
          show (_++os)[k]? = _
          rw [Array.getElem?_append_left (by rw [hsize]; omega)]
          exact putRow_heap h1 D n (by omega) k) (by rw [e1]; rfl) (by rw [e2]; rfl) (by rw [e3]; rfl)
      exact ⟨im,_,rfl,m1,k2.trans m2,#[],rfl,trivial⟩
end Go.Proofs.YtaoomioogojfhaaK
