/- Package symbols, by hand: the names of a table, sorted. -/
import Derived.Test.YtaoomioogojfhaaSy
import Derived.Test.YtaoomioogojfhaaSi
import Derived.TacticsIn
namespace Go.Proofs.YtaoomioogojfhaaK
set_option linter.unusedVariables false
set_option linter.unusedSimpArgs false
set_option maxRecDepth 100000
set_option maxHeartbeats 4000000
open Go.RowKit Go.WideMaps Go.ChangeMaps Go.MapKept Go.Maps Go.Sort Go.Shelf
theorem sorts_in (m:Nat):AnyZ.SortsIn Try.prog Try.sorted20_ren Fence.wide m :=
  ⟨fun blk off cap ss W hH hblk hsz=>callsIn_wide.2 (AnyM.slices_Sort_string Try.sort9 blk off cap ss W hH hblk hsz),
   fun p cap W=>callsIn_wide.2 (AnyM.slices_Sort_string_none Try.sort9 p cap W)⟩
theorem keys_in (mb:Option Nat) (W:World):CallsIn Fence.wide 5 Try.prog 21 #[.map mb] W fun e w'=>e=.returned (.func (.func 34) #[] #[.pointer (some ⟨W.heap.size,0,none⟩)])∧w'=W.alloc (.cells #[.map mb] MT) :=
  AnyZ.keys_in Try.keys21 Fence.wide 5 trivial rfl mb W
theorem sorted_in (b nn:Nat) (D0:DataW Nat) (R:Value→Option (DataW Nat × List MemPlace)) (w:World) (hown:w.ownsMap Try.prog MK R b nn D0) (hmax:Maps.size D0≤maxLen) (hbytes:Maps.size D0*16≤140737488355328) :
    CallsIn Fence.wide 5 Try.prog 20 #[.func (.func 34) #[] #[.pointer (some ⟨w.heap.size,0,none⟩)]] (w.alloc (.cells #[.map (some b)] MT)) fun e w'=>∃ (v:Value) (ss:List (List UInt8)),e=.returned v∧ss.Perm (strKeys D0) ∧
      w'.ownsRow (w.alloc (.cells #[.map (some b)] MT)).heap.size MK 1 v ss.length ((ss.mergeSort (fun x y=>decide (x≤y))).map encStr)∧(v=.slice none 0 0↔ss=[])∧Below (w.alloc (.cells #[.map (some b)] MT)).heap.size (w.alloc (.cells #[.map (some b)] MT)) w':=by
  have hbl:=hown.lt
  have hseq:SeqGives Fence.wide 2 Try.prog 34 #[.pointer (some ⟨w.heap.size,0,none⟩)] encStr (fun ss=>ss.Perm (strKeys D0)) (Maps.size D0) (w.alloc (.cells #[.map (some b)] MT)) :=
    AnyZ.keys_gives (ρ:=Try.keys21_ren) { Try.keys21 with } Fence.wide _ trivial rfl (by omega) w.heap.size b nn D0 _ (by simp) (by simp) (by
      obtain ⟨es,clock,hb,Ft,hs,hD⟩:=hown
      exact ⟨es,clock,(Below.heap_alloc _ _ b hbl).trans hb,Ft,hs,hD⟩)
  exact AnyZ.sorted_in Try.sorted20 Fence.wide 5 trivial trivial trivial trivial rfl (by omega) (sorts_in _) (enters_of Try.func9 (by kernel_rfl) rfl) 34 #[.pointer (some ⟨w.heap.size,0,none⟩)] trivial (enters_of Try.func34 (by kernel_rfl) rfl) _ _ hmax hbytes _ hseq
theorem sorted_nil_in (w:World) :
    CallsIn Fence.wide 5 Try.prog 20 #[.func (.func 34) #[] #[.pointer (some ⟨w.heap.size,0,none⟩)]] (w.alloc (.cells #[.map none] MT)) fun e w'=>∃ (v:Value) (ss:List (List UInt8)),e=.returned v∧ss=[] ∧
      w'.ownsRow (w.alloc (.cells #[.map none] MT)).heap.size MK 1 v ss.length ((ss.mergeSort (fun x y=>decide (x≤y))).map encStr)∧(v=.slice none 0 0↔ss=[])∧Below (w.alloc (.cells #[.map none] MT)).heap.size (w.alloc (.cells #[.map none] MT)) w':=by
  have hseq:SeqGives Fence.wide 2 Try.prog 34 #[.pointer (some ⟨w.heap.size,0,none⟩)] encStr (fun ss:List (List UInt8)=>ss=[]) 0 (w.alloc (.cells #[.map none] MT)) :=
    AnyZ.keys_gives_nil (ρ:=Try.keys21_ren) { Try.keys21 with } Fence.wide _ trivial rfl w.heap.size _ (by simp) (by simp)
  exact AnyZ.sorted_in Try.sorted20 Fence.wide 5 trivial trivial trivial trivial rfl (by omega) (sorts_in _) (enters_of Try.func9 (by kernel_rfl) rfl) 34 #[.pointer (some ⟨w.heap.size,0,none⟩)] trivial (enters_of Try.func34 (by kernel_rfl) rfl) _ 0 (Nat.zero_le _) (by omega) _ hseq
/-- The names of a table, sorted. -/
def symNames (l:SymT):List (List UInt8):=(l.map (·.1)).mergeSort fun x y=>decide (x≤y)
theorem symNames_perm {ss:List (List UInt8)} {l:SymT} (h:ss.Perm (l.map (·.1))):ss.mergeSort (fun x y=>decide (x≤y))=symNames l:=by
  have tr:∀ a b c:List UInt8,(decide (a≤b))=true→(decide (b≤c))=true→(decide (a≤c))=true:=fun a b c h1 h2=>decide_eq_true (List.le_trans (of_decide_eq_true h1) (of_decide_eq_true h2))
  have to:∀ a b:List UInt8,((decide (a≤b))||(decide (b≤a)))=true:=fun a b=>by
    rcases List.le_total a b with h | h <;> simp [h]
  unfold symNames
  refine List.Perm.eq_of_pairwise (le:=fun x y=>decide (x≤y)=true) (fun a b _ _ h1 h2=>List.le_antisymm (of_decide_eq_true h1) (of_decide_eq_true h2)) (List.pairwise_mergeSort tr to ss) (List.pairwise_mergeSort tr to _) ?_
  exact (List.mergeSort_perm ss _).trans (h.trans (List.mergeSort_perm _ _).symm)
theorem names_walk (b:Nat) (w:World) (x:Option Nat) (l:SymT) (hc:w.cell? ⟨b,0,none⟩=some (.map x)) (hm:MapIs w x l) (hl:l.length*16≤140737488355328) :
    Calls Try.prog 14 #[.pointer (some ⟨b,0,none⟩)] w fun e w'=>∃ v,e=.returned v∧w'.ownsRow w.heap.size MK 1 v (symNames l).length ((symNames l).map encStr)∧Below w.heap.size w w':=by
  refine (callsIn_wide (n:=6)).1 ?_
  have hfK:Fence.wide.fn 21:=trivial
  have hfS:Fence.wide.fn 20:=trivial
  cases x with
  | none =>
    have hm:l=[]:=hm
    subst hm
    refine callsIn_of_wp Try.func14 rfl trivial ?_ rfl
    simp only [Try.ntmps14,List.size_toArray,List.length_cons,List.length_nil,Nat.reduceAdd,Nat.reduceSub,Array.replicate_succ,Array.replicate_zero,List.push_toArray,List.append_toArray,List.nil_append,List.cons_append]
    gi_wp2_with (first
      | (gi_at_call 21; refine (keys_in _ _).mono ?_; rintro e w' ⟨rfl,rfl⟩)
      | (gi_at_call 20; refine (sorted_nil_in _).mono ?_; rintro e w' ⟨v,ss,rfl,rfl,hrow,hnil,hb⟩))
    go_ret
    exact ⟨v,rfl,by simpa [symNames] using ownsRow_base_a hrow (by simp),((Below.refl _ w).alloc (Nat.le_refl _) _).trans (hb.mono (by simp))⟩
  | some m =>
    have hk:strKeys (symD l)=l.map (·.1):=by simp [strKeys,symD,symE,strOf]
    have hz:Maps.size (symD l)=l.length:=by simp [Maps.size,symD]
    refine callsIn_of_wp Try.func14 rfl trivial ?_ rfl
    simp only [Try.ntmps14,List.size_toArray,List.length_cons,List.length_nil,Nat.reduceAdd,Nat.reduceSub,Array.replicate_succ,Array.replicate_zero,List.push_toArray,List.append_toArray,List.nil_append,List.cons_append]
    gi_wp2_with (first
      | (gi_at_call 21; refine (keys_in _ _).mono ?_; rintro e w' ⟨rfl,rfl⟩)
      | (gi_at_call 20; refine (sorted_in m l.length (symD l) _ w hm (by rw [hz]; unfold maxLen; omega) (by rw [hz]; exact hl)).mono ?_; rintro e w' ⟨v,ss,rfl,hS,hrow,hnil,hb⟩))
    go_ret
    rw [hk] at hS
    refine ⟨v,rfl,?_,((Below.refl _ w).alloc (Nat.le_refl _) _).trans (hb.mono (by simp))⟩
    have hlen:ss.length=(symNames l).length:=by rw [← symNames_perm hS]; simp
    rw [← hlen,← symNames_perm hS]
    exact ownsRow_base_a hrow (by simp)
end Go.Proofs.YtaoomioogojfhaaK
