/- Package symbols, by hand: At and Near. -/
import Derived.Test.YtaoomioogojfhaaSz
namespace Go.Proofs.YtaoomioogojfhaaK
set_option linter.unusedVariables false
set_option linter.unusedSimpArgs false
set_option maxRecDepth 100000
set_option maxHeartbeats 4000000
open Go.RowKit Go.WideMaps Go.ChangeMaps Go.MapKept Go.Maps Go.Sort Go.Shelf
theorem row_cases {W:World} {base:Nat} {v:Value} {n:Nat} {xs:List Value} (h:W.ownsRow base MK 1 v n xs):∃ A cap,v=.slice A n cap∧n≤cap∧cap≤maxLen∧(n=0∨∃ g,A=some ⟨g,0,none⟩∧base≤g∧g < W.heap.size∧∀ j u,xs[j]? = some u→W.cell? ⟨g,j,none⟩=some u):=by
  obtain ⟨hl,⟨rfl,rfl⟩ | ⟨g,cap,cur,rfl,hb,hc,h1,h2,h3,h4⟩⟩:=h
  · exact ⟨none,0,rfl,Nat.le_refl _,Nat.zero_le _,.inl rfl⟩
  · refine ⟨_,cap,rfl,h1,h2,.inr ⟨g,rfl,hb,(Array.getElem?_eq_some_iff.1 hc).1,fun j u hj => ?_⟩⟩
    have hjl:j < n*1:=by have:=(List.getElem?_eq_some_iff.1 hj).1; omega
    rw [← h4,List.getElem?_take,if_pos hjl] at hj
    simp only [World.cell?,hc]
    simpa using hj
/-- The names that stand for an address, in order. -/
def symAt (l:SymT) (a:Int):List (List UInt8):=(symNames l).filter fun s=>((l.find? fun p=>p.1 == s).map (·.2)).getD 0 == a
def symAtK (l:SymT) (a:Int) (k:Nat):List (List UInt8):=((symNames l).take k).filter fun s=>((l.find? fun p=>p.1 == s).map (·.2)).getD 0 == a
theorem symAtK_succ (l:SymT) (a:Int) {k:Nat} (h:k < (symNames l).length):symAtK l a (k+1)=symAtK l a k++if ((symGet l ⟨(symNames l)[k].toArray⟩).getD 0 == a)=true then [(symNames l)[k]] else []:=by
  unfold symAtK symGet
  rw [List.take_add_one,List.getElem?_eq_getElem h,List.filter_append]
  simp only [Option.toList_some,List.filter_cons,List.filter_nil]
theorem at_walk (b:Nat) (w:World) (x:Option Nat) (l:SymT) (a:Int) (ha:0≤a∧a < 65536) (hc:w.cell? ⟨b,0,none⟩=some (.map x)) (hm:MapIs w x l) (hl:l.length*16≤140737488355328) (hs:∀ p∈l,p.1.length≤maxLen) :
    Calls Try.prog 15 #[.pointer (some ⟨b,0,none⟩),.int .u16 a] w fun e w'=>∃ v,e=.returned v∧w'.ownsRow w.heap.size MK 1 v (symAt l a).length ((symAt l a).map encStr)∧Below w.heap.size w w':=by
  have hw:IntKind.wrap .i64 a=a:=by simp [IntKind.wrap,IntKind.bits,IntKind.signed]; omega
  have hbl:=cell_lt hc
  have hnl:(symNames l).length=l.length:=by simp [symNames]
  go_enter Try.func15,Try.ntmps15
  go_wp2_with (go_at_call 14; refine (names_walk b _ x l hc hm hl).mono ?_; rintro e w1 ⟨v,rfl,hrow,hb⟩; obtain ⟨A,cap,rfl,hn1,hn2,hn3⟩:=row_cases hrow)
  go_loopw [5,11] (fun vo i wr=>∃ k:Nat,k≤(symNames l).length∧i=.int .i64 k∧wr.ownsRow w1.heap.size MK 1 vo (symAtK l a k).length ((symAtK l a k).map encStr)∧Below w1.heap.size w1 wr) (fun _ i _=>(symNames l).length - (match i with | .int _ q=>q.toNat | _=>0))
  case atStart=>exact ⟨0,Nat.zero_le _,rfl,World.ownsRow_nil _ _ _ _,Below.refl _ _⟩
  case round =>
    obtain ⟨k,hk,rfl,hown,hbw⟩:=hrel
    have hc':wr.cell? ⟨b,0,none⟩=some (.map x):=(hbw.cell (p:=⟨b,0,none⟩) (Nat.lt_of_lt_of_le hbl hb.size)).trans ((hb.cell (p:=⟨b,0,none⟩) hbl).trans hc)
    have hm':MapIs wr x l:=hm.kept fun m e=>by
      subst e
      rw [hbw.block m (Nat.lt_of_lt_of_le hm.lt hb.size),hb.block m hm.lt]
    by_cases hkn:k < (symNames l).length
    · obtain ⟨g,rfl,hg1,hg2,hcells⟩:∃ g,A=some ⟨g,0,none⟩∧w.heap.size≤g∧g < w1.heap.size∧∀ (j:Nat) (u:Value),(List.map encStr (symNames l))[j]? = some u→w1.cell? ⟨g,j,none⟩=some u:=by
        rcases hn3 with h | h
        · omega
        · exact h
      have hcs:wr.cell? ⟨g,k,none⟩=some (.string ⟨(symNames l)[k].toArray⟩):=by
        rw [hbw.cell (p:=⟨g,k,none⟩) hg2]
        exact hcells k _ (by rw [List.getElem?_map,List.getElem?_eq_getElem hkn]; rfl)
      have hmem:(symNames l)[k]∈l.map (·.1):=(List.mergeSort_perm _ _).mem_iff.1 (List.getElem_mem hkn)
      obtain ⟨p0,hp0,hp1⟩:=List.mem_map.1 hmem
      have hlk:=hm'.look ⟨(symNames l)[k].toArray⟩ (by show (symNames l)[k].toArray.size≤_; rw [List.size_toArray,← hp1]; exact hs p0 hp0) false
      simp only [Bool.false_eq_true,if_false] at hlk
      have hsucc:=symAtK_succ l a hkn
      have hkw:IntKind.wrap .i64 ((k:Int)+1)=((k+1:Nat):Int):=by rw [IntKind.wrap_i64]; unfold maxLen at hn2; omega
      have hk1:(k:Int) < ((symNames l).length:Int):=by omega
      obtain ⟨i0,hi,hz0,hz1,hz2⟩:=info_parts (show (Try.prog.info? MK).map (fun i=>(i.zero,i.size,i.bytes))=some (some (.string ByteArray.empty),1,16) by kernel_rfl)
      generalize (symNames l)[k]=s0 at *
      generalize (symGet l ⟨s0.toArray⟩).getD 0=v0 at *
      have hkl:(symAtK l a k).length≤k:=Nat.le_trans (List.length_filter_le _ _) (by rw [List.length_take]; omega)
      generalize symAtK l a k=xs at *
      go_wp2_with (at_builtin; refine wpList_append_own _ rfl _ _ 34 rfl w1.heap.size MK i0 (.string ByteArray.empty) 1 16 Try.underlying34 hi hz0 hz1 hz2 rfl (by decide) _ _ _ rfl (hown.alloc _) ⟨wr.heap.size,0,none⟩ 1 1 [.string ⟨s0.toArray⟩] rfl rfl (cell_one_new _ _ _) (fun x hx=>by simp at hx; subst hx; rfl) (by unfold maxLen at *; omega) (by omega) (by have:=hbw.size; simp; omega) ?_; intro v' w3 hown' hgrow3 hnil3)
      · have hv:(v0 == a)=true:=by assumption
        rw [if_pos hv] at hsucc
        go_roundw
        case rel =>
          refine ⟨k+1,hkn,by simp,?_,Below.grown (hbw.alloc hbw.size _) hgrow3 (by have:=hbw.size; simp; omega) fun j hj=>(hown.lt j hj).1⟩
          rw [hsucc,List.length_append,List.map_append]
          exact hown'
        case measure=>show (symNames l).length - ((k:Int)+1).toNat < (symNames l).length - (k:Int).toNat; omega
      · have hv:(v0 == a)=false:=by assumption
        rw [if_neg (by rw [hv]; simp),List.append_nil] at hsucc
        go_roundw
        case rel=>exact ⟨k+1,hkn,by simp,by rw [hsucc]; exact hown,hbw⟩
        case measure=>show (symNames l).length - ((k:Int)+1).toNat < (symNames l).length - (k:Int).toNat; omega
    · go_wp2
      go_ret
      refine ⟨_,rfl,?_,hb.trans (hbw.mono hb.size)⟩
      have:symAtK l a k=symAt l a:=by unfold symAtK symAt; rw [List.take_of_length_le (by omega)]
      rw [← this]
      exact ownsRow_base_a hown hb.size
/-- The first name of the greatest address that is no greater than one, so far. -/
def symNearF (l:SymT) (a:Int) (acc:List UInt8 × Bool) (s:List UInt8):List UInt8 × Bool :=
  if (decide (((symGet l ⟨s.toArray⟩).getD 0)≤a)&&(!acc.2||decide ((symGet l ⟨acc.1.toArray⟩).getD 0 < (symGet l ⟨s.toArray⟩).getD 0)))=true then (s,true) else acc
def symNearK (l:SymT) (a:Int) (k:Nat):List UInt8 × Bool:=((symNames l).take k).foldl (symNearF l a) ([],false)
def symNear (l:SymT) (a:Int):List UInt8 × Bool:=(symNames l).foldl (symNearF l a) ([],false)
theorem symNearK_succ (l:SymT) (a:Int) {k:Nat} (h:k < (symNames l).length):symNearK l a (k+1)=symNearF l a (symNearK l a k) (symNames l)[k]:=by
  unfold symNearK
  rw [List.take_add_one,List.getElem?_eq_getElem h,List.foldl_append]; rfl
theorem symNames_ok {l:SymT} (hs:∀ p∈l,p.1.length≤maxLen) {s:List UInt8} (h:s∈symNames l):s.length≤maxLen:=by
  have hmem:s∈l.map (·.1):=(List.mergeSort_perm _ _).mem_iff.1 h
  obtain ⟨p0,hp0,hp1⟩:=List.mem_map.1 hmem
  rw [← hp1]; exact hs p0 hp0
theorem symNearK_ok {l:SymT} (hs:∀ p∈l,p.1.length≤maxLen) (a:Int):∀ k,k≤(symNames l).length→(symNearK l a k).1.length≤maxLen
  | 0,_=>by simp [symNearK]
  | k+1,h=>by
    rw [symNearK_succ l a h]
    unfold symNearF
    split
    · exact symNames_ok hs (List.getElem_mem h)
    · exact symNearK_ok hs a k (by omega)
theorem near_walk (b:Nat) (w:World) (x:Option Nat) (l:SymT) (a:Int) (ha:0≤a∧a < 65536) (hc:w.cell? ⟨b,0,none⟩=some (.map x)) (hm:MapIs w x l) (hl:l.length*16≤140737488355328) (hs:∀ p∈l,p.1.length≤maxLen) :
    Calls Try.prog 11 #[.pointer (some ⟨b,0,none⟩),.int .u16 a] w fun e w'=>e=.returned (.tuple (if (symNear l a).2=true then #[.string ⟨(symNear l a).1.toArray⟩,.int .i64 (IntKind.wrap .i64 (a - (symGet l ⟨(symNear l a).1.toArray⟩).getD 0)),.bool true] else #[.string ⟨#[]⟩,.int .i64 0,.bool false]))∧Below w.heap.size w w':=by
  have hw:IntKind.wrap .i64 a=a:=by simp [IntKind.wrap,IntKind.bits,IntKind.signed]; omega
  have hbl:=cell_lt hc
  have hnl:(symNames l).length=l.length:=by simp [symNames]
  go_enter Try.func11,Try.ntmps11
  go_wp2_with (go_at_call 14; refine (names_walk b _ x l hc hm hl).mono ?_; rintro e w1 ⟨v,rfl,hrow,hb⟩; obtain ⟨A,cap,rfl,hn1,hn2,hn3⟩:=row_cases hrow)
  go_loopw [7,8,15] (fun be so i wr=>wr=w1∧∃ k:Nat,k≤(symNames l).length∧i=.int .i64 k∧be=.string ⟨(symNearK l a k).1.toArray⟩∧so=.bool (symNearK l a k).2) (fun _ _ i _=>(symNames l).length - (match i with | .int _ q=>q.toNat | _=>0))
  case atStart=>exact ⟨rfl,0,Nat.zero_le _,rfl,rfl,rfl⟩
  case round =>
    obtain ⟨rfl,k,hk,rfl,rfl,rfl⟩:=hrel
    have hc':wr.cell? ⟨b,0,none⟩=some (.map x):=(hb.cell (p:=⟨b,0,none⟩) hbl).trans hc
    have hm':MapIs wr x l:=hm.kept fun m e=>by
      subst e
      rw [hb.block m hm.lt]
    have hok:=symNearK_ok hs a k hk
    have hlb:=hm'.look ⟨(symNearK l a k).1.toArray⟩ (by show (symNearK l a k).1.toArray.size≤_; rw [List.size_toArray]; exact hok) false
    simp only [Bool.false_eq_true,if_false] at hlb
    by_cases hkn:k < (symNames l).length
    · obtain ⟨g,rfl,hg1,hg2,hcells⟩:∃ g,A=some ⟨g,0,none⟩∧w.heap.size≤g∧g < wr.heap.size∧∀ (j:Nat) (u:Value),(List.map encStr (symNames l))[j]? = some u→wr.cell? ⟨g,j,none⟩=some u:=by
        rcases hn3 with h | h
        · omega
        · exact h
      have hcs:wr.cell? ⟨g,k,none⟩=some (.string ⟨(symNames l)[k].toArray⟩):=hcells k _ (by rw [List.getElem?_map,List.getElem?_eq_getElem hkn]; rfl)
      clear hcells
      have hlk:=hm'.look ⟨(symNames l)[k].toArray⟩ (by show (symNames l)[k].toArray.size≤_; rw [List.size_toArray]; exact symNames_ok hs (List.getElem_mem hkn)) false
      simp only [Bool.false_eq_true,if_false] at hlk
      have hsucc:=symNearK_succ l a hkn
      unfold symNearF at hsucc
      have hkw:IntKind.wrap .i64 ((k:Int)+1)=((k+1:Nat):Int):=by rw [IntKind.wrap_i64]; unfold maxLen at hn2; omega
      have hk1:(k:Int) < ((symNames l).length:Int):=by omega
      generalize (symNames l)[k]=s0 at *
      generalize (symGet l ⟨s0.toArray⟩).getD 0=v0 at *
      generalize symNearK l a k=acc at *
      obtain ⟨b0,so⟩:=acc
      generalize (symGet l ⟨b0.toArray⟩).getD 0=vb at *
      go_wp2
      all_goals
        refine ⟨⟨trivial,k+1,hkn,by simp,?_,?_⟩,?_⟩
        · rw [hsucc]; split <;> simp_all <;> omega
        · rw [hsucc]; split <;> simp_all <;> omega
        · show (symNames l).length - ((k:Int)+1).toNat < (symNames l).length - (k:Int).toNat; omega
    · have hq:∀ n,(Instr.lookup MT (.map x) (.string ⟨(symNearK l a k).1.toArray⟩) false).run Try.prog (wr.drewN n)=.ok (.int .i64 ((symGet l ⟨(symNearK l a k).1.toArray⟩).getD 0)) (wr.drewN n):=fun n=>by
        have:=(hm'.kept (w':=wr.drewN n) fun _ _=>rfl).look ⟨(symNearK l a k).1.toArray⟩ (by show (symNearK l a k).1.toArray.size≤_; rw [List.size_toArray]; exact hok) false
        simpa only [Bool.false_eq_true,if_false] using this
      have e:symNearK l a k=symNear l a:=by unfold symNearK symNear; rw [List.take_of_length_le (by omega)]
      rw [e] at hq ⊢
      clear hlb
      obtain ⟨⟨b0,so⟩,hacc⟩:∃ acc,symNear l a=acc:=⟨_,rfl⟩
      rw [hacc] at hq ⊢
      generalize hvb:(symGet l ⟨b0.toArray⟩).getD 0=vb at *
      have fin:(if (symNear l a).2=true then #[Value.string ⟨(symNear l a).1.toArray⟩,.int .i64 (IntKind.wrap .i64 (a - (symGet l ⟨(symNear l a).1.toArray⟩).getD 0)),.bool true] else #[.string ⟨#[]⟩,.int .i64 0,.bool false])=if so=true then #[Value.string ⟨b0.toArray⟩,.int .i64 (IntKind.wrap .i64 (a - vb)),.bool true] else #[.string ⟨#[]⟩,.int .i64 0,.bool false]:=by rw [hacc,← hvb]
      have mixed:Try.prog.follows .mixedOrders=true:=by kernel_rfl
      cases so
      · go_wp2
        all_goals first
          | (exfalso; rename_i h; rw [hacc] at h; cases h; done)
          | (go_ret3; exact ⟨rfl,hb⟩)
      · go_wp2
        go_quiet_o (fail)
        go_wp2
        all_goals go_ret3
        all_goals exact ⟨rfl,hb.os,hb.tape,hb.output,hb.size,hb.block⟩
end Go.Proofs.YtaoomioogojfhaaK
