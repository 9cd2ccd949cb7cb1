/- Package prof, by hand: a map from addresses to counts. -/
import Derived.Test.YtoemlgdlejkliaaRs
import Derived.Test.YtoemlgdlejkliaaProg
import Derived.Maps.OwnSet
import Derived.Maps.RangeWalk
import Derived.WalkSpells
import Derived.Laws.ResultCell
import Derived.Laws.Rows
import Derived.Laws.NewBlocks
import Derived.WalkKit
import Derived.Shelf.RegionOpenPlain
namespace Go.Proofs.YtoemlgdlejkliaaK
set_option linter.unusedVariables false
set_option linter.unusedSimpArgs false
set_option maxRecDepth 100000
set_option maxHeartbeats 4000000
open Go.RowKit Go.WideMaps Go.ChangeMaps Go.MapKept
abbrev SpT:=Int × Int × Int × Int
def spV (s:SpT):Value:=.agg #[.int .u16 s.1,.int .i64 s.2.1,.int .i64 s.2.2.1,.int .i64 s.2.2.2]
def spR:Value→Option (DataW SpT × List MemPlace)
  | .agg xs=>match xs.toList with
    | [.int .u16 a,.int .i64 t,.int .i64 c,.int .i64 l]=>some (.held (a,t,c,l),[])
    | _=>none
  | _=>none
theorem spR_V (s:SpT):spR (spV s)=some (.held s,[]):=rfl
theorem spR_inv {v:Value} {y:DataW SpT × List MemPlace} (h:spR v=some y):∃ s,v=spV s∧y=(.held s,[]):=by
  cases v with
  | agg xs =>
    obtain ⟨l⟩:=xs
    unfold spR at h
    simp only at h
    split at h
    · rename_i a t c l'
      injection h with h
      exact ⟨(a,t,c,l'),rfl,h.symm⟩
    · cases h
  | _=>cases h
abbrev ProfT:=List (Int × SpT)
def profGet (l:ProfT) (a:Int):Option SpT:=(l.find? fun p=>p.1 == a).map (·.2)
def profDel (l:ProfT) (a:Int):ProfT:=l.filter fun p=>!(p.1 == a)
def profIns (x:Int × SpT):ProfT→ProfT
  | []=>[x]
  | y::r=>if (Lit.int .u16 x.1).before (.int .u16 y.1) then x::y::r else y::profIns x r
def profPut (l:ProfT) (a:Int) (v:SpT):ProfT:=profIns (a,v) (profDel l a)
def sp0:SpT:=(0,0,0,0)
def profE (p:Int × SpT):Lit × DataW SpT:=(.int .u16 p.1,.held p.2)
def profD (l:ProfT):DataW SpT:=.map (l.map profE)
theorem profE_same (p:Int × SpT) (a:Int):(profE p).1.sameKey (.int .u16 a)=(p.1 == a):=by
  rw [Bool.eq_iff_iff]; simp [profE,Lit.sameKey]
theorem profD_at (l:ProfT) (a:Int) (z:DataW SpT):(profD l).atKey (.int .u16 a) z=match profGet l a with | some v=>.held v | none=>z:=by
  unfold profD profGet DataW.atKey
  induction l with
  | nil=>rfl
  | cons p r ih =>
    simp only [List.map_cons,List.find?_cons,profE_same]
    cases p.1 == a
    · exact ih
    · rfl
theorem profD_has (l:ProfT) (a:Int):Maps.has (profD l) (.int .u16 a)=(profGet l a).isSome:=by
  unfold profD profGet Maps.has
  induction l with
  | nil=>rfl
  | cons p r ih =>
    simp only [List.map_cons,List.find?_cons,List.any_cons,profE_same]
    cases p.1 == a
    · simp only [Bool.false_or]; exact ih
    · rfl
theorem profDel_E (l:ProfT) (a:Int):(l.map profE).filter (fun p=>!p.1.sameKey (.int .u16 a))=(profDel l a).map profE:=by
  rw [List.filter_map]
  unfold profDel
  congr 1
  exact List.filter_congr fun p _=>by show (!(profE p).1.sameKey (.int .u16 a))=_; rw [profE_same]
theorem profIns_E (x:Int × SpT):∀ l:ProfT,DataW.insert (profE x) (l.map profE)=(profIns x l).map profE
  | []=>rfl
  | y::r=>by
    simp only [List.map_cons,DataW.insert,profIns]
    show (if (Lit.int .u16 x.1).before (.int .u16 y.1)=true then _ else _)=_
    split
    · rfl
    · rw [profIns_E x r]; rfl
theorem profD_put (l:ProfT) (a:Int) (v:SpT):(profD l).put (.int .u16 a) (.held v)=profD (profPut l a v):=by
  show DataW.map _=DataW.map _
  rw [profDel_E]
  exact congrArg _ (profIns_E (a,v) _)
abbrev PMT:TypeId:=25
abbrev PMK:TypeId:=23
abbrev PME:TypeId:=35
theorem pmt_und:Try.prog.underlying PMT=some (.map PMK PME):=by kernel_rfl
theorem pmk_und:Try.prog.underlying PMK=some (.int .u16):=by kernel_rfl
theorem pme_zero (w:World):(zeroValue PME).run Try.prog w=.ok (spV sp0) w:=by
  obtain ⟨i,hi,hz⟩:∃ i,Try.prog.info? PME=some i∧i.zero=some (spV sp0):=by
    have:(Try.prog.info? PME).map (·.zero)=some (some (spV sp0)):=by kernel_rfl
    cases h:Try.prog.info? PME with
    | none=>rw [h] at this; cases this
    | some i=>rw [h] at this; exact ⟨i,rfl,Option.some.inj this⟩
  simp [zeroValue,typeInfo,hi,hz]
theorem pm_keyed:Maps.Keyed Try.prog PMK:=Maps.int_keyed pmk_und
theorem wf_key {a:Int} (ha:0≤a∧a < 65536):(Lit.int .u16 a).wf=true:=by
  have h1:IntKind.min .u16≤a:=ha.1
  have h2 : a ≤ IntKind.max .u16 := by have : IntKind.max .u16 = 65535 := by decide
                                       omega
  show (decide (IntKind.min .u16≤a)&&decide (a≤IntKind.max .u16))=true
  rw [decide_eq_true h1,decide_eq_true h2]; rfl
theorem pm_key {a:Int} (ha:0≤a∧a < 65536):keyOf Try.prog PMK (.int .u16 a)=some (.int .u16 a):=Maps.keyOf_int_mk pmk_und (wf_key ha)
/-- A map: none, or one that reads so. -/
def PMapIs (w:World) (x:Option Nat) (l:ProfT):Prop:=match x with
  | none=>l=[]
  | some b=>w.ownsMap Try.prog PMK spR b l.length (profD l)
theorem PMapIs.look {w:World} {x:Option Nat} {l:ProfT} (h:PMapIs w x l) (a:Int) (ha:0≤a∧a < 65536) (c:Bool) :
    (Instr.lookup PMT (.map x) (.int .u16 a) c).run Try.prog w=.ok (if c then .tuple #[spV ((profGet l a).getD sp0),.bool (profGet l a).isSome] else spV ((profGet l a).getD sp0)) w:=by
  have hkey:=pm_key ha
  cases x with
  | none =>
    have h:l=[]:=h
    subst h
    have hc:=pm_keyed.check w true hkey
    cases c <;> simp [Instr.lookup,run_underlying pmt_und,pme_zero,profGet,hc,Instr.findKey,Instr.findNow] <;> rfl
  | some b =>
    obtain ⟨es,clock,hb,F,hn,hD⟩:=h
    have hat:=profD_at l a
    rcases Maps.fit_look c pm_keyed pmt_und (pme_zero w) hb F hkey with ⟨hrun,hno,hz⟩ | ⟨e0,y,hm,hk,hrun,hR,hz,_⟩
    · have h1:=hz (.lit (.int .i64 1))
      rw [← hD,hat] at h1
      cases hg:profGet l a with
      | none=>rw [hrun]; simp
      | some v=>rw [hg] at h1; simp at h1
    · obtain ⟨s,hs,rfl⟩:=spR_inv hR
      have h1:=hz (.lit (.int .i64 1))
      rw [← hD,hat] at h1
      cases hg:profGet l a with
      | none=>rw [hg] at h1; simp at h1
      | some v =>
        rw [hg] at h1
        simp at h1
        subst h1
        rw [hrun,hs]; simp
theorem PMapIs.kept {w w':World} {x:Option Nat} {l:ProfT} (h:PMapIs w x l) (hk:∀ m,x=some m→w'.heap[m]? = w.heap[m]?):PMapIs w' x l:=by
  cases x with
  | none=>exact h
  | some m =>
    obtain ⟨es,clock,hb,r⟩:=h
    exact ⟨es,clock,(hk m rfl).trans hb,r⟩
theorem PMapIs.lt {w:World} {m:Nat} {l:ProfT} (h:PMapIs w (some m) l):m < w.heap.size:=World.ownsMap.lt h
theorem pes_len {es:Array MapEntry} {k:TypeId} {R:Value→Option (DataW SpT × List MemPlace)} {l:ProfT} (hD:profD l=.map ((es.toList.map (WideElems.rg Try.prog k R)).foldr DataW.insert [])):es.size=l.length:=by
  have:=congrArg (fun D=>match D with | DataW.map q=>q.length | _=>0) hD
  simp only [profD,List.length_map,length_sorted] at this
  simpa using this.symm
theorem PMapIs.set {w:World} {m:Nat} {l:ProfT} (h:PMapIs w (some m) l) (a:Int) (ha:0≤a∧a < 65536) (v:SpT) (hl:l.length < maxLen):∃ w',(Instr.mapUpdate PMT (.map (some m)) (.int .u16 a) (spV v)).run Try.prog w=.ok () w'∧PMapIs w' (some m) (profPut l a v) ∧
    w'.heap.size=w.heap.size∧(∀ k,k ≠ m→w'.heap[k]? = w.heap[k]?)∧w'.os=w.os∧w'.tape=w.tape∧w'.output=w.output:=by
  have hkey:=pm_key ha
  obtain ⟨es,clock,hb,F,hn,hD⟩:=h
  obtain ⟨es',clock',hrun,F',hput,_⟩:=Maps.fit_store (R':=spR) pm_keyed pmt_und hb F (Nat.lt_of_le_of_lt hn hl) (fun _ _ _ _ hz=>hz) hkey (spR_V v)
  have hD':profD (profPut l a v)=.map ((es'.toList.map (WideElems.rg Try.prog PMK spR)).foldr DataW.insert []):=by
    rw [hput,← profD_put,hD]; rfl
  exact ⟨_,hrun,⟨es',clock',heap_setBlock_same hb _,F',Nat.le_of_eq (pes_len hD'),hD'⟩,by simp [setBlock],fun k hk=>heap_setBlock_other hb _ (fun e=>hk (by rw [e])),rfl,rfl,rfl⟩
theorem PMapIs.clear {w:World} {x:Option Nat} {l:ProfT} (h:PMapIs w x l) (ty:TypeId):∃ w',(Builtin.clear_ #[PMT] ty #[.map x]).run Try.prog w=.ok (.tuple #[]) w'∧PMapIs w' x [] ∧
    w'.heap.size=w.heap.size∧(∀ k,x ≠ some k→w'.heap[k]? = w.heap[k]?)∧w'.os=w.os∧w'.tape=w.tape∧w'.output=w.output:=by
  cases x with
  | none=>exact ⟨w,by simp [Builtin.clear_,run_underlying pmt_und],rfl,rfl,fun _ _=>rfl,rfl,rfl,rfl⟩
  | some m =>
    obtain ⟨es,clock,hb,F,hn,hD⟩:=h
    refine ⟨setBlock w m (.map #[] clock),by simp [Builtin.clear_,run_underlying pmt_und,MapKept.run_getObj_map hb,MapKept.run_setObj_map _ hb,Result.andThen]; rfl,⟨#[],clock,heap_setBlock_same hb _,⟨by simp,stamped_empty clock,by simp⟩,Nat.le_refl _,rfl⟩,by simp [setBlock],fun k hk=>heap_setBlock_other hb _ (fun e=>hk (by rw [e])),rfl,rfl,rfl⟩
theorem PMapIs.alloc {w:World} {x:Option Nat} {l:ProfT} (h:PMapIs w x l) (o:Obj):PMapIs (w.alloc o) x l :=
  h.kept fun m e=>by subst e; exact (MapKept.heap_alloc w o).2 m h.lt
theorem cell_alloc {w:World} {b:Nat} {v:Value} (h:w.cell? ⟨b,0,none⟩=some v) (o:Obj):(w.alloc o).cell? ⟨b,0,none⟩=some v:=by
  have hb:b < w.heap.size:=cell_lt h
  rw [World.cell?_of_block (w:=w) ((MapKept.heap_alloc w o).2 b hb)]; exact h
theorem pme_info:(Try.prog.info? PME).map (·.size)=some 4:=by kernel_rfl
theorem res_cell_tmp {fn:Func} {p u:Tmp} (h:fn.results = #[.cell p PME,.tmp u]) (tmps:Array Value) (w:World) (g:Nat) (t:TypeId) (s:SpT) (fr:Nat × Nat) (hp:tmps.getD p undef=.pointer (some ⟨g,0,none⟩))
    (hg:w.heap[g]? = some (.cells #[.int .u16 s.1,.int .i64 s.2.1,.int .i64 s.2.2.1,.int .i64 s.2.2.2] t fr)):(results fn tmps).run Try.prog w=.ok (.tuple #[spV s,tmps.getD u undef]) w:=by
  rw [results_cell_tmp h,hp]
  simp only [asAddr,Sem.run_pure,Result.andThen,run_loadVar_row w g t PME _ fr _ hg Try.underlying35 rfl pme_info]; rfl
theorem res_cell {fn:Func} {p:Tmp} (h:fn.results = #[.cell p PME]) (tmps:Array Value) (w:World) (g:Nat) (t:TypeId) (s:SpT) (fr:Nat × Nat) (hp:tmps.getD p undef=.pointer (some ⟨g,0,none⟩))
    (hg:w.heap[g]? = some (.cells #[.int .u16 s.1,.int .i64 s.2.1,.int .i64 s.2.2.1,.int .i64 s.2.2.2] t fr)):(results fn tmps).run Try.prog w=.ok (spV s) w:=by
  exact results_cell_row h tmps w g t _ fr _ hp hg Try.underlying35 rfl pme_info
theorem of_walk (b:Nat) (w:World) (x:Option Nat) (l:ProfT) (a:Int) (ha:0≤a∧a < 65536) (hc:w.cell? ⟨b,0,none⟩=some (.map x)) (hm:PMapIs w x l) :
    Calls Try.prog 8 #[.pointer (some ⟨b,0,none⟩),.int .u16 a] w fun e w'=>e=.returned (.tuple #[spV ((profGet l a).getD sp0),.bool (profGet l a).isSome])∧Below w.heap.size w w':=by
  have hlk:∀ o,_:=fun o=>(hm.alloc o).look a ha true
  have hc':∀ o,_:=fun o=>cell_alloc hc o
  simp only [if_true] at hlk
  generalize (profGet l a).getD sp0=s at hlk ⊢
  obtain ⟨sa,st,sc,sl⟩:=s
  simp only [spV] at hlk ⊢
  go_enter Try.func8,Try.ntmps8
  go_wp2
  refine bodyPost_ret_by (res_cell_tmp rfl _ _ w.heap.size _ (sa,st,sc,sl) (0,0) rfl (heap_alloc2_old w _ _)) rfl ⟨rfl,?_⟩
  exact ((Below.refl w.heap.size w).alloc (Nat.le_refl _) _).alloc (by rw [alloc_size]; omega) _
end Go.Proofs.YtoemlgdlejkliaaK
