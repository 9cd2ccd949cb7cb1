/- Package symbols, by hand: what the methods of a table come to. -/
import Derived.Test.YtaoomioogojfhaaRs
import Derived.Test.YtaoomioogojfhaaProg
import Derived.Maps.OwnSet
import Derived.StringKeys
import Derived.WalkSpells
import Derived.WalkKit
import Derived.Shelf.RegionOpenPlain
namespace Go.Proofs.YtaoomioogojfhaaK
set_option linter.unusedVariables false
set_option linter.unusedSimpArgs false
set_option maxRecDepth 100000
set_option maxHeartbeats 4000000
open Go.RowKit Go.WideMaps Go.ChangeMaps Go.MapKept
abbrev SymT:=List (List UInt8 × Int)
def symGet (l:SymT) (s:ByteArray):Option Int:=(l.find? fun p=>p.1 == s.data.toList).map (·.2)
def symDel (l:SymT) (s:ByteArray):SymT:=l.filter fun p=>!(p.1 == s.data.toList)
def symIns (x:List UInt8 × Int):SymT→SymT
  | []=>[x]
  | y::r=>if (Lit.string x.1).before (.string y.1) then x::y::r else y::symIns x r
def symPut (l:SymT) (s:ByteArray) (v:Int):SymT:=symIns (s.data.toList,v) (symDel l s)
def symE (p:List UInt8 × Int):Lit × DataW Nat:=(.string p.1,.lit (.int .i64 p.2))
def symD (l:SymT):DataW Nat:=.map (l.map symE)
theorem symE_same (p:List UInt8 × Int) (s:ByteArray):(symE p).1.sameKey (.string s.data.toList)=(p.1 == s.data.toList):=rfl
theorem symD_at (l:SymT) (s:ByteArray) (z:DataW Nat):(symD l).atKey (.string s.data.toList) z=match symGet l s with | some v=>.lit (.int .i64 v) | none=>z:=by
  unfold symD symGet DataW.atKey
  induction l with
  | nil=>rfl
  | cons p r ih =>
    simp only [List.map_cons,List.find?_cons,symE_same]
    cases p.1 == s.data.toList
    · exact ih
    · rfl
theorem symD_has (l:SymT) (s:ByteArray):Maps.has (symD l) (.string s.data.toList)=(symGet l s).isSome:=by
  unfold symD symGet Maps.has
  induction l with
  | nil=>rfl
  | cons p r ih =>
    simp only [List.map_cons,List.find?_cons,List.any_cons,symE_same]
    cases p.1 == s.data.toList
    · simp only [Bool.false_or]; exact ih
    · rfl
theorem symDel_E (l:SymT) (s:ByteArray):(l.map symE).filter (fun p=>!p.1.sameKey (.string s.data.toList))=(symDel l s).map symE:=by
  rw [List.filter_map]; rfl
theorem symD_del (l:SymT) (s:ByteArray):(symD l).del (.string s.data.toList)=symD (symDel l s):=by
  show DataW.map _=DataW.map _
  rw [symDel_E]
theorem symIns_E (x:List UInt8 × Int):∀ l:SymT,DataW.insert (symE x) (l.map symE)=(symIns x l).map symE
  | []=>rfl
  | y::r=>by
    simp only [List.map_cons,DataW.insert,symIns]
    show (if (Lit.string x.1).before (.string y.1)=true then _ else _)=_
    split
    · rfl
    · rw [symIns_E x r]; rfl
theorem symD_put (l:SymT) (s:ByteArray) (v:Int):(symD l).put (.string s.data.toList) (.lit (.int .i64 v))=symD (symPut l s v):=by
  show DataW.map _=DataW.map _
  rw [symDel_E]
  exact congrArg _ (symIns_E (s.data.toList,v) _)
abbrev MT:TypeId:=25
abbrev MK:TypeId:=9
abbrev ME:TypeId:=3
theorem mt_und:Try.prog.underlying MT=some (.map MK ME):=by kernel_rfl
theorem mk_und:Try.prog.underlying MK=some .string:=by kernel_rfl
theorem me_und:Try.prog.underlying ME=some (.int .i64):=by kernel_rfl
theorem me_zero (w:World):(zeroValue ME).run Try.prog w=.ok (.int .i64 0) w:=by
  obtain ⟨i,hi,hz⟩:∃ i,Try.prog.info? ME=some i∧i.zero=some (.int .i64 0):=by
    have:(Try.prog.info? ME).map (·.zero)=some (some (.int .i64 0)):=by kernel_rfl
    cases h:Try.prog.info? ME with
    | none=>rw [h] at this; cases this
    | some i=>rw [h] at this; exact ⟨i,rfl,Option.some.inj this⟩
  simp [zeroValue,typeInfo,hi,hz]
/-- A table's map: none, or one that reads so. -/
def MapIs (w:World) (x:Option Nat) (l:SymT):Prop:=match x with
  | none=>l=[]
  | some b=>w.ownsMap Try.prog MK (plainElem Try.prog ME) b l.length (symD l)
theorem MapIs.look {w:World} {x:Option Nat} {l:SymT} (h:MapIs w x l) (s:ByteArray) (hs:s.size≤maxLen) (c:Bool) :
    (Instr.lookup MT (.map x) (.string s) c).run Try.prog w=.ok (if c then .tuple #[.int .i64 ((symGet l s).getD 0),.bool (symGet l s).isSome] else .int .i64 ((symGet l s).getD 0)) w:=by
  have hkey:=keyOf_string_mk (P:=Try.prog) mk_und hs
  cases x with
  | none =>
    have h:l=[]:=h
    subst h
    have hc:=(Maps.string_keyed (P:=Try.prog) mk_und).check w true hkey
    cases c <;> simp [Instr.lookup,run_underlying mt_und,me_zero,symGet,hc,Instr.findKey,Instr.findNow]
  | some b =>
    obtain ⟨es,clock,hb,F,hn,hD⟩:=h
    have hat:=symD_at l s
    have hhas:=symD_has l s
    rcases Maps.fit_look c (Maps.string_keyed mk_und) mt_und (me_zero w) hb F hkey with ⟨hrun,hno,hz⟩ | ⟨e0,y,hm,hk,hrun,hR,hz,_⟩
    · have h1:=hz (.lit (.int .i64 1))
      have h2:=hz (.lit (.int .i64 2))
      rw [← hD,hat] at h1 h2
      cases hg:symGet l s with
      | none=>rw [hrun]; simp
      | some v=>rw [hg] at h1 h2; simp at h1 h2; omega
    · obtain ⟨a,ha,rfl,hw⟩:=plainElem_int_inv me_und hR
      have h1:=hz (.lit (.int .i64 1))
      have h2:=hz (.lit (.int .i64 2))
      rw [← hD,hat] at h1 h2
      cases hg:symGet l s with
      | none=>rw [hg] at h1 h2; simp at h1 h2; omega
      | some v =>
        rw [hg] at h1
        simp at h1
        subst h1
        rw [hrun,ha]; simp
theorem MapIs.kept {w w':World} {x:Option Nat} {l:SymT} (h:MapIs w x l) (hk:∀ m,x=some m→w'.heap[m]? = w.heap[m]?):MapIs w' x l:=by
  cases x with
  | none=>exact h
  | some m =>
    obtain ⟨es,clock,hb,r⟩:=h
    exact ⟨es,clock,(hk m rfl).trans hb,r⟩
theorem MapIs.lt {w:World} {m:Nat} {l:SymT} (h:MapIs w (some m) l):m < w.heap.size:=World.ownsMap.lt h
theorem MapIs.len {w:World} {x:Option Nat} {l:SymT} (h:MapIs w x l) (ty:TypeId):(Builtin.len_ #[MT] ty #[.map x]).run Try.prog w=.ok (.int .i64 l.length) w:=by
  cases x with
  | none=>have h:l=[]:=h; subst h; simp [Builtin.len_,run_underlying mt_und]; rfl
  | some m =>
    obtain ⟨es,clock,hb,F,hn,hD⟩:=h
    have hl:es.size=l.length:=by
      have:=congrArg (fun D=>match D with | DataW.map q=>q.length | _=>0) hD
      simp only [symD,List.length_map,length_sorted] at this
      simpa using this.symm
    simp [Builtin.len_,run_underlying mt_und,MapKept.run_getObj_map hb,hl]; rfl
theorem es_len {es:Array MapEntry} {k:TypeId} {R:Value→Option (DataW Nat × List MemPlace)} {l:SymT} (hD:symD l=.map ((es.toList.map (WideElems.rg Try.prog k R)).foldr DataW.insert [])):es.size=l.length:=by
  have:=congrArg (fun D=>match D with | DataW.map q=>q.length | _=>0) hD
  simp only [symD,List.length_map,length_sorted] at this
  simpa using this.symm
theorem MapIs.drop {w:World} {x:Option Nat} {l:SymT} (h:MapIs w x l) (s:ByteArray) (hs:s.size≤maxLen) (ty:TypeId):∃ w',(Builtin.delete_ #[MT,MK] ty #[.map x,.string s]).run Try.prog w=.ok (.tuple #[]) w'∧MapIs w' x (symDel l s) ∧
    w'.heap.size=w.heap.size∧(∀ k,x ≠ some k→w'.heap[k]? = w.heap[k]?)∧w'.os=w.os∧w'.tape=w.tape∧w'.output=w.output:=by
  have hkey:=keyOf_string_mk (P:=Try.prog) mk_und hs
  cases x with
  | none =>
    have h:l=[]:=h
    subst h
    have hc:=(Maps.string_keyed (P:=Try.prog) mk_und).check w true hkey
    exact ⟨w,by simp [Builtin.delete_,run_underlying mt_und,hc],rfl,rfl,fun _ _=>rfl,rfl,rfl,rfl⟩
  | some m =>
    obtain ⟨es,clock,hb,F,hn,hD⟩:=h
    obtain ⟨es',hrun,F',hsz,hdel,_⟩:=Maps.fit_drop (ty:=ty) (Maps.string_keyed mk_und) mt_und hb F hkey
    have hD':symD (symDel l s)=.map ((es'.toList.map (WideElems.rg Try.prog MK (plainElem Try.prog ME))).foldr DataW.insert []):=by
      rw [hdel,← symD_del,hD]; rfl
    exact ⟨_,hrun,⟨es',clock,heap_setBlock_same hb _,F',Nat.le_of_eq (es_len hD'),hD'⟩,by simp [setBlock],fun k hk=>heap_setBlock_other hb _ (fun e=>hk (by rw [e])),rfl,rfl,rfl⟩
theorem MapIs.set {w:World} {m:Nat} {l:SymT} (h:MapIs w (some m) l) (s:ByteArray) (hs:s.size≤maxLen) (v:Int) (hv:(Lit.int .i64 v).wf=true) (hl:l.length < maxLen):∃ w',(Instr.mapUpdate MT (.map (some m)) (.string s) (.int .i64 v)).run Try.prog w=.ok () w'∧MapIs w' (some m) (symPut l s v) ∧
    w'.heap.size=w.heap.size∧(∀ k,k ≠ m→w'.heap[k]? = w.heap[k]?)∧w'.os=w.os∧w'.tape=w.tape∧w'.output=w.output:=by
  have hkey:=keyOf_string_mk (P:=Try.prog) mk_und hs
  obtain ⟨es,clock,hb,F,hn,hD⟩:=h
  obtain ⟨es',clock',hrun,F',hput,_⟩:=Maps.fit_store (R':=plainElem Try.prog ME) (Maps.string_keyed mk_und) mt_und hb F (Nat.lt_of_le_of_lt hn hl) (fun _ _ _ _ hz=>hz) hkey (plainElem_int me_und hv)
  have hD':symD (symPut l s v)=.map ((es'.toList.map (WideElems.rg Try.prog MK (plainElem Try.prog ME))).foldr DataW.insert []):=by
    rw [hput,← symD_put,hD]; rfl
  exact ⟨_,hrun,⟨es',clock',heap_setBlock_same hb _,F',Nat.le_of_eq (es_len hD'),hD'⟩,by simp [setBlock],fun k hk=>heap_setBlock_other hb _ (fun e=>hk (by rw [e])),rfl,rfl,rfl⟩
theorem get_walk (b:Nat) (w:World) (x:Option Nat) (l:SymT) (s:ByteArray) (hs:s.size≤maxLen) (hc:w.cell? ⟨b,0,none⟩=some (.map x)) (hm:MapIs w x l) :
    Calls Try.prog 10 #[.pointer (some ⟨b,0,none⟩),.string s] w fun e w'=>e=.returned (.tuple #[.int .u16 (IntKind.wrap .u16 ((symGet l s).getD 0)),.bool (symGet l s).isSome])∧w'=w:=by
  have hlk:=hm.look s hs true
  go_enter Try.func10,Try.ntmps10
  go_wp2
  go_ret2
  exact ⟨rfl,rfl⟩
theorem len_walk (b:Nat) (w:World) (x:Option Nat) (l:SymT) (hc:w.cell? ⟨b,0,none⟩=some (.map x)) (hm:MapIs w x l) :
    Calls Try.prog 12 #[.pointer (some ⟨b,0,none⟩)] w fun e w'=>e=.returned (.int .i64 l.length)∧w'=w:=by
  go_enter Try.func12,Try.ntmps12
  go_wp2
  rw [hm.len]
  simp only [Result.andThen]
  rw [Oper.upon_value]
  go_wp2
  go_ret
  exact ⟨rfl,rfl⟩
/-- What turns in the machine's memory where a table turns. -/
structure TabW (w w':World) (b:Nat) (x:Option Nat) (x':Option Nat) (l':SymT):Prop where
  cell:w'.cell? ⟨b,0,none⟩=some (.map x')
  is:MapIs w' x' l'
  size:w.heap.size≤w'.heap.size
  keep:∀ k,k < w.heap.size→k ≠ b→x ≠ some k→w'.heap[k]? = w.heap[k]?
  fresh:∀ k,x'=some k→x=some k∨w.heap.size≤k
  row:∀ arr t fr,w.heap[b]? = some (.cells arr t fr)→∃ arr',w'.heap[b]? = some (.cells arr' t fr)∧arr'.size=arr.size
  os:w'.os=w.os
  tape:w'.tape=w.tape
  output:w'.output=w.output
theorem drop_walk (b:Nat) (w:World) (x:Option Nat) (l:SymT) (s:ByteArray) (hs:s.size≤maxLen) (hc:w.cell? ⟨b,0,none⟩=some (.map x)) (hm:MapIs w x l) (hx:x ≠ some b) :
    Calls Try.prog 7 #[.pointer (some ⟨b,0,none⟩),.string s] w fun e w'=>e=.returned (.bool (symGet l s).isSome)∧TabW w w' b x x (symDel l s):=by
  have hlk:=hm.look s hs true
  obtain ⟨w',hrun,h1,h2,h3,h4,h5,h6⟩:=hm.drop s hs 0
  go_enter Try.func7,Try.ntmps7
  go_wp2
  go_ret
  have hb:=h3 b hx
  exact ⟨rfl,by rw [World.cell?_of_block (w:=w) hb]; exact hc,h1,Nat.le_of_eq h2.symm,fun k _ _ hk=>h3 k hk,fun k hk=>.inl hk,fun arr t fr h=>⟨arr,hb.trans h,rfl⟩,h4,h5,h6⟩
theorem set_no (b:Nat) (w:World) (x:Option Nat) (l:SymT) (s:ByteArray) (hc:w.cell? ⟨b,0,none⟩=some (.map x)) (a:Int)
    (hR:Calls Try.prog 4 #[.string s] w fun e w'=>e=.returned (.bool false)∧Below w.heap.size w w') :
    Calls Try.prog 8 #[.pointer (some ⟨b,0,none⟩),.string s,.int .u16 a] w fun e w'=>e=.returned (.int .i64 40)∧Below w.heap.size w w':=by
  go_enter Try.func8,Try.ntmps8
  go_wp2_with (go_at_call 4; refine hR.mono ?_; rintro e w' ⟨rfl,hb⟩)
  go_ret
  exact ⟨rfl,hb⟩
theorem set_twice (b:Nat) (w:World) (x:Option Nat) (l:SymT) (s:ByteArray) (hs:s.size≤maxLen) (hc:w.cell? ⟨b,0,none⟩=some (.map x)) (hm:MapIs w x l) (a:Int) (ha:0≤a∧a < 65536) {v:Int} (hv:symGet l s=some v) (hne:v ≠ a)
    (hR:Calls Try.prog 4 #[.string s] w fun e w'=>e=.returned (.bool true)∧Below w.heap.size w w') :
    Calls Try.prog 8 #[.pointer (some ⟨b,0,none⟩),.string s,.int .u16 a] w fun e w'=>e=.returned (.int .i64 41)∧Below w.heap.size w w':=by
  have hbl:=cell_lt hc
  have hw:IntKind.wrap .i64 a=a:=by simp [IntKind.wrap,IntKind.bits,IntKind.signed]; omega
  go_enter Try.func8,Try.ntmps8
  go_wp2_with (go_at_call 4; refine hR.mono ?_; rintro e w' ⟨rfl,hb⟩; have hc':=(hb.cell (p:=⟨b,0,none⟩) hbl).trans hc; have hlk:=(hm.kept (w':=w') fun m e=>hb.block m (by subst e; exact hm.lt)).look s hs true; rw [hv] at hlk; simp only [Option.getD_some,Option.isSome_some,if_true] at hlk)
  go_ret
  exact ⟨rfl,hb⟩
theorem wf_u16 {a:Int} (ha:0≤a∧a < 65536):(Lit.int .i64 a).wf=true:=by
  have h1:IntKind.min .i64≤a:=Int.le_trans (by decide) ha.1
  have h2:a≤IntKind.max .i64:=Int.le_trans (Int.le_of_lt ha.2) (by decide)
  show (decide (IntKind.min .i64≤a)&&decide (a≤IntKind.max .i64))=true
  rw [decide_eq_true h1,decide_eq_true h2]; rfl
theorem set_old (b:Nat) (w:World) (m:Nat) (l:SymT) (s:ByteArray) (hs:s.size≤maxLen) (hc:w.cell? ⟨b,0,none⟩=some (.map (some m))) (hm:MapIs w (some m) l) (hx:m ≠ b) (hl:l.length < maxLen) (a:Int) (ha:0≤a∧a < 65536) (hv:symGet l s=none∨symGet l s=some a)
    (hR:Calls Try.prog 4 #[.string s] w fun e w'=>e=.returned (.bool true)∧Below w.heap.size w w') :
    Calls Try.prog 8 #[.pointer (some ⟨b,0,none⟩),.string s,.int .u16 a] w fun e w'=>e=.returned (.int .i64 0)∧TabW w w' b (some m) (some m) (symPut l s a):=by
  have hbl:=cell_lt hc
  have hw:IntKind.wrap .i64 a=a:=by simp [IntKind.wrap,IntKind.bits,IntKind.signed]; omega
  have hwf:=wf_u16 ha
  have heq:∀ W,(binOp .eql MT (.map (some m)) (.map none)).run Try.prog W=.ok (.bool false) W:=fun W=>run_eql_map_nil W MT MK ME (some m) mt_und
  have hlk0:(∀ w',MapIs w' (some m) l→(Instr.lookup MT (.map (some m)) (.string s) true).run Try.prog w'=.ok (.tuple #[.int .i64 0,.bool false]) w')∨(∀ w',MapIs w' (some m) l→(Instr.lookup MT (.map (some m)) (.string s) true).run Try.prog w'=.ok (.tuple #[.int .i64 a,.bool true]) w'):=by
    rcases hv with hv | hv
    · exact .inl fun w' h=>by have:=h.look s hs true; rw [hv] at this; exact this
    · exact .inr fun w' h=>by have:=h.look s hs true; rw [hv] at this; exact this
  have fin:∀ w1 w2:World,Below w.heap.size w w1→MapIs w2 (some m) (symPut l s a)→w2.heap.size=w1.heap.size→(∀ k,k ≠ m→w2.heap[k]? = w1.heap[k]?)→w2.os=w1.os→w2.tape=w1.tape→w2.output=w1.output→TabW w w2 b (some m) (some m) (symPut l s a):=fun w1 w2 hb h1 h2 h3 h4 h5 h6=>by
    have hbb:=(h3 b (fun e=>hx e.symm)).trans (hb.block b hbl)
    exact ⟨by rw [World.cell?_of_block (w:=w) hbb]; exact hc,h1,by have:=hb.size; omega,fun k hk _ hne=>(h3 k fun e=>hne (by rw [e])).trans (hb.block k hk),fun k hk=>.inl hk,fun arr t fr h=>⟨arr,hbb.trans h,rfl⟩,h4.trans hb.os,h5.trans hb.tape,h6.trans hb.output⟩
  rcases hlk0 with hlk0 | hlk0
  all_goals
    go_enter Try.func8,Try.ntmps8
    go_wp2_with (go_at_call 4; refine hR.mono ?_; rintro e w1 ⟨rfl,hb⟩; have hc':=(hb.cell (p:=⟨b,0,none⟩) hbl).trans hc; have hm1:=hm.kept (w':=w1) fun m' e=>hb.block m' (by injection e with e; subst e; exact hm.lt); have hlk:=hlk0 w1 hm1; obtain ⟨w2,hrun,h1,h2,h3,h4,h5,h6⟩:=hm1.set s hs a hwf hl)
    go_ret
    exact ⟨rfl,fin _ _ hb h1 h2 h3 h4 h5 h6⟩
theorem tab_new (w:World) (b:Nat) (hb:b < w.heap.size) (hc:w.cell? ⟨b,0,none⟩=some (.map none)) (W:World) (hW:W=(w.setCell ⟨b,0,none⟩ (.map (some w.heap.size))).alloc (.map #[] 0)):W.cell? ⟨b,0,none⟩=some (.map (some w.heap.size)) ∧
    MapIs W (some w.heap.size) []∧W.heap.size=w.heap.size+1∧(∀ k,k < w.heap.size→k ≠ b→W.heap[k]? = w.heap[k]?)∧∀ arr t fr,w.heap[b]? = some (.cells arr t fr)→W.heap[b]? = some (.cells (arr.setIfInBounds 0 (.map (some w.heap.size))) t fr):=by
  have hcell:∃ arr t fr,w.heap[b]? = some (.cells arr t fr)∧arr[0]? = some (.map none):=by
    unfold World.cell? at hc
    cases h:w.heap[b]? with
    | none=>rw [h] at hc; simp at hc
    | some o =>
      rw [h] at hc
      cases o <;> simp at hc
      exact ⟨_,_,_,rfl,hc⟩
  obtain ⟨arr,t,fr,h1,h2⟩:=hcell
  have hsz:(w.setCell ⟨b,0,none⟩ (.map (some w.heap.size))).heap.size=w.heap.size:=by simp [World.setCell]
  have key:∀ k,W.heap[k]? = if k=w.heap.size then some (.map #[] 0) else if k=b then some (.cells (arr.setIfInBounds 0 (.map (some w.heap.size))) t fr) else w.heap[k]? := by
    intro k
    rw [hW,alloc_heap,hsz]
    by_cases e0:k=w.heap.size
    · rw [if_pos e0,if_pos e0]
    · rw [if_neg e0,if_neg e0]
      simp only [World.setCell,Array.getElem?_modify]
      by_cases e:b=k
      · subst e
        rw [if_pos rfl,if_pos rfl,h1]; rfl
      · rw [if_neg e,if_neg (fun h=>e h.symm)]
  have hne:b ≠ w.heap.size:=by omega
  refine ⟨?_,?_,?_,fun k hk hkb => ?_,fun arr' t' fr' h => ?_⟩
  · unfold World.cell?
    rw [key,if_neg hne,if_pos rfl]
    have:=(Array.getElem?_eq_some_iff.1 h2).1
    simp [this]
  · have:=World.ownsMap_made (H:=Nat) (w.setCell ⟨b,0,none⟩ (.map (some w.heap.size))) Try.prog MK (plainElem Try.prog ME)
    rw [← hW,hsz] at this
    exact this
  · rw [hW,alloc_size,hsz]
  · rw [key,if_neg (by omega),if_neg hkb]
  · rw [h1] at h
    simp only [Option.some.injEq,Obj.cells.injEq] at h
    obtain ⟨rfl,rfl,rfl⟩:=h
    rw [key,if_neg hne,if_pos rfl]
theorem set_new (b:Nat) (w:World) (s:ByteArray) (hs:s.size≤maxLen) (hc:w.cell? ⟨b,0,none⟩=some (.map none)) (hf:w.frozen? ⟨b,0,none⟩=false) (a:Int) (ha:0≤a∧a < 65536)
    (hR:Calls Try.prog 4 #[.string s] w fun e w'=>e=.returned (.bool true)∧Below w.heap.size w w') :
    Calls Try.prog 8 #[.pointer (some ⟨b,0,none⟩),.string s,.int .u16 a] w fun e w'=>e=.returned (.int .i64 0)∧∃ m,TabW w w' b none (some m) (symPut [] s a):=by
  have hbl:=cell_lt hc
  have hw:IntKind.wrap .i64 a=a:=by simp [IntKind.wrap,IntKind.bits,IntKind.signed]; omega
  have hwf:=wf_u16 ha
  have heq:∀ W,(binOp .eql MT (.map none) (.map none)).run Try.prog W=.ok (.bool true) W:=fun W=>run_eql_map_nil W MT MK ME none mt_und
  have hlk0:∀ W,(Instr.lookup MT (.map none) (.string s) true).run Try.prog W=.ok (.tuple #[.int .i64 0,.bool false]) W:=fun W=>(show MapIs W none [] from rfl).look s hs true
  have hmm:=@run_makeMap Try.prog
  go_enter Try.func8,Try.ntmps8
  go_wp2_with (go_at_call 4; refine hR.mono ?_; rintro e w1 ⟨rfl,hb⟩; have hc':=(hb.cell (p:=⟨b,0,none⟩) hbl).trans hc; have hf':=(hb.frozen (p:=⟨b,0,none⟩) hbl).trans hf; have hbl1:b < w1.heap.size:=Nat.lt_of_lt_of_le hbl hb.size; have hA:=((Below.refl w1.heap.size w1).alloc (Nat.le_refl _) (.map #[] 0)); have hcA:=(hA.cell (p:=⟨b,0,none⟩) hbl1).trans hc'; have hfA:=(hA.frozen (p:=⟨b,0,none⟩) hbl1).trans hf'; obtain ⟨hcB,hmB,hsB,hkB,hrB⟩:=tab_new w1 b hbl1 hc' _ rfl; obtain ⟨w2,hrun,h1,h2,h3,h4,h5,h6⟩:=hmB.set s hs a hwf (by decide))
  go_ret
  have hb2:=h3 b (by omega)
  refine ⟨rfl,w1.heap.size,(World.cell?_of_block (w:=(w1.setCell ⟨b,0,none⟩ (.map (some w1.heap.size))).alloc (.map #[] 0)) hb2).trans hcB,h1,by have:=hb.size; omega,fun k hk hkb _ => ?_,fun k hk => ?_,fun arr t fr h => ?_,h4.trans hb.os,h5.trans hb.tape,h6.trans hb.output⟩
  · have:=hb.size
    rw [h3 k (by omega),hkB k (by omega) hkb,hb.block k hk]
  · injection hk with hk; have:=hb.size; exact .inr (by omega)
  · exact ⟨_,hb2.trans (hrB arr t fr ((hb.block b hbl).trans h)),by simp⟩
end Go.Proofs.YtaoomioogojfhaaK
