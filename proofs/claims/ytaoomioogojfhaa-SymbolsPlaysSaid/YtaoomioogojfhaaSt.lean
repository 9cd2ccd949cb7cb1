/- Package symbols, by hand: a table as a thing; its methods over the abstract memory. -/
import Derived.Test.YtaoomioogojfhaaSa
namespace Go.Proofs.YtaoomioogojfhaaK
set_option linter.unusedVariables false
set_option linter.unusedSimpArgs false
open Go.RowKit Go.WideMaps Go.ChangeMaps Go.MapKept Go.Maps Go.Sort Go.Shelf
/-- A table that has these names. -/
def SymX (l:SymT):Thing where
  Q w r S:=∃ x,w.cell? ⟨r,0,none⟩=some (.map x)∧w.frozen? ⟨r,0,none⟩=false∧MapIs w x l∧(∀ k,S k↔x=some k)∧x ≠ some r
  loc w w' r S h hk:=by
    obtain ⟨x,h1,h2,h3,h4,h5⟩:=h
    have hr:=hk r (.inl rfl)
    exact ⟨x,by rw [World.cell?_of_block (w:=w) hr]; exact h1,by rw [World.frozen?_of_block (w:=w) hr]; exact h2,h3.kept fun m e=>hk m (.inr ((h4 m).2 e)),h4,h5⟩
  lt w r S h k hk:=by
    obtain ⟨x,h1,h2,h3,h4,h5⟩:=h
    have:=(h4 k).1 hk
    subst this
    exact h3.lt
def SymH (l:SymT):Hp:=[⟨0,.res (SymX l),1,[]⟩]
/-- What comes of a pure contract where a contract by hand needs it. -/
theorem Pure.calls {P:Program} {m:FuncId} {args:List V} {r:V} (h:Pure P m args r) (hm:Nat.blt m 4294967296=true) {im H w} (hr:Rel im H w) {cargs:List Value} (ha:VRs ⟨fun _=>none,fun _ _=>False⟩ [] w args cargs) :
    Calls P m cargs.toArray w fun e w'=>∃ c im',e=.returned c∧VR im' [] w' r c∧Below w.heap.size w w':=by
  have hc:=h.2 id id Emb.self
  rw [rns_id,rn_id] at hc
  have:=hc ⟨fun _=>none,fun _ _=>False⟩ w cargs ⟨fun b B hB=>by simp at hB,fun b b' B B' g hB=>by simp at hB,fun a ha=>⟨fun ⟨b,B,hb,_⟩=>by simp at hb,(hr.glob a ha).2⟩,fun b B hB=>by simp at hB⟩ ha
  rw [CallsD.st hm] at this
  refine this.mono ?_
  rintro e w' ⟨im',c,rfl,hr',hx,hv⟩
  exact ⟨c,im',rfl,hv,hx.os,hx.tape,hx.output,hx.size,fun g hg=>(hx.keep g hg (fun ⟨b,B,hb,_⟩=>by simp at hb)).1⟩
/-- A table's own block, in the machine's memory. -/
theorem sym_row {ρ:Nat→Nat} {G:Hp→Hp} {l:SymT} (hE:Emb ρ G 1) {im:Im} {w:World} (hr:Rel im (G (SymH l)) w) {args:List V} {cargs:List Value} (ha:VRs im (G (SymH l)) w (rns ρ (.ptr 0 0 0::args)) cargs) :
    ∃ g x cs,cargs=.pointer (some ⟨g,0,none⟩)::cs∧VRs im (G (SymH l)) w (rns ρ args) cs∧(G (SymH l))[ρ 0]? = some ⟨0,.res (SymX l),1,[]⟩∧im (ρ 0)=some g∧w.cell? ⟨g,0,none⟩=some (.map x)∧w.frozen? ⟨g,0,none⟩=false∧MapIs w x l∧(∀ k,im.sub (ρ 0) k↔x=some k)∧x ≠ some g ∧
      ∃ arr t fr,w.heap[g]? = some (.cells arr t fr)∧∀ j,j < arr.size→¬ (fr.1≤j∧j < fr.2):=by
  have hb:=hE.get (SymH l) 0 ⟨0,.res (SymX l),1,[]⟩ (Nat.le_refl _) rfl
  have hb:(G (SymH l))[ρ 0]? = some ⟨0,.res (SymX l),1,[]⟩:=hb
  match cargs,ha with
  | c::cs,ha =>
    obtain ⟨⟨_,B,hB,_,hp⟩,ha⟩:=ha
    rw [hb] at hB; injection hB with hB; subst hB
    obtain ⟨g,hg,rfl⟩:=hp rfl nofun
    obtain ⟨r,e,x,h1,h2,h3,h4,h5⟩:=(hr.res _ _ hb nofun).2
    rw [hg] at e; injection e with e; subst e
    have hrow:=hr.row _ _ hb nofun
    rw [hg] at hrow
    obtain ⟨arr,t,fr,_,k1,k2,_⟩:=hrow
    exact ⟨g,x,cs,rfl,ha,hb,hg,h1,h2,h3,h4,h5,arr,t,fr,k1,k2⟩
/-- It reads alone. -/
theorem sym_read {m:FuncId} {l:SymT} {xs:List Value} {r:V} (hm:Nat.blt m 4294967296=true)
    (h:∀ (b:Nat) (w:World) (x:Option Nat),w.cell? ⟨b,0,none⟩=some (.map x)→MapIs w x l→Calls Try.prog m (.pointer (some ⟨b,0,none⟩)::xs).toArray w fun e w'=>∃ c,e=.returned c∧Below w.heap.size w w'∧∀ im H,(∀ g,w.heap.size≤g→¬ Own im H g)→VR im H w' r c) (hst:r.static=true) :
    ConL Try.prog m (.ptr 0 0 0::xs.map V.s) (SymH l) r (SymH l):=by
  refine ⟨Nat.le_refl _,fun ρ G hE => ?_⟩
  intro im w cargs hr ha
  rw [CallsD.st hm]
  obtain ⟨g,x,cs,rfl,ha,hb,hg,h1,h2,h3,h4,h5,_⟩:=sym_row hE hr ha
  have hcs:cs=xs:=by
    have key:∀ (xs cs:List Value),VRs im (G (SymH l)) w (rns ρ (xs.map V.s)) cs→cs=xs:=by
      intro xs
      induction xs with
      | nil=>intro cs h; cases cs with | nil=>rfl | cons=>exact h.elim
      | cons y ys ih =>
        intro cs h
        cases cs with
        | nil=>exact h.elim
        | cons c cs =>
          have e:c=y:=h.1
          rw [e,ih cs h.2]
    exact key xs cs ha
  subst hcs
  refine (h g w x h1 h3).mono ?_
  rintro e w' ⟨c,rfl,hb,hv⟩
  obtain ⟨k1,k2⟩:=hr.grow hb.size (fun k hk=>hb.block k hk) hb.os hb.tape hb.output
  refine ⟨im,c,rfl,k1,k2,?_⟩
  rw [rn_static _ _ hst]
  exact hv im _ fun g hg ho=>by have:=hr.own_lt ho; omega
theorem sym_turn {l l':SymT} {ρ:Nat→Nat} {G:Hp→Hp} (hE:Emb ρ G 1) {im:Im} {w w':World} (hr:Rel im (G (SymH l)) w) {g:Nat} {x x':Option Nat} (hb:(G (SymH l))[ρ 0]? = some ⟨0,.res (SymX l),1,[]⟩) (hg:im (ρ 0)=some g) (h4:∀ k,im.sub (ρ 0) k↔x=some k) (h5:x ≠ some g)
    (hrow:∃ arr t fr,w.heap[g]? = some (.cells arr t fr)∧∀ j,j < arr.size→¬ (fr.1≤j∧j < fr.2)) (hf:w.frozen? ⟨g,0,none⟩=false) (hT:TabW w w' g x x' l'):∃ im',Rel im' (G (SymH l')) w'∧Ext im (G (SymH l)) w im' (G (SymH l')) w':=by
  have hset:=hE.set (SymH l) 0 ⟨0,.res (SymX l'),1,[]⟩ (Nat.le_refl _) (by simp [SymH])
  have hset:(G (SymH l)).set (ρ 0) ⟨0,.res (SymX l'),1,[]⟩=G (SymH l'):=hset
  rw [← hset]
  obtain ⟨arr,t,fr,k1,k2⟩:=hrow
  obtain ⟨arr',m1,m2⟩:=hT.row arr t fr k1
  have hgl:g < w.heap.size:=(Array.getElem?_eq_some_iff.1 k1).1
  refine hr.thing hb rfl hg ⟨0,.res (SymX l'),1,[]⟩ rfl rfl (Nat.le_refl _) rfl hT.os hT.tape hT.output hT.size (fun k hk hkg hs=>hT.keep k hk hkg fun e=>hs ((h4 k).2 e)) (fun k=>x'=some k) (fun k hk=>(hT.fresh k hk).imp (h4 k).2 id) ⟨arr',t,fr,m1,by rw [m2]; exact k2⟩ (by unfold rowSize; rw [m1,k1]; exact m2) ?_
  refine ⟨x',hT.cell,?_,hT.is,fun k=>Iff.rfl,fun e => ?_⟩
  · simp only [World.frozen?,m1]
    simp only [World.frozen?,k1] at hf
    exact hf
  · rcases hT.fresh g e with e | e
    · exact h5 e
    · omega
def symSz:Nat:=140737488355328
theorem sz_max {n:Nat} (h:n≤symSz):n≤maxLen:=by unfold symSz at h; unfold maxLen; omega
theorem sym_Get_con (l:SymT) (s:ByteArray) (hs:s.size≤symSz):ConL Try.prog 10 [.ptr 0 0 0,.s (.string s)] (SymH l) (.tup [.s (.int .u16 (IntKind.wrap .u16 ((symGet l s).getD 0))),.s (.bool (symGet l s).isSome)]) (SymH l) :=
  sym_read (xs:=[.string s]) rfl (fun b w x h1 h2=>(get_walk b w x l s (sz_max hs) h1 h2).mono fun e w' ⟨e1,e2⟩=>⟨_,e1,by rw [e2]; exact Below.refl _ _,fun im H _=>⟨_,rfl,rfl,rfl,trivial⟩⟩) rfl
theorem sym_Len_con (l:SymT):ConL Try.prog 12 [.ptr 0 0 0] (SymH l) (.s (.int .i64 ((l.length:Nat):Int))) (SymH l) :=
  sym_read (xs:=[]) rfl (fun b w x h1 h2=>(len_walk b w x l h1 h2).mono fun e w' ⟨e1,e2⟩=>⟨_,e1,by rw [e2]; exact Below.refl _ _,fun im H _=>rfl⟩) rfl
theorem row_vr {im:Im} {H:Hp} {w w':World} {ss:List (List UInt8)} {v:Value} (h:w'.ownsRow w.heap.size MK 1 v ss.length (ss.map encStr)) (ho:∀ g,w.heap.size≤g→¬ Own im H g):VR im H w' (.sl false (ss.map fun s=>(⟨s.toArray⟩:ByteArray)).length (cat nS (ss.map fun s=>(⟨s.toArray⟩:ByteArray)))) v:=by
  obtain ⟨A,cap,rfl,h1,h2,h3⟩:=row_cases h
  rw [List.length_map]
  refine ⟨A,cap,rfl,h1,h2,fun e=>by simp at e,?_⟩
  rcases h3 with h3 | ⟨g,hA,hg,hl,hc⟩
  · exact .inl h3
  · refine .inr ⟨g,0,ss.map encStr,hA,ho g hg,hl,fun j u hj=>by rw [Nat.zero_add]; exact hc j u hj,?_⟩
    clear h hc h1 h2 hA hl ho
    induction ss with
    | nil=>trivial
    | cons s ss ih=>exact ⟨rfl,ih⟩
def symNs (l:SymT):List ByteArray:=(symNames l).map fun s=>⟨s.toArray⟩
def symAs (l:SymT) (a:Int):List ByteArray:=(symAt l a).map fun s=>⟨s.toArray⟩
theorem sym_Names_con (l:SymT) (hl:l.length*16≤140737488355328):ConL Try.prog 14 [.ptr 0 0 0] (SymH l) (.sl false (symNs l).length (cat nS (symNs l))) (SymH l) :=
  sym_read (xs:=[]) rfl (fun b w x h1 h2=>(names_walk b w x l h1 h2 hl).mono fun e w' ⟨v,e1,e2,e3⟩=>⟨v,e1,e3,fun im H ho=>row_vr e2 ho⟩) (by simp [V.static,cat_stat])
theorem sym_At_con (l:SymT) (a:Int) (ha:0≤a∧a < 65536) (hl:l.length*16≤140737488355328) (hs:∀ p∈l,p.1.length≤symSz):ConL Try.prog 15 [.ptr 0 0 0,.s (.int .u16 a)] (SymH l) (.sl false (symAs l a).length (cat nS (symAs l a))) (SymH l) :=
  sym_read (xs:=[.int .u16 a]) rfl (fun b w x h1 h2=>(at_walk b w x l a ha h1 h2 hl fun p hp=>sz_max (hs p hp)).mono fun e w' ⟨v,e1,e2,e3⟩=>⟨v,e1,e3,fun im H ho=>row_vr e2 ho⟩) (by simp [V.static,cat_stat])
def symNearR (l:SymT) (a:Int):ByteArray × Int × Bool:=if (symNear l a).2=true then (⟨(symNear l a).1.toArray⟩,IntKind.wrap .i64 (a - (symGet l ⟨(symNear l a).1.toArray⟩).getD 0),true) else (⟨#[]⟩,0,false)
theorem sym_Near_con (l:SymT) (a:Int) (ha:0≤a∧a < 65536) (hl:l.length*16≤140737488355328) (hs:∀ p∈l,p.1.length≤symSz):ConL Try.prog 11 [.ptr 0 0 0,.s (.int .u16 a)] (SymH l) (.tup [.s (.string (symNearR l a).1),.s (.int .i64 (symNearR l a).2.1),.s (.bool (symNearR l a).2.2)]) (SymH l) :=
  sym_read (xs:=[.int .u16 a]) rfl (fun b w x h1 h2=>(near_walk b w x l a ha h1 h2 hl fun p hp=>sz_max (hs p hp)).mono fun e w' ⟨e1,e2⟩=>⟨_,e1,e2,fun im H _=>by
    unfold symNearR
    split
    · exact ⟨_,rfl,rfl,rfl,rfl,trivial⟩
    · exact ⟨_,rfl,rfl,rfl,rfl,trivial⟩⟩) rfl
theorem sym_Drop_con (l:SymT) (s:ByteArray) (hs:s.size≤symSz):ConL Try.prog 7 [.ptr 0 0 0,.s (.string s)] (SymH l) (.s (.bool (symGet l s).isSome)) (SymH (symDel l s)):=by
  refine ⟨Nat.le_refl _,fun ρ G hE => ?_⟩
  intro im w cargs hr ha
  rw [CallsD.st (by rfl)]
  obtain ⟨g,x,cs,rfl,ha,hb,hg,h1,h2,h3,h4,h5,hrow⟩:=sym_row hE hr ha
  match cs,ha with
  | [c],ha =>
    have e:c=.string s:=ha.1
    subst e
    refine (drop_walk g w x l s (sz_max hs) h1 h3 h5).mono ?_
    rintro e w' ⟨rfl,hT⟩
    obtain ⟨im',k1,k2⟩:=sym_turn hE hr hb hg h4 h5 hrow h2 hT
    exact ⟨im',_,rfl,k1,k2,rfl⟩
/-- A name is set: the answer, the table then. -/
def symSet (l:SymT) (s:ByteArray) (a:Int) (ok:Bool):Int × SymT:=if ok=true then match symGet l s with
    | none=>(0,symPut l s a)
    | some v=>if v=a then (0,symPut l s a) else (41,l)
  else (40,l)
theorem sym_Set_con (l:SymT) (s:ByteArray) (a:Int) (ok:Bool) (hR:Pure Try.prog 4 [.s (.string s)] (.s (.bool ok))) (hc:(s.size≤symSz∧l.length≤symSz)∧0≤a∧a < 65536) :
    ConL Try.prog 8 [.ptr 0 0 0,.s (.string s),.s (.int .u16 a)] (SymH l) (.s (.int .i64 (symSet l s a ok).1)) (SymH (symSet l s a ok).2):=by
  obtain ⟨⟨hs,hl⟩,ha⟩:=hc
  have hl:l.length < maxLen:=by unfold symSz at hl; unfold maxLen; omega
  refine ⟨by simp [SymH],fun ρ G hE => ?_⟩
  intro im w cargs hr hargs
  rw [CallsD.st (by rfl)]
  obtain ⟨g,x,cs,rfl,hargs,hb,hg,h1,h2,h3,h4,h5,hrow⟩:=sym_row hE hr hargs
  match cs,hargs with
  | [c,d],hargs =>
    have e:c=.string s:=hargs.1
    subst e
    have e:d=.int .u16 a:=hargs.2.1
    subst e
    have hR':Calls Try.prog 4 #[.string s] w fun e w'=>e=.returned (.bool ok)∧Below w.heap.size w w' :=
      (hR.calls (by rfl) hr (cargs:=[.string s]) ⟨rfl,trivial⟩).mono fun e w' ⟨c,im',e1,e2,e3⟩=>⟨by rw [e1]; have e2:c=.bool ok:=e2; rw [e2],e3⟩
    have stay:∀ (v:Int) (w':World),Below w.heap.size w w'→∃ im' c,Ending.returned (Value.int .i64 v)=.returned c∧Rel im' (G (SymH l)) w'∧Ext im (G (SymH l)) w im' (G (SymH l)) w'∧VR im' (G (SymH l)) w' ((V.s (.int .i64 v)).rn ρ) c:=fun v w' hb=>by
      obtain ⟨k1,k2⟩:=hr.grow hb.size (fun k hk=>hb.block k hk) hb.os hb.tape hb.output
      exact ⟨im,_,rfl,k1,k2,rfl⟩
    have turn:∀ (x':Option Nat) (w':World),TabW w w' g x x' (symPut l s a)→∃ im' c,Ending.returned (Value.int .i64 0)=.returned c∧Rel im' (G (SymH (symPut l s a))) w'∧Ext im (G (SymH l)) w im' (G (SymH (symPut l s a))) w'∧VR im' (G (SymH (symPut l s a))) w' ((V.s (.int .i64 0)).rn ρ) c:=fun x' w' hT=>by
      obtain ⟨im',k1,k2⟩:=sym_turn hE hr hb hg h4 h5 hrow h2 hT
      exact ⟨im',_,rfl,k1,k2,rfl⟩
    have put:symGet l s=none∨symGet l s=some a→ok=true→Calls Try.prog 8 #[.pointer (some ⟨g,0,none⟩),.string s,.int .u16 a] w fun e w'=>e=.returned (.int .i64 0)∧∃ x',TabW w w' g x x' (symPut l s a):=fun hv e=>by
      subst e
      cases x with
      | some m=>exact (set_old g w m l s (sz_max hs) h1 h3 (fun e=>h5 (by rw [e])) hl a ha hv hR').mono fun e w' ⟨e1,e2⟩=>⟨e1,_,e2⟩
      | none =>
        have h3:l=[]:=h3
        subst h3
        exact (set_new g w s (sz_max hs) h1 h2 a ha hR').mono fun e w' ⟨e1,m,e2⟩=>⟨e1,some m,e2⟩
    cases ok with
    | false =>
      refine (set_no g w x l s h1 a hR').mono ?_
      rintro e w' ⟨rfl,hb⟩
      exact stay 40 w' hb
    | true =>
      cases hv:symGet l s with
      | none =>
        have e:symSet l s a true=(0,symPut l s a):=by unfold symSet; rw [hv]; rfl
        rw [e]
        refine (put (.inl hv) rfl).mono ?_
        rintro e w' ⟨rfl,x',hT⟩
        exact turn x' w' hT
      | some v =>
        by_cases hva:v=a
        · subst hva
          have e:symSet l s v true=(0,symPut l s v):=by unfold symSet; rw [hv]; simp
          rw [e]
          refine (put (.inr hv) rfl).mono ?_
          rintro e w' ⟨rfl,x',hT⟩
          exact turn x' w' hT
        · have e:symSet l s a true=(41,l):=by unfold symSet; rw [hv]; simp [hva]
          rw [e]
          refine (set_twice g w x l s (sz_max hs) h1 h3 a ha hv hva hR').mono ?_
          rintro e w' ⟨rfl,hb⟩
          exact stay 41 w' hb
/-- A table is made. -/
theorem sym_make (im:Im) (H:Hp) (w:World) (g:Nat) (arr:Array Value) (t:TypeId) (fr:Nat × Nat) (vs:List Value) (h1:w.heap[g]? = some (.cells arr t fr)) (h2:∀ j,j < arr.size→¬ (fr.1≤j∧j < fr.2)) (h3:∀ (j:Nat) (v:Value),vs[j]? = some v→arr[j]? = some v) (h4:VRs im H w [.s (.map none)] vs):(SymX []).Q w g fun _=>False:=by
  match vs,h4 with
  | [c],h4 =>
    have e:c=.map none:=h4.1
    subst e
    have ha:=h3 0 _ rfl
    have hlt:=(Array.getElem?_eq_some_iff.1 ha).1
    refine ⟨none,by simp only [World.cell?,h1]; exact ha,?_,rfl,fun k=>⟨fun h=>h.elim,fun h=>by cases h⟩,nofun⟩
    have:=h2 0 hlt
    simp only [World.frozen?,h1]
    simp only [not_and,Nat.not_lt] at this
    rcases Nat.lt_or_ge 0 fr.1 with h' | h'
    · simp; omega
    · have:=this h'; simp; omega
end Go.Proofs.YtaoomioogojfhaaK
