/- Package prof, by hand: counts as a thing; its methods over the abstract memory. -/
import Derived.Test.YtoemlgdlejkliaaPa
namespace Go.Proofs.YtoemlgdlejkliaaK
set_option linter.unusedVariables false
set_option linter.unusedSimpArgs false
open Go.RowKit Go.WideMaps Go.ChangeMaps Go.MapKept Go.Maps Go.Sort Go.Shelf
/-- Counts that are these. -/
def ProfX (l:ProfT):Thing where
  Q w r S:=∃ x,w.cell? ⟨r,0,none⟩=some (.map x)∧w.frozen? ⟨r,0,none⟩=false∧PMapIs w x l∧(∀ k,S k↔x=some k)∧x ≠ some r
  loc w w' r S h hk:=by
    obtain ⟨x,h1,h2,h3,h4,h5⟩:=h
    have hr:=hk r (.inl rfl)
    exact ⟨x,by rw [World.cell?_of_block (w:=w) hr]; exact h1,by rw [World.frozen?_of_block (w:=w) hr]; exact h2,h3.kept fun m e=>hk m (.inr ((h4 m).2 e)),h4,h5⟩
  lt w r S h k hk:=by
    obtain ⟨x,h1,h2,h3,h4,h5⟩:=h
    have:=(h4 k).1 hk
    subst this
    exact h3.lt
def ProfH (l:ProfT):Hp:=[⟨0,.res (ProfX l),1,[]⟩]
/-- What comes of a pure contract where a contract by hand needs it. -/
theorem Pure.calls {P:Program} {m:FuncId} {args:List V} {r:V} (h:Pure P m args r) (hm:Nat.blt m 4294967296=true) {im H w} (hr:Rel im H w) {cargs:List Value} (ha:VRs ⟨fun _=>none,fun _ _=>False⟩ [] w args cargs) :
    Calls P m cargs.toArray w fun e w'=>∃ c im',e=.returned c∧VR im' [] w' r c∧Below w.heap.size w w':=by
  have hc:=h.2 id id Emb.self
  rw [rns_id,rn_id] at hc
  have:=hc ⟨fun _=>none,fun _ _=>False⟩ w cargs ⟨fun b B hB=>by simp at hB,fun b b' B B' g hB=>by simp at hB,fun a ha=>⟨fun ⟨b,B,hb,_⟩=>by simp at hb,(hr.glob a ha).2⟩,fun b B hB=>by simp at hB⟩ ha
  rw [CallsD.st hm] at this
  refine this.mono ?_
  rintro e w' ⟨im',c,rfl,hr',hx,hv⟩
  exact ⟨c,im',rfl,hv,hx.os,hx.tape,hx.output,hx.size,fun g hg=>(hx.keep g hg (fun ⟨b,B,hb,_⟩=>by simp at hb)).1⟩
/-- A table's own block, in the machine's memory. -/
theorem prof_row {ρ:Nat→Nat} {G:Hp→Hp} {l:ProfT} (hE:Emb ρ G 1) {im:Im} {w:World} (hr:Rel im (G (ProfH l)) w) {args:List V} {cargs:List Value} (ha:VRs im (G (ProfH l)) w (rns ρ (.ptr 0 0 0::args)) cargs) :
    ∃ g x cs,cargs=.pointer (some ⟨g,0,none⟩)::cs∧VRs im (G (ProfH l)) w (rns ρ args) cs∧(G (ProfH l))[ρ 0]? = some ⟨0,.res (ProfX l),1,[]⟩∧im (ρ 0)=some g∧w.cell? ⟨g,0,none⟩=some (.map x)∧w.frozen? ⟨g,0,none⟩=false∧PMapIs w x l∧(∀ k,im.sub (ρ 0) k↔x=some k)∧x ≠ some g ∧
      ∃ arr t fr,w.heap[g]? = some (.cells arr t fr)∧∀ j,j < arr.size→¬ (fr.1≤j∧j < fr.2):=by
  have hb:=hE.get (ProfH l) 0 ⟨0,.res (ProfX l),1,[]⟩ (Nat.le_refl _) rfl
  have hb:(G (ProfH l))[ρ 0]? = some ⟨0,.res (ProfX l),1,[]⟩:=hb
  match cargs,ha with
  | c::cs,ha =>
    obtain ⟨⟨_,B,hB,_,hp⟩,ha⟩:=ha
    rw [hb] at hB; injection hB with hB; subst hB
    obtain ⟨g,hg,rfl⟩:=hp rfl nofun
    obtain ⟨r,e,x,h1,h2,h3,h4,h5⟩:=(hr.res _ _ hb nofun).2
    rw [hg] at e; injection e with e; subst e
    have hrow:=hr.row _ _ hb nofun
    rw [hg] at hrow
    obtain ⟨arr,t,fr,_,k1,k2,_⟩:=hrow
    exact ⟨g,x,cs,rfl,ha,hb,hg,h1,h2,h3,h4,h5,arr,t,fr,k1,k2⟩
/-- It reads alone. -/
theorem prof_read {m:FuncId} {l:ProfT} {xs:List Value} {r:V} (hm:Nat.blt m 4294967296=true)
    (h:∀ (b:Nat) (w:World) (x:Option Nat),w.cell? ⟨b,0,none⟩=some (.map x)→PMapIs w x l→Calls Try.prog m (.pointer (some ⟨b,0,none⟩)::xs).toArray w fun e w'=>∃ c,e=.returned c∧Below w.heap.size w w'∧∀ im H,(∀ g,w.heap.size≤g→¬ Own im H g)→VR im H w' r c) (hst:r.static=true) :
    ConL Try.prog m (.ptr 0 0 0::xs.map V.s) (ProfH l) r (ProfH l):=by
  refine ⟨Nat.le_refl _,fun ρ G hE => ?_⟩
  intro im w cargs hr ha
  rw [CallsD.st hm]
  obtain ⟨g,x,cs,rfl,ha,hb,hg,h1,h2,h3,h4,h5,_⟩:=prof_row hE hr ha
  have hcs:cs=xs:=by
    have key:∀ (xs cs:List Value),VRs im (G (ProfH l)) w (rns ρ (xs.map V.s)) cs→cs=xs:=by
      intro xs
      induction xs with
      | nil=>intro cs h; cases cs with | nil=>rfl | cons=>exact h.elim
      | cons y ys ih =>
        intro cs h
        cases cs with
        | nil=>exact h.elim
        | cons c cs =>
          have e:c=y:=h.1
          rw [e,ih cs h.2]
    exact key xs cs ha
  subst hcs
  refine (h g w x h1 h3).mono ?_
  rintro e w' ⟨c,rfl,hb,hv⟩
  obtain ⟨k1,k2⟩:=hr.grow hb.size (fun k hk=>hb.block k hk) hb.os hb.tape hb.output
  refine ⟨im,c,rfl,k1,k2,?_⟩
  rw [rn_static _ _ hst]
  exact hv im _ fun g hg ho=>by have:=hr.own_lt ho; omega
theorem prof_turn {l l':ProfT} {ρ:Nat→Nat} {G:Hp→Hp} (hE:Emb ρ G 1) {im:Im} {w w':World} (hr:Rel im (G (ProfH l)) w) {g:Nat} {x x':Option Nat} (hb:(G (ProfH l))[ρ 0]? = some ⟨0,.res (ProfX l),1,[]⟩) (hg:im (ρ 0)=some g) (h4:∀ k,im.sub (ρ 0) k↔x=some k) (h5:x ≠ some g)
    (hrow:∃ arr t fr,w.heap[g]? = some (.cells arr t fr)∧∀ j,j < arr.size→¬ (fr.1≤j∧j < fr.2)) (hf:w.frozen? ⟨g,0,none⟩=false) (hT:PTabW w w' g x x' l'):∃ im',Rel im' (G (ProfH l')) w'∧Ext im (G (ProfH l)) w im' (G (ProfH l')) w':=by
  have hset:=hE.set (ProfH l) 0 ⟨0,.res (ProfX l'),1,[]⟩ (Nat.le_refl _) (by simp [ProfH])
  have hset:(G (ProfH l)).set (ρ 0) ⟨0,.res (ProfX l'),1,[]⟩=G (ProfH l'):=hset
  rw [← hset]
  obtain ⟨arr,t,fr,k1,k2⟩:=hrow
  obtain ⟨arr',m1,m2⟩:=hT.row arr t fr k1
  have hgl:g < w.heap.size:=(Array.getElem?_eq_some_iff.1 k1).1
  refine hr.thing hb rfl hg ⟨0,.res (ProfX l'),1,[]⟩ rfl rfl (Nat.le_refl _) rfl hT.os hT.tape hT.output hT.size (fun k hk hkg hs=>hT.keep k hk hkg fun e=>hs ((h4 k).2 e)) (fun k=>x'=some k) (fun k hk=>(hT.fresh k hk).imp (h4 k).2 id) ⟨arr',t,fr,m1,by rw [m2]; exact k2⟩ (by unfold rowSize; rw [m1,k1]; exact m2) ?_
  refine ⟨x',hT.cell,?_,hT.is,fun k=>Iff.rfl,fun e => ?_⟩
  · simp only [World.frozen?,m1]
    simp only [World.frozen?,k1] at hf
    exact hf
  · rcases hT.fresh g e with e | e
    · exact h5 e
    · omega
theorem prof_Of_con (l:ProfT) (a:Int) (ha:0≤a∧a < 65536):ConL Try.prog 8 [.ptr 0 0 0,.s (.int .u16 a)] (ProfH l) (.tup [.agg [.s (.int .u16 ((profGet l a).getD sp0).1),.s (.int .i64 ((profGet l a).getD sp0).2.1),.s (.int .i64 ((profGet l a).getD sp0).2.2.1),.s (.int .i64 ((profGet l a).getD sp0).2.2.2)],.s (.bool (profGet l a).isSome)]) (ProfH l) :=
  prof_read (xs:=[.int .u16 a]) rfl (fun b w x h1 h2=>(of_walk b w x l a ha h1 h2).mono fun e w' ⟨e1,e2⟩=>⟨_,e1,e2,fun im H _=>⟨_,rfl,⟨_,rfl,rfl,rfl,rfl,rfl,trivial⟩,rfl,trivial⟩⟩) rfl
theorem prof_Sum_con (l:ProfT):ConL Try.prog 9 [.ptr 0 0 0] (ProfH l) (.agg [.s (.int .u16 (profSum l).1),.s (.int .i64 (profSum l).2.1),.s (.int .i64 (profSum l).2.2.1),.s (.int .i64 (profSum l).2.2.2)]) (ProfH l) :=
  prof_read (xs:=[]) rfl (fun b w x h1 h2=>(sum_walk b w x l h1 h2).mono fun e w' ⟨e1,e2⟩=>⟨_,e1,e2,fun im H _=>⟨_,rfl,rfl,rfl,rfl,rfl,trivial⟩⟩) rfl
/-- A count as cells. -/
def spCs (s:SpT):List V:=[.s (.int .u16 s.1),.s (.int .i64 s.2.1),.s (.int .i64 s.2.2.1),.s (.int .i64 s.2.2.2)]
theorem sp_vrs {im:Im} {H:Hp} {w:World}:∀ (xs:List SpT),VRs im H w (xs.flatMap spCs) (xs.flatMap spVs)
  | []=>trivial
  | x::r=>by
    rw [List.flatMap_cons,List.flatMap_cons]
    exact VRs.append (a:=spCs x) (x:=spVs x) ⟨rfl,rfl,rfl,rfl,trivial⟩ (sp_vrs r)
theorem rowv_vr {im:Im} {H:Hp} {w w':World} {xs:List SpT} {v:Value} (h:RowV w' w.heap.size v xs) (ho:∀ g,w.heap.size≤g→¬ Own im H g):VR im H w' (.sl false xs.length (xs.flatMap spCs)) v:=by
  obtain ⟨A,cap,rfl,h1,h2,h3⟩:=h
  refine ⟨A,cap,rfl,h1,h2,fun e=>by simp at e,?_⟩
  rcases h3 with h3 | ⟨g,hA,hg,hl,hc⟩
  · exact .inl h3
  · exact .inr ⟨g,0,xs.flatMap spVs,hA,ho g hg,hl,fun j u hj=>by rw [Nat.zero_add]; exact hc j u hj,sp_vrs xs⟩
theorem prof_Top_con {α:Type} (mk:SpT→α) (g:α→List V) (hg:∀ s,g (mk s)=spCs s) (l:ProfT) (many:Int) (hl:(l.length+1)*32≤140737488355328) (hk:∀ p∈l,p.2.1=p.1):ConL Try.prog 11 [.ptr 0 0 0,.s (.int .i64 many)] (ProfH l) (.sl false ((profTop l many).map mk).length (cat g ((profTop l many).map mk))) (ProfH l):=by
  have e:cat g ((profTop l many).map mk)=(profTop l many).flatMap spCs:=by
    unfold cat
    rw [List.map_map,show (g ∘ mk)=spCs from funext hg,List.flatMap_def]
  have est:∀ xs:List SpT,statics (xs.flatMap spCs)=true:=by
    intro xs
    induction xs with
    | nil=>rfl
    | cons x r ih=>rw [List.flatMap_cons,stat_app,ih]; rfl
  rw [e,List.length_map]
  exact prof_read (xs:=[.int .i64 many]) rfl (fun b w x h1 h2=>(top_walk b w x l many h1 h2 hl hk).mono fun e w' ⟨v,e1,e2,e3⟩=>⟨v,e1,e3,fun im H ho=>rowv_vr e2 ho⟩) (by show statics _=true; exact est _)
theorem prof_Clear_con (l:ProfT):ConL Try.prog 12 [.ptr 0 0 0] (ProfH l) (.tup []) (ProfH []):=by
  refine ⟨Nat.le_refl _,fun ρ G hE => ?_⟩
  intro im w cargs hr ha
  rw [CallsD.st (by rfl)]
  obtain ⟨g,x,cs,rfl,ha,hb,hg,h1,h2,h3,h4,h5,hrow⟩:=prof_row hE hr ha
  match cs,ha with
  | [],ha =>
    refine (clear_walk g w x l h1 h3 h5).mono ?_
    rintro e w' ⟨rfl,hT⟩
    obtain ⟨im',k1,k2⟩:=prof_turn hE hr hb hg h4 h5 hrow h2 hT
    exact ⟨im',_,rfl,k1,k2,#[],rfl,trivial⟩
/-- Counts are made. -/
theorem prof_make (im:Im) (H:Hp) (w:World) (g:Nat) (arr:Array Value) (t:TypeId) (fr:Nat × Nat) (vs:List Value) (h1:w.heap[g]? = some (.cells arr t fr)) (h2:∀ j,j < arr.size→¬ (fr.1≤j∧j < fr.2)) (h3:∀ (j:Nat) (v:Value),vs[j]? = some v→arr[j]? = some v) (h4:VRs im H w [.s (.map none)] vs):(ProfX []).Q w g fun _=>False:=by
  match vs,h4 with
  | [c],h4 =>
    have e:c=.map none:=h4.1
    subst e
    have ha:=h3 0 _ rfl
    have hlt:=(Array.getElem?_eq_some_iff.1 ha).1
    refine ⟨none,by simp only [World.cell?,h1]; exact ha,?_,rfl,fun k=>⟨fun h=>h.elim,fun h=>by cases h⟩,nofun⟩
    have:=h2 0 hlt
    simp only [World.frozen?,h1]
    simp only [not_and,Nat.not_lt] at this
    rcases Nat.lt_or_ge 0 fr.1 with h' | h'
    · simp; omega
    · have:=this h'; simp; omega
mutual
theorem VR.free {im:Im} {H:Hp} {w W:World} (hs:w.heap.size≤W.heap.size) (hk:∀ g,g < w.heap.size→¬ Own im H g→W.heap[g]? = w.heap[g]?):∀ (v:V) (c:Value),v.static=true→VR im H w v c→VR ⟨fun _=>none,fun _ _=>False⟩ [] W v c
  | .s v,c,_,h=>h
  | .ptr b ver o,c,hv,h=>by cases hv
  | .ref b ver o n,c,hv,h=>by cases hv
  | .sl full n cs,c,hv,h=>by
    obtain ⟨A,cap,hc,h1,h2,h3,h4⟩:=h
    refine ⟨A,cap,hc,h1,h2,h3,?_⟩
    rcases h4 with h4 | ⟨g,o,vs,hA,ho,hg,hat,hvs⟩
    · exact .inl h4
    · exact .inr ⟨g,o,vs,hA,fun ⟨y,Y,hy,_⟩=>by simp at hy,Nat.lt_of_lt_of_le hg hs,hat.keep (hk g hg ho),VRs.free hs hk _ _ hv hvs⟩
  | .ip cs,c,hv,h=>by
    obtain ⟨g,o,vs,hA,ho,hg,hat,hvs⟩:=h
    exact ⟨g,o,vs,hA,fun ⟨y,Y,hy,_⟩=>by simp at hy,Nat.lt_of_lt_of_le hg hs,hat.keep (hk g hg ho),VRs.free hs hk _ _ hv hvs⟩
  | .agg cs,c,hv,h=>by
    obtain ⟨vs,hc,hvs⟩:=h
    exact ⟨vs,hc,VRs.free hs hk _ _ hv hvs⟩
  | .tup cs,c,hv,h=>by
    obtain ⟨vs,hc,hvs⟩:=h
    exact ⟨vs,hc,VRs.free hs hk _ _ hv hvs⟩
  | .clo m cs,c,hv,h=>by
    obtain ⟨vs,hc,hvs⟩:=h
    exact ⟨vs,hc,VRs.free hs hk _ _ hv hvs⟩
  | .ifc t x,c,hv,h=>by
    obtain ⟨y,hc,hy⟩:=h
    exact ⟨y,hc,VR.free hs hk _ _ hv hy⟩
  | .any,c,_,_=>trivial
theorem VRs.free {im:Im} {H:Hp} {w W:World} (hs:w.heap.size≤W.heap.size) (hk:∀ g,g < w.heap.size→¬ Own im H g→W.heap[g]? = w.heap[g]?):∀ (vs:List V) (cs:List Value),statics vs=true→VRs im H w vs cs→VRs ⟨fun _=>none,fun _ _=>False⟩ [] W vs cs
  | [],[],_,_=>trivial
  | [],_::_,_,h=>h.elim
  | _::_,[],_,h=>h.elim
  | v::vs,c::cs,hv,h=>by
    rw [statics_cons,Bool.and_eq_true] at hv
    exact ⟨VR.free hs hk _ _ hv.1 h.1,VRs.free hs hk _ _ hv.2 h.2⟩
end
/-- A part as it is handed over; what is told of it. -/
abbrev PartV:=V × V × Int × Bool × Int × Int
structure PartP (p:PartV):Prop where
  start:Pure Try.prog 14 [.agg [p.1,p.2.1]] (.tup [.s (.int .u16 p.2.2.1),.s (.bool p.2.2.2.1)])
  own:Pure Try.prog 15 [.agg [p.1,p.2.1]] (.s (.int .i64 p.2.2.2.2.1))
  lost:Pure Try.prog 16 [.agg [p.1,p.2.1]] (.s (.int .i64 p.2.2.2.2.2))
  stat:statics [p.1,p.2.1]=true
  sl:∃ u n cs,p.1=.sl u n cs
  bool:∃ e,p.2.1=.s (.bool e)
  at_:0≤p.2.2.1∧p.2.2.1 < 65536
theorem Pure.wk {P:Program} {m:FuncId} {a a' v:V} (h:Pure P m [a'] v) (hw:Wk a a') (hs:a.static=true) (hs':a'.static=true):Pure P m [a] v :=
  CalL.wk (n0:=0) (L:=[]) h (Wks.cons hw Wks.nil) (by simp [statics_cons,statics_nil,hs,hs'])
theorem PartP.of {p:PartV} {x:List V} (h1:Pure Try.prog 14 [.agg x] (.tup [.s (.int .u16 p.2.2.1),.s (.bool p.2.2.2.1)])) (h2:Pure Try.prog 15 [.agg x] (.s (.int .i64 p.2.2.2.2.1))) (h3:Pure Try.prog 16 [.agg x] (.s (.int .i64 p.2.2.2.2.2)))
    (hw:Wk (.agg [p.1,p.2.1]) (.agg x)) (hs:statics [p.1,p.2.1]=true) (hs':statics x=true) (sl:∃ u n cs,p.1=.sl u n cs) (bool:∃ e,p.2.1=.s (.bool e)) (at_:0≤p.2.2.1∧p.2.2.1 < 65536):PartP p :=
  ⟨h1.wk hw hs hs',h2.wk hw hs hs',h3.wk hw hs hs',hs,sl,bool,at_⟩
theorem part_calls {im:Im} {H:Hp} {w:World} {b:Nat} {x:Option Nat} (hr:Rel im H w) (hown:∀ g,¬ Own im H g→g ≠ b∧x ≠ some g) {p:PartV} (hp:PartP p) {c1 c2:Value} (h1:VR im H w p.1 c1) (h2:VR im H w p.2.1 c2) :
    ∃ q:PartM,c1=.slice q.A q.n q.cap∧c2=.bool q.e∧q.q=p.2.2∧PartCalls w b x q∧0≤q.at_∧q.at_ < 65536:=by
  obtain ⟨u,n,cs,e1⟩:=hp.sl
  obtain ⟨e,e2⟩:=hp.bool
  rw [e1] at h1
  rw [e2] at h2
  obtain ⟨A,cap,hc1,h1'⟩:=h1
  have hc2:c2=.bool e:=h2
  refine ⟨⟨A,n,cap,e,p.2.2.1,p.2.2.2.1,p.2.2.2.2.1,p.2.2.2.2.2⟩,hc1,hc2,rfl,?_,hp.at_⟩
  intro W hW
  have hs:statics [p.1,p.2.1]=true:=hp.stat
  have hfree:VRs ⟨fun _=>none,fun _ _=>False⟩ [] W [p.1,p.2.1] [c1,c2] :=
    VRs.free (im:=im) (H:=H) (w:=w) hW.size (fun g hg ho=>hW.keep g hg (hown g ho).1 (hown g ho).2) _ _ hs ⟨by rw [e1]; exact ⟨A,cap,hc1,h1'⟩,by rw [e2]; exact hc2,trivial⟩
  have harg:VRs ⟨fun _=>none,fun _ _=>False⟩ [] W [.agg [p.1,p.2.1]] [PartM.v ⟨A,n,cap,e,p.2.2.1,p.2.2.2.1,p.2.2.2.2.1,p.2.2.2.2.2⟩]:=⟨⟨#[c1,c2],by rw [hc1,hc2]; rfl,hfree⟩,trivial⟩
  have hrel:Rel ⟨fun _=>none,fun _ _=>False⟩ [] W:=⟨fun b B hB=>by simp at hB,fun b b' B B' g hB=>by simp at hB,fun a ha=>⟨fun ⟨b,B,hb,_⟩=>by simp at hb,by
    obtain ⟨m,hm⟩:=(hr.glob a ha).2
    have hn:=hown a (hr.glob a ha).1
    exact ⟨m,by rw [World.cell?_of_block (w:=w) (hW.keep a (cell_lt hm) hn.1 hn.2)]; exact hm⟩⟩,fun b B hB=>by simp at hB⟩
  have go:∀ {m:FuncId} {v:V},Pure Try.prog m [.agg [p.1,p.2.1]] v→Nat.blt m 4294967296=true→Calls Try.prog m #[PartM.v ⟨A,n,cap,e,p.2.2.1,p.2.2.2.1,p.2.2.2.2.1,p.2.2.2.2.2⟩] W fun e w'=>∃ c im',e=.returned c∧VR im' [] w' v c∧Below W.heap.size W w' :=
    fun h hm=>h.calls hm hrel harg
  refine ⟨(go hp.start rfl).mono ?_,(go hp.own rfl).mono ?_,(go hp.lost rfl).mono ?_⟩
  · rintro e w' ⟨c,im',rfl,⟨vs,rfl,hvs⟩,hb⟩
    obtain ⟨l⟩:=vs
    match l,hvs with
    | [v0,v1],hvs =>
      have k1:v0=.int .u16 p.2.2.1:=hvs.1
      have k2:v1=.bool p.2.2.2.1:=hvs.2.1
      exact ⟨by rw [k1,k2],hb⟩
  · rintro e w' ⟨c,im',rfl,hv,hb⟩
    have hv:c=.int .i64 p.2.2.2.2.1:=hv
    exact ⟨by rw [hv],hb⟩
  · rintro e w' ⟨c,im',rfl,hv,hb⟩
    have hv:c=.int .i64 p.2.2.2.2.2:=hv
    exact ⟨by rw [hv],hb⟩
theorem parts_in {im:Im} {H:Hp} {w:World} {b:Nat} {x:Option Nat} (hr:Rel im H w) (hown:∀ g,¬ Own im H g→g ≠ b∧x ≠ some g):∀ (parts:List PartV) (vs:List Value),VRs im H w (parts.flatMap fun p=>[p.1,p.2.1]) vs→(∀ p∈parts,PartP p) →
    ∃ ps:List PartM,ps.length=parts.length∧ps.map PartM.q=parts.map (·.2.2)∧(∀ p∈ps,PartCalls w b x p∧0≤p.at_∧p.at_ < 65536)∧∀ i p,ps[i]? = some p→vs[i*2]? = some (.slice p.A p.n p.cap)∧vs[i*2+1]? = some (.bool p.e)
  | [],vs,_,_=>⟨[],rfl,rfl,fun p hp=>by simp at hp,fun i p hp=>by simp at hp⟩
  | p::parts,vs,h,hp=>by
    rw [List.flatMap_cons] at h
    match vs,h with
    | c1::c2::vs,h =>
      obtain ⟨h1,h2,h3⟩:=h
      obtain ⟨q,q1,q2,q3,q4⟩:=part_calls hr hown (hp p (by simp)) h1 h2
      obtain ⟨ps,k1,k2,k3,k4⟩:=parts_in hr hown parts vs h3 fun p' hp'=>hp p' (List.mem_cons_of_mem _ hp')
      refine ⟨q::ps,by simp [k1],by simp [k2,q3],fun p' hp' => ?_,fun i p' hp' => ?_⟩
      · rcases List.mem_cons.1 hp' with e | e
        · rw [e]; exact q4
        · exact k3 p' e
      · match i,hp' with
        | 0,hp' =>
          have:q=p':=by simpa using hp'
          subst this
          exact ⟨by simp [q1],by simp [q2]⟩
        | i+1,hp' =>
          have:=k4 i p' (by simpa using hp')
          rw [show (i+1)*2=i*2+2 by omega]
          exact ⟨this.1,this.2⟩
theorem prof_Add_con (l:ProfT) (u:Bool) (parts:List PartV) (hp:∀ p∈parts,PartP p) (hn:parts.length≤1000000∧l.length≤1000000) :
    ConL Try.prog 4 [.ptr 0 0 0,.sl u parts.length (parts.flatMap fun p=>[p.1,p.2.1])] (ProfH l) (.tup []) (ProfH ((parts.map (·.2.2)).foldl profAdd l)):=by
  have est:∀ ps:List PartV,(∀ p∈ps,PartP p)→statics (ps.flatMap fun p=>[p.1,p.2.1])=true:=by
    intro ps
    induction ps with
    | nil=>intro _; rfl
    | cons q r ih =>
      intro h
      rw [List.flatMap_cons,stat_app,ih fun p' hp'=>h p' (List.mem_cons_of_mem _ hp'),(h q (by simp)).stat]
      rfl
  refine ⟨Nat.le_refl _,fun ρ G hE => ?_⟩
  intro im w cargs hr ha
  rw [CallsD.st (by rfl)]
  obtain ⟨g,x,cs,rfl,ha,hb,hg,h1,h2,h3,h4,h5,hrow⟩:=prof_row hE hr ha
  match cs,ha with
  | [c],ha =>
    have hv:=ha.1
    rw [rn_static ρ _ (show (V.sl u parts.length (parts.flatMap fun p=>[p.1,p.2.1])).static=true from est parts hp)] at hv
    obtain ⟨A,cap,rfl,hn1,hn2,_,hA⟩:=hv
    have hown:∀ k,¬ Own im (G (ProfH l)) k→k ≠ g∧x ≠ some k:=fun k hk=>⟨fun e=>hk ⟨ρ 0,_,hb,nofun,.inl (by rw [e]; exact hg)⟩,fun e=>hk ⟨ρ 0,_,hb,nofun,.inr ((h4 k).2 e)⟩⟩
    have key:∃ ps:List PartM,ps.length=parts.length∧ps.map PartM.q=parts.map (·.2.2)∧(∀ p∈ps,PartCalls w g x p∧0≤p.at_∧p.at_ < 65536)∧(ps.length=0∨∃ g' o,A=some ⟨g',o,none⟩∧g' < w.heap.size∧g' ≠ g∧x ≠ some g'∧∀ i p,ps[i]? = some p→w.cell? ⟨g',o+i*2,none⟩=some (.slice p.A p.n p.cap)∧w.cell? ⟨g',o+i*2+1,none⟩=some (.bool p.e)):=by
      rcases hA with h0 | ⟨g',o,vs,hA,ho,hgl,hat,hvs⟩
      · obtain rfl:parts=[]:=List.eq_nil_of_length_eq_zero h0
        exact ⟨[],rfl,rfl,fun p hp=>by simp at hp,.inl rfl⟩
      · obtain ⟨ps,k1,k2,k3,k4⟩:=parts_in hr hown parts vs hvs hp
        refine ⟨ps,k1,k2,k3,.inr ⟨g',o,hA,hgl,(hown g' ho).1,(hown g' ho).2,fun i p hi => ?_⟩⟩
        obtain ⟨j1,j2⟩:=k4 i p hi
        exact ⟨hat _ _ j1,by rw [Nat.add_assoc]; exact hat _ _ j2⟩
    obtain ⟨ps,k1,k2,k3,k4⟩:=key
    rw [← k1,← k2]
    refine (add_walk g w x l ps A cap h1 h2 h3 h5 k4 k3 (by omega) hn.2).mono ?_
    rintro e w' ⟨rfl,x',hT⟩
    obtain ⟨im',m1,m2⟩:=prof_turn hE hr hb hg h4 h5 hrow h2 hT
    exact ⟨im',_,rfl,m1,m2,#[],rfl,trivial⟩
end Go.Proofs.YtoemlgdlejkliaaK
