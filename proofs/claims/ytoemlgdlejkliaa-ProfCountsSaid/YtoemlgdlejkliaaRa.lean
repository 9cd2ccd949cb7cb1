/- Block numbers renamed: what is reckoned in a memory of its own is reckoned in any memory in which it lies. -/
import Derived.Test.YtoemlgdlejkliaaKn
namespace Go.Proofs.YtoemlgdlejkliaaK
set_option linter.unusedVariables false
set_option linter.unusedSimpArgs false
open Go.RowKit
mutual
def V.rn (ρ:Nat→Nat):V→V
  | .s v=>.s v
  | .any=>.any
  | .ptr b ver o=>.ptr (ρ b) ver o
  | .ref b ver o k=>.ref (ρ b) ver o k
  | .sl u k cs=>.sl u k (rns ρ cs)
  | .ip cs=>.ip (rns ρ cs)
  | .agg cs=>.agg (rns ρ cs)
  | .tup cs=>.tup (rns ρ cs)
  | .clo m cs=>.clo m (rns ρ cs)
  | .ifc t x=>.ifc t (x.rn ρ)
def rns (ρ:Nat→Nat):List V→List V
  | []=>[]
  | v::r=>v.rn ρ::rns ρ r
end
theorem rns_map (ρ:Nat→Nat):∀ (l:List V),rns ρ l=l.map (V.rn ρ)
  | []=>rfl
  | v::r=>by simp [rns,rns_map ρ r]
def Blk.rn (ρ:Nat→Nat) (B:Blk):Blk:=⟨B.ver,B.kind,B.sz,rns ρ B.cs⟩
def rnF (ρ:Nat→Nat) (f:Fr):Fr:=fun t=>(f t).rn ρ
/-- A memory of its own lies in another one: n0 blocks of it were there before. -/
structure Emb (ρ:Nat→Nat) (G:Hp→Hp) (n0:Nat):Prop where
  get:∀ L b B,n0≤L.length→L[b]? = some B→(G L)[ρ b]? = some (B.rn ρ)
  set:∀ L b B,n0≤L.length→b < L.length→(G L).set (ρ b) (B.rn ρ)=G (L.set b B)
  snoc:∀ L B,n0≤L.length→G L++[B.rn ρ]=G (L++[B])
  len:∀ L,n0≤L.length→(G L).length=ρ L.length
  out:∀ L b B,n0≤L.length→(G L)[b]? = some B→(∃ k,b=ρ k∧k < L.length)∨∀ M,n0≤M.length→(G M)[b]? = some B
section
variable {ρ:Nat→Nat} {G:Hp→Hp} {n0:Nat} {n:Nat} {H L L':Hp} {f:Fr} {v x:V}
theorem rns_len (l:List V):(rns ρ l).length=l.length:=by simp [rns_map]
theorem rns_drop (k:Nat) (l:List V):(rns ρ l).drop k=rns ρ (l.drop k):=by simp [rns_map,List.map_drop]
theorem rns_take (k:Nat) (l:List V):(rns ρ l).take k=rns ρ (l.take k):=by simp [rns_map,List.map_take]
theorem rns_app (a b:List V):rns ρ (a++b)=rns ρ a++rns ρ b:=by simp [rns_map]
theorem rns_s (l:List Value):rns ρ (l.map V.s)=l.map V.s:=by simp only [rns_map,List.map_map]; congr 1
theorem sh_one (v:V):(v.rn ρ).one=v.one:=by cases v <;> simp [V.rn,V.one]
theorem rns_one (l:List V):(rns ρ l).all V.one=l.all V.one:=by
  rw [rns_map,List.all_map]; congr 1; funext v; exact sh_one v
theorem sh_cells (v:V):(v.rn ρ).cells=rns ρ v.cells:=by cases v <;> simp [V.rn,V.cells,rns]
theorem lit_rn (v:Value):(lit v).rn ρ=lit v:=by cases v <;> simp [lit,V.rn,rns_s]
theorem ev_rn (x:Opd):ev x (rnF ρ f)=(ev x f).rn ρ:=by
  cases x with
  | t k=>rfl
  | k v=>exact (lit_rn v).symm
  | fn m=>rfl
mutual
theorem sh_static:∀ (v:V),(v.rn ρ).static=v.static
  | .s _=>rfl
  | .any=>rfl
  | .ptr .. => rfl
  | .ref .. => rfl
  | .sl _ _ cs=>by simp only [V.rn,V.static]; exact rns_static cs
  | .ip cs=>by simp only [V.rn,V.static]; exact rns_static cs
  | .agg cs=>by simp only [V.rn,V.static]; exact rns_static cs
  | .tup cs=>by simp only [V.rn,V.static]; exact rns_static cs
  | .clo _ cs=>by simp only [V.rn,V.static]; exact rns_static cs
  | .ifc _ x=>by simp only [V.rn,V.static]; exact sh_static x
theorem rns_static:∀ (l:List V),statics (rns ρ l)=statics l
  | []=>rfl
  | v::r=>by simp only [rns,statics]; rw [sh_static v,rns_static r]
end
theorem asB_rn:asB (x.rn ρ)=asB x:=by cases x <;> rfl
theorem asI_rn:asI (x.rn ρ)=asI x:=by cases x <;> rfl
theorem asS_rn:asS (x.rn ρ)=asS x:=by cases x <;> rfl
theorem asStr_rn:asStr (x.rn ρ)=asStr x:=by cases x <;> rfl
theorem asAgg_rn:asAgg (x.rn ρ)=(asAgg x).map (rns ρ):=by cases x <;> rfl
theorem asTup_rn:asTup (x.rn ρ)=(asTup x).map (rns ρ):=by cases x <;> rfl
theorem live_rn (hE:Emb ρ G n0) (hn:n0≤L.length) {b ver:Nat} {B:Blk} (h:live L b ver=some B):live (G L) (ρ b) ver=some (B.rn ρ):=by
  obtain ⟨h1,h2,h3⟩:=live_ok h
  unfold live
  rw [hE.get L b B hn h1]
  simp [Blk.rn,h2,live_lv h]
theorem live_rn_some (hE:Emb ρ G n0) (hn:n0≤L.length) {b ver:Nat} (h:(live L b ver).isSome=true):(live (G L) (ρ b) ver).isSome=true:=by
  obtain ⟨B,hB⟩:=Option.isSome_iff_exists.1 h
  rw [live_rn hE hn hB]; rfl
theorem cellsAt_rn (hE:Emb ρ G n0) (hn:n0≤L.length) {p:V} {k:Nat} {l:List V} (h:cellsAt L p k=some l):cellsAt (G L) (p.rn ρ) k=some (rns ρ l):=by
  cases p with
  | ptr b ver o =>
    simp only [V.rn,cellsAt] at h ⊢
    cases hB:live L b ver with
    | none=>rw [hB] at h; simp at h
    | some B =>
      rw [hB] at h; rw [live_rn hE hn hB]
      simp only [Blk.rn,rns_len] at h ⊢
      split at h
      · rename_i hc
        simp at h; subst h
        rw [if_pos hc,rns_drop,rns_take]
      · simp at h
  | ip cs =>
    simp only [V.rn,cellsAt,rns_len] at h ⊢
    split at h
    · rename_i hc
      simp at h; subst h
      rw [if_pos hc,rns_take]
    · simp at h
  | _=>simp [cellsAt] at h
theorem one_rn {ag:Bool} {l:List V} (h:one? ag l=some v):one? ag (rns ρ l)=some (v.rn ρ):=by
  unfold one? at h ⊢
  cases ag with
  | true=>simp at h; subst h; simp [V.rn]
  | false =>
    simp only [Bool.false_eq_true,if_false] at h ⊢
    match l,h with
    | [x],h=>simp at h; subst h; simp [rns]
theorem slCells_rn (hE:Emb ρ G n0) (hn:n0≤L.length) {x:V} {sz:Nat} {l:List V} (h:slCells L sz x=some l):slCells (G L) sz (x.rn ρ)=some (rns ρ l):=by
  cases x with
  | ref b ver o k =>
    simp only [V.rn,slCells] at h ⊢
    cases hB:live L b ver with
    | none=>rw [hB] at h; simp at h
    | some B =>
      rw [hB] at h; rw [live_rn hE hn hB]
      simp only [Blk.rn,rns_len] at h ⊢
      split at h
      · rename_i hc
        simp at h; subst h
        rw [if_pos hc,rns_drop,rns_take]
      · simp at h
  | sl u k cs =>
    simp only [V.rn,slCells,rns_len] at h ⊢
    split at h
    · rename_i hc
      simp at h; subst h
      rw [if_pos hc,rns_take]
    · simp at h
  | s v =>
    have e:v=.slice none 0 0∧l=[]:=by
      unfold slCells at h
      split at h <;> simp_all
    obtain ⟨rfl,rfl⟩:=e
    rfl
  | _=>simp [slCells] at h
theorem slLen_rn (hE:Emb ρ G n0) (hn:n0≤L.length) {x:V} {k:Nat} (h:slLen L x=some k):slLen (G L) (x.rn ρ)=some k:=by
  cases x with
  | ref b ver o j =>
    simp only [V.rn,slLen] at h ⊢
    cases hB:live L b ver with
    | none=>rw [hB] at h; simp at h
    | some B=>rw [live_rn hE hn hB]; rw [hB] at h; simpa using h
  | sl u j cs=>simpa [V.rn,slLen] using h
  | s v=>simp only [V.rn]; unfold slLen at h ⊢; split at h <;> simp_all
  | _=>simp [slLen] at h
theorem isAddr_rn (hE:Emb ρ G n0) (hn:n0≤L.length) {x:V} (h:isAddr L x=true):isAddr (G L) (x.rn ρ)=true:=by
  cases x with
  | ptr b ver o =>
    simp only [V.rn,isAddr] at h ⊢
    exact live_rn_some hE hn h
  | ip cs=>rfl
  | _=>simp [isAddr] at h
theorem ptrAdd_rn {x:V} {k:Nat} (h:ptrAdd x k=some v):ptrAdd (x.rn ρ) k=some (v.rn ρ):=by
  cases x <;> simp [ptrAdd] at h <;> subst h <;> simp [V.rn,ptrAdd,rns_drop]
theorem slAt_rn {x:V} {k:Nat} (h:slAt x k=some v):slAt (x.rn ρ) k=some (v.rn ρ):=by
  cases x <;> simp [slAt] at h <;> subst h <;> simp [V.rn,slAt,rns_drop]
theorem storeAt_rn (hE:Emb ρ G n0) (hn:n0≤L.length) {p:V} {cs:List V} (h:storeAt L p cs=some L'):storeAt (G L) (p.rn ρ) (rns ρ cs)=some (G L'):=by
  cases p with
  | ptr b ver o =>
    simp only [V.rn,storeAt] at h ⊢
    cases hB:live L b ver with
    | none=>rw [hB] at h; simp at h
    | some B =>
      rw [hB] at h; rw [live_rn hE hn hB]
      simp only [Blk.rn,rns_len,rns_one] at h ⊢
      split at h
      · rename_i hc
        simp at h; subst h
        rw [if_pos hc]
        have:splice (rns ρ B.cs) o (rns ρ cs)=rns ρ (splice B.cs o cs):=by
          simp only [splice,rns_app,rns_take,rns_drop,rns_len]
        rw [this]
        exact congrArg some (hE.set L b { B with cs:=splice B.cs o cs } hn (List.getElem?_eq_some_iff.1 (live_ok hB).1).1)
      · simp at h
  | _=>simp [storeAt] at h
theorem copyV_rn (hE:Emb ρ G n0) (hn:n0≤L.length) {x:V} {cs:List V} (h:copyV L x cs=some L'):copyV (G L) (x.rn ρ) (rns ρ cs)=some (G L'):=by
  unfold copyV at h ⊢
  have he:(rns ρ cs).isEmpty=cs.isEmpty:=by cases cs <;> rfl
  rw [he]
  split at h
  · rename_i hc
    simp at h; subst h
    rw [if_pos hc]
  · rename_i hc
    rw [if_neg hc]
    cases x with
    | ref b ver o k=>exact storeAt_rn hE hn h
    | _=>simp at h
theorem clrV_rn (hE:Emb ρ G n0) (hn:n0≤L.length) {z:List Value} {x:V} (h:clrV L z x=some L'):clrV (G L) z (x.rn ρ)=some (G L'):=by
  cases x with
  | ref b ver o k =>
    simp only [clrV,V.rn] at h ⊢
    obtain ⟨B,hB,h⟩:=Option.bind_eq_some_iff.1 h
    split at h
    · rename_i hc
      simp at h; subst h
      have hb:b < L.length:=(List.getElem?_eq_some_iff.1 (live_ok hB).1).1
      rw [live_rn hE hn hB]
      simp only [Option.bind_some,Blk.rn]
      rw [if_pos hc,rns_take]
      have:=hE.set L b { B with cs:=B.cs.take o } hn hb
      simp only [Blk.rn] at this
      rw [this]
    · simp at h
  | _=>simp [clrV] at h
theorem fillV_rn:∀ (ps:List (Nat × Nat × Opd)) (cs l:List V),fillV f cs ps=some l→fillV (rnF ρ f) (rns ρ cs) ps=some (rns ρ l)
  | [],cs,l,h=>by simp [fillV] at h ⊢; rw [h]
  | (o,k,x)::r,cs,l,h=>by
    simp only [fillV,ev_rn,sh_cells,rns_len,rns_one] at h ⊢
    split at h
    · rename_i hc
      rw [if_pos hc]
      have:splice (rns ρ cs) o (rns ρ (ev x f).cells)=rns ρ (splice cs o (ev x f).cells):=by
        simp only [splice,rns_app,rns_take,rns_drop,rns_len]
      rw [this]
      exact fillV_rn r _ l h
    · simp at h
theorem bounds_rn {k:Nat} {lo hi:Option Opd}:bounds (rnF ρ f) k lo hi=bounds f k lo hi:=by
  unfold bounds
  cases lo <;> cases hi <;> simp only [ev_rn,asI_rn]
theorem eqK_rn {k:TK} {x y:V} {r:Bool} (h:eqK k x y=some r):eqK k (x.rn ρ) (y.rn ρ)=some r:=by
  unfold eqK at h
  split at h <;> first | exact h | simp at h
theorem eqKs_rn:∀ (ks:List TK) (a b:List V) (r:Bool),eqKs ks a b=some r→eqKs ks (rns ρ a) (rns ρ b)=some r
  | [],[],[],r,h=>h
  | k::ks,x::xs,y::ys,r,h=>by
    simp only [eqKs,rns] at h ⊢
    obtain ⟨u,h1,h⟩:=Option.bind_eq_some_iff.1 h
    obtain ⟨w,h2,h3⟩:=Option.map_eq_some_iff.1 h
    rw [eqK_rn h1,eqKs_rn ks xs ys w h2]
    simpa using h3
  | [],_::_,_,_,h=>by simp [eqKs] at h
  | [],[],_::_,_,h=>by simp [eqKs] at h
  | _::_,[],_,_,h=>by simp [eqKs] at h
  | _::_,_::_,[],_,h=>by simp [eqKs] at h
theorem bytesOf_rn:∀ (l:List V) (r:List UInt8),bytesOf l=some r→bytesOf (rns ρ l)=some r
  | [],_,h=>h
  | v::t,r,h=>by
    unfold bytesOf at h
    split at h
    · simp_all
    · rename_i e
      simp only [List.cons.injEq] at e
      obtain ⟨rfl,rfl⟩:=e
      obtain ⟨l,h1,rfl⟩:=Option.map_eq_some_iff.1 h
      simp only [rns,V.rn,bytesOf,bytesOf_rn _ _ h1,Option.map_some]
    · simp at h
theorem nil_rn (hE:Emb ρ G n0) (hn:n0≤L.length) {isl:Bool} {x:V} {r:Bool} (h:nil? isl L x=some r):nil? isl (G L) (x.rn ρ)=some r:=by
  cases isl with
  | true =>
    cases x with
    | ref b ver o k=>simp only [nil?,V.rn] at h ⊢; simp at h ⊢; exact ⟨⟨h.1.1,live_rn_some hE hn h.1.2⟩,h.2⟩
    | sl u k cs=>simpa [nil?,V.rn] using h
    | s v =>
      have e:v=.slice none 0 0∧r=true:=by
        simp only [nil?,if_true] at h
        split at h <;> simp_all
      obtain ⟨rfl,rfl⟩:=e
      rfl
    | _=>simp [nil?] at h
  | false =>
    cases x with
    | ptr b ver o=>simp only [nil?,V.rn] at h ⊢; simp at h ⊢; exact ⟨live_rn_some hE hn h.1,h.2⟩
    | ip cs=>simpa [nil?,V.rn] using h
    | s v =>
      have e:v=.pointer none∧r=true:=by
        simp only [nil?,Bool.false_eq_true,if_false] at h
        split at h <;> simp_all
      obtain ⟨rfl,rfl⟩:=e
      rfl
    | _=>simp [nil?] at h
theorem slCut_rn (hE:Emb ρ G n0) (hn:n0≤L.length) {sz l h':Nat} {x:V} (h:slCut L sz x l h'=some v):slCut (G L) sz (x.rn ρ) l h'=some (v.rn ρ):=by
  cases x with
  | ref b ver o k =>
    simp only [slCut,V.rn] at h ⊢
    obtain ⟨B,hB,h⟩:=Option.bind_eq_some_iff.1 h
    rw [live_rn hE hn hB]
    simp only [Option.bind_some,Blk.rn]
    split at h
    · rename_i hc; simp at h; subst h; rw [if_pos hc]; rfl
    · simp at h
  | sl u k cs=>simp only [slCut,V.rn] at h ⊢; simp at h; subst h; simp [V.rn,rns_drop]
  | s w =>
    simp only [V.rn]
    unfold slCut at h ⊢
    split at h <;> simp_all
    · rename_i e; subst h; simp [V.rn]
  | _=>simp [slCut] at h
theorem sl3Cut_rn {sz l h':Nat} {x:V} (h:sl3Cut sz x l h'=some v):sl3Cut sz (x.rn ρ) l h'=some (v.rn ρ):=by
  cases x with
  | sl u k cs=>simp only [sl3Cut,V.rn] at h ⊢; simp at h; subst h; simp [V.rn,rns_drop]
  | _=>simp [sl3Cut] at h
theorem arrCut_rn (hE:Emb ρ G n0) (hn:n0≤L.length) {k sz l h':Nat} {x:V} (h:arrCut L k sz x l h'=some v):arrCut (G L) k sz (x.rn ρ) l h'=some (v.rn ρ):=by
  cases x with
  | ptr b ver o =>
    simp only [arrCut,V.rn] at h ⊢
    obtain ⟨B,hB,h⟩:=Option.bind_eq_some_iff.1 h
    rw [live_rn hE hn hB]
    simp only [Option.bind_some,Blk.rn,rns_len]
    split at h
    · rename_i hc; simp at h; subst h; rw [if_pos hc]; rfl
    · simp at h
  | _=>simp [arrCut] at h
theorem appendV_rn (hE:Emb ρ G n0) (hn:n0≤L.length) {e sz by_ k:Nat} {x:V} {ys:List V} (h:appendV L e sz by_ x ys k=some (v,L')):appendV (G L) e sz by_ (x.rn ρ) (rns ρ ys) k=some (v.rn ρ,G L'):=by
  cases x with
  | ref b ver o j =>
    simp only [V.rn,appendV] at h ⊢
    cases hB:live L b ver with
    | none=>rw [hB] at h; simp at h
    | some B =>
      rw [hB] at h; rw [live_rn hE hn hB]
      simp only [Blk.rn,rns_len,rns_one] at h ⊢
      split at h
      · rename_i hc
        simp at h
        obtain ⟨rfl,rfl⟩:=h
        rw [if_pos hc,← rns_app]
        simp only [V.rn,Option.some.injEq,Prod.mk.injEq,true_and]
        exact hE.set L b { B with ver:=ver+1,cs:=B.cs++ys } hn (List.getElem?_eq_some_iff.1 (live_ok hB).1).1
      · simp at h
  | sl u j cs =>
    cases u with
    | false=>simp [appendV] at h
    | true =>
      simp only [V.rn,appendV,rns_len,rns_one] at h ⊢
      split at h
      · rename_i hc; simp at h; obtain ⟨rfl,rfl⟩:=h; rw [if_pos hc]; rfl
      · rename_i hc
        rw [if_neg hc]
        split at h
        · rename_i hc2
          simp at h; obtain ⟨rfl,rfl⟩:=h
          rw [if_pos hc2,← rns_app]
          simp only [V.rn,hE.len L hn,Option.some.injEq,Prod.mk.injEq,true_and]
          exact hE.snoc L ⟨0,.grow,sz,cs++ys⟩ hn
        · simp at h
  | s w =>
    simp only [V.rn]
    unfold appendV at h ⊢
    split at h
    · rename_i e; simp at e
    · rename_i e; simp at e
    · rename_i e
      simp at e; subst e
      simp only [rns_one] at h ⊢
      split at h
      · rename_i hc; simp at h; obtain ⟨rfl,rfl⟩:=h; rw [if_pos hc]; rfl
      · rename_i hc
        rw [if_neg hc]
        split at h
        · rename_i hc2
          simp at h; obtain ⟨rfl,rfl⟩:=h
          rw [if_pos hc2]
          simp only [V.rn,hE.len L hn,Option.some.injEq,Prod.mk.injEq,true_and]
          exact hE.snoc L ⟨0,.grow,sz,ys⟩ hn
        · simp at h
    · simp at h
  | _=>simp [appendV] at h
theorem E1_rn (hE:Emb ρ G n0) (hn:n0≤L.length) {op:I} (h:E1 op f L=some (v,L')):E1 op (rnF ρ f) (G L)=some (v.rn ρ,G L'):=by
  cases op <;> simp only [E1] at h ⊢
  case mv x=>simp at h; obtain ⟨rfl,rfl⟩:=h; rw [ev_rn]
  case nilg sz =>
    simp at h; obtain ⟨rfl,rfl⟩:=h
    rw [hE.len L hn]; exact congrArg some (Prod.ext rfl (hE.snoc L ⟨0,.grow,sz,[]⟩ hn))
  case pick c a b =>
    obtain ⟨t,h1,h2⟩:=Option.map_eq_some_iff.1 h
    simp at h2; obtain ⟨rfl,rfl⟩:=h2
    simp only [ev_rn,asB_rn,h1,Option.map_some]
    cases t <;> rfl
  case box x =>
    split at h
    · rename_i hc
      simp at h; obtain ⟨rfl,rfl⟩:=h
      rw [ev_rn,sh_cells,rns_one,if_pos hc,hE.len L hn]
      exact congrArg some (Prod.ext rfl (hE.snoc L ⟨0,.mem,1,(ev x f).cells⟩ hn))
    · simp at h
  case zero cs =>
    simp at h; obtain ⟨rfl,rfl⟩:=h
    rw [hE.len L hn]
    have:=hE.snoc L ⟨0,.mem,1,cs.map .s⟩ hn
    simp only [Blk.rn,rns_s] at this
    exact congrArg some (Prod.ext rfl this)
  case zerob t u =>
    simp at h; obtain ⟨rfl,rfl⟩:=h
    have h1:=hE.snoc L ⟨0,.buf u,1,[]⟩ hn
    have h2:=hE.snoc (L++[⟨0,.buf u,1,[]⟩]) ⟨0,.bld t,1,[.s (.pointer none),.ref L.length 0 0 0]⟩ (by simp; omega)
    have hl:=hE.len (L++[⟨0,.buf u,1,[]⟩]) (by simp; omega)
    rw [← h1] at hl
    simp only [List.length_append,List.length_cons,List.length_nil,Nat.zero_add,Blk.rn,rns] at hl
    rw [← h1] at h2
    simp only [Blk.rn,rns,V.rn] at h1 h2
    simp only [V.rn,hE.len L hn] at hl ⊢
    rw [hl]
    refine congrArg some (Prod.ext rfl ?_)
    simpa using h2
  case build cs ps =>
    obtain ⟨l,h1,h2⟩:=Option.map_eq_some_iff.1 h
    simp at h2; obtain ⟨rfl,rfl⟩:=h2
    have:=fillV_rn (ρ:=ρ) ps _ l h1
    rw [rns_s] at this
    rw [this]; rfl
  case bsl k cs ps =>
    obtain ⟨l,h1,h⟩:=Option.bind_eq_some_iff.1 h
    have:=fillV_rn (ρ:=ρ) ps _ l h1
    rw [rns_s] at this
    rw [this]
    split at h
    · rename_i hc
      simp at h; obtain ⟨rfl,rfl⟩:=h
      simp only [Option.bind_some,rns_static,rns_one]
      rw [if_pos hc]; rfl
    · simp at h
  case bslo s k cs ps =>
    obtain ⟨l,h1,h⟩:=Option.bind_eq_some_iff.1 h
    have:=fillV_rn (ρ:=ρ) ps _ l h1
    rw [rns_s] at this
    rw [this]
    split at h
    · rename_i hc
      simp at h; obtain ⟨rfl,rfl⟩:=h
      simp only [Option.bind_some,rns_one]
      rw [if_pos hc,hE.len L hn]
      exact congrArg some (Prod.ext rfl (hE.snoc L ⟨0,.grow,s,l⟩ hn))
    · simp at h
  case load ag sz x =>
    obtain ⟨l,h1,h⟩:=Option.bind_eq_some_iff.1 h
    obtain ⟨u,h2,h3⟩:=Option.map_eq_some_iff.1 h
    simp at h3; obtain ⟨rfl,rfl⟩:=h3
    rw [ev_rn,cellsAt_rn hE hn h1]
    simp only [Option.bind_some,one_rn (ρ:=ρ) h2,Option.map_some]
  case store sz p x =>
    split at h
    · rename_i hc
      obtain ⟨u,h2,h3⟩:=Option.map_eq_some_iff.1 h
      simp at h3; obtain ⟨rfl,rfl⟩:=h3
      rw [ev_rn,ev_rn,sh_cells,rns_len,if_pos hc,storeAt_rn hE hn h2]; rfl
    · simp at h
  case nilc x =>
    split at h
    · rename_i hc
      simp at h; obtain ⟨rfl,rfl⟩:=h
      rw [ev_rn,if_pos (isAddr_rn hE hn hc)]
    · simp at h
  case bin op x y =>
    obtain ⟨a,h1,h⟩:=Option.bind_eq_some_iff.1 h
    obtain ⟨b,h2,h⟩:=Option.bind_eq_some_iff.1 h
    obtain ⟨c,h3,h4⟩:=Option.map_eq_some_iff.1 h
    simp at h4; obtain ⟨rfl,rfl⟩:=h4
    simp only [ev_rn,asS_rn,h1,h2,Option.bind_some,h3,Option.map_some]; rfl
  case bbin neg x y =>
    obtain ⟨a,h1,h⟩:=Option.bind_eq_some_iff.1 h
    obtain ⟨b,h2,h4⟩:=Option.map_eq_some_iff.1 h
    simp at h4; obtain ⟨rfl,rfl⟩:=h4
    simp only [ev_rn,asB_rn,h1,h2,Option.bind_some,Option.map_some]; rfl
  case eqa neg ks x y =>
    obtain ⟨a,h1,h⟩:=Option.bind_eq_some_iff.1 h
    obtain ⟨b,h2,h⟩:=Option.bind_eq_some_iff.1 h
    obtain ⟨c,h3,h4⟩:=Option.map_eq_some_iff.1 h
    simp at h4; obtain ⟨rfl,rfl⟩:=h4
    simp only [ev_rn,asAgg_rn,h1,h2,Option.map_some,Option.bind_some,eqKs_rn ks a b c h3]; rfl
  case isnil neg isl x =>
    obtain ⟨b,h2,h4⟩:=Option.map_eq_some_iff.1 h
    simp at h4; obtain ⟨rfl,rfl⟩:=h4
    rw [ev_rn,nil_rn hE hn h2]; rfl
  case un op x =>
    obtain ⟨a,h1,h⟩:=Option.bind_eq_some_iff.1 h
    obtain ⟨b,h2,h4⟩:=Option.map_eq_some_iff.1 h
    simp at h4; obtain ⟨rfl,rfl⟩:=h4
    simp only [ev_rn,asS_rn,h1,h2,Option.bind_some,Option.map_some]; rfl
  case cint k x =>
    obtain ⟨b,h2,h4⟩:=Option.map_eq_some_iff.1 h
    simp at h4; obtain ⟨rfl,rfl⟩:=h4
    simp only [ev_rn,asI_rn,h2,Option.map_some]; rfl
  case cid x =>
    obtain ⟨b,h2,h4⟩:=Option.map_eq_some_iff.1 h
    simp at h4; obtain ⟨rfl,rfl⟩:=h4
    simp only [ev_rn,asStr_rn,h2,Option.map_some]; rfl
  case bstr x =>
    obtain ⟨l,h1,h⟩:=Option.bind_eq_some_iff.1 h
    obtain ⟨b,h2,h4⟩:=Option.map_eq_some_iff.1 h
    simp at h4; obtain ⟨rfl,rfl⟩:=h4
    rw [ev_rn,slCells_rn hE hn h1]
    simp only [Option.bind_some,bytesOf_rn _ _ h2,Option.map_some]; rfl
  case strb x =>
    obtain ⟨t,h1,h⟩:=Option.bind_eq_some_iff.1 h
    split at h
    · rename_i hc
      simp at h; obtain ⟨rfl,rfl⟩:=h
      simp only [ev_rn,asStr_rn,h1,Option.bind_some]
      rw [if_pos hc,hE.len L hn]
      have e:rns ρ (ofBytes t)=ofBytes t:=by simp [rns_map,ofBytes,V.rn]
      have:=hE.snoc L ⟨0,.grow,1,ofBytes t⟩ hn
      simp only [Blk.rn,e] at this
      exact congrArg some (Prod.ext rfl this)
    · simp at h
  case mks z k l c =>
    obtain ⟨a,h1,h⟩:=Option.bind_eq_some_iff.1 h
    obtain ⟨b,h2,h⟩:=Option.bind_eq_some_iff.1 h
    split at h
    · rename_i hc
      simp at h; obtain ⟨rfl,rfl⟩:=h
      simp only [ev_rn,asI_rn,h1,h2,Option.bind_some]
      rw [if_pos hc,hE.len L hn]
      have e:rns ρ (repV a.toNat z)=repV a.toNat z:=by rw [repV_eq,rns_s]
      have:=hE.snoc L ⟨0,.grow,z.length,repV a.toNat z⟩ hn
      simp only [Blk.rn,e] at this
      exact congrArg some (Prod.ext rfl this)
    · simp at h
  case slice sz x lo hi =>
    obtain ⟨a,h1,h⟩:=Option.bind_eq_some_iff.1 h
    obtain ⟨b,h2,h⟩:=Option.bind_eq_some_iff.1 h
    obtain ⟨u,h3,h4⟩:=Option.map_eq_some_iff.1 h
    simp at h4; obtain ⟨rfl,rfl⟩:=h4
    rw [ev_rn,slLen_rn hE hn h1]
    simp only [Option.bind_some,bounds_rn,h2,slCut_rn hE hn h3,Option.map_some]
  case sl3 sz x lo hi mx =>
    obtain ⟨a,h1,h⟩:=Option.bind_eq_some_iff.1 h
    obtain ⟨m,h2,h⟩:=Option.bind_eq_some_iff.1 h
    split at h
    · rename_i hc
      obtain ⟨b,h3,h⟩:=Option.bind_eq_some_iff.1 h
      obtain ⟨u,h4,h5⟩:=Option.map_eq_some_iff.1 h
      simp at h5; obtain ⟨rfl,rfl⟩:=h5
      rw [ev_rn,slLen_rn hE hn h1]
      simp only [Option.bind_some,ev_rn,asI_rn,h2]
      rw [if_pos hc]
      simp only [bounds_rn,h3,Option.bind_some,sl3Cut_rn h4,Option.map_some]
    · simp at h
  case sarr k sz x lo hi =>
    obtain ⟨b,h2,h⟩:=Option.bind_eq_some_iff.1 h
    obtain ⟨u,h3,h4⟩:=Option.map_eq_some_iff.1 h
    simp at h4; obtain ⟨rfl,rfl⟩:=h4
    rw [ev_rn,bounds_rn,h2]
    simp only [Option.bind_some,arrCut_rn hE hn h3,Option.map_some]
  case sstr x lo hi =>
    obtain ⟨a,h1,h⟩:=Option.bind_eq_some_iff.1 h
    obtain ⟨u,h3,h4⟩:=Option.map_eq_some_iff.1 h
    simp at h4; obtain ⟨rfl,rfl⟩:=h4
    simp only [ev_rn,asStr_rn,h1,Option.bind_some,bounds_rn,h3,Option.map_some]; rfl
  case fld off x =>
    split at h
    · rename_i hc
      obtain ⟨u,h3,h4⟩:=Option.map_eq_some_iff.1 h
      simp at h4; obtain ⟨rfl,rfl⟩:=h4
      rw [ev_rn,if_pos (isAddr_rn hE hn hc),ptrAdd_rn h3]; rfl
    · simp at h
  case part ag off sz x =>
    obtain ⟨l,h1,h⟩:=Option.bind_eq_some_iff.1 h
    split at h
    · rename_i hc
      obtain ⟨u,h3,h4⟩:=Option.map_eq_some_iff.1 h
      simp at h4; obtain ⟨rfl,rfl⟩:=h4
      simp only [ev_rn,asAgg_rn,h1,Option.map_some,Option.bind_some,rns_len]
      rw [if_pos hc,rns_drop,rns_take,one_rn h3]; rfl
    · simp at h
  case iaa k sz x i =>
    split at h
    · rename_i hc
      obtain ⟨a,h1,h⟩:=Option.bind_eq_some_iff.1 h
      obtain ⟨b,h2,h⟩:=Option.bind_eq_some_iff.1 h
      obtain ⟨u,h3,h4⟩:=Option.map_eq_some_iff.1 h
      simp at h4; obtain ⟨rfl,rfl⟩:=h4
      rw [ev_rn,if_pos (isAddr_rn hE hn hc)]
      simp only [ev_rn,asI_rn,h1,h2,Option.bind_some,ptrAdd_rn (ρ:=ρ) h3,Option.map_some]
    · simp at h
  case ias sz x i =>
    obtain ⟨a,h1,h⟩:=Option.bind_eq_some_iff.1 h
    obtain ⟨m,h2,h⟩:=Option.bind_eq_some_iff.1 h
    obtain ⟨b,h3,h⟩:=Option.bind_eq_some_iff.1 h
    obtain ⟨u,h4,h5⟩:=Option.map_eq_some_iff.1 h
    simp at h5; obtain ⟨rfl,rfl⟩:=h5
    simp only [ev_rn,asI_rn,h1,Option.bind_some,slLen_rn hE hn h2,h3,slAt_rn (ρ:=ρ) h4,Option.map_some]
  case ixa ag k sz x i =>
    obtain ⟨a,h1,h⟩:=Option.bind_eq_some_iff.1 h
    obtain ⟨m,h2,h⟩:=Option.bind_eq_some_iff.1 h
    obtain ⟨l,h3,h⟩:=Option.bind_eq_some_iff.1 h
    split at h
    · rename_i hc
      obtain ⟨u,h4,h5⟩:=Option.map_eq_some_iff.1 h
      simp at h5; obtain ⟨rfl,rfl⟩:=h5
      simp only [ev_rn,asI_rn,h1,Option.bind_some,h2,asAgg_rn,h3,Option.map_some,rns_len]
      rw [if_pos hc,rns_drop,rns_take,one_rn h4]; rfl
    · simp at h
  case ixs x i =>
    obtain ⟨a,h1,h⟩:=Option.bind_eq_some_iff.1 h
    obtain ⟨m,h2,h⟩:=Option.bind_eq_some_iff.1 h
    split at h
    · rename_i hc
      simp at h; obtain ⟨rfl,rfl⟩:=h
      simp only [ev_rn,asI_rn,h1,Option.bind_some,asStr_rn,h2]
      rw [if_pos hc]; simp [V.rn]
    · simp at h
  case ext i x =>
    obtain ⟨l,h1,h⟩:=Option.bind_eq_some_iff.1 h
    obtain ⟨u,h4,h5⟩:=Option.map_eq_some_iff.1 h
    simp at h5; obtain ⟨rfl,rfl⟩:=h5
    simp only [ev_rn,asTup_rn,h1,Option.map_some,Option.bind_some,rns_map,List.getElem?_map,h4]
  case len x =>
    obtain ⟨u,h4,h5⟩:=Option.map_eq_some_iff.1 h
    simp at h5; obtain ⟨rfl,rfl⟩:=h5
    rw [ev_rn,slLen_rn hE hn h4]; rfl
  case lens x =>
    obtain ⟨u,h4,h5⟩:=Option.map_eq_some_iff.1 h
    simp at h5; obtain ⟨rfl,rfl⟩:=h5
    simp only [ev_rn,asStr_rn,h4,Option.map_some]; rfl
  case mnx mx x y =>
    obtain ⟨a,h1,h⟩:=Option.bind_eq_some_iff.1 h
    obtain ⟨b,h2,h⟩:=Option.bind_eq_some_iff.1 h
    obtain ⟨c,h3,h4⟩:=Option.map_eq_some_iff.1 h
    simp at h4; obtain ⟨rfl,rfl⟩:=h4
    simp only [ev_rn,asS_rn,h1,h2,Option.bind_some,h3,Option.map_some]; rfl
  case app e sz k x y =>
    obtain ⟨a,h1,h⟩:=Option.bind_eq_some_iff.1 h
    obtain ⟨l,h2,h⟩:=Option.bind_eq_some_iff.1 h
    simp only [ev_rn,slLen_rn hE hn h1,Option.bind_some,slCells_rn hE hn h2]
    exact appendV_rn hE hn h
  case apps e0 k x y =>
    obtain ⟨a,h1,h⟩:=Option.bind_eq_some_iff.1 h
    simp only [ev_rn,asStr_rn,h1,Option.bind_some]
    have e:rns ρ (ofBytes a)=ofBytes a:=by simp [rns_map,ofBytes,V.rn]
    have:=appendV_rn hE hn h
    rw [e] at this
    exact this
  case cpy x y =>
    obtain ⟨a,h1,h⟩:=Option.bind_eq_some_iff.1 h
    obtain ⟨l,h2,h⟩:=Option.bind_eq_some_iff.1 h
    obtain ⟨M,h3,h4⟩:=Option.map_eq_some_iff.1 h
    simp at h4; obtain ⟨rfl,rfl⟩:=h4
    have h5:=copyV_rn hE hn h3
    simp only [ev_rn,slLen_rn hE hn h1,Option.bind_some,slCells_rn hE hn h2,rns_take,h5,Option.map_some,rns_len,List.length_take]
    rfl
  case mkf m cs =>
    simp at h; obtain ⟨rfl,rfl⟩:=h
    simp only [V.rn,rns_map,List.map_map]
    congr 2
    congr 1
    apply List.map_congr_left
    intro x _
    exact ev_rn x
  case clr z x =>
    obtain ⟨M,h1,h2⟩:=Option.map_eq_some_iff.1 h
    simp at h2; obtain ⟨rfl,rfl⟩:=h2
    rw [ev_rn,clrV_rn hE hn h1]; rfl
  case mki t x =>
    split at h
    · rename_i hc
      simp at h; obtain ⟨rfl,rfl⟩:=h
      rw [ev_rn,sh_one,if_pos hc]; rfl
    · simp at h
end
end Go.Proofs.YtoemlgdlejkliaaK
