/- Code over a memory of its own, wherever that lies. -/
import Derived.Test.YtoemlgdlejkliaaRa
namespace Go.Proofs.YtoemlgdlejkliaaK
set_option linter.unusedVariables false
set_option linter.unusedSimpArgs false
open Go.RowKit
section
variable {ρ ρ1:Nat→Nat} {G G1:Hp→Hp} {n0 n1:Nat} {P:Program}
mutual
theorem rn_rn (ρ ρ1:Nat→Nat):∀ (v:V),(v.rn ρ1).rn ρ=v.rn (ρ ∘ ρ1)
  | .s _=>rfl
  | .any=>rfl
  | .ptr .. => rfl
  | .ref .. => rfl
  | .sl _ _ cs=>by simp only [V.rn,rns_rns ρ ρ1 cs]
  | .ip cs=>by simp only [V.rn,rns_rns ρ ρ1 cs]
  | .agg cs=>by simp only [V.rn,rns_rns ρ ρ1 cs]
  | .tup cs=>by simp only [V.rn,rns_rns ρ ρ1 cs]
  | .clo _ cs=>by simp only [V.rn,rns_rns ρ ρ1 cs]
  | .ifc _ x=>by simp only [V.rn,rn_rn ρ ρ1 x]
theorem rns_rns (ρ ρ1:Nat→Nat):∀ (l:List V),rns ρ (rns ρ1 l)=rns (ρ ∘ ρ1) l
  | []=>rfl
  | v::r=>by simp only [rns,rn_rn ρ ρ1 v,rns_rns ρ ρ1 r]
end
mutual
theorem rn_static (ρ:Nat→Nat):∀ (v:V),v.static=true→v.rn ρ=v
  | .s _,_=>rfl
  | .any,_=>rfl
  | .ptr ..,h=>by simp [V.static] at h
  | .ref ..,h=>by simp [V.static] at h
  | .sl _ _ cs,h=>by simp only [V.rn]; rw [rns_stat ρ cs h]
  | .ip cs,h=>by simp only [V.rn]; rw [rns_stat ρ cs h]
  | .agg cs,h=>by simp only [V.rn]; rw [rns_stat ρ cs h]
  | .tup cs,h=>by simp only [V.rn]; rw [rns_stat ρ cs h]
  | .clo _ cs,h=>by simp only [V.rn]; rw [rns_stat ρ cs h]
  | .ifc _ x,h=>by simp only [V.rn]; rw [rn_static ρ x h]
theorem rns_stat (ρ:Nat→Nat):∀ (l:List V),statics l=true→rns ρ l=l
  | [],_=>rfl
  | v::r,h=>by
    simp only [statics,Bool.and_eq_true] at h
    simp only [rns]; rw [rn_static ρ v h.1,rns_stat ρ r h.2]
end
mutual
theorem rn_id:∀ (v:V),v.rn id=v
  | .s _=>rfl
  | .any=>rfl
  | .ptr .. => rfl
  | .ref .. => rfl
  | .sl _ _ cs=>by simp only [V.rn]; rw [rns_id cs]
  | .ip cs=>by simp only [V.rn]; rw [rns_id cs]
  | .agg cs=>by simp only [V.rn]; rw [rns_id cs]
  | .tup cs=>by simp only [V.rn]; rw [rns_id cs]
  | .clo _ cs=>by simp only [V.rn]; rw [rns_id cs]
  | .ifc _ x=>by simp only [V.rn]; rw [rn_id x]
theorem rns_id:∀ (l:List V),rns id l=l
  | []=>rfl
  | v::r=>by simp only [rns]; rw [rn_id v,rns_id r]
end
theorem brn_id (B:Blk):B.rn id=B:=by simp [Blk.rn,rns_id]
theorem brn_brn (B:Blk):(B.rn ρ1).rn ρ=B.rn (ρ ∘ ρ1):=by simp [Blk.rn,rns_rns]
theorem Emb.app (hE:Emb ρ G n0):∀ (M L:Hp),n0≤L.length→G (L++M)=G L++M.map (Blk.rn ρ)
  | [],L,h=>by simp
  | B::M,L,h=>by
    have:=Emb.app hE M (L++[B]) (by simp; omega)
    simp only [List.append_assoc,List.singleton_append] at this
    rw [this,← hE.snoc L B h]; simp
theorem Emb.succ (hE:Emb ρ G n0) {k:Nat} (h:n0≤k):ρ (k+1)=ρ k+1:=by
  have e:=hE.snoc (List.replicate k ⟨0,.dead,0,[]⟩) ⟨0,.dead,0,[]⟩ (by simpa using h)
  have e1:=hE.len (List.replicate k ⟨0,.dead,0,[]⟩) (by simpa using h)
  have e2:=hE.len (List.replicate k ⟨0,.dead,0,[]⟩++[⟨0,.dead,0,[]⟩]) (by simp; omega)
  rw [← e] at e2
  simp only [List.length_append,List.length_replicate,List.length_cons,List.length_nil,Nat.zero_add] at e1 e2
  rw [e1] at e2
  omega
theorem Emb.mono (hE:Emb ρ G n0) {k:Nat} (h:n0≤k):∀ (j:Nat),ρ (k+j)=ρ k+j
  | 0=>rfl
  | j+1=>by rw [← Nat.add_assoc,hE.succ (by omega),hE.mono h j]; omega
theorem Emb.le (hE:Emb ρ G n0) {k j:Nat} (h:n0≤k) (hj:k≤j):ρ k≤ρ j:=by
  obtain ⟨d,rfl⟩:=Nat.exists_eq_add_of_le hj
  rw [hE.mono h]; omega
theorem Emb.lt (hE:Emb ρ G n0) {L:Hp} {k:Nat} (h:n0≤L.length) (hk:k < L.length):ρ k < (G L).length :=
  (List.getElem?_eq_some_iff.1 (hE.get L k L[k] h (by simp [hk]))).1
theorem Emb.comp (hE:Emb ρ G n0) (h1:Emb ρ1 G1 n1) (hn:∀ L:Hp,n1≤L.length→n0≤(G1 L).length):Emb (ρ ∘ ρ1) (G ∘ G1) n1 where
  get L b B hl hb:=by
    have:=hE.get (G1 L) (ρ1 b) _ (hn L hl) (h1.get L b B hl hb)
    simpa [brn_brn] using this
  set L b B hl hb:=by
    have:=hE.set (G1 L) (ρ1 b) (B.rn ρ1) (hn L hl) (h1.lt hl hb)
    simp only [Function.comp,← brn_brn]
    rw [this,h1.set L b B hl hb]
  snoc L B hl:=by
    have:=hE.snoc (G1 L) (B.rn ρ1) (hn L hl)
    simp only [Function.comp,← brn_brn]
    rw [this,h1.snoc L B hl]
  len L hl:=by
    simp only [Function.comp]
    rw [hE.len _ (hn L hl),h1.len L hl]
  out L b B hl hb:=by
    rcases hE.out (G1 L) b B (hn L hl) hb with ⟨k,rfl,hk⟩ | h
    · have hk':(G1 L)[k]? = some (G1 L)[k]:=by simp [hk]
      rcases h1.out L k _ hl hk' with ⟨j,rfl,hj⟩ | h
      · exact .inl ⟨j,rfl,hj⟩
      · refine .inr fun M hM => ?_
        have e1:=hE.get (G1 L) k _ (hn L hl) hk'
        simp only [Function.comp] at hb
        rw [e1] at hb
        have e2:=hE.get (G1 M) k _ (hn M hM) (h M hM)
        exact e2.trans hb
    · exact .inr fun M hM=>h (G1 M) (hn M hM)
/-- Behind any memory. -/
theorem Emb.pre (H:Hp):Emb (fun b=>H.length+b) (fun L=>H++L.map (Blk.rn fun b=>H.length+b)) 0 where
  get L b B _ hb:=by rw [List.getElem?_append_right (by omega)]; simp [hb]
  set L b B _ hb:=by rw [List.set_append_right _ _ (by omega)]; simp [List.map_set]
  snoc L B _:=by simp
  len L _:=by simp
  out L b B _ hb:=by
    rw [List.getElem?_append] at hb
    split at hb
    · rename_i h; exact .inr fun M _=>by rw [List.getElem?_append_left h]; exact hb
    · rename_i h
      have:=(List.getElem?_eq_some_iff.1 hb).1
      simp only [List.length_map] at this
      exact .inl ⟨b - H.length,by omega,by omega⟩
theorem Emb.self:Emb id id 0 where
  get L b B _ hb:=by simpa [brn_id] using hb
  set L b B _ _:=by simp [brn_id]
  snoc L B _:=by simp [brn_id]
  len L _:=rfl
  out L b B _ hb:=.inl ⟨b,rfl,(List.getElem?_eq_some_iff.1 hb).1⟩
/-- Function m of P, handed these values over a memory of its own, wherever that lies, answers r and leaves such a memory. -/
def ConL (P:Program) (m:FuncId) (args:List V) (L:Hp) (r:V) (L':Hp):Prop :=
  L.length≤L'.length∧∀ ρ G,Emb ρ G L.length→Con P m (rns ρ args) (G L) (r.rn ρ) (G L')
/-- A call out of a function whose first n0 blocks were handed to it. -/
def CalL (n0:Nat) (P:Program) (m:FuncId) (args:List V) (L:Hp) (r:V) (L':Hp):Prop :=
  L.length≤L'.length∧∀ ρ G,Emb ρ G n0→Con P m (rns ρ args) (G L) (r.rn ρ) (G L')
theorem CalL.of {m:FuncId} {args1:List V} {L1 L1':Hp} {r1:V} (h:ConL P m args1 L1 r1 L1') (h1:Emb ρ1 G1 L1.length) (hn:n0≤(G1 L1).length):CalL n0 P m (rns ρ1 args1) (G1 L1) (r1.rn ρ1) (G1 L1'):=by
  have hl:∀ L:Hp,L1.length≤L.length→(G1 L1).length≤(G1 L).length:=fun L hL=>by
    rw [h1.len _ (Nat.le_refl _),h1.len _ hL]; exact h1.le (Nat.le_refl _) hL
  refine ⟨hl _ h.1,fun ρ G hE => ?_⟩
  have:=h.2 _ _ (hE.comp h1 fun L hL=>Nat.le_trans hn (hl L hL))
  rw [rns_rns,rn_rn]
  exact this
/-- It has no memory to it: what came in may be read, what goes out may be read. -/
def Pure (P:Program) (m:FuncId) (args:List V) (v:V):Prop:=ConL P m args [] v []
theorem CalL.pure {m:FuncId} {args:List V} {v:V} {L:Hp} (h:Pure P m args v) (ha:statics args=true) (hv:v.static=true) (hn:n0≤L.length):CalL n0 P m args L v L:=by
  have:=CalL.of (n0:=n0) h (Emb.pre L) (by simpa using hn)
  simpa [rns_stat _ _ ha,rn_static _ _ hv] using this
def l1 (n0:Nat) (P:Program) (op:Ik) (f:Fr) (L:Hp) (K:V→Hp→Prop):Prop:=match op with
  | .call m args=>∃ r L',CalL n0 P m (args.map (ev · f)) L r L'∧K r L'
  | .e op=>andV (E1 op f L) K
def lg (n0:Nat) (P:Program) (op:Ik) (c:Prop) [Decidable c] (f:Fr) (L:Hp) (K:V→Hp→Prop):Prop:=match op with
  | .call m args=>∃ r,(c→CalL n0 P m (args.map (ev · f)) L r L)∧K (if c then r else .s undef) L
  | .e op=>if isQ op=true then andG c (E1 op f L) L K else (c→andV (E1 op f L) K)∧(¬ c→K (.s undef) L)
def lops (n0:Nat) (P:Program):List Op1→Fr→Hp→(Fr→Hp→Prop)→Prop
  | [],f,L,K=>K f L
  | o::r,f,L,K=>match o.g with
    | none=>l1 n0 P o.op f L fun v L'=>lops n0 P r (upd o.dst v f) L' K
    | some (t,want)=>sg (f t)=true∧lg n0 P o.op (gd (f t) want=true) f L fun v L'=>lops n0 P r (upd o.dst v f) L' K
def lq1 (n0:Nat) (P:Program) (op:Ik) (f:Fr) (L:Hp) (K:V→Prop):Prop:=match op with
  | .call m args=>∃ r,CalL n0 P m (args.map (ev · f)) L r L∧K r
  | .e op=>isQ op=true∧andV (E1 op f L) fun v _=>K v
def lqg (n0:Nat) (P:Program) (op:Ik) (c:Prop) [Decidable c] (f:Fr) (L:Hp) (K:V→Prop):Prop:=match op with
  | .call m args=>∃ r,(c→CalL n0 P m (args.map (ev · f)) L r L)∧K (if c then r else .s undef)
  | .e op=>isQ op=true∧andG c (E1 op f L) L fun v _=>K v
def lqops (n0:Nat) (P:Program):List Op1→Fr→Hp→(Fr→Prop)→Prop
  | [],f,_,K=>K f
  | o::r,f,L,K=>match o.g with
    | none=>lq1 n0 P o.op f L fun v=>lqops n0 P r (upd o.dst v f) L K
    | some (t,want)=>sg (f t)=true∧lqg n0 P o.op (gd (f t) want=true) f L fun v=>lqops n0 P r (upd o.dst v f) L K
def lqv (n0:Nat) (P:Program) (o:Op1) (f:Fr) (L:Hp) (v:V):Prop:=match o.g with
  | none=>lq1 n0 P o.op f L (· = v)
  | some (t,want)=>sg (f t)=true∧lqg n0 P o.op (gd (f t) want=true) f L (· = v)
def lpend (n0:Nat) (P:Program) (s:Nat) (L:Hp):List (Op1 × Fr × V × Nat)→Prop
  | []=>True
  | (o,f,v,hi)::r=>(s≤hi→lqv n0 P o f L v)∧lpend n0 P s L r
def lold (n0:Nat) (P:Program) (o:Op1) (f:Fr) (v:V):List Hp→Prop
  | []=>True
  | L::r=>lqv n0 P o f L v∧lold n0 P o f v r
def lwops (n0:Nat) (P:Program):List An→Fr→List Hp→Hp→List (Op1 × Fr × V × Nat)→(Fr→Hp→Prop)→Prop
  | [],f,_,L,_,K=>K f L
  | a::r,f,hs,L,pend,K =>
    if a.wr=true then (match a.o.g with
      | none=>l1 n0 P a.o.op f L fun v L'=>lpend n0 P (hs.length+1) L' pend∧lwops n0 P r (upd a.o.dst v f) (L::hs) L' pend K
      | some (t,want)=>sg (f t)=true∧lg n0 P a.o.op (gd (f t) want=true) f L fun v L'=>lpend n0 P (hs.length+1) L' pend∧lwops n0 P r (upd a.o.dst v f) (L::hs) L' pend K)
    else (match a.o.g with
      | none=>lq1 n0 P a.o.op f L fun v=>lold n0 P a.o f v (hs.take (hs.length - a.lo))∧lwops n0 P r (upd a.o.dst v f) hs L (if a.hi≤hs.length then pend else (a.o,f,v,a.hi)::pend) K
      | some (t,want)=>sg (f t)=true∧lqg n0 P a.o.op (gd (f t) want=true) f L fun v=>lold n0 P a.o f v (hs.take (hs.length - a.lo))∧lwops n0 P r (upd a.o.dst v f) hs L (if a.hi≤hs.length then pend else (a.o,f,v,a.hi)::pend) K)
theorem upd_rn {d:Option Nat} {v:V} {f:Fr}:upd d (v.rn ρ) (rnF ρ f)=rnF ρ (upd d v f):=by
  cases d with
  | none=>rfl
  | some d=>funext t; simp only [upd,rnF]; split <;> rfl
theorem sg_rn (v:V):sg (v.rn ρ)=sg v:=by cases v <;> rfl
theorem gd_rn (v:V) (want:Bool):gd (v.rn ρ) want=gd v want:=by cases v <;> rfl
theorem evs_rn (f:Fr) (args:List Opd):args.map (ev · (rnF ρ f))=rns ρ (args.map (ev · f)):=by
  rw [rns_map,List.map_map]; exact List.map_congr_left fun x _=>ev_rn x
theorem appendV_le {e sz by_ k:Nat} {x v:V} {ys:List V} {L L':Hp} (h:appendV L e sz by_ x ys k=some (v,L')):L.length≤L'.length:=by
  unfold appendV at h
  split at h
  · split at h
    · split at h <;> simp at h; rw [← h.2]; simp
    · simp at h
  · split at h
    · simp at h; rw [← h.2]; exact Nat.le_refl _
    · split at h <;> simp at h; rw [← h.2]; simp
  · split at h
    · simp at h; rw [← h.2]; exact Nat.le_refl _
    · split at h <;> simp at h; rw [← h.2]; simp
  · simp at h
theorem storeAt_le {L L':Hp} {p:V} {cs:List V} (h2:storeAt L p cs=some L'):L.length≤L'.length:=by
  unfold storeAt at h2
  split at h2
  · split at h2
    · split at h2 <;> simp at h2; rw [← h2]; simp
    · simp at h2
  · simp at h2
theorem E1_le {op:I} {f:Fr} {L L':Hp} {v:V} (h:E1 op f L=some (v,L')):L.length≤L'.length:=by
  cases hq:isQ op with
  | true=>rw [isQ_H hq h]; exact Nat.le_refl _
  | false =>
    cases op <;> simp [isQ] at hq <;> simp only [E1] at h
    case nilg=>simp at h; rw [← h.2]; simp
    case box=>split at h <;> simp at h; rw [← h.2]; simp
    case zero=>simp at h; rw [← h.2]; simp
    case zerob=>simp at h; rw [← h.2]; simp
    case bslo =>
      obtain ⟨u,h2,h3⟩:=Option.bind_eq_some_iff.1 h
      split at h3 <;> simp at h3; rw [← h3.2]; simp
    case store =>
      split at h
      · obtain ⟨u,h2,h3⟩:=Option.map_eq_some_iff.1 h
        simp at h3; rw [← h3.2]
        unfold storeAt at h2
        split at h2
        · split at h2
          · split at h2 <;> simp at h2; rw [← h2]; simp
          · simp at h2
        · simp at h2
      · simp at h
    case clr =>
      obtain ⟨M,h2,h3⟩:=Option.map_eq_some_iff.1 h
      simp at h3; rw [← h3.2]
      unfold clrV at h2
      split at h2
      · obtain ⟨B,_,h2⟩:=Option.bind_eq_some_iff.1 h2
        split at h2 <;> simp at h2; rw [← h2]; simp
      · simp at h2
    case cpy =>
      obtain ⟨n,_,h⟩:=Option.bind_eq_some_iff.1 h
      obtain ⟨ys,_,h⟩:=Option.bind_eq_some_iff.1 h
      obtain ⟨M,h2,h3⟩:=Option.map_eq_some_iff.1 h
      simp at h3; rw [← h3.2]
      unfold copyV at h2
      split at h2
      · simp at h2; rw [h2]; exact Nat.le_refl _
      · split at h2
        · exact storeAt_le h2
        · simp at h2
    case strb =>
      obtain ⟨u,h2,h3⟩:=Option.bind_eq_some_iff.1 h
      split at h3 <;> simp at h3; rw [← h3.2]; simp
    case mks =>
      obtain ⟨u,h2,h3⟩:=Option.bind_eq_some_iff.1 h
      obtain ⟨u',h4,h5⟩:=Option.bind_eq_some_iff.1 h3
      split at h5 <;> simp at h5; rw [← h5.2]; simp
    case app =>
      obtain ⟨u,h2,h3⟩:=Option.bind_eq_some_iff.1 h
      obtain ⟨u',h4,h5⟩:=Option.bind_eq_some_iff.1 h3
      exact appendV_le h5
    case apps =>
      obtain ⟨u,h2,h3⟩:=Option.bind_eq_some_iff.1 h
      exact appendV_le h3
def GK (ρ:Nat→Nat) (G:Hp→Hp) (n0:Nat) (K:Fr→Hp→Prop) (f':Fr) (H':Hp):Prop:=∃ f1 L1,f'=rnF ρ f1∧H'=G L1∧n0≤L1.length∧K f1 L1
theorem l1_d1 (hE:Emb ρ G n0) {op:Ik} {f:Fr} {L:Hp} (hn:n0≤L.length) {K:V→Hp→Prop} {K':V→Hp→Prop} (h:l1 n0 P op f L K) (hK:∀ v L',L.length≤L'.length→K v L'→K' (v.rn ρ) (G L')):d1 P op (rnF ρ f) (G L) K':=by
  cases op with
  | call m args =>
    obtain ⟨r,L',h1,h2⟩:=h
    refine ⟨r.rn ρ,G L',?_,hK _ _ h1.1 h2⟩
    rw [evs_rn]; exact h1.2 _ _ hE
  | e op =>
    simp only [l1,andV,d1] at h ⊢
    cases he:E1 op f L with
    | none=>rw [he] at h; exact h.elim
    | some x=>rw [he] at h; rw [E1_rn hE hn he]; exact hK _ _ (E1_le he) h
theorem andG_rn (hE:Emb ρ G n0) {op:I} {f:Fr} {L:Hp} (hn:n0≤L.length) {c:Prop} [Decidable c] {K K':V→Hp→Prop} (hq:isQ op=true) (h:andG c (E1 op f L) L K) (hK:∀ v,K v L→K' (v.rn ρ) (G L)):andG c (E1 op (rnF ρ f) (G L)) (G L) K':=by
  obtain ⟨h1,h2⟩:=h
  by_cases hc:c
  · obtain ⟨x,hx⟩:=Option.isSome_iff_exists.1 (h1 hc)
    have hL:=isQ_H hq hx
    refine ⟨fun _=>by rw [E1_rn hE hn hx]; rfl,?_⟩
    rw [E1_rn hE hn hx]
    rw [hx] at h2
    simp only [if_pos hc,Option.map_some,Option.getD_some] at h2 ⊢
    exact hK _ h2
  · refine ⟨fun h=>absurd h hc,?_⟩
    simp only [if_neg hc] at h2 ⊢
    exact hK _ h2
theorem lg_dg (hE:Emb ρ G n0) {op:Ik} {f:Fr} {L:Hp} (hn:n0≤L.length) {c:Prop} [Decidable c] {K:V→Hp→Prop} {K':V→Hp→Prop} (h:lg n0 P op c f L K) (hK:∀ v L',L.length≤L'.length→K v L'→K' (v.rn ρ) (G L')):dg P op c (rnF ρ f) (G L) K':=by
  cases op with
  | call m args =>
    obtain ⟨r,h1,h2⟩:=h
    refine ⟨r.rn ρ,fun hc=>by rw [evs_rn]; exact (h1 hc).2 _ _ hE,?_⟩
    have:=hK _ _ (Nat.le_refl _) h2
    by_cases hc:c
    · simpa [hc] using this
    · simpa [hc,V.rn] using this
  | e op =>
    simp only [lg,dg] at h ⊢
    split at h
    · rename_i hq
      rw [if_pos hq]
      exact andG_rn hE hn hq h fun v hv=>hK v L (Nat.le_refl _) hv
    · rename_i hq
      rw [if_neg hq]
      exact ⟨fun hc=>l1_d1 (P:=P) (op:=.e op) hE hn (h.1 hc) hK,fun hc=>hK (.s undef) L (Nat.le_refl _) (h.2 hc)⟩
theorem lops_dops (hE:Emb ρ G n0) {K:Fr→Hp→Prop}:∀ (l:List Op1) {f:Fr} {L:Hp},n0≤L.length→lops n0 P l f L K→dops P l (rnF ρ f) (G L) (GK ρ G n0 K)
  | [],f,L,hn,h=>⟨f,L,rfl,rfl,hn,h⟩
  | o::r,f,L,hn,h=>by
    simp only [lops,dops] at h ⊢
    cases hg:o.g with
    | none =>
      simp only [hg] at h ⊢
      exact l1_d1 hE hn h fun v L' hl hk=>by rw [upd_rn]; exact lops_dops hE r (Nat.le_trans hn hl) hk
    | some tw =>
      obtain ⟨t,want⟩:=tw
      simp only [hg] at h ⊢
      refine ⟨by simp only [rnF,sg_rn]; exact h.1,?_⟩
      simp only [rnF,gd_rn]
      exact lg_dg hE hn h.2 fun v L' hl hk=>by rw [upd_rn]; exact lops_dops hE r (Nat.le_trans hn hl) hk
theorem lq1_q1 (hE:Emb ρ G n0) {op:Ik} {f:Fr} {L:Hp} (hn:n0≤L.length) {K K':V→Prop} (h:lq1 n0 P op f L K) (hK:∀ v,K v→K' (v.rn ρ)):q1 P op (rnF ρ f) (G L) K':=by
  cases op with
  | call m args =>
    obtain ⟨r,h1,h2⟩:=h
    refine ⟨r.rn ρ,?_,hK _ h2⟩
    rw [evs_rn]; exact h1.2 _ _ hE
  | e op =>
    simp only [lq1,andV,q1] at h ⊢
    refine ⟨h.1,?_⟩
    cases he:E1 op f L with
    | none=>rw [he] at h; exact h.2.elim
    | some x=>rw [he] at h; rw [E1_rn hE hn he]; exact hK _ h.2
theorem lqg_qg (hE:Emb ρ G n0) {op:Ik} {f:Fr} {L:Hp} (hn:n0≤L.length) {c:Prop} [Decidable c] {K K':V→Prop} (h:lqg n0 P op c f L K) (hK:∀ v,K v→K' (v.rn ρ)):qg P op c (rnF ρ f) (G L) K':=by
  cases op with
  | call m args =>
    obtain ⟨r,h1,h2⟩:=h
    refine ⟨r.rn ρ,fun hc=>by rw [evs_rn]; exact (h1 hc).2 _ _ hE,?_⟩
    have:=hK _ h2
    by_cases hc:c
    · simpa [hc] using this
    · simpa [hc,V.rn] using this
  | e op =>
    simp only [lqg,qg] at h ⊢
    exact ⟨h.1,andG_rn hE hn h.1 h.2 fun v hv=>hK v hv⟩
theorem lqops_qops (hE:Emb ρ G n0) {K:Fr→Prop} {L:Hp} (hn:n0≤L.length):∀ (l:List Op1) {f:Fr},lqops n0 P l f L K→qops P l (rnF ρ f) (G L) (fun f'=>∃ f1,f'=rnF ρ f1∧K f1)
  | [],f,h=>⟨f,rfl,h⟩
  | o::r,f,h=>by
    simp only [lqops,qops] at h ⊢
    cases hg:o.g with
    | none =>
      simp only [hg] at h ⊢
      exact lq1_q1 hE hn h fun v hk=>by rw [upd_rn]; exact lqops_qops hE hn r hk
    | some tw =>
      obtain ⟨t,want⟩:=tw
      simp only [hg] at h ⊢
      refine ⟨by simp only [rnF,sg_rn]; exact h.1,?_⟩
      simp only [rnF,gd_rn]
      exact lqg_qg hE hn h.2 fun v hk=>by rw [upd_rn]; exact lqops_qops hE hn r hk
theorem lqv_qv (hE:Emb ρ G n0) {o:Op1} {f:Fr} {L:Hp} (hn:n0≤L.length) {v:V} (h:lqv n0 P o f L v):qv P o (rnF ρ f) (G L) (v.rn ρ):=by
  unfold lqv at h; unfold qv
  cases hg:o.g with
  | none =>
    simp only [hg] at h ⊢
    exact lq1_q1 hE hn h fun v hk=>by rw [hk]
  | some tw =>
    obtain ⟨t,want⟩:=tw
    simp only [hg] at h ⊢
    refine ⟨by simp only [rnF,sg_rn]; exact h.1,?_⟩
    simp only [rnF,gd_rn]
    exact lqg_qg hE hn h.2 fun v hk=>by rw [hk]
def pendG (ρ:Nat→Nat) (l:List (Op1 × Fr × V × Nat)):List (Op1 × Fr × V × Nat):=l.map fun x=>(x.1,rnF ρ x.2.1,x.2.2.1.rn ρ,x.2.2.2)
theorem lpend_pend (hE:Emb ρ G n0) {s:Nat} {L:Hp} (hn:n0≤L.length):∀ (l:List (Op1 × Fr × V × Nat)),lpend n0 P s L l→pendAll P s (G L) (pendG ρ l)
  | [],_=>trivial
  | (o,f,v,hi)::r,h=>⟨fun hs=>lqv_qv hE hn (h.1 hs),lpend_pend hE hn r h.2⟩
theorem lold_old (hE:Emb ρ G n0) {o:Op1} {f:Fr} {v:V}:∀ (l:List Hp),(∀ L∈l,n0≤L.length)→lold n0 P o f v l→oldAll P o (rnF ρ f) (v.rn ρ) (l.map G)
  | [],_,_=>trivial
  | L::r,hl,h=>⟨lqv_qv hE (hl L (by simp)) h.1,lold_old hE r (fun L hL=>hl L (by simp [hL])) h.2⟩
theorem lwops_wops (hE:Emb ρ G n0) {K:Fr→Hp→Prop}:∀ (l:List An) {f:Fr} {hs:List Hp} {L:Hp} {pend:List (Op1 × Fr × V × Nat)},n0≤L.length→(∀ M∈hs,n0≤M.length)→lwops n0 P l f hs L pend K→wops P l (rnF ρ f) (hs.map G) (G L) (pendG ρ pend) (GK ρ G n0 K)
  | [],f,hs,L,pend,hn,_,h=>⟨f,L,rfl,rfl,hn,h⟩
  | a::r,f,hs,L,pend,hn,hh,h=>by
    simp only [lwops,wops] at h ⊢
    have nxt:∀ v L',L.length≤L'.length→(lpend n0 P (hs.length+1) L' pend∧lwops n0 P r (upd a.o.dst v f) (L::hs) L' pend K)→pendAll P ((hs.map G).length+1) (G L') (pendG ρ pend)∧wops P r (upd a.o.dst (v.rn ρ) (rnF ρ f)) (G L::hs.map G) (G L') (pendG ρ pend) (GK ρ G n0 K):=fun v L' hl hk=>by
      have hn':=Nat.le_trans hn hl
      refine ⟨by rw [List.length_map]; exact lpend_pend hE hn' _ hk.1,?_⟩
      rw [upd_rn]
      exact lwops_wops hE r (hs:=L::hs) hn' (fun M hM=>by rcases List.mem_cons.1 hM with rfl | hM; exact hn; exact hh M hM) hk.2
    have nxq:∀ v,(lold n0 P a.o f v (hs.take (hs.length - a.lo))∧lwops n0 P r (upd a.o.dst v f) hs L (if a.hi≤hs.length then pend else (a.o,f,v,a.hi)::pend) K)→oldAll P a.o (rnF ρ f) (v.rn ρ) ((hs.map G).take ((hs.map G).length - a.lo))∧wops P r (upd a.o.dst (v.rn ρ) (rnF ρ f)) (hs.map G) (G L) (if a.hi≤(hs.map G).length then pendG ρ pend else (a.o,rnF ρ f,v.rn ρ,a.hi)::pendG ρ pend) (GK ρ G n0 K):=fun v hk=>by
      refine ⟨?_,?_⟩
      · rw [List.length_map,← List.map_take]
        exact lold_old hE _ (fun M hM=>hh M (List.mem_of_mem_take hM)) hk.1
      · rw [upd_rn,List.length_map]
        have:=lwops_wops hE r hn hh hk.2
        split at this
        · rename_i hc; rw [if_pos hc]; exact this
        · rename_i hc; rw [if_neg hc]; exact this
    split at h
    · rename_i hw
      rw [if_pos hw]
      cases hg:a.o.g with
      | none =>
        simp only [hg] at h ⊢
        exact l1_d1 hE hn h nxt
      | some tw =>
        obtain ⟨t,want⟩:=tw
        simp only [hg] at h ⊢
        refine ⟨by simp only [rnF,sg_rn]; exact h.1,?_⟩
        simp only [rnF,gd_rn]
        exact lg_dg hE hn h.2 nxt
    · rename_i hw
      rw [if_neg hw]
      cases hg:a.o.g with
      | none =>
        simp only [hg] at h ⊢
        exact lq1_q1 hE hn h nxq
      | some tw =>
        obtain ⟨t,want⟩:=tw
        simp only [hg] at h ⊢
        refine ⟨by simp only [rnF,sg_rn]; exact h.1,?_⟩
        simp only [rnF,gd_rn]
        exact lqg_qg hE hn h.2 nxq
end
end Go.Proofs.YtoemlgdlejkliaaK
