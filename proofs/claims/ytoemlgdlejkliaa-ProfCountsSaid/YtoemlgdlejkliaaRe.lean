/- Whole code told in a row; what is cut off; what a function hands out. -/
import Derived.Test.YtoemlgdlejkliaaRd
namespace Go.Proofs.YtoemlgdlejkliaaK
set_option linter.unusedVariables false
set_option linter.unusedSimpArgs false
open Go.RowKit
/-- What is still to come: code; a block's end; a loop's next round. -/
inductive It where
  | c (a:IR)
  | b (id:Nat)
  | l (R:Fr→Hp→Prop)
def kont (P:Program) (L0:Hp) (C:X→Fr→Hp→Prop):List It→X→Fr→Hp→Prop
  | []=>C
  | .c a::S=>X.then (vs L0 (dwv P L0 a (kont P L0 C S))) (kont P L0 C S)
  | .b id::S=>X.inBlock id (kont P L0 C S)
  | .l R::S=>X.then (vs L0 R) (kont P L0 C S)
section
variable {P:Program} {L0:Hp} {C:X→Fr→Hp→Prop} {S:List It} {f:Fr} {L:Hp} {a b:IR} {id:Nat} {R:Fr→Hp→Prop}
theorem k_c (h:dwv P L0 a (kont P L0 C S) f L):kont P L0 C (.c a::S) .normal f L:=vs.self h
theorem k_seq (h:dwv P L0 a (kont P L0 C (.c b::S)) f L):dwv P L0 (.seq a b) (kont P L0 C S) f L:=h
theorem k_block (h:dwv P L0 a (kont P L0 C (.b id::S)) f L):dwv P L0 (.block id a) (kont P L0 C S) f L:=h
theorem k_b (h:kont P L0 C S .normal f L):kont P L0 C (.b id::S) .normal f L:=h
theorem k_l (h:R f L):kont P L0 C (.l R::S) .normal f L:=vs.self h
theorem k_l' (h:vs L0 R f L):kont P L0 C (.l R::S) .normal f L:=h
theorem k_skip (h:kont P L0 C S .normal f L):dwv P L0 .skip (kont P L0 C S) f L:=h
theorem k_exit (h:kont P L0 C S (.exit id) f L):dwv P L0 (.exit id) (kont P L0 C S) f L:=h
theorem k_ret (h:kont P L0 C S .ret f L):dwv P L0 .ret (kont P L0 C S) f L:=h
theorem k_reg {ops:List Op1} (h:mops false L0.length P ops f L (kont P L0 C S .normal)):dwv P L0 (.reg false ops) (kont P L0 C S) f L:=mops_lops _ h
theorem k_regq {ops:List Op1} (h:mops true L0.length P ops f L (fun f' _=>kont P L0 C S .normal f' L)):dwv P L0 (.reg true ops) (kont P L0 C S) f L:=mops_lqops _ h
theorem k_regw {ops:List An} (h:lwops L0.length P ops f [] L [] (kont P L0 C S .normal)):dwv P L0 (.regw ops) (kont P L0 C S) f L:=h
theorem k_loop (n:Nat) (h:iter (fun R=>dwv P L0 a (kont P L0 C (.l R::S))) n f L):dwv P L0 (.loop a) (kont P L0 C S) f L:=⟨n,h⟩
theorem x_c {e:X} (he:e ≠ .normal) (h:kont P L0 C S e f L):kont P L0 C (.c a::S) e f L:=by
  cases e <;> first | exact (he rfl).elim | exact h
theorem x_l {e:X} (he:e ≠ .normal) (h:kont P L0 C S e f L):kont P L0 C (.l R::S) e f L:=by
  cases e <;> first | exact (he rfl).elim | exact h
theorem x_b (h:kont P L0 C S .normal f L):kont P L0 C (.b id::S) (.exit id) f L:=by
  simp only [kont,X.inBlock,if_true]; exact h
theorem x_br (h:kont P L0 C S .ret f L):kont P L0 C (.b id::S) .ret f L:=h
theorem k_cond {c:Opd} {l:List Fc} {t:Bool} (hf:FOk f l) (hc:(val l [] c).bind asB=some t) (ha:t=true→dwv P L0 a (kont P L0 C S) f L) (hb:t=false→dwv P L0 b (kont P L0 C S) f L):dwv P L0 (.cond c a b) (kont P L0 C S) f L:=by
  obtain ⟨v,hv,ht⟩:=Option.bind_eq_some_iff.1 hc
  refine ⟨t,?_,ha,hb⟩
  rw [(val_ok (ch:=[]) hf trivial hv).1]; exact ht
/-- What a function answers, as far as is known. -/
def resF (l:List Fc) (L:Hp):List RV→Option (List V)
  | []=>some []
  | .t n::r=>(val l [] (.t n)).bind fun v=>(resF l L r).map fun vs=>v::vs
  | .c n ag sz::r=>(val l [] (.t n)).bind fun p=>(cellsAt L p sz).bind fun cs=>(one? ag cs).bind fun v=>(resF l L r).map fun vs=>v::vs
theorem resF_ok {l:List Fc} (hf:FOk f l):∀ (ts:List RV) (vs:List V),resF l L ts=some vs→resV f L ts=some vs
  | [],vs,h=>h
  | .t n::r,vs,h=>by
    simp only [resF,resV] at h ⊢
    obtain ⟨v,hv,h⟩:=Option.bind_eq_some_iff.1 h
    obtain ⟨ws,hw,rfl⟩:=Option.map_eq_some_iff.1 h
    have:=(val_ok (ch:=[]) hf trivial hv).1
    simp only [ev] at this
    rw [resF_ok hf r ws hw,this]; rfl
  | .c n ag sz::r,vs,h=>by
    simp only [resF,resV] at h ⊢
    obtain ⟨v,hv,h⟩:=Option.bind_eq_some_iff.1 h
    have:=(val_ok (ch:=[]) hf trivial hv).1
    simp only [ev] at this
    obtain ⟨cs,h1,h⟩:=Option.bind_eq_some_iff.1 h
    obtain ⟨u,h2,h⟩:=Option.bind_eq_some_iff.1 h
    obtain ⟨ws,hw,rfl⟩:=Option.map_eq_some_iff.1 h
    rw [this,h1]
    simp only [Option.bind_some,h2,resF_ok hf r ws hw,Option.map_some]
theorem k_hp {P:Program} {L0:Hp} {C:X→Fr→Hp→Prop} {S:List It} {e:X} {f:Fr} {L L':Hp} (h:L=L') (hK:kont P L0 C S e f L'):kont P L0 C S e f L:=h ▸ hK
theorem k_fin {ts:List RV} {r:V} {L':Hp} {e:X} {f:Fr} {L:Hp} {P:Program} {L0:Hp} (h:FinL ts L0 r L' e f L):kont P L0 (FinL ts L0 r L') [] e f L:=h
theorem k_start {ts:List RV} {r:V} {L':Hp} {f:Fr} {L:Hp} {P:Program} {L0:Hp} {ir:IR} (h:dwv P L0 ir (kont P L0 (FinL ts L0 r L') []) f L):dwv P L0 ir (FinL ts L0 r L') f L:=h
theorem fin_ret {l:List Fc} {ts:List RV} {vs:List V} {r:V} {L':Hp} {e:X} (he:e=.ret∨e=.normal) (hf:FOk f l) (hr:resF l L ts=some vs) (hs:SettL L0 (mkRes vs) L r L'):FinL ts L0 r L' e f L:=by
  rcases he with rfl | rfl <;> simp only [FinL,andR,resF_ok hf ts vs hr] <;> exact hs
end
section
variable {ρ:Nat→Nat} {G:Hp→Hp} {n0:Nat}
mutual
theorem under_rn (hE:Emb ρ G n0) {M:Hp} (hn:n0≤M.length):∀ (v:V),v.under M.length=true→(v.rn ρ).under (G M).length=true
  | .s _,_=>rfl
  | .any,_=>rfl
  | .ptr b _ _,h=>by
    simp only [V.under,V.rn,decide_eq_true_eq] at h ⊢
    exact hE.lt hn h
  | .ref b _ _ _,h=>by
    simp only [V.under,V.rn,decide_eq_true_eq] at h ⊢
    exact hE.lt hn h
  | .sl _ k cs,h=>by
    simp only [V.under,V.rn,Bool.or_eq_true] at h ⊢
    exact h.imp (fun h=>h) (unders_rn hE hn cs)
  | .ip cs,h=>unders_rn hE hn cs h
  | .agg cs,h=>unders_rn hE hn cs h
  | .tup cs,h=>unders_rn hE hn cs h
  | .clo _ cs,h=>unders_rn hE hn cs h
  | .ifc _ x,h=>under_rn hE hn x h
theorem unders_rn (hE:Emb ρ G n0) {M:Hp} (hn:n0≤M.length):∀ (l:List V),unders M.length l=true→unders (G M).length (rns ρ l)=true
  | [],_=>rfl
  | v::r,h=>by
    simp only [unders,rns,Bool.and_eq_true] at h ⊢
    exact ⟨under_rn hE hn v h.1,unders_rn hE hn r h.2⟩
end
theorem Emb.take (hE:Emb ρ G n0) {L:Hp} {n:Nat} (hn:n0≤n) (hl:n≤L.length):(G L).take (G (L.take n)).length=G (L.take n):=by
  have:=hE.app (L.drop n) (L.take n) (by simp; omega)
  rw [List.take_append_drop] at this
  rw [this,List.take_append_of_le_length (by omega),List.take_length]
/-- What lies in the first n blocks leads to these alone. -/
def TightL (L0:Hp) (n:Nat) (L:Hp):Prop:=∀ b B,b < n→L[b]? = some B→L0[b]? = some B∨B.kind=.dead∨unders n B.cs=true
theorem TightL.tight (hE:Emb ρ G n0) {L0 L:Hp} {n:Nat} (h0:n0=L0.length) (hn:n0≤n) (hl:n≤L.length) (h:TightL L0 n L):Tight (G L0) (G (L.take n)).length (G L):=by
  intro b B hb hB
  have hln:(L.take n).length=n:=by simp; omega
  rcases hE.out L b B (by omega) hB with ⟨k,rfl,hk⟩ | h1
  · have hg:=hE.get L k L[k] (by omega) (by simp [hk])
    rw [hg] at hB
    simp at hB; subst hB
    by_cases hkn:k < n
    · rcases h k L[k] hkn (by simp [hk]) with h1 | h1 | h1
      · exact .inl (hE.get L0 k _ (by omega) h1)
      · exact .inr (.inl h1)
      · have:=unders_rn hE (M:=L.take n) (by rw [hln]; exact hn) L[k].cs (by rw [hln]; exact h1)
        exact .inr (.inr this)
    · exfalso
      rw [hE.len _ (by rw [hln]; exact hn),hln] at hb
      have:=hE.le hn (show n≤k by omega)
      omega
  · exact .inl (h1 L0 (by omega))
/-- What lies behind the first n blocks goes. -/
theorem Shl.cut {L0 L:Hp} {f:Fr} (n:Nat) (hn:L0.length≤n) (hl:n≤L.length) (ht:TightL L0 n L):Shl L0 f L (cutF n f) (L.take n):=by
  intro _
  refine ⟨by simp; omega,fun ρ G hE N im0 w0 im w a h0 hs hx => ?_⟩
  have hT:=TightL.tight hE rfl hn hl ht
  have hle:(G L0).length≤(G (L.take n)).length:=by
    rw [hE.len _ (Nat.le_refl _),hE.len _ (by simp; omega)]
    exact hE.le (Nat.le_refl _) (by simp; omega)
  obtain ⟨im',h1,h2⟩:=Shr.cut (H0:=G L0) (f:=rnF ρ f) (H:=G L) (G (L.take n)).length hle hT N im0 w0 im w a h0 hs hx
  rw [hE.take hn hl] at h1 h2
  refine ⟨im',⟨h1.rel,⟨fun t => ?_⟩,h1.size,h1.defers⟩,h2⟩
  have:=h1.fr.at_ t
  have this:VR im' (G (L.take n)) w (if ((f t).rn ρ).under (G (L.take n)).length=true then (f t).rn ρ else .any) (a.tmps.getD t undef):=this
  show VR im' (G (L.take n)) w ((if (f t).under n=true then f t else .any).rn ρ) _
  by_cases hu:(f t).under n=true
  · rw [if_pos hu]
    have hln:(L.take n).length=n:=by simp; omega
    rw [if_pos (under_rn hE (M:=L.take n) (by rw [hln]; exact hn) (f t) (by rw [hln]; exact hu))] at this
    exact this
  · rw [if_neg hu]; trivial
/-- A frame of which this is known, cut. -/
def FUnder (n:Nat):List Fc→Prop
  | []=>True
  | e::r=>(e.ch=[]∧e.v.under n=true)∧FUnder n r
theorem FOk_cut {f:Fr} {n:Nat}:∀ {l:List Fc},FUnder n l→FOk f l→FOk (cutF n f) l
  | [],_,_=>trivial
  | e::r,hu,hf=>by
    refine ⟨?_,FOk_cut hu.2 hf.2⟩
    have h1:=hf.1
    unfold FactOk at h1 ⊢
    rw [hu.1.1] at h1 ⊢
    refine ⟨fun _ => ?_,fun h=>(h trivial).elim⟩
    have:=h1.1 trivial
    simp only [cutF,cutV,this]
    rw [if_pos hu.1.2]
def CUnder (n:Nat) (L0:Hp):Nat→Hp→Prop
  | _,[]=>True
  | b,B::r=>(L0[b]? = some B∨B.kind=.dead∨unders n B.cs=true)∧CUnder n L0 (b+1) r
theorem CUnder.tight {L0:Hp} {n:Nat}:∀ {L:Hp} {k:Nat},CUnder n L0 k L→∀ b B,L[b]? = some B→L0[k+b]? = some B∨B.kind=.dead∨unders n B.cs=true
  | [],_,_,b,B,h=>by simp at h
  | C::r,k,hc,0,B,h=>by simp at h; subst h; exact hc.1
  | C::r,k,hc,b+1,B,h=>by
    have:=CUnder.tight hc.2 b B (by simpa using h)
    rw [show k+(b+1)=k+1+b by omega]; exact this
/-- A loop's next round, behind which what was made in this one goes. -/
theorem vs_cut {L0 L L':Hp} {K:Fr→Hp→Prop} {f:Fr} {l:List Fc} (n:Nat) (hn:Nat.ble L0.length n=true) (hl:Nat.ble n L.length=true) (hL:L.take n=L') (hu:FUnder n l) (hc:CUnder n L0 0 L') (hf:FOk f l) (hK:∀ f',FOk f' l→K f' L'):vs L0 K f L:=by
  subst hL
  refine ⟨_,_,Shl.cut n (Nat.le_of_ble_eq_true hn) (Nat.le_of_ble_eq_true hl) (fun b B hb hB => ?_),hK _ (FOk_cut hu hf)⟩
  have:=CUnder.tight hc b B (by rw [List.getElem?_take,if_pos hb]; exact hB)
  simpa using this
/-- A value, once all but the first n blocks go. -/
def FzL (n:Nat) (L:Hp) (v v':V):Prop:=∀ ρ G n0,Emb ρ G n0→n0≤n→n≤L.length→Fz (G (L.take n)).length (G L) (v.rn ρ) (v'.rn ρ)
def FzsL (n:Nat) (L:Hp) (v v':List V):Prop:=∀ ρ G n0,Emb ρ G n0→n0≤n→n≤L.length→Fzs (G (L.take n)).length (G L) (rns ρ v) (rns ρ v')
theorem SettL.cut {L0 L L':Hp} {r r':V} (n:Nat) (hn:L0.length≤n) (hl:n≤L.length) (hL:L.take n=L') (hc:CUnder n L0 0 L') (hr:FzL n L r r'):SettL L0 r L r' L':=by
  subst hL
  intro _
  refine ⟨by simp; omega,fun ρ G hE => ?_⟩
  have hT:=TightL.tight (L0:=L0) hE rfl hn hl (fun b B hb hB=>by
    have:=CUnder.tight hc b B (by rw [List.getElem?_take,if_pos hb]; exact hB)
    simpa using this)
  have hle:(G L0).length≤(G (L.take n)).length:=by
    rw [hE.len _ (Nat.le_refl _),hE.len _ (by simp; omega)]
    exact hE.le (Nat.le_refl _) (by simp; omega)
  have:=Settle.cut (H0:=G L0) (H:=G L) (r:=r.rn ρ) (r':=r'.rn ρ) _ hle hT (hr ρ G _ hE hn hl)
  rw [hE.take hn hl] at this
  exact this
/-- A function without memory hands out what may be read. -/
theorem SettL.pure {L:Hp} {r r':V} (hr:FzL 0 L r r'):SettL [] r L r' []:=SettL.cut 0 (by simp) (by simp) (by simp) trivial hr
theorem FzL.stat {n:Nat} {L:Hp} {v:V} (h:v.static=true):FzL n L v v:=fun ρ G n0 hE hn hl=>by
  rw [rn_static _ _ h]; exact Fz.below (static_under _ _ h)
theorem FzsL.stat {n:Nat} {L:Hp} {v:List V} (h:statics v=true):FzsL n L v v:=fun ρ G n0 hE hn hl=>by
  rw [rns_stat _ _ h]; exact Fzs.below (statics_unders _ _ h)
theorem FzL.s {n:Nat} {L:Hp} {v:Value}:FzL n L (.s v) (.s v):=.stat rfl
theorem FzsL.nil {n:Nat} {L:Hp}:FzsL n L [] []:=.stat rfl
theorem FzsL.cons {n:Nat} {L:Hp} {v v':V} {r r':List V} (h:FzL n L v v') (k:FzsL n L r r'):FzsL n L (v::r) (v'::r'):=fun ρ G n0 hE hn hl=>Fzs.cons (h ρ G n0 hE hn hl) (k ρ G n0 hE hn hl)
theorem FzL.agg {n:Nat} {L:Hp} {r r':List V} (k:FzsL n L r r'):FzL n L (.agg r) (.agg r'):=fun ρ G n0 hE hn hl=>Fz.agg (k ρ G n0 hE hn hl)
theorem FzL.tup {n:Nat} {L:Hp} {r r':List V} (k:FzsL n L r r'):FzL n L (.tup r) (.tup r'):=fun ρ G n0 hE hn hl=>Fz.tup (k ρ G n0 hE hn hl)
theorem FzL.ref {n:Nat} {L:Hp} {b ver o k:Nat} {B:Blk} {r':List V} (hb:n≤b) (hB:live L b ver=some B) (hlen:o+k*B.sz≤B.cs.length) (h:FzsL n L ((B.cs.drop o).take (k*B.sz)) r'):FzL n L (.ref b ver o k) (.sl false k r'):=fun ρ G n0 hE hn hl=>by
  have hln:(L.take n).length=n:=by simp; omega
  have:=h ρ G n0 hE hn hl
  rw [← rns_take,← rns_drop] at this
  refine Fz.ref (B:=B.rn ρ) ?_ (live_rn hE (by omega) hB) (by simpa [Blk.rn,rns_len] using hlen) this
  rw [hE.len _ (by omega),hln]
  exact hE.le hn hb
/-- A slice may be told as less. -/
theorem FzL.weak {n:Nat} {L:Hp} {v v' v'':V} (h:FzL n L v v') (hw:∀ im (H:Hp) w c,VR im H w v' c→VR im H w v'' c) (hs:v'.static=true) (hs':v''.static=true):FzL n L v v'':=fun ρ G n0 hE hn hl im w c hr hv=>by
  have:=h ρ G n0 hE hn hl im w c hr hv
  rw [rn_static _ _ hs] at this
  rw [rn_static _ _ hs']
  exact hw _ _ _ _ this
end
-- Regions of a drawn order that write.
section
variable {n0:Nat} {P:Program} {K:Fr→Hp→Prop}
def tight (s:Nat) (l:List An):Bool:=l.all fun a=>!a.wr&&Nat.ble s a.lo&&Nat.ble a.hi s
theorem mops_q1 {op:Ik} {f:Fr} {L:Hp} {K:V→Hp→Prop} (h:m1 true n0 P op f L K):lq1 n0 P op f L (fun v=>K v L):=by
  cases op with
  | call m args =>
    simp only [m1,lq1] at h ⊢
    obtain ⟨r,L',h1,h2,h3⟩:=h
    have:=h2 trivial; subst this
    exact ⟨r,h1,h3⟩
  | e op =>
    simp only [m1,lq1,andV] at h ⊢
    refine ⟨h.1 trivial,?_⟩
    cases he:E1 op f L with
    | none=>rw [he] at h; exact h.2.elim
    | some x =>
      rw [he] at h
      have:=isQ_H (h.1 trivial) (v:=x.1) (H':=x.2) he
      have h2:=h.2
      simp only [this] at h2
      exact h2
theorem mops_qg {op:Ik} {f:Fr} {L:Hp} {c:Prop} [Decidable c] {md:Bool} {K:V→Hp→Prop} (h:mg md n0 P op c f L K):lqg n0 P op c f L (fun v=>K v L):=by
  cases op with
  | call m args=>exact h
  | e op=>exact h
theorem lw_tight' {rest:List An} {hs:List Hp} {pend:List (Op1 × Fr × V × Nat)}:∀ (seg:List An) {f:Fr} {L:Hp},tight hs.length seg=true→mops true n0 P (seg.map (·.o)) f L (fun f' L'=>L'=L→lwops n0 P rest f' hs L pend K)→lwops n0 P (seg++rest) f hs L pend K
  | [],f,L,_,h=>h rfl
  | a::r,f,L,ht,h=>by
    simp only [tight,List.all_cons,Bool.and_eq_true,Bool.not_eq_true'] at ht
    obtain ⟨⟨⟨hw,hlo⟩,hhi⟩,htr⟩:=ht
    have hlo:=Nat.le_of_ble_eq_true hlo
    have hhi:=Nat.le_of_ble_eq_true hhi
    simp only [List.cons_append,lwops,hw,Bool.false_eq_true,if_false]
    simp only [List.map_cons,mops] at h
    have e0:hs.length - a.lo=0:=by omega
    cases hg:a.o.g with
    | none =>
      simp only [hg] at h ⊢
      have:=mops_q1 h
      revert this
      cases a.o.op with
      | call m args =>
        rintro ⟨v,h1,h2⟩
        refine ⟨v,h1,by rw [e0]; trivial,?_⟩
        rw [if_pos hhi]
        exact lw_tight' r htr h2
      | e op =>
        simp only [lq1,andV]
        rintro ⟨h1,h2⟩
        refine ⟨h1,?_⟩
        cases he:E1 op f L with
        | none=>rw [he] at h2; exact h2
        | some x =>
          rw [he] at h2
          refine ⟨by rw [e0]; trivial,?_⟩
          rw [if_pos hhi]
          exact lw_tight' r htr h2
    | some tw =>
      obtain ⟨t,w⟩:=tw
      simp only [hg] at h ⊢
      refine ⟨h.1,?_⟩
      have:=mops_qg h.2
      revert this
      cases a.o.op with
      | call m args =>
        rintro ⟨v,h1,h2⟩
        refine ⟨v,h1,by rw [e0]; trivial,?_⟩
        rw [if_pos hhi]
        exact lw_tight' r htr h2
      | e op =>
        simp only [lqg]
        rintro ⟨h1,h3,h2⟩
        refine ⟨h1,h3,by rw [e0]; trivial,?_⟩
        rw [if_pos hhi]
        exact lw_tight' r htr h2
/-- So many that do not write, whose place is fixed. -/
theorem lw_tight (k:Nat) {ops:List An} {hs:List Hp} {pend:List (Op1 × Fr × V × Nat)} {f:Fr} {L:Hp} (ht:tight hs.length (ops.take k)=true) (h:mops true n0 P ((ops.take k).map (·.o)) f L (fun f' L'=>L'=L→lwops n0 P (ops.drop k) f' hs L pend K)):lwops n0 P ops f hs L pend K:=by
  have:=lw_tight' (rest:=ops.drop k) _ ht h
  rw [List.take_append_drop] at this
  exact this
theorem headA_drop {ops:List An} {o:An} (h:ops[0]? = some o):ops=o::ops.drop 1:=by
  cases ops with
  | nil=>simp at h
  | cons x r=>simp at h; subst h; rfl
/-- One that writes. -/
theorem lw_w {ops:List An} {a:An} (h0:ops[0]? = some a) (hw:a.wr=true) (hg:a.o.g.isNone=true) {hs:List Hp} {pend:List (Op1 × Fr × V × Nat)} {f:Fr} {L:Hp} (h:mops false n0 P [a.o] f L (fun f' L'=>lpend n0 P (hs.length+1) L' pend∧lwops n0 P (ops.drop 1) f' (L::hs) L' pend K)):lwops n0 P ops f hs L pend K:=by
  rw [headA_drop h0]
  simp only [mops] at h
  simp only [lwops,hw,if_true]
  cases hgg:a.o.g with
  | some x=>rw [hgg] at hg; simp at hg
  | none =>
    simp only [hgg] at h ⊢
    revert h
    cases a.o.op with
    | call m args=>rintro ⟨r,L',h1,_,h2⟩; exact ⟨r,L',h1,h2⟩
    | e op=>rintro ⟨_,h2⟩; exact h2
theorem lw_end {ops:List An} {hs:List Hp} {pend:List (Op1 × Fr × V × Nat)} {f:Fr} {L:Hp} (h:Nat.beq ops.length 0=true) (hK:K f L):lwops n0 P ops f hs L pend K:=by
  cases ops with
  | nil=>exact hK
  | cons a r=>simp at h
end
end Go.Proofs.YtoemlgdlejkliaaK
