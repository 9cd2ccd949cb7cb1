/- The steps in short forms; code told by the program itself. -/
import Derived.Test.YtfcegejpdlbkdaaGreatRg
namespace Go.Proofs.YtfcegejpdlbkdaaGreatK
set_option linter.unusedVariables false
set_option linter.unusedSimpArgs false
open Go.RowKit
def regs:IR→List (List Op1)→List (List Op1)
  | .seq a b,r=>regs a (regs b r)
  | .cond _ a b,r=>regs a (regs b r)
  | .block _ a,r=>regs a r
  | .loop a,r=>regs a r
  | .reg _ o,r=>o::r
  | _,r=>r
def regws:IR→List (List An)→List (List An)
  | .seq a b,r=>regws a (regws b r)
  | .cond _ a b,r=>regws a (regws b r)
  | .block _ a,r=>regws a r
  | .loop a,r=>regws a r
  | .regw o,r=>o::r
  | _,r=>r
def irOf (P:Program) (m:FuncId) (ws:List FuncId):IR:=match cFn P m ws with
  | some x=>x.1
  | none=>.skip
def rg (P:Program) (m:FuncId) (ws:List FuncId) (k:Nat):List Op1:=(regs (irOf P m ws) []).getD k []
def rgw (P:Program) (m:FuncId) (ws:List FuncId) (k:Nat):List An:=(regws (irOf P m ws) []).getD k []
def hE:List Op1→Option I
  | ⟨_,.e op,none,_⟩::_=>some op
  | _=>none
def hC:List Op1→Option FuncId
  | ⟨_,.call m _,none,_⟩::_=>some m
  | _=>none
def hA:List Op1→List Opd
  | ⟨_,.call _ a,_,_⟩::_=>a
  | _=>[]
def hD:List Op1→Option Nat
  | o::_=>o.dst
  | []=>none
def fcs:Nat→List V→List Fc
  | _,[]=>[]
  | k,v::r=>⟨k,[],v⟩::fcs (k+1) r
theorem fcs_ok {f:Fr}:∀ (k:Nat) (l:List V),(∀ j,j < l.length→f (k+j)=(l[j]?).getD (.s undef))→FOk f (fcs k l)
  | _,[],_=>trivial
  | k,v::r,h=>⟨⟨fun _=>by have:=h 0 (by simp); simpa using this,fun h=>(h trivial).elim⟩,fcs_ok (k+1) r fun j hj=>by
      have:=h (j+1) (by simpa using hj)
      rw [show k+1+j=k+(j+1) by omega,this]; simp⟩
theorem CS {P:Program} {m:FuncId} {ws:List FuncId} {ir:IR} {ts:List RV} {n:Nat} (hc:cFn P m ws=some (ir,ts,n)) {args:List V} {L:Hp} {r:V} {L':Hp} (C:X→Fr→Hp→Prop) (hK:∀ f,FOk f (fcs 0 args)→dwv P L ir (kont P L C []) f L) (hC:FinL ts L r L'=C:=by rfl) (hn:Nat.ble args.length n=true:=by kernel_rfl) (hl:Nat.ble L.length L'.length=true:=by kernel_rfl):ConL P m args L r L':=by
  subst hC
  refine ConL.of hc (Nat.le_of_ble_eq_true hn) (Nat.le_of_ble_eq_true hl) ?_
  refine k_start (hK _ (fcs_ok 0 args fun j hj => ?_))
  rw [Nat.zero_add]; rfl
section
variable {P:Program} {L0:Hp} {C:X→Fr→Hp→Prop} {S:List It} {f:Fr} {L L':Hp} {a b:IR} {id:Nat} {R:Fr→Hp→Prop} {l l':List Fc} {e:X}
theorem Kc (h:dwv P L0 a (kont P L0 C S) f L):kont P L0 C (.c a::S) .normal f L:=k_c h
theorem Kq (h:dwv P L0 a (kont P L0 C (.c b::S)) f L):dwv P L0 (.seq a b) (kont P L0 C S) f L:=k_seq h
theorem Kb (h:dwv P L0 a (kont P L0 C (.b id::S)) f L):dwv P L0 (.block id a) (kont P L0 C S) f L:=k_block h
theorem Kv (h:kont P L0 C S .normal f L):kont P L0 C (.b id::S) .normal f L:=k_b h
theorem Kl (h:R f L):kont P L0 C (.l R::S) .normal f L:=k_l h
theorem Ks (h:kont P L0 C S .normal f L):dwv P L0 .skip (kont P L0 C S) f L:=k_skip h
theorem Kx (h:kont P L0 C S (.exit id) f L):dwv P L0 (.exit id) (kont P L0 C S) f L:=k_exit h
theorem Kt (h:kont P L0 C S .ret f L):dwv P L0 .ret (kont P L0 C S) f L:=k_ret h
theorem Kr {ops:List Op1} (h:mops false L0.length P ops f L (kont P L0 C S .normal)):dwv P L0 (.reg false ops) (kont P L0 C S) f L:=k_reg h
theorem Kd {ops:List Op1} (h:mops true L0.length P ops f L (fun f' _=>kont P L0 C S .normal f' L)):dwv P L0 (.reg true ops) (kont P L0 C S) f L:=k_regq h
theorem Kw {ops:List An} (h:lwops L0.length P ops f [] L [] (kont P L0 C S .normal)):dwv P L0 (.regw ops) (kont P L0 C S) f L:=k_regw h
theorem Xc (h:kont P L0 C S e f L) (he:e ≠ .normal:=by nofun):kont P L0 C (.c a::S) e f L:=x_c he h
theorem Xl (h:kont P L0 C S e f L) (he:e ≠ .normal:=by nofun):kont P L0 C (.l R::S) e f L:=x_l he h
theorem Xb (h:kont P L0 C S .normal f L):kont P L0 C (.b id::S) (.exit id) f L:=x_b h
theorem Xr (h:kont P L0 C S .ret f L):kont P L0 C (.b id::S) .ret f L:=x_br h
theorem Kh (hK:kont P L0 C S e f L') (h:L=L':=by kernel_rfl):kont P L0 C S e f L:=h ▸ hK
theorem Kf {c:Opd} {t:Bool} {α:Type} {x y:α} {z:α} (hf:FOk f l) (h:(if t=true then x else y)=z) (ha:t=true→x=z→dwv P L0 a (kont P L0 C S) f L) (hb:t=false→y=z→dwv P L0 b (kont P L0 C S) f L) (hc:(val l [] c).bind asB=some t:=by kernel_rfl):dwv P L0 (.cond c a b) (kont P L0 C S) f L :=
  k_cond hf hc (fun ht=>ha ht (if_t h ht)) (fun ht=>hb ht (if_f h ht))
theorem Of (ks:List Nat) (hf:FOk f l) (h:sel ks l=l':=by kernel_rfl):FOk f l':=FOk_of ks hf h
theorem Fp {ts:List RV} {r:V} (hf:FOk f l) (hr:(resF l L ts).map mkRes=some r:=by kernel_rfl) (hs:r.static=true:=by rfl):kont P [] (FinL ts [] r []) [] .ret f L:=by
  obtain ⟨vs,h1,h2⟩:=Option.map_eq_some_iff.1 hr
  subst h2
  exact k_fin (fin_ret (.inl rfl) hf h1 (SettL.pure (FzL.stat hs)))
end
theorem Oi {α:Type} {a b:α} (h:some a=some b):a=b:=Option.some.inj h
theorem Bs {α β:Type} {x:Option α} {g:α→Option β} {b:β} (h:x.bind g=some b):∃ a,x=some a∧g a=some b:=Option.bind_eq_some_iff.1 h
section
variable {md:Bool} {n0:Nat} {P:Program} {K:Fr→Hp→Prop} {ops:List Op1} {l:List Fc} {L L':Hp} {f:Fr} {v:V}
theorem En (hf:FOk f l) (hK:∀ f',FOk f' (rk md ops.length ops l L).1→K f' (rk md ops.length ops l L).2) (h:okK md ops.length ops l L=true:=by kernel_rfl):mops md n0 P ops f L K:=mops_en hf h hK
theorem Sg (k:Nat) (hf:FOk f l) (hK:∀ f',FOk f' (rk md k ops l L).1→mops md n0 P (ops.drop k) f' (rk md k ops l L).2 K) (h:okK md k ops l L=true:=by kernel_rfl):mops md n0 P ops f L K:=mops_sg k hf h hK
theorem hE_head {op:I} (h:hE ops=some op):ops[0]? = some ⟨hD ops,.e op,none,(ops[0]?.map (·.aft)).getD []⟩:=by
  unfold hE at h
  split at h
  · cases h; rfl
  · cases h
theorem hC_head {m:FuncId} (h:hC ops=some m):ops[0]? = some ⟨hD ops,.call m (hA ops),none,(ops[0]?.map (·.aft)).getD []⟩:=by
  unfold hC at h
  split at h
  · cases h; rfl
  · cases h
theorem Ad (op:I) (v:V) (hf:FOk f l) (he:E1 op (frF l []) L=some (v,L')) (hK:∀ f',FOk f' (putD (hD ops) [] v l)→mops md n0 P (ops.drop 1) f' L' K) (h0:hE ops=some op:=by kernel_rfl) (hk:(op.opds.all (known l [])&&(!md||isQ op))=true:=by kernel_rfl):mops md n0 P ops f L K:=mops_adv (hE_head h0) hf hk he hK
theorem Ca {m:FuncId} {av:List V} (hf:FOk f l) (hc:CalL n0 P m av L v L') (hm:md=true→L'=L) (hK:∀ f',FOk f' (putD (hD ops) [] v l)→mops md n0 P (ops.drop 1) f' L' K) (h0:hC ops=some m:=by kernel_rfl) (ha:vals l [] (hA ops)=some av:=by kernel_rfl):mops md n0 P ops f L K:=mops_call (hC_head h0) hf ha hc hm hK
theorem Cp {m:FuncId} {av:List V} (hp:Pure P m av v) (hf:FOk f l) (hK:∀ f',FOk f' (putD (hD ops) [] v l)→mops md n0 P (ops.drop 1) f' L K) (h0:hC ops=some m:=by kernel_rfl) (ha:vals l [] (hA ops)=some av:=by kernel_rfl) (hs:statics av=true:=by first | rfl | simp [V.static,statics,cat_stat]) (hv:v.static=true:=by rfl) (hn:Nat.ble n0 L.length=true:=by kernel_rfl):mops md n0 P ops f L K :=
  Ca hf (CalL.pure hp hs hv (Nat.le_of_ble_eq_true hn)) (fun _=>rfl) hK h0 ha
end
end Go.Proofs.YtfcegejpdlbkdaaGreatK
