/- Each operation of the machine does what its abstract step says: what makes rows, append. -/
import Derived.Test.YtoemlgdlejkliaaKe
import Derived.Lib.ConvBytes
import Derived.Laws.BytesArg
namespace Go.Proofs.YtoemlgdlejkliaaK
set_option linter.unusedVariables false
set_option linter.unusedSimpArgs false
open Go.RowKit
section
variable {P:Program} {o:Oper} {a:Act} {w:World} {im:Im} {H H':Hp} {f:Fr} {v:V}
theorem flat_get (z:List Value):∀ (n j:Nat) (v:Value),(List.replicate n z).flatten[j]? = some v→j < n*z.length∧z[j % z.length]? = some v
  | 0,j,v,h=>by simp at h
  | n+1,j,v,h=>by
    rw [List.replicate_succ,List.flatten_cons,List.getElem?_append] at h
    split at h
    · rename_i hj
      refine ⟨?_,by rw [Nat.mod_eq_of_lt hj]; exact h⟩
      rw [Nat.add_mul]; omega
    · rename_i hj
      obtain ⟨h1,h2⟩:=flat_get z n _ v h
      have hz:0 < z.length:=by
        rcases Nat.eq_zero_or_pos z.length with h0 | h0
        · rw [h0] at h1; omega
        · exact h0
      refine ⟨by rw [Nat.add_mul]; omega,?_⟩
      rw [← h2,Nat.mod_eq_sub_mod (by omega)]
theorem repV_eq:∀ (n:Nat) (z:List Value),repV n z=((List.replicate n z).flatten).map .s
  | 0,_=>rfl
  | n+1,z=>by
    have ih:=repV_eq n z
    unfold repV at ih ⊢
    rw [List.replicate_succ,List.replicate_succ,List.flatten_cons,List.flatten_cons,List.map_append,ih]
theorem s_mks (hr:Rel im H w) (hf:FR im H w f a) {L C:Operand} {l c:Opd} {t e:TypeId} {z:List Value} {by_ sz:Nat} (hl:cO L=some l) (hc:cO C=some c) (ho:o.op=.makeSlice t L C) (ht:P.underlying t=some (.slice e)) (hz:tz P e=some z) (hsz:tsz P e=some sz) (hby:tby P e=some by_) (hzl:z.length=sz)
    {m n:Int} (hm:asI (ev l f)=some m) (hn:asI (ev c f)=some n) (h0:0≤m) (h1:m≤n) (h2:n*by_≤281474976710656) (h3:n≤281474976710656) :
    Stp P o a w im H (.ref H.length 0 0 m.toNat) (H++[⟨0,.grow,z.length,repV m.toNat z⟩]):=by
  unfold tz at hz
  unfold tsz at hsz
  unfold tby at hby
  obtain ⟨m,rfl⟩:=Int.eq_ofNat_of_zero_le h0
  obtain ⟨n,rfl⟩:=Int.eq_ofNat_of_zero_le (Int.le_trans h0 h1)
  cases hi:P.info? e with
  | none=>simp [hi] at hsz
  | some i =>
    cases hzz:i.zero with
    | none=>simp [hi,hzz] at hz
    | some zv =>
      simp only [hi,hzz,Option.map_some,Option.bind_some,Option.some.injEq] at hz hsz hby
      obtain ⟨kl,hcl⟩:=asI_ok (ev_ok hf hl) hm
      obtain ⟨kc,hcc⟩:=asI_ok (ev_ok hf hc) hn
      have hrun:=run_make (P:=P) w t e i zv ht hi hzz kl kc m n (by omega) h1 (by rw [hby]; rw [Int.mul_comm]; exact h2) (by omega)
      simp only [Int.toNat_natCast] at hrun
      obtain ⟨k1,k2⟩:=hr.new .grow z.length (repV m z) (madeCells zv.cells (n*i.size)) e (0,0) ((List.replicate m z).flatten) nofun (fun j _=>by simp) (fun j v hj=>by
        obtain ⟨q1,q2⟩:=flat_get z m j v hj
        have:j < n*i.size:=Nat.lt_of_lt_of_le q1 (by rw [hzl,hsz]; exact Nat.mul_le_mul_right _ (by omega))
        subst hz
        simp only [madeCells]
        simp only [Array.getElem?_map,Array.getElem?_range,this,if_true,Option.map_some]
        simp only [Array.length_toList,Array.getElem?_toList] at q2
        rw [Array.getElem!_eq_getD,Array.getD_eq_getD_getElem?,q2]; rfl) (by rw [repV_eq]; exact map_s_ok _)
      refine ⟨_,_,.slice (some ⟨w.heap.size,0,none⟩) m n,.inl ?_,k1,k2,rfl,⟨0,.grow,z.length,repV m z⟩,by simp,Nat.le_refl _,fun _ _=>⟨_,_,rfl,by omega,by simp [maxLen]; omega,.inr ⟨w.heap.size,by simp [imNew],rfl,?_⟩⟩⟩
      · simp only [execOp,ho,hcl,hcc,Sem.run_bind,hrun,Result.andThen_ok,Sem.run_pure]
      · rw [own_new]; simp [madeCells]; rw [hzl,hsz]; exact Nat.le_refl _
theorem ofBytes_ok (s:ByteArray):VRs im H w (ofBytes s) (byteCells s):=by
  unfold ofBytes byteCells
  generalize s.data.toList=l
  induction l with
  | nil=>trivial
  | cons x r ih=>exact ⟨rfl,ih⟩
theorem s_strb (hr:Rel im H w) (hf:FR im H w f a) {X:Operand} {x:Opd} {s t e:TypeId} (hx:cO X=some x) (ho:o.op=.convert s t X) (hs:P.underlying s=some .string) (ht:P.underlying t=some (.slice e)) (he:P.underlying e=some (.int .u8)) {n:ByteArray} (hn:asStr (ev x f)=some n) (hlen:n.size≤room) :
    Stp P o a w im H (.ref H.length 0 0 n.size) (H++[⟨0,.grow,1,ofBytes n⟩]):=by
  have h1:=asStr_ok (ev_ok hf hx) hn
  have hrun:=Lib.run_convert_string_bytes (P:=P) w s t e n hs ht he
  have hcap:n.size≤grownCap w n.size 0 e∧grownCap w n.size 0 e≤maxLen:=by
    unfold room at hlen
    have hlt:w.tape w.drawn (Question.appendCap n.size 0 e) % (2 ^ 63 - n.size) < 2 ^ 63 - n.size:=Nat.mod_lt _ (by omega)
    refine ⟨?_,?_⟩ <;> simp only [grownCap,Question.cut,maxLen] <;> omega
  obtain ⟨k1,k2⟩:=hr.newW .grow 1 (ofBytes n) (Lib.bytesCells w e n) e _ (byteCells n) nofun (fun j hj=>by simp only [not_and,Nat.not_lt]; intro; omega) (fun j v hj=>by
      simp only [Lib.bytesCells,byteCells] at hj ⊢
      have hjl:=(List.getElem?_eq_some_iff.1 hj).1
      simp at hjl
      rw [Array.getElem?_append_left (by simpa using hjl)]
      simpa using hj) (ofBytes_ok n)
    (Lib.bytesWorld w e n) (Lib.bytesWorld_size w e n) (fun k hk=>Lib.bytesWorld_at_old w e n k hk) (Lib.bytesWorld_at_new w e n) rfl rfl rfl
  refine ⟨_,_,.slice (some ⟨w.heap.size,0,none⟩) n.size (grownCap w n.size 0 e),.inl ?_,k1,k2,rfl,⟨0,.grow,1,ofBytes n⟩,by simp,Nat.le_refl _,fun _ _=>⟨_,_,rfl,hcap.1,hcap.2,.inr ⟨w.heap.size,by simp [imNew],rfl,?_⟩⟩⟩
  · simp only [execOp,ho,h1,Sem.run_bind,hrun,Result.andThen_ok,Sem.run_pure]
  · unfold rowSize
    rw [Lib.bytesWorld_at_new]
    simp [Lib.bytesCells]
    omega
theorem bytesOf_ok:∀ (l:List V) (s:List UInt8) (vs:List Value),bytesOf l=some s→VRs im H w l vs→∃ xs:List Int,vs=xs.map (Value.int .u8)∧s=xs.map fun n=>UInt8.ofNat n.toNat
  | [],s,[],h,_=>⟨[],rfl,by simp [bytesOf] at h; subst h; rfl⟩
  | x::r,s,c::cs,h,hv=>by
    unfold bytesOf at h
    split at h
    · rename_i h'; simp at h'
    · rename_i n r' h'
      injection h' with e1 e2
      subst e1; subst e2
      obtain ⟨l,hl,rfl⟩:=Option.map_eq_some_iff.1 h
      obtain ⟨xs,rfl,rfl⟩:=bytesOf_ok r l cs hl hv.2
      refine ⟨n::xs,?_,rfl⟩
      rw [List.map_cons,← hv.1.s_inv]
    · simp at h
  | [],_,_::_,_,hv=>hv.elim
  | _::_,_,[],_,hv=>hv.elim
theorem s_bstr (hr:Rel im H w) (hf:FR im H w f a) {X:Operand} {x:Opd} {s t e:TypeId} (hx:cO X=some x) (ho:o.op=.convert s t X) (hs:P.underlying s=some (.slice e)) (he:P.underlying e=some (.int .u8)) (ht:P.underlying t=some .string) {l:List V} {b:List UInt8} (hl:slCells H 1 (ev x f)=some l) (hb:bytesOf l=some b) :
    Stp P o a w im H (.s (.string ⟨b.toArray⟩)) H:=by
  obtain ⟨A,n,cap,vs,hc,hn,hnc,hlen,hvs,hA⟩:=slCells_ok hr (ev_ok hf hx) hl
  obtain ⟨xs,rfl,rfl⟩:=bytesOf_ok l b vs hb hvs
  have hl2:=hvs.length
  simp at hl2 hlen
  have hnl:xs.length=n:=by omega
  refine stp_pure hr (.string ⟨(xs.map fun (q:Int)=>UInt8.ofNat q.toNat).toArray⟩) ?_ rfl
  rcases hA with ⟨rfl,h0⟩ | ⟨ad,rfl,hat⟩
  · simp at h0; subst h0
    simp [execOp,ho,hc,convert,run_underlying hs,run_underlying he,run_underlying ht,Conv.bytesToString]
    rfl
  · by_cases hz:xs=[]
    · subst hz
      simp at hnl
      subst hnl
      simp [execOp,ho,hc,convert,run_underlying hs,run_underlying he,run_underlying ht,Conv.bytesToString,loadCells,loadCellsFrom]
      rfl
    · obtain ⟨q0,r0,hq0⟩:=List.exists_cons_of_ne_nil hz
      have h0:=hat 0 (.int .u8 q0) (by rw [hq0]; rfl)
      have hadd0:ad.add 0=ad:=rfl
      rw [hadd0] at h0
      have hsp:ad.spot=none:=by
        cases hs':ad.spot with
        | none=>rfl
        | some q =>
          unfold World.cell? at h0
          split at h0 <;> simp [hs'] at h0
      obtain ⟨blk,off,spot⟩:=ad
      simp at hsp; subst hsp
      have hcv:=run_convert_bytes_arg (P:=P) w s e hs he blk off n cap xs (by omega) (fun i hi=>by
        have:=hat i (.int .u8 (xs.getD i 0)) (by simp [List.getElem?_eq_getElem (show i < xs.length by omega)])
        rwa [add_plain'] at this) t ht
      simp only [execOp,ho,hc,Sem.run_bind,hcv,Result.andThen_ok,Sem.run_pure]
      rfl
end
end Go.Proofs.YtoemlgdlejkliaaK
