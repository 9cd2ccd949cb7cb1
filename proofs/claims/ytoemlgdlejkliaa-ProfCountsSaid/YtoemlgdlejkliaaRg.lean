/- A call that is handed blocks of one's own. -/
import Derived.Test.YtoemlgdlejkliaaRf
namespace Go.Proofs.YtoemlgdlejkliaaK
set_option linter.unusedVariables false
set_option linter.unusedSimpArgs false
open Go.RowKit
/-- The callee's blocks are these of the caller's; what it makes comes behind all. -/
def selR (bs:List Nat) (n k:Nat):Nat:=match bs[k]? with
  | some b=>b
  | none=>n+(k - bs.length)
def setAll:Hp→List Nat→Hp→Hp
  | L,b::bs,B::M=>setAll (L.set b B) bs M
  | L,_,_=>L
def selG (L:Hp) (bs:List Nat) (M:Hp):Hp:=setAll L bs ((M.take bs.length).map (Blk.rn (selR bs L.length)))++(M.drop bs.length).map (Blk.rn (selR bs L.length))
theorem setAll_len:∀ (bs:List Nat) (L M:Hp),(setAll L bs M).length=L.length
  | [],L,M=>by cases M <;> rfl
  | b::bs,L,[]=>rfl
  | b::bs,L,B::M=>by simp only [setAll]; rw [setAll_len bs]; simp
theorem setAll_out {b:Nat}:∀ (bs:List Nat) (L M:Hp),b ∉ bs→(setAll L bs M)[b]? = L[b]?
  | [],L,M,_=>by cases M <;> rfl
  | c::bs,L,[],_=>rfl
  | c::bs,L,B::M,h=>by
    simp only [List.mem_cons,not_or] at h
    simp only [setAll]
    rw [setAll_out bs _ M h.2,List.getElem?_set_ne (fun e=>h.1 e.symm)]
theorem setAll_in:∀ (bs:List Nat) (L M:Hp) (k b:Nat) (B:Blk),bs.Nodup→(∀ c∈bs,c < L.length)→bs[k]? = some b→M[k]? = some B→(setAll L bs M)[b]? = some B
  | [],L,M,k,b,B,_,_,h,_=>by simp at h
  | c::bs,L,[],k,b,B,_,_,_,h=>by simp at h
  | c::bs,L,C::M,0,b,B,hn,hl,hb,hB=>by
    simp at hb hB; subst hb; subst hB
    simp only [setAll]
    rw [setAll_out bs _ M (List.nodup_cons.1 hn).1]
    simp [hl c (by simp)]
  | c::bs,L,C::M,k+1,b,B,hn,hl,hb,hB=>by
    simp only [setAll]
    exact setAll_in bs _ M k b B (List.nodup_cons.1 hn).2 (fun d hd=>by simp; exact hl d (by simp [hd])) (by simpa using hb) (by simpa using hB)
theorem setAll_set:∀ (bs:List Nat) (L M:Hp) (k b:Nat) (B:Blk),bs.Nodup→(∀ c∈bs,c < L.length)→bs[k]? = some b→k < M.length→(setAll L bs M).set b B=setAll L bs (M.set k B)
  | [],L,M,k,b,B,_,_,h,_=>by simp at h
  | c::bs,L,[],k,b,B,_,_,_,h=>by simp at h
  | c::bs,L,C::M,0,b,B,hn,hl,hb,hk=>by
    simp at hb; subst hb
    simp only [setAll,List.set_cons_zero]
    have hc:=(List.nodup_cons.1 hn).1
    apply List.ext_getElem?
    intro j
    by_cases hj:j=c
    · subst hj
      rw [List.getElem?_set_self (by rw [setAll_len]; simp; exact hl j (by simp)),setAll_out bs _ M hc,List.getElem?_set_self (hl j (by simp))]
    · rw [List.getElem?_set_ne (fun e=>hj e.symm)]
      have:∀ (X Y:Hp),X.length=Y.length→X[j]? = Y[j]? → (setAll X bs M)[j]? = (setAll Y bs M)[j]? := by
        clear hn hl hk hc
        induction bs generalizing M with
        | nil=>intro X Y _ h; cases M <;> exact h
        | cons d ds ih =>
          intro X Y hl h
          cases M with
          | nil=>exact h
          | cons D M =>
            simp only [setAll]
            refine ih M _ _ (by simpa using hl) ?_
            rw [List.getElem?_set,List.getElem?_set,hl,h]
      exact this _ _ (by simp) (by rw [List.getElem?_set_ne (fun e=>hj e.symm),List.getElem?_set_ne (fun e=>hj e.symm)])
  | c::bs,L,C::M,k+1,b,B,hn,hl,hb,hk=>by
    simp only [setAll,List.set_cons_succ]
    exact setAll_set bs _ M k b B (List.nodup_cons.1 hn).2 (fun d hd=>by simp; exact hl d (by simp [hd])) (by simpa using hb) (by simpa using hk)
theorem Emb.sel {L:Hp} {bs:List Nat} (hn:bs.Nodup) (hl:∀ b∈bs,b < L.length):Emb (selR bs L.length) (selG L bs) bs.length where
  get M k B hM hB:=by
    unfold selG
    by_cases hk:k < bs.length
    · have e:selR bs L.length k=bs[k]:=by simp [selR,List.getElem?_eq_getElem hk]
      rw [e,List.getElem?_append_left (by rw [setAll_len]; exact hl _ (List.getElem_mem hk))]
      exact setAll_in bs L _ k _ _ hn hl (by simp [hk]) (by simp [List.getElem?_take,hk,hB])
    · have e0:selR bs L.length k=L.length+(k - bs.length):=by simp [selR,List.getElem?_eq_none (show bs.length≤k by omega)]
      rw [e0,List.getElem?_append_right (by rw [setAll_len]; omega),setAll_len]
      have e:L.length+(k - bs.length) - L.length=k - bs.length:=by omega
      rw [e,List.getElem?_map,List.getElem?_drop]
      rw [show bs.length+(k - bs.length)=k by omega,hB]; rfl
  set M k B hM hk:=by
    unfold selG
    by_cases hkb:k < bs.length
    · have e:selR bs L.length k=bs[k]:=by simp [selR,List.getElem?_eq_getElem hkb]
      rw [e,List.set_append_left _ _ (by rw [setAll_len]; exact hl _ (List.getElem_mem hkb))]
      rw [setAll_set bs L _ k _ _ hn hl (by simp [hkb]) (by simp; omega)]
      congr 1
      · congr 1
        rw [List.take_set,List.map_set]
      · rw [List.drop_set_of_lt hkb]
    · have e:selR bs L.length k=L.length+(k - bs.length):=by simp [selR,List.getElem?_eq_none (show bs.length≤k by omega)]
      rw [e,List.set_append_right _ _ (by rw [setAll_len]; omega),setAll_len]
      have e2:L.length+(k - bs.length) - L.length=k - bs.length:=by omega
      rw [e2]
      congr 1
      · congr 1
        rw [List.take_set_of_le (by omega)]
      · rw [← List.map_set,List.drop_set,if_neg (by omega)]
  snoc M B hM:=by
    unfold selG
    rw [List.take_append_of_le_length hM,List.drop_append_of_le_length hM]
    simp
  len M hM:=by
    unfold selG
    rw [List.length_append,setAll_len]
    unfold selR
    rw [List.getElem?_eq_none hM]
    simp
  out M b B hM hB:=by
    unfold selG at hB
    rw [List.getElem?_append] at hB
    split at hB
    · rename_i hb
      by_cases hm:b∈bs
      · obtain ⟨k,hk,e⟩:=List.getElem_of_mem hm
        exact .inl ⟨k,by simp [selR,List.getElem?_eq_getElem hk,e],by omega⟩
      · refine .inr fun M' hM' => ?_
        rw [setAll_out _ _ _ hm] at hB
        unfold selG
        rw [List.getElem?_append_left (by rw [setAll_len] at hb ⊢; exact hb),setAll_out _ _ _ hm]; exact hB
    · rename_i hb
      rw [setAll_len] at hb hB
      have:=(List.getElem?_eq_some_iff.1 hB).1
      simp only [List.length_map,List.length_drop] at this
      refine .inl ⟨bs.length+(b - L.length),?_,by omega⟩
      unfold selR
      rw [List.getElem?_eq_none (by omega)]
      simp only; omega
def nodupB:List Nat→Bool
  | []=>true
  | b::r=>(r.all fun c=>!Nat.beq b c)&&nodupB r
theorem nodupB_ok:∀ (l:List Nat),nodupB l=true→l.Nodup
  | [],_=>List.nodup_nil
  | b::r,h=>by
    simp only [nodupB,Bool.and_eq_true,List.all_eq_true,Bool.not_eq_true'] at h
    refine List.nodup_cons.2 ⟨fun hb => ?_,nodupB_ok r h.2⟩
    have:=h.1 b hb
    simp at this
def okSel (bs:List Nat) (n:Nat):Bool:=bs.all (fun b=>Nat.blt b n)&&nodupB bs
theorem okSel_ok {bs:List Nat} {n:Nat} (h:okSel bs n=true):bs.Nodup∧∀ b∈bs,b < n:=by
  simp only [okSel,Bool.and_eq_true] at h
  refine ⟨nodupB_ok _ h.2,fun b hb => ?_⟩
  have:=List.all_eq_true.1 h.1 b hb
  simpa [Nat.blt_eq] using this
/-- What a value of the callee's is to the caller. -/
def RN (ρ:Nat→Nat) (v v':V):Prop:=v.rn ρ=v'
def RNs (ρ:Nat→Nat) (v v':List V):Prop:=rns ρ v=v'
theorem RN.stat {ρ:Nat→Nat} {v:V} (h:v.static=true):RN ρ v v:=rn_static _ _ h
theorem RNs.nil {ρ:Nat→Nat}:RNs ρ [] []:=rfl
theorem RNs.cons {ρ:Nat→Nat} {v v':V} {r r':List V} (h:RN ρ v v') (k:RNs ρ r r'):RNs ρ (v::r) (v'::r'):=by
  unfold RN at h; unfold RNs at k ⊢; simp only [rns,h,k]
theorem RN.tup {ρ:Nat→Nat} {r r':List V} (k:RNs ρ r r'):RN ρ (.tup r) (.tup r'):=by unfold RNs at k; unfold RN; simp only [V.rn,k]
theorem RN.agg {ρ:Nat→Nat} {r r':List V} (k:RNs ρ r r'):RN ρ (.agg r) (.agg r'):=by unfold RNs at k; unfold RN; simp only [V.rn,k]
theorem RN.ptr {ρ:Nat→Nat} {b b' ver o:Nat} (h:ρ b=b'):RN ρ (.ptr b ver o) (.ptr b' ver o):=by unfold RN; simp only [V.rn,h]
theorem RN.ref {ρ:Nat→Nat} {b b' ver o n:Nat} (h:ρ b=b'):RN ρ (.ref b ver o n) (.ref b' ver o n):=by unfold RN; simp only [V.rn,h]
def RBs (ρ:Nat→Nat) (M M':Hp):Prop:=M.map (Blk.rn ρ)=M'
theorem RBs.nil {ρ:Nat→Nat}:RBs ρ [] []:=rfl
theorem RBs.cons {ρ:Nat→Nat} {ver sz:Nat} {kd:BK} {cs cs':List V} {r r':Hp} (h:RNs ρ cs cs') (k:RBs ρ r r'):RBs ρ (⟨ver,kd,sz,cs⟩::r) (⟨ver,kd,sz,cs'⟩::r'):=by
  unfold RNs at h; unfold RBs at k ⊢; simp only [List.map_cons,k,Blk.rn,h]
theorem RNs.stat {ρ:Nat→Nat} {v:List V} (h:statics v=true):RNs ρ v v:=rns_stat _ _ h
/-- A call that is handed blocks, and leaves others there. -/
theorem CalL.borrow {n0:Nat} {P:Program} {m:FuncId} {args1 args:List V} {L1 L1' M M' L L':Hp} {r1 r:V} (bs:List Nat) (h:ConL P m args1 L1 r1 L1') (hb:(okSel bs L.length&&Nat.beq L1.length bs.length&&Nat.beq L1'.length bs.length&&Nat.ble n0 L.length)=true)
    (ha:RNs (selR bs L.length) args1 args) (hr:RN (selR bs L.length) r1 r) (hM:RBs (selR bs L.length) L1 M) (hM':RBs (selR bs L.length) L1' M') (hL:setAll L bs M=L) (hL':setAll L bs M'=L'):CalL n0 P m args L r L':=by
  simp only [Bool.and_eq_true] at hb
  obtain ⟨⟨⟨h1,h2⟩,h3⟩,h4⟩:=hb
  obtain ⟨hn,hl⟩:=okSel_ok h1
  have h2:=Nat.eq_of_beq_eq_true h2
  have h3:=Nat.eq_of_beq_eq_true h3
  have h4:=Nat.le_of_ble_eq_true h4
  have hE:=Emb.sel (L:=L) hn hl
  have e1:selG L bs L1=L:=by
    unfold selG; unfold RBs at hM
    rw [← h2,List.take_length,List.drop_length,hM,List.map_nil,List.append_nil]; exact hL
  have e2:selG L bs L1'=L':=by
    unfold selG; unfold RBs at hM'
    rw [← h3,List.take_length,List.drop_length,hM',List.map_nil,List.append_nil]; exact hL'
  have:=CalL.of (n0:=n0) h (by rw [h2]; exact hE) (by rw [e1]; exact h4)
  rw [e1,e2] at this
  unfold RNs at ha; unfold RN at hr
  rw [ha,hr] at this
  exact this
end Go.Proofs.YtoemlgdlejkliaaK
