/- append; calls; what is nil; structs held against each other. -/
import Derived.Test.YtoemlgdlejkliaaKf
namespace Go.Proofs.YtoemlgdlejkliaaK
set_option linter.unusedVariables false
set_option linter.unusedSimpArgs false
open Go.RowKit
section
variable {P:Program} {o:Oper} {a:Act} {w:World} {im:Im} {H H':Hp} {f:Fr} {v:V}
theorem mul0 {k sz:Nat} (h:0 < sz) (h0:k*sz=0):k=0:=by
  rcases Nat.mul_eq_zero.1 h0 with h1 | h1
  · exact h1
  · omega
/-- What is appended, as the kit says it. -/
theorem src_ok (hr:Rel im H w) {y:V} {c:Value} {sz:Nat} {ys:List V} {tx e':TypeId} {k:Nat} (hy:VR im H w y c) (hk:slLen H y=some k) (hl:slCells H sz y=some ys) (h1:ys.all V.one=true) (htx:P.underlying tx=some (.slice e')) (hsz:0 < sz) :
    ∃ vs,Src P sz tx c k vs w∧VRs im H w ys vs∧ys.length=k*sz:=by
  obtain ⟨A,n,cap,vs,hc,hn,hnc,hlen,hvs,hA⟩:=slCells_ok hr hy hl
  rw [hk] at hn; injection hn with hn; subst hn
  have hone:=VRs.one hvs h1
  have hl2:=hvs.length
  refine ⟨vs,?_,hvs,hlen⟩
  rw [hc]
  rcases hA with ⟨rfl,rfl⟩ | ⟨ad,rfl,hat⟩
  · have:k=0:=by
      have h0:k*sz=0:=by rw [← hlen,hl2]; rfl
      exact mul0 hsz h0
    subst this
    exact Src.ofNil w htx cap
  · exact Src.ofSlice w htx ad k cap vs (by omega) hat hone
/-- A builtin copy, when the cells that go over are stored. -/
theorem run_copy_st (w w':World) (dT sT ty elem:TypeId) (b o dLen dCap:Nat) (ad:Addr) (sLen sCap:Nat) (cs:List Value)
    (hu:P.underlying dT=some (.slice elem)) (hs:(P.info? elem).map (·.size)=some 1) (hn:cs.length=Nat.min sLen dLen)
    (hsrc:∀ j v,cs[j]? = some v→w.cell? (ad.add j)=some v) (hst:(storeCells ⟨b,o,none⟩ cs).run P w=.ok () w') :
    (Builtin.copy_ #[dT,sT] ty #[.slice (some ⟨b,o,none⟩) dLen dCap,.slice (some ad) sLen sCap]).run P w=.ok (goInt cs.length) w':=by
  have hl:=run_loadCells_list (P:=P) w ad cs hsrc
  cases hq:P.info? elem with
  | none=>simp [hq] at hs
  | some i =>
    have hi:i.size=1:=by simpa [hq] using hs
    simp [Builtin.copy_,run_underlying hu,Builtin.lenOf,Builtin.firstCells,sizeOf,typeInfo,hq,hi,← hn,hl,hst]
theorem s_cpy (hr:Rel im H w) (hf:FR im H w f a) {X Y:Operand} {x y:Opd} {t tx e:TypeId} (hx:cO X=some x) (hy:cO Y=some y) (ho:o.op=.call { callee:=.builtin .copy,args := #[X,Y],argTypes := #[t,tx] })
    (ht:P.underlying t=some (.slice e)) (hs:(P.info? e).map (·.size)=some 1) {n:Nat} {ys:List V} (hn:slLen H (ev x f)=some n) (hys:slCells H 1 (ev y f)=some ys) (hc:copyV H (ev x f) (ys.take n)=some H') :
    Stp P o a w im H (.s (.int .i64 ((ys.take n).length:Nat))) H':=by
  have hvx:=ev_ok hf hx
  obtain ⟨A2,m,cap2,vs,e2,hm,hmc,hlen,hvs,hA2⟩:=slCells_ok hr (ev_ok hf hy) hys
  have hvl:=hvs.length
  have hlm:vs.length=m:=by omega
  have hmin:(vs.take n).length=Nat.min m n:=by rw [List.length_take,hlm,Nat.min_comm]
  have hmin':(ys.take n).length=(vs.take n).length:=by rw [List.length_take,List.length_take,hvl]
  have hexec:∀ (w':World),(Builtin.copy_ #[t,tx] o.type #[a.eval X,a.eval Y]).run P w=.ok (goInt (vs.take n).length) w'→(execOp a.eval o).run P w=.ok (.value (.int .i64 ((ys.take n).length:Nat))) w':=fun w' h=>by
    rw [hmin']
    simp [execOp,ho,resolve,invoke,builtin,h,goInt]
  unfold copyV at hc
  split at hc
  · rename_i hem
    simp at hc; subst hc
    have h0:(vs.take n).length=0:=by rw [← hmin']; simpa using hem
    have hX:∃ A cap,a.eval X=.slice A n cap:=by
      cases hex:ev x f with
      | ref b ver o' k =>
        rw [hex] at hn hvx
        simp only [slLen] at hn
        cases hB:live H b ver with
        | none=>simp [hB] at hn
        | some B =>
          simp [hB] at hn; subst hn
          obtain ⟨q1,q2,q3⟩:=live_ok hB
          obtain ⟨_,B',hB',_,hp⟩:=hvx
          rw [q1] at hB'; injection hB' with hB'; subst hB'
          obtain ⟨A,cap,hc,_⟩:=hp q2 q3
          exact ⟨A,cap,hc⟩
      | sl full k cs =>
        rw [hex] at hn hvx
        simp [slLen] at hn; subst hn
        obtain ⟨A,cap,hc,_⟩:=hvx
        exact ⟨A,cap,hc⟩
      | s v =>
        rw [hex] at hn hvx
        have hv:v=.slice none 0 0∧n=0:=by
          unfold slLen at hn
          split at hn
          · rename_i e; cases e
          · rename_i e; cases e
          · rename_i e; injection e with e; simp at hn; exact ⟨e,hn.symm⟩
          · simp at hn
        obtain ⟨rfl,rfl⟩:=hv
        exact ⟨none,0,hvx⟩
      | ptr b ver o'=>rw [hex] at hn; simp [slLen] at hn
      | ip cs=>rw [hex] at hn; simp [slLen] at hn
      | agg cs=>rw [hex] at hn; simp [slLen] at hn
      | tup cs=>rw [hex] at hn; simp [slLen] at hn
      | clo _ cs=>rw [hex] at hn; simp [slLen] at hn
      | ifc t x=>rw [hex] at hn; simp [slLen] at hn
      | any=>rw [hex] at hn; simp [slLen] at hn
    obtain ⟨A,cap,hX⟩:=hX
    refine stp_pure hr _ (hexec w ?_) rfl
    rw [h0,hX,e2]
    exact run_copy_none w t tx o.type e A A2 n cap m cap2 ht hs (by rw [← hmin]; exact h0)
  · rename_i hem
    cases hex:ev x f with
    | ref b ver o' k =>
      rw [hex] at hn hvx hc
      simp only [slLen] at hn
      cases hB:live H b ver with
      | none=>simp [hB] at hn
      | some B =>
        simp [hB] at hn; subst hn
        obtain ⟨q1,q2,q3⟩:=live_ok hB
        obtain ⟨_,B',hB',hle,hp⟩:=hvx
        rw [q1] at hB'; injection hB' with hB'; subst hB'
        obtain ⟨A,cap,hX,hkc,_,hcase⟩:=hp q2 q3
        have hpos:0 < (vs.take k).length:=by
          rw [← hmin']
          exact List.length_pos_iff.2 (by simpa using hem)
        rcases hcase with ⟨h0,_⟩ | ⟨g,hg,rfl,_⟩
        · rw [List.length_take] at hpos; omega
        · have hptr:VR im H w (.ptr b ver o') (.pointer (some ⟨g,o',none⟩)):=⟨rfl,B,q1,hle,fun _ _=>⟨g,hg,rfl⟩⟩
          have hagg:VR im H w (.agg (ys.take k)) (.agg (vs.take k).toArray):=⟨_,rfl,by simpa using hvs.take k⟩
          obtain ⟨g',o'',e1,hrun,k1,k2,_⟩:=storeAt_ok (P:=P) hr hptr hagg (show storeAt H (.ptr b ver o') (V.agg (ys.take k)).cells=some H' from hc)
          simp only [Value.pointer.injEq,Option.some.injEq,Addr.mk.injEq] at e1
          obtain ⟨rfl,rfl,_⟩:=e1
          have e3:(Value.agg (vs.take k).toArray).cells.toList=vs.take k:=by simp [Value.cells]
          rw [e3] at hrun k1 k2
          refine ⟨im,_,_,.inl (hexec _ ?_),k1,k2,rfl⟩
          rw [hX,e2]
          rcases hA2 with ⟨_,rfl⟩ | ⟨ad,rfl,hat⟩
          · simp at hpos
          · refine run_copy_st w _ t tx o.type e g o' k cap ad m cap2 (vs.take k) ht hs hmin (fun j v hj=>hat j v ?_) hrun
            rw [List.getElem?_take] at hj
            split at hj
            · exact hj
            · simp at hj
    | s v=>rw [hex] at hc; simp at hc
    | sl full k cs=>rw [hex] at hc; simp at hc
    | ptr b ver o'=>rw [hex] at hc; simp at hc
    | ip cs=>rw [hex] at hc; simp at hc
    | agg cs=>rw [hex] at hc; simp at hc
    | tup cs=>rw [hex] at hc; simp at hc
    | clo _ cs=>rw [hex] at hc; simp at hc
    | ifc t x=>rw [hex] at hc; simp at hc
    | any=>rw [hex] at hc; simp at hc
theorem run_append_zero {t tx ty e:TypeId} {i:TypeInfo} (ht:P.underlying t=some (.slice e)) (hi:P.info? e=some i) {A:Option Addr} {n cap:Nat} {x:Value} (hs:Src P i.size tx x 0 [] w) (hn:n≤cap) :
    (Builtin.append_ #[t,tx] ty #[.slice A n cap,x]).run P w=.ok (.slice A n cap) w:=by
  have hst:∀ a,(storeCells a ([]:List Value)).run P w=.ok () w:=fun _=>rfl
  rcases hs.kind with ⟨e',hk⟩ | hk <;> cases A <;> simp [Builtin.append_,run_underlying ht,run_underlying hk,sizeOf,typeInfo,hi,hs.len,hn,hs.cells,hst]
theorem run_app (ty:TypeId) {t tx:TypeId} {X Y:Operand} (ho:o.op=.call { callee:=.builtin .append,args := #[X,Y],argTypes := #[t,tx] }) (hty:o.type=ty) {c:Value} {w':World} (h:(Builtin.append_ #[t,tx] ty #[a.eval X,a.eval Y]).run P w=.ok c w') :
    (execOp a.eval o).run P w=.ok (.value c) w':=by
  subst hty
  simp [execOp,ho,resolve,invoke,builtin,h]
structure AppT (P:Program) (t e:TypeId) (sz by_:Nat):Prop where
  ht:P.underlying t=some (.slice e)
  inf:∃ i z,P.info? e=some i∧i.zero=some z∧i.size=sz∧i.bytes=by_∧z.cells.size=sz
  pos:0 < sz
  bpos:0 < by_
theorem s_app_core (hr:Rel im H w) (hf:FR im H w f a) {X Y:Operand} {x:Opd} {t tx e:TypeId} {sz by_:Nat} (hx:cO X=some x) (ho:o.op=.call { callee:=.builtin .append,args := #[X,Y],argTypes := #[t,tx] }) (T:AppT P t e sz by_)
    {ys:List V} {vs:List Value} {k:Nat} (hs:Src P sz tx (a.eval Y) k vs w) (hvs:VRs im H w ys vs) (hlen:ys.length=k*sz) (h1:ys.all V.one=true) {v:V} (hv:appendV H e sz by_ (ev x f) ys k=some (v,H')):Stp P o a w im H v H':=by
  obtain ⟨ht,⟨i,z,hi,hz,hisz,hiby,hzsz⟩,hpos,hbpos⟩:=T
  subst hisz; subst hiby
  have hvx:=ev_ok hf hx
  have hone:=VRs.one hvs h1
  have hl2:=hvs.length
  have hk0:k=0→vs=[]:=fun h=>by
    subst h
    simp at hlen
    rw [hlen] at hl2
    exact List.eq_nil_of_length_eq_zero hl2.symm
  -- a new row
  have hgrow:∀ (A:Option Addr) (n cap:Nat) (olds:List Value),a.eval X=.slice A n cap→n≤cap→cap < n+k→(n+k)*i.bytes≤room →
      olds.length=n*i.size→(olds=[]∧n=0∨∃ ad,A=some ad∧∀ j v,olds[j]? = some v→w.cell? (ad.add j)=some v) →
      ∃ cap' arr,(execOp a.eval o).run P w=.ok (.value (.slice (some ⟨w.heap.size,0,none⟩) (n+k) cap')) (w.drew.alloc (.cells arr e))∧n+k≤cap'∧cap'≤maxLen∧cap'*i.size≤arr.size∧(∀ (j:Nat) (v:Value),(olds++vs)[j]? = some v→arr[j]? = some v):=by
    intro A n cap olds hc hnc hlt hroom hol hat
    have hnk:n+k≤140737488355328:=Nat.le_trans (Nat.le_mul_of_pos_right _ hbpos) hroom
    have hold:(Builtin.firstCells i.size n (.slice A n cap)).run P w.drew=.ok olds.toArray w.drew:=by
      rcases hat with ⟨rfl,rfl⟩ | ⟨ad,rfl,hat⟩
      · cases A <;> simp [Builtin.firstCells,loadCells,loadCellsFrom]
      · exact run_firstCells_some w.drew i.size n ad n cap olds hol (by simpa using hat)
    have hrun:=run_append_grow_src (P:=P) w t tx o.type e i z ht hi hz A n cap olds hold (a.eval Y) k vs hs hlt (by omega) (growslice_fits hlt hroom)
    have hcap:n+k≤grownCap w (n+k) cap e∧grownCap w (n+k) cap e≤maxLen:=by
      have hlt:w.tape w.drawn (Question.appendCap (n+k) cap e) % (2 ^ 63 - (n+k)) < 2 ^ 63 - (n+k):=Nat.mod_lt _ (by omega)
      refine ⟨?_,?_⟩ <;> simp only [grownCap,Question.cut,maxLen] <;> omega
    refine ⟨grownCap w (n+k) cap e,_,run_app o.type ho rfl (by rw [hc]; exact hrun),hcap.1,hcap.2,?_,fun j v hj => ?_⟩
    · have:(olds++vs).length=(n+k)*i.size:=by rw [List.length_append,hol,Nat.add_mul]; omega
      simp only [Array.size_append,List.size_toArray,this,Builtin.zeroCells,Array.size_map,Array.size_range,hzsz]
      rw [← Nat.add_mul]
      exact Nat.mul_le_mul_right _ (by omega)
    · have hjl:=(List.getElem?_eq_some_iff.1 hj).1
      rw [Array.getElem?_append_left (by simpa using hjl)]
      simpa using hj
  cases hex:ev x f with
  | ref b ver o' n =>
    rw [hex] at hv hvx
    simp only [appendV] at hv
    cases hB:live H b ver with
    | none=>simp [hB] at hv
    | some B =>
      simp only [hB] at hv
      split at hv <;> simp at hv
      rename_i hcnd
      obtain ⟨hkind,hBsz,rfl,hnl,hroom,_⟩:=hcnd
      obtain ⟨rfl,rfl⟩:=hv
      obtain ⟨q1,q2,q3⟩:=live_ok hB
      have hvx':=hvx
      obtain ⟨_,B',hB',hle,hvx⟩:=hvx
      rw [q1] at hB'; injection hB' with hB'; subst hB'
      obtain ⟨A,cap,hc,hn,hm,hg⟩:=hvx q2 q3
      have hrow:=hr.row b B q1 q3
      have hbl:b < H.length:=(List.getElem?_eq_some_iff.1 q1).1
      have hsetb:(H.set b { B with ver:=ver+1,cs:=B.cs++ys })[b]? = some { B with ver:=ver+1,cs:=B.cs++ys }:=by simp [hbl]
      by_cases hroom':n+k≤cap
      · by_cases hk:k=0
        · -- nothing is appended
          have hv0:=hk0 hk
          subst hk
          subst hv0
          have hy0:ys=[]:=List.eq_nil_of_length_eq_zero (by simpa using hlen)
          subst hy0
          have hrun:=run_append_zero (P:=P) (w:=w) (ty:=o.type) ht hi (A:=A) hs hn
          cases hgb:im b with
          | none =>
            rw [hgb] at hrow
            have hx2:Rel im (H.set b { B with ver:=ver+1,cs:=B.cs++[] }) w∧Ext im H w im (H.set b { B with ver:=ver+1,cs:=B.cs++[] }) w:=by
              have hset:∀ x,(H.set b { B with ver:=ver+1,cs:=B.cs++[] })[x]? = if x=b then some { B with ver:=ver+1,cs:=B.cs++[] } else H[x]? := by
                intro x
                rw [List.getElem?_set]
                by_cases e:b=x
                · subst e; simp [hbl]
                · rw [if_neg e,if_neg (by omega)]
              have hxt:Ext im H w im (H.set b { B with ver:=ver+1,cs:=B.cs++[] }) w:=by
                refine ⟨rfl,rfl,rfl,Nat.le_refl _,by simp,fun g' hg' ho'=>⟨rfl,fun hn'=>ho' ?_⟩,fun y Y Y' hY hY' => ?_⟩
                · obtain ⟨y,Y,e1,e2,e3⟩:=hn'
                  rw [hset] at e1
                  by_cases e:y=b
                  · subst e
                    rw [hgb] at e3
                    rcases e3 with e3 | e3
                    · cases e3
                    · exact absurd e3 ((hr.res y B q1 q3).no (live_res hB) g')
                  · rw [if_neg e] at e1; exact ⟨y,Y,e1,e2,e3⟩
                · rw [hset] at hY'
                  by_cases e:y=b
                  · subst e
                    rw [if_pos rfl] at hY'; injection hY' with hY'; subst hY'
                    rw [q1] at hY; injection hY with hY; subst hY
                    exact ⟨by simp; omega,fun e=>by simp at e; omega⟩
                  · rw [if_neg e,hY] at hY'; injection hY' with hY'; subst hY'
                    exact ⟨Nat.le_refl _,fun _ hd=>⟨hd,rfl,rfl,fun _ _=>rfl⟩⟩
              have hold:∀ (y:Nat) (Y:Blk),(H.set b { B with ver:=ver+1,cs:=B.cs++[] })[y]? = some Y→∃ Y0:Blk,H[y]? = some Y0∧Y0.kind=Y.kind:=fun y Y hY=>by
                rw [hset] at hY
                by_cases e:y=b
                · subst e
                  rw [if_pos rfl] at hY; injection hY with hY; subst hY
                  exact ⟨B,q1,rfl⟩
                · rw [if_neg e] at hY; exact ⟨Y,hY,rfl⟩
              refine ⟨⟨fun y Y hY hYd => ?_,fun y y' Y Y' g' hY hY' hYd hYd' hi1 hi2 => ?_,hr.glob.ext hxt,hr.keep hr.sub_lt (fun y Y hY _=>.inl ⟨rfl,rfl,hold y Y hY⟩) (fun y Y g hY hd hg=>.inl (by obtain ⟨Y0,e1,e2⟩:=hold y Y hY; exact ⟨y,Y0,e1,by rw [e2]; exact hd,hg⟩)) fun _ _ _ _ _ _ _=>rfl⟩,hxt⟩
              · rw [hset] at hY
                by_cases e:y=b
                · subst e
                  rw [if_pos rfl] at hY; injection hY with hY; subst hY
                  rw [hgb]; simpa using hrow
                · rw [if_neg e] at hY
                  have:=hr.row y Y hY hYd
                  cases hgy:im y with
                  | none=>rw [hgy] at this; exact this
                  | some gy =>
                    rw [hgy] at this
                    obtain ⟨arr',t',fr',vs',e1,e2,e3,e4⟩:=this
                    exact ⟨arr',t',fr',vs',e1,e2,e3,VRs.ext hxt _ _ e4.1,e4.2⟩
              · rw [hset] at hY hY'
                by_cases e:y=b
                · subst e; rw [hgb] at hi1; simp at hi1
                · by_cases e':y'=b
                  · subst e'; rw [hgb] at hi2; simp at hi2
                  · rw [if_neg e] at hY; rw [if_neg e'] at hY'
                    exact hr.inj y y' Y Y' g' hY hY' hYd hYd' hi1 hi2
            refine ⟨im,w,.slice A n cap,.inl (run_app o.type ho rfl (by rw [hc]; exact hrun)),hx2.1,hx2.2,rfl,_,hsetb,Nat.le_refl _,fun _ _=>⟨A,cap,rfl,by omega,hm,?_⟩⟩
            rcases hg with hg | ⟨g,hg,_⟩
            · exact .inl hg
            · rw [hgb] at hg; simp at hg
          | some g =>
            rw [hgb] at hrow
            obtain ⟨arr,ty,fr,vsB,r1,r2,r3,r4,_⟩:=hrow
            obtain ⟨k1,k2⟩:=hr.write 0 [] { B with ver:=ver+1,cs:=B.cs++[] } q1 q3 hgb r1 r2 (by simp; omega) rfl rfl vsB r3 (by simpa using r4) (live_res hB)
            refine ⟨im,w,.slice A n cap,.inl (run_app o.type ho rfl (by rw [hc]; exact hrun)),k1,k2,rfl,_,hsetb,Nat.le_refl _,fun _ _=>⟨A,cap,rfl,by omega,hm,hg⟩⟩
        · -- there is room
          rcases hg with hg | ⟨g,hg,hA,hsize⟩
          · omega
          · rw [hg] at hrow
            obtain ⟨arr,ty,fr,vsB,r1,r2,r3,r4,_⟩:=hrow
            have hrs:rowSize w g=arr.size:=by unfold rowSize; rw [r1]
            rw [hrs,hBsz] at hsize
            have hbig:n*i.size+vs.length≤arr.size:=by
              have:(n+k)*i.size≤cap*i.size:=Nat.mul_le_mul_right _ hroom'
              rw [Nat.add_mul] at this
              omega
            have hrun:=run_append_room_src (P:=P) w t tx o.type e i ht hi g 0 n cap (a.eval Y) k vs hs hroom' (fun j hj=>by
                have:0+n*i.size+j < arr.size:=by omega
                simp only [World.cell?,r1]; simp [this]; omega) (fun j hj=>by
                have:=r2 (0+n*i.size+j) (by omega)
                simp only [World.frozen?,r1]
                simp only [not_and,Nat.not_lt] at this
                rcases Nat.lt_or_ge (0+n*i.size+j) fr.1 with h | h
                · simp; omega
                · have:=this h; simp; omega)
            have hvB:=r4.length
            obtain ⟨k1,k2⟩:=hr.write (0+n*i.size) vs { B with ver:=ver+1,cs:=B.cs++ys } q1 q3 hg r1 r2 (by simp; omega) rfl rfl (vsB++vs) (fun j v hj=>by
                rw [List.getElem?_append] at hj
                split at hj
                · rename_i hjl
                  rw [wr_out _ _ _ _ (.inl (by omega))]
                  exact r3 _ _ hj
                · rename_i hjl
                  have hjv:=(List.getElem?_eq_some_iff.1 hj).1
                  have:=wr_in vs arr (0+n*i.size) (j - vsB.length) (by omega) hjv
                  rw [show 0+n*i.size+(j - vsB.length)=j by omega] at this
                  rw [this]; exact hj) (r4.append hvs) (live_res hB)
            refine ⟨im,_,.slice A (n+k) cap,.inl (run_app o.type ho rfl (by rw [hc,hA]; exact hrun)),k1,k2,rfl,_,hsetb,Nat.le_refl _,fun _ _=>⟨A,cap,rfl,hroom',hm,.inr ⟨g,hg,hA,?_⟩⟩⟩
            have:rowSize (w.setCells g (0+n*i.size) vs) g=arr.size:=by
              unfold rowSize
              rw [setCells_heap g ty fr vs _ w arr r1,if_pos rfl]
              simp [wr_size]
            rw [this,hBsz]
            exact hsize
      · -- a new row
        have holds:∃ olds:List Value,olds.length=n*i.size∧(olds=[]∧n=0∨∃ ad,A=some ad∧∀ j v,olds[j]? = some v→w.cell? (ad.add j)=some v)∧VRs im H w B.cs olds:=by
          cases hgb:im b with
          | none =>
            rw [hgb] at hrow
            have hn0:n=0:=mul0 hpos (by rw [hnl,hrow.2]; rfl)
            refine ⟨[],by simp [hn0],.inl ⟨rfl,hn0⟩,by rw [hrow.2]; trivial⟩
          | some g =>
            rw [hgb] at hrow
            obtain ⟨arr,ty,fr,vsB,r1,r2,r3,r4,_⟩:=hrow
            have hvB:=r4.length
            refine ⟨vsB,by omega,?_,r4⟩
            rcases hg with hg | ⟨g',hg',hA,_⟩
            · have hn0:n=0:=by omega
              subst hn0
              exact .inl ⟨List.eq_nil_of_length_eq_zero (by omega),rfl⟩
            · rw [hgb] at hg'; injection hg' with hg'; subst hg'
              refine .inr ⟨⟨g,0,none⟩,hA,fun j v hj => ?_⟩
              rw [add_plain']
              simp [World.cell?,r1,r3 j v hj]
        obtain ⟨olds,ol1,ol2,ol3⟩:=holds
        obtain ⟨cap',arr,hrun,c1,c2,c3,c4⟩:=hgrow A n cap olds hc hn (by omega) hroom ol1 ol2
        obtain ⟨d1,d2⟩:=hr.drew
        obtain ⟨k1,k2⟩:=d1.move { B with ver:=ver+1,cs:=B.cs++ys } arr e q1 q3 (by simp; omega) q3 (olds++vs) c4 (VRs.ext d2 _ _ (ol3.append hvs)) (bldOk_growable hkind) (show B.kind.isRes=false from live_res hB)
        refine ⟨_,_,_,.inl hrun,k1,d2.trans k2,rfl,_,hsetb,Nat.le_refl _,fun _ _=>⟨_,cap',rfl,c1,c2,.inr ⟨w.heap.size,by simp [imNew],rfl,?_⟩⟩⟩
        rw [show rowSize (w.drew.alloc (.cells arr e)) w.heap.size=arr.size from own_new (w:=w.drew),hBsz]
        omega
  | sl full n cs =>
    rw [hex] at hv hvx
    cases full with
    | false=>simp [appendV] at hv
    | true =>
      simp only [appendV] at hv
      obtain ⟨A,cap,hc,hn,hm,hfull,hg⟩:=hvx
      have hcn:=hfull rfl
      split at hv
      · rename_i hk
        have hv0:=hk0 hk
        subst hk
        subst hv0
        simp at hv
        obtain ⟨rfl,rfl⟩:=hv
        have hrun:=run_append_zero (P:=P) (w:=w) (ty:=o.type) ht hi (A:=A) hs hn
        exact ⟨im,w,.slice A n cap,.inl (run_app o.type ho rfl (by rw [hc]; exact hrun)),hr,Ext.refl _ _ _,A,cap,rfl,hn,hm,hfull,hg⟩
      · rename_i hk
        split at hv <;> simp at hv
        rename_i hcnd
        obtain ⟨hnl,hroom,_,_⟩:=hcnd
        obtain ⟨rfl,rfl⟩:=hv
        have holds:∃ olds:List Value,olds.length=n*i.size∧(olds=[]∧n=0∨∃ ad,A=some ad∧∀ j v,olds[j]? = some v→w.cell? (ad.add j)=some v)∧VRs im H w cs olds:=by
          rcases hg with hg | ⟨g,o',vs',hA,_,_,hat,hvs'⟩
          · subst hg
            have:cs=[]:=List.eq_nil_of_length_eq_zero (by omega)
            subst this
            exact ⟨[],by simp,.inl ⟨rfl,rfl⟩,trivial⟩
          · have:=hvs'.length
            exact ⟨vs',by omega,.inr ⟨_,hA,fun j v hj=>by rw [add_plain']; exact hat j v hj⟩,hvs'⟩
        obtain ⟨olds,ol1,ol2,ol3⟩:=holds
        obtain ⟨cap',arr,hrun,c1,c2,c3,c4⟩:=hgrow A n cap olds hc hn (by omega) hroom ol1 ol2
        obtain ⟨d1,d2⟩:=hr.drew
        obtain ⟨k1,k2⟩:=d1.new .grow i.size (cs++ys) arr e (0,0) (olds++vs) nofun (fun j _=>by simp) c4 (VRs.ext d2 _ _ (ol3.append hvs))
        refine ⟨_,_,_,.inl hrun,k1,d2.trans k2,rfl,⟨0,.grow,i.size,cs++ys⟩,by simp,Nat.le_refl _,fun _ _=>⟨_,cap',rfl,c1,c2,.inr ⟨w.heap.size,by simp [imNew],rfl,?_⟩⟩⟩
        rw [show rowSize (w.drew.alloc (.cells arr e)) w.heap.size=arr.size from own_new (w:=w.drew)]
        simp; omega
  | s y =>
    rw [hex] at hv hvx
    unfold appendV at hv
    split at hv
    · rename_i h; simp at h
    · rename_i h; simp at h
    · rename_i h
      injection h with h; subst h
      have hc:=hvx.s_inv
      split at hv
      · rename_i hk
        have hv0:=hk0 hk
        subst hk
        subst hv0
        simp at hv
        obtain ⟨rfl,rfl⟩:=hv
        have hrun:=run_append_zero (P:=P) (w:=w) (ty:=o.type) ht hi (A:=none) (n:=0) (cap:=0) hs (Nat.le_refl _)
        exact ⟨im,w,.slice none 0 0,.inl (run_app o.type ho rfl (by rw [hc]; exact hrun)),hr,Ext.refl _ _ _,rfl⟩
      · rename_i hk
        split at hv <;> simp at hv
        rename_i hcnd
        obtain ⟨rfl,rfl⟩:=hv
        obtain ⟨cap',arr,hrun,c1,c2,c3,c4⟩:=hgrow none 0 0 [] hc (Nat.le_refl _) (by omega) (by simpa using hcnd.1) (by simp) (.inl ⟨rfl,rfl⟩)
        obtain ⟨d1,d2⟩:=hr.drew
        obtain ⟨k1,k2⟩:=d1.new .grow i.size ys arr e (0,0) vs nofun (fun j _=>by simp) (by simpa using c4) (VRs.ext d2 _ _ hvs)
        refine ⟨_,_,_,.inl hrun,k1,d2.trans k2,rfl,⟨0,.grow,i.size,ys⟩,by simp,Nat.le_refl _,fun _ _=>⟨_,cap',by simp,by omega,c2,.inr ⟨w.heap.size,by simp [imNew],rfl,?_⟩⟩⟩
        rw [show rowSize (w.drew.alloc (.cells arr e)) w.heap.size=arr.size from own_new (w:=w.drew)]
        simp; omega
    · simp at hv
  | ptr b ver o=>rw [hex] at hv; simp [appendV] at hv
  | ip cs=>rw [hex] at hv; simp [appendV] at hv
  | agg cs=>rw [hex] at hv; simp [appendV] at hv
  | tup cs=>rw [hex] at hv; simp [appendV] at hv
  | clo _ cs=>rw [hex] at hv; simp [appendV] at hv
  | ifc t x=>rw [hex] at hv; simp [appendV] at hv
  | any=>rw [hex] at hv; simp [appendV] at hv
end
end Go.Proofs.YtoemlgdlejkliaaK
