/- Things: what a contract by hand tells of a block and of those that belong to it. -/
import Derived.Test.YtoemlgdlejkliaaRq
namespace Go.Proofs.YtoemlgdlejkliaaK
set_option linter.unusedVariables false
set_option linter.unusedSimpArgs false
open Go.RowKit
/-- A thing turns; others may come to it that are new. -/
theorem Rel.thing {im H w} (h:Rel im H w) {b g:Nat} {B:Blk} {X X':Thing} (hB:H[b]? = some B) (hk:B.kind=.res X) (hg:im b=some g) (B':Blk) (hk':B'.kind=.res X') (hz:B'.sz=B.sz) (hv:B.ver≤B'.ver) (hcs:B'.cs=[])
    {w':World} (os:w'.os=w.os) (tape:w'.tape=w.tape) (output:w'.output=w.output) (hs:w.heap.size≤w'.heap.size) (keep:∀ k,k < w.heap.size→k ≠ g→¬ im.sub b k→w'.heap[k]? = w.heap[k]?)
    (S':Nat→Prop) (hS:∀ k,S' k→im.sub b k∨w.heap.size≤k) (hrow:∃ arr t fr,w'.heap[g]? = some (.cells arr t fr)∧∀ j,j < arr.size→¬ (fr.1≤j∧j < fr.2)) (hsz:rowSize w' g=rowSize w g) (hQ:X'.Q w' g S') :
    ∃ im',Rel im' (H.set b B') w'∧Ext im H w im' (H.set b B') w':=by
  have hb:b < H.length:=(List.getElem?_eq_some_iff.1 hB).1
  have hd:B.kind ≠ .dead:=by rw [hk]; nofun
  have hset:∀ x,(H.set b B')[x]? = if x=b then some B' else H[x]? := by
    intro x
    rw [List.getElem?_set]
    by_cases e:b=x
    · subst e; simp [hb]
    · rw [if_neg e,if_neg (by omega)]
  have hgl:=h.lt hB hd hg
  have hold:∀ (y:Nat) (Y:Blk),(H.set b B')[y]? = some Y→Y.kind ≠ .dead→∃ Y0:Blk,H[y]? = some Y0∧Y0.kind ≠ .dead∧(y ≠ b→Y0=Y):=by
    intro y Y hY hYd
    rw [hset] at hY
    by_cases e:y=b
    · exact ⟨B,e ▸ hB,hd,fun e'=>absurd e e'⟩
    · rw [if_neg e] at hY; exact ⟨Y,hY,hYd,fun _=>rfl⟩
  obtain ⟨im',i1,i2,i3⟩:∃ im':Im,im'.f=im.f∧im'.sub b=S'∧∀ y,y ≠ b→im'.sub y=im.sub y :=
    ⟨⟨im.f,fun y=>if y=b then S' else im.sub y⟩,rfl,if_pos rfl,fun y e=>if_neg e⟩
  have hO:∀ k,Own im' (H.set b B') k→Own im H k∨w.heap.size≤k:=fun k ⟨y,Y,h1,h2,h3⟩=>by
    obtain ⟨Y0,k1,k2,_⟩:=hold y Y h1 h2
    rcases h3 with h3 | h3
    · rw [i1] at h3; exact .inl ⟨y,Y0,k1,k2,.inl h3⟩
    · by_cases e:y=b
      · subst e
        rw [i2] at h3
        rcases hS k h3 with h4 | h4
        · exact .inl ⟨y,Y0,k1,k2,.inr h4⟩
        · exact .inr h4
      · rw [i3 y e] at h3; exact .inl ⟨y,Y0,k1,k2,.inr h3⟩
  have far:∀ (y:Nat) (Y0:Blk) (x:Nat),y ≠ b→H[y]? = some Y0→Y0.kind ≠ .dead→(im y=some x∨im.sub y x)→w'.heap[x]? = w.heap[x]? := fun y Y0 x e k1 k2 k3=>by
    refine keep x (h.own_lt ⟨y,Y0,k1,k2,k3⟩) (fun e' => ?_) fun e' => ?_
    · subst e'; exact e (h.only hB hd hg k1 k2 k3)
    · have old:=(h.res b B hB hd).1 x e' y Y0 k1 k2
      rcases k3 with k3 | k3
      · exact old.1 k3
      · exact e (old.2 k3)
  have hx:Ext im H w im' (H.set b B') w':=by
    refine ⟨os,tape,output,hs,by simp,fun k hk1 ho=>⟨keep k hk1 (fun e=>ho ⟨b,B,hB,hd,.inl (e ▸ hg)⟩) fun e=>ho ⟨b,B,hB,hd,.inr e⟩,fun hn => ?_⟩,fun y Y Y' hY hY' => ?_⟩
    · rcases hO k hn with h1 | h1
      · exact ho h1
      · omega
    · rw [hset] at hY'
      by_cases e:y=b
      · subst e
        rw [if_pos rfl] at hY'; injection hY' with hY'; subst hY'
        rw [hB] at hY; injection hY with hY; subst hY
        exact ⟨hv,fun _ _=>⟨hd,by rw [i1],hz,fun g' hg'=>by rw [hg] at hg'; injection hg' with hg'; subst hg'; exact hsz⟩⟩
      · rw [if_neg e,hY] at hY'; injection hY' with hY'; subst hY'
        refine ⟨Nat.le_refl _,fun _ hd'=>⟨hd',by rw [i1],rfl,fun g' hg' => ?_⟩⟩
        unfold rowSize
        rw [far y Y g' e hY hd' (.inl hg')]
  refine ⟨im',⟨fun y Y hY hYd => ?_,fun y y' Y Y' g' hY hY' hYd hYd' hi hi' => ?_,h.glob.ext hx,fun y Y hY hYd => ?_⟩,hx⟩
  · rw [hset] at hY
    rw [i1]
    by_cases e:y=b
    · subst e
      rw [if_pos rfl] at hY; injection hY with hY; subst hY
      rw [hg]
      obtain ⟨arr,t,fr,r1,r2⟩:=hrow
      exact ⟨arr,t,fr,[],r1,r2,fun j v hj=>by simp at hj,by rw [hcs]; trivial,by rw [hk']; exact ⟨nofun,nofun⟩⟩
    · rw [if_neg e] at hY
      have hrow:=h.row y Y hY hYd
      cases hgy:im y with
      | none=>rw [hgy] at hrow; exact hrow
      | some gy =>
        rw [hgy] at hrow
        obtain ⟨arr',t',fr',vs',h1,h2,h3,h4⟩:=hrow
        exact ⟨arr',t',fr',vs',by rw [far y Y gy e hY hYd (.inl hgy)]; exact h1,h2,h3,VRs.ext hx _ _ h4.1,h4.2⟩
  · obtain ⟨Y0,k1,k2,_⟩:=hold y Y hY hYd
    obtain ⟨Y0',k1',k2',_⟩:=hold y' Y' hY' hYd'
    rw [i1] at hi hi'
    exact h.inj y y' Y0 Y0' g' k1 k1' k2 k2' hi hi'
  · obtain ⟨Y0,k1,k2,k3⟩:=hold y Y hY hYd
    refine ⟨fun k hk0 y2 Y2 hY2 hd2 => ?_,?_⟩
    · obtain ⟨Z0,m1,m2,m3⟩:=hold y2 Y2 hY2 hd2
      have hk1:im.sub y k∨(y=b∧w.heap.size≤k):=by
        by_cases e:y=b
        · subst e; rw [i2] at hk0; exact (hS k hk0).imp id fun h=>⟨rfl,h⟩
        · rw [i3 y e] at hk0; exact .inl hk0
      have hk2:im'.sub y2 k→im.sub y2 k∨(y2=b∧w.heap.size≤k):=fun hh=>by
        by_cases e:y2=b
        · subst e; rw [i2] at hh; exact (hS k hh).imp id fun h=>⟨rfl,h⟩
        · rw [i3 y2 e] at hh; exact .inl hh
      rw [i1]
      rcases hk1 with hk1 | ⟨e,hk1⟩
      · have old:=(h.res y Y0 k1 k2).1 k hk1 y2 Z0 m1 m2
        refine ⟨old.1,fun hh => ?_⟩
        rcases hk2 hh with hh | ⟨_,hh⟩
        · exact old.2 hh
        · have:=h.sub_lt y Y0 k k1 k2 hk1; omega
      · refine ⟨fun hh => ?_,fun hh => ?_⟩
        · have:=h.lt m1 m2 hh; omega
        · rcases hk2 hh with hh | ⟨e2,_⟩
          · have:=h.sub_lt y2 Z0 k m1 m2 hh; omega
          · rw [e,e2]
    · by_cases e:y=b
      · subst e
        rw [hset,if_pos rfl] at hY; injection hY with hY; subst hY
        rw [hk']
        exact ⟨g,by rw [i1]; exact hg,by rw [i2]; exact hQ⟩
      · have e3:=k3 e
        subst e3
        rw [i3 y e]
        have old:=(h.res y Y0 k1 k2).2
        cases hkd:Y0.kind with
        | res X2 =>
          rw [hkd] at old
          obtain ⟨r,r1,r2⟩:=old
          exact ⟨r,by rw [i1]; exact r1,X2.loc w w' r _ r2 fun x hx=>far y Y0 x e k1 k2 (hx.imp (fun e=>by rw [e]; exact r1) id)⟩
        | mem=>rw [hkd] at old; exact old
        | grow=>rw [hkd] at old; exact old
        | dead=>exact absurd hkd k2
        | bld=>rw [hkd] at old; exact old
        | buf=>rw [hkd] at old; exact old
/-- A block of cells is from now on a thing. -/
theorem Rel.make {im H w} (h:Rel im H w) {b:Nat} {B:Blk} {X:Thing} (hB:H[b]? = some B) (hk:B.kind=.mem) (B':Blk) (hk':B'.kind=.res X) (hz:B'.sz=B.sz) (hv:B'.ver=B.ver) (hcs:B'.cs=[])
    (hst:∀ (w:World) (g:Nat) (arr:Array Value) (t:TypeId) (fr:Nat × Nat) (vs:List Value),w.heap[g]? = some (.cells arr t fr)→(∀ j,j < arr.size→¬ (fr.1≤j∧j < fr.2))→(∀ (j:Nat) (v:Value),vs[j]? = some v→arr[j]? = some v)→VRs im H w B.cs vs→X.Q w g fun _=>False) :
    Rel im (H.set b B') w∧Ext im H w im (H.set b B') w:=by
  have hb:b < H.length:=(List.getElem?_eq_some_iff.1 hB).1
  have hd:B.kind ≠ .dead:=by rw [hk]; nofun
  have hset:∀ x,(H.set b B')[x]? = if x=b then some B' else H[x]? := by
    intro x
    rw [List.getElem?_set]
    by_cases e:b=x
    · subst e; simp [hb]
    · rw [if_neg e,if_neg (by omega)]
  have hold:∀ (y:Nat) (Y:Blk),(H.set b B')[y]? = some Y→Y.kind ≠ .dead→∃ Y0:Blk,H[y]? = some Y0∧Y0.kind ≠ .dead∧Y0.ver=Y.ver∧Y0.sz=Y.sz∧(y ≠ b→Y0=Y):=by
    intro y Y hY hYd
    rw [hset] at hY
    by_cases e:y=b
    · rw [if_pos e] at hY; injection hY with hY; subst hY
      exact ⟨B,e ▸ hB,hd,hv.symm,hz.symm,fun e'=>absurd e e'⟩
    · rw [if_neg e] at hY; exact ⟨Y,hY,hYd,rfl,rfl,fun _=>rfl⟩
  have hO:∀ k,Own im (H.set b B') k→Own im H k:=fun k ⟨y,Y,h1,h2,h3⟩=>by
    obtain ⟨Y0,k1,k2,_⟩:=hold y Y h1 h2
    exact ⟨y,Y0,k1,k2,h3⟩
  have hno:∀ x,¬ im.sub b x:=(h.res b B hB hd).no (by rw [hk]; rfl)
  have hx:Ext im H w im (H.set b B') w:=by
    refine ⟨rfl,rfl,rfl,Nat.le_refl _,by simp,fun k hk1 ho=>⟨rfl,fun hn=>ho (hO k hn)⟩,fun y Y Y' hY hY' => ?_⟩
    rw [hset] at hY'
    by_cases e:y=b
    · subst e
      rw [if_pos rfl] at hY'; injection hY' with hY'; subst hY'
      rw [hB] at hY; injection hY with hY; subst hY
      exact ⟨Nat.le_of_eq hv.symm,fun _ _=>⟨hd,rfl,hz,fun _ _=>rfl⟩⟩
    · rw [if_neg e,hY] at hY'; injection hY' with hY'; subst hY'
      exact ⟨Nat.le_refl _,fun _ hd'=>⟨hd',rfl,rfl,fun _ _=>rfl⟩⟩
  have hrowb:=h.row b B hB hd
  obtain ⟨g,hg,hQ,hr⟩:∃ g,im b=some g∧X.Q w g (fun _=>False)∧∃ arr t fr,w.heap[g]? = some (.cells arr t fr)∧∀ j,j < arr.size→¬ (fr.1≤j∧j < fr.2):=by
    cases hg:im b with
    | none =>
      rw [hg,hk] at hrowb
      rcases hrowb.1 with e | ⟨u,e⟩ <;> cases e
    | some g =>
      rw [hg] at hrowb
      obtain ⟨arr,t,fr,vs,h1,h2,h3,h4,h5⟩:=hrowb
      exact ⟨g,rfl,hst w g arr t fr vs h1 h2 h3 h4,arr,t,fr,h1,h2⟩
  refine ⟨⟨fun y Y hY hYd => ?_,fun y y' Y Y' g' hY hY' hYd hYd' hi hi' => ?_,h.glob.ext hx,fun y Y hY hYd => ?_⟩,hx⟩
  · rw [hset] at hY
    by_cases e:y=b
    · subst e
      rw [if_pos rfl] at hY; injection hY with hY; subst hY
      rw [hg]
      obtain ⟨arr,t,fr,r1,r2⟩:=hr
      exact ⟨arr,t,fr,[],r1,r2,fun j v hj=>by simp at hj,by rw [hcs]; trivial,by rw [hk']; exact ⟨nofun,nofun⟩⟩
    · rw [if_neg e] at hY
      have hrow:=h.row y Y hY hYd
      cases hgy:im y with
      | none=>rw [hgy] at hrow; exact hrow
      | some gy =>
        rw [hgy] at hrow
        obtain ⟨arr',t',fr',vs',h1,h2,h3,h4⟩:=hrow
        exact ⟨arr',t',fr',vs',h1,h2,h3,VRs.ext hx _ _ h4.1,h4.2⟩
  · obtain ⟨Y0,k1,k2,_⟩:=hold y Y hY hYd
    obtain ⟨Y0',k1',k2',_⟩:=hold y' Y' hY' hYd'
    exact h.inj y y' Y0 Y0' g' k1 k1' k2 k2' hi hi'
  · obtain ⟨Y0,k1,k2,_,_,k3⟩:=hold y Y hY hYd
    refine ⟨fun k hk0 y2 Y2 hY2 hd2 => ?_,?_⟩
    · obtain ⟨Z0,m1,m2,_⟩:=hold y2 Y2 hY2 hd2
      exact (h.res y Y0 k1 k2).1 k hk0 y2 Z0 m1 m2
    · by_cases e:y=b
      · subst e
        rw [hset,if_pos rfl] at hY; injection hY with hY; subst hY
        rw [hk']
        have e0:im.sub y=fun _=>False:=funext fun x=>propext ⟨fun h=>hno x h,fun h=>h.elim⟩
        exact ⟨g,hg,by rw [e0]; exact hQ⟩
      · have e3:=k3 e
        subst e3
        have old:=(h.res y Y0 k1 k2).2
        cases hkd:Y0.kind with
        | res X2 =>
          rw [hkd] at old
          obtain ⟨r,r1,r2⟩:=old
          exact ⟨r,r1,X2.loc w w r _ r2 fun x hx=>rfl⟩
        | mem=>rw [hkd] at old; exact old
        | grow=>rw [hkd] at old; exact old
        | dead=>exact absurd hkd k2
        | bld=>rw [hkd] at old; exact old
        | buf=>rw [hkd] at old; exact old
theorem Shl.make {L0 L:Hp} {f:Fr} {b ver q:Nat} {cs:List V} {X:Thing} (hB:L[b]? = some ⟨ver,.mem,q,cs⟩) (hs:statics cs=true)
    (hst:∀ (im:Im) (H:Hp) (w:World) (g:Nat) (arr:Array Value) (t:TypeId) (fr:Nat × Nat) (vs:List Value),w.heap[g]? = some (.cells arr t fr)→(∀ j,j < arr.size→¬ (fr.1≤j∧j < fr.2))→(∀ (j:Nat) (v:Value),vs[j]? = some v→arr[j]? = some v)→VRs im H w cs vs→X.Q w g fun _=>False) :
    Shl L0 f L f (L.set b ⟨ver,.res X,q,[]⟩):=fun hl=>by
  refine ⟨by simpa using hl,fun ρ G hE N im0 w0 im w a h0 hs' hx => ?_⟩
  have hbl:b < L.length:=(List.getElem?_eq_some_iff.1 hB).1
  have hset:(G L).set (ρ b) ⟨ver,.res X,q,[]⟩=G (L.set b ⟨ver,.res X,q,[]⟩):=hE.set L b ⟨ver,.res X,q,[]⟩ hl hbl
  have hg:(G L)[ρ b]? = some ⟨ver,.mem,q,cs⟩:=by
    have:=hE.get L b _ hl hB
    simpa only [Blk.rn,rns_stat _ _ hs] using this
  rw [← hset]
  obtain ⟨k1,k2⟩:=hs'.rel.make hg rfl ⟨ver,.res X,q,[]⟩ rfl rfl rfl rfl (hst im (G L))
  exact ⟨im,⟨k1,⟨fun t=>(hs'.fr.at_ t).ext k2 _ _⟩,hs'.size,hs'.defers⟩,hx.trans k2⟩
theorem k_mk {P:Program} {L0:Hp} {C:X→Fr→Hp→Prop} {S:List It} {f:Fr} {L L':Hp} (b:Nat) {ver q:Nat} {cs:List V} {Y:Thing} (K:kont P L0 C S .normal f L')
    (hst:∀ (im:Im) (H:Hp) (w:World) (g:Nat) (arr:Array Value) (t:TypeId) (fr:Nat × Nat) (vs:List Value),w.heap[g]? = some (.cells arr t fr)→(∀ j,j < arr.size→¬ (fr.1≤j∧j < fr.2))→(∀ (j:Nat) (v:Value),vs[j]? = some v→arr[j]? = some v)→VRs im H w cs vs→Y.Q w g fun _=>False)
    (hB:L[b]? = some ⟨ver,.mem,q,cs⟩:=by kernel_rfl) (hs:statics cs=true:=by kernel_rfl) (hL:L.set b ⟨ver,.res Y,q,[]⟩=L':=by kernel_rfl) (hS:Opn S=true:=by kernel_rfl):kont P L0 C S .normal f L:=by
  subst hL
  exact k_sv S hS (Shl.make hB hs hst) K
end Go.Proofs.YtoemlgdlejkliaaK
