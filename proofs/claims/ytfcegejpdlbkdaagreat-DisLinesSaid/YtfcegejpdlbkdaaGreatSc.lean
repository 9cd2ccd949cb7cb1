/- Builders: contracts over the abstract memory. -/
import Derived.Test.YtfcegejpdlbkdaaGreatSb
namespace Go.Proofs.YtfcegejpdlbkdaaGreatK
set_option linter.unusedVariables false
set_option linter.unusedSimpArgs false
set_option maxRecDepth 100000
set_option maxHeartbeats 4000000
open Go.RowKit
abbrev BT:TypeId:=102
abbrev BU:TypeId:=5
theorem VRs_nI {im H w}:∀ {l:List Int} {vs:List Value},VRs im H w (cat (nI .u8) l) vs→vs=l.map (.int .u8 ·)
  | [],[],_=>rfl
  | [],_::_,h=>h.elim
  | _::_,[],h=>h.elim
  | x::r,v::vs,h=>by
    have h1:v=.int .u8 x:=h.1
    have h2:VRs im H w (cat (nI .u8) r) vs:=h.2
    rw [VRs_nI h2,h1]; rfl
/-- A builder's own block, in the machine's memory. -/
theorem bld_row {ρ:Nat→Nat} {G:Hp→Hp} {z:Bool} {v:Nat} {l:List Int} (hE:Emb ρ G 2) {im:Im} {w:World} (hr:Rel im (G (Bld BT BU z v l)) w) {cargs:List Value} (ha:VRs im (G (Bld BT BU z v l)) w (rns ρ [.ptr 1 0 0]) cargs) :
    ∃ g arr fr c0 c1,cargs=[.pointer (some ⟨g,0,none⟩)]∧im (ρ 1)=some g∧w.heap[g]? = some (.cells arr BT fr)∧arr.size=2∧(∀ j,j < arr.size→¬ (fr.1≤j∧j < fr.2))∧arr[0]? = some c0∧arr[1]? = some c1 ∧
      VR im (G (Bld BT BU z v l)) w (sp z (ρ 1) 0) c0∧VR im (G (Bld BT BU z v l)) w (.ref (ρ 0) v 0 l.length) c1:=by
  have hb1:=hE.get (Bld BT BU z v l) 1 ⟨0,.bld BT,1,[sp z 1 0,.ref 0 v 0 l.length]⟩ (Nat.le_refl _) rfl
  have hrow:=hr.row _ _ hb1 (by simp [Blk.rn])
  cases hg:im (ρ 1) with
  | none =>
    rw [hg] at hrow
    rcases hrow.1 with h | ⟨u,h⟩ <;> simp [Blk.rn] at h
  | some g =>
    rw [hg] at hrow
    obtain ⟨arr,t,fr,vs,h1,h2,h3,h4,h5⟩:=hrow
    obtain ⟨rfl,hsz⟩:=h5.1 BT rfl
    have e:(Blk.rn ρ ⟨0,.bld BT,1,[sp z 1 0,.ref 0 v 0 l.length]⟩).cs=[sp z (ρ 1) 0,.ref (ρ 0) v 0 l.length]:=by
      simp only [Blk.rn,rns,V.rn]; cases z <;> rfl
    rw [e] at h4
    match vs,h4 with
    | [c0,c1],h4 =>
      match cargs,ha with
      | [c],ha =>
        obtain ⟨⟨_,B',hB',_,hp⟩,_⟩:=ha
        rw [hb1] at hB'; injection hB' with hB'; subst hB'
        obtain ⟨g',hg',rfl⟩:=hp rfl (by simp [Blk.rn])
        rw [hg] at hg'; injection hg' with hg'; subst hg'
        exact ⟨g,arr,fr,c0,c1,rfl,rfl,h1,hsz,h2,h3 0 c0 rfl,h3 1 c1 rfl,h4.1,h4.2.1⟩
theorem cell_at {w:World} {g:Nat} {arr:Array Value} {t:TypeId} {fr:Nat × Nat} (h:w.heap[g]? = some (.cells arr t fr)) {j:Nat} {v:Value} (hv:arr[j]? = some v):w.cell? ⟨g,j,none⟩=some v:=by
  simp only [World.cell?,h]; exact hv
theorem frozen_at {w:World} {g:Nat} {arr:Array Value} {t:TypeId} {fr:Nat × Nat} (h:w.heap[g]? = some (.cells arr t fr)) (hf:∀ j,j < arr.size→¬ (fr.1≤j∧j < fr.2)) {j:Nat} (hj:j < arr.size):w.frozen? ⟨g,j,none⟩=false:=by
  have:=hf j hj
  simp only [World.frozen?,h]
  simp only [not_and,Nat.not_lt] at this
  rcases Nat.lt_or_ge j fr.1 with h' | h'
  · simp; omega
  · have:=this h'; simp; omega
theorem cc_con (z:Bool) (v:Nat) (l:List Int):ConL Tryz.prog 67 [.ptr 1 0 0] (Bld BT BU z v l) (.tup []) (Bld BT BU false v l):=by
  refine ⟨by simp [Bld],fun ρ G hE => ?_⟩
  intro im w cargs hr ha
  rw [CallsD.st (by rfl)]
  have hE2:Emb ρ G 2:=hE
  obtain ⟨g,arr,fr,c0,c1,rfl,hg,h1,hsz,h2,a0,a1,v0,v1⟩:=bld_row hE2 hr ha
  have hb1:=hE.get (Bld BT BU z v l) 1 ⟨0,.bld BT,1,[sp z 1 0,.ref 0 v 0 l.length]⟩ (Nat.le_refl _) rfl
  cases z with
  | false =>
    have v0:VR im (G (Bld BT BU false v l)) w (.ptr (ρ 1) 0 0) c0:=v0
    obtain ⟨_,B',hB',_,hp⟩:=v0
    rw [hb1] at hB'; injection hB' with hB'; subst hB'
    obtain ⟨g',hg',rfl⟩:=hp rfl (by simp [Blk.rn])
    rw [hg] at hg'; injection hg' with hg'; subst hg'
    refine (cc_used g w (cell_at h1 a0)).mono ?_
    rintro e w' ⟨rfl,rfl⟩
    exact ⟨im,_,rfl,hr,Ext.refl _ _ _,#[],rfl,trivial⟩
  | true =>
    have v0:c0=.pointer none:=v0
    subst v0
    refine (cc_fresh g w (cell_at h1 a0) (by simp [World.shape?,h1,hsz]) (frozen_at h1 h2 (by omega))).mono ?_
    rintro e w' ⟨rfl,rfl⟩
    have hset:=hE.set (Bld BT BU true v l) 1 ⟨0,.bld BT,1,[.ptr 1 0 0,.ref 0 v 0 l.length]⟩ (Nat.le_refl _) (by simp [Bld])
    have hset':(G (Bld BT BU true v l)).set (ρ 1) ⟨0,.bld BT,1,[.ptr (ρ 1) 0 0,.ref (ρ 0) v 0 l.length]⟩=G (Bld BT BU false v l):=hset
    obtain ⟨k1,k2⟩:=hr.write 0 [.pointer (some ⟨g,0,none⟩)] ⟨0,.bld BT,1,[.ptr (ρ 1) 0 0,.ref (ρ 0) v 0 l.length]⟩ hb1 (by simp [Blk.rn]) hg h1 h2 (Nat.le_refl _) rfl rfl [.pointer (some ⟨g,0,none⟩),c1] (by
      intro j x hj
      have e:wr arr 0 [.pointer (some ⟨g,0,none⟩)]=arr.setIfInBounds 0 (.pointer (some ⟨g,0,none⟩)):=rfl
      rw [e,Array.getElem?_setIfInBounds]
      match j,hj with
      | 0,hj=>rw [if_pos rfl,if_pos (by omega)]; exact hj
      | 1,hj=>simp at hj; subst hj; simpa using a1) ⟨⟨rfl,_,hb1,Nat.le_refl _,fun _ _=>⟨g,hg,rfl⟩⟩,v1,trivial⟩
    rw [hset'] at k1 k2
    exact ⟨im,_,rfl,k1,k2,#[],rfl,trivial⟩
theorem freeze_keep (w:World) (g n k:Nat) (h:k ≠ g):((w.drew).freeze ⟨g,0,none⟩ n).heap[k]? = w.heap[k]? := by
  unfold World.freeze
  split
  · rfl
  · simp only [Array.getElem?_modify]
    rw [if_neg (by omega)]; rfl
theorem freeze_size (w:World) (g n:Nat):((w.drew).freeze ⟨g,0,none⟩ n).heap.size=w.heap.size:=by
  unfold World.freeze
  split
  · rfl
  · simp
theorem freeze_os (w:World) (g n:Nat):((w.drew).freeze ⟨g,0,none⟩ n).os=w.os∧((w.drew).freeze ⟨g,0,none⟩ n).tape=w.tape∧((w.drew).freeze ⟨g,0,none⟩ n).output=w.output:=by
  unfold World.freeze
  split <;> exact ⟨rfl,rfl,rfl⟩
theorem str_con (z:Bool) (v:Nat) (l:List Int) (hB:bytesB l=true):ConL Tryz.prog 48 [.ptr 1 0 0] (Bld BT BU z v l) (.s (.string (bs l))) (BldD BT BU z v l.length):=by
  refine ⟨by simp [Bld,BldD],fun ρ G hE => ?_⟩
  intro im w cargs hr ha
  rw [CallsD.st (by rfl)]
  have hE2:Emb ρ G 2:=hE
  obtain ⟨g,arr,fr,c0,c1,rfl,hg,h1,hsz,h2,a0,a1,v0,v1⟩:=bld_row hE2 hr ha
  have hb0:=hE.get (Bld BT BU z v l) 0 ⟨v,.buf BU,1,cat (nI .u8) l⟩ (Nat.le_refl _) rfl
  have hset:=hE.set (Bld BT BU z v l) 0 ⟨v,.dead,1,[]⟩ (Nat.le_refl _) (by simp [Bld])
  have hset':(G (Bld BT BU z v l)).set (ρ 0) ⟨v,.dead,1,[]⟩=G (BldD BT BU z v l.length):=hset
  have hd0:(Blk.rn ρ ⟨v,.buf BU,1,cat (nI .u8) l⟩).kind ≠ .dead:=by simp [Blk.rn]
  obtain ⟨_,B',hB',_,hp⟩:=v1
  rw [hb0] at hB'; injection hB' with hB'; subst hB'
  obtain ⟨A,cap,rfl,hn,hm,hcase⟩:=hp rfl hd0
  have c1:=cell_at h1 a1
  have hrow:=hr.row _ _ hb0 hd0
  have fin0:∀ (w':World),l=[]→w'.os=w.os→w'.tape=w.tape→w'.output=w.output→w.heap.size≤w'.heap.size→(∀ k,k < w.heap.size→w'.heap[k]? = w.heap[k]?)→∃ im' c,Ending.returned (Value.string ⟨#[]⟩)=.returned c∧Rel im' (G (BldD BT BU z v l.length)) w'∧Ext im (G (Bld BT BU z v l)) w im' (G (BldD BT BU z v l.length)) w'∧VR im' (G (BldD BT BU z v l.length)) w' ((V.s (.string (bs l))).rn ρ) c:=by
    intro w' hl e1 e2 e3 e4 e5
    obtain ⟨d1,d2⟩:=hr.grow e4 e5 e1 e2 e3
    have hk:∃ im',Rel im' ((G (Bld BT BU z v l)).set (ρ 0) ⟨v,.dead,1,[]⟩) w'∧Ext im (G (Bld BT BU z v l)) w' im' ((G (Bld BT BU z v l)).set (ρ 0) ⟨v,.dead,1,[]⟩) w':=by
      cases hg0:im (ρ 0) with
      | none=>exact ⟨im,d1.killNone hb0 hd0 hg0 ⟨v,.dead,1,[]⟩ rfl (Nat.le_refl _)⟩
      | some g0=>exact ⟨im,d1.kill hb0 hd0 hg0 ⟨v,.dead,1,[]⟩ rfl (Nat.le_refl _) rfl rfl rfl (Nat.le_refl _) (fun _ _ _=>rfl)⟩
    obtain ⟨im',k1,k2⟩:=hk
    rw [hset'] at k1 k2
    exact ⟨im',_,rfl,k1,d2.trans k2,by subst hl; rfl⟩
  by_cases hl:l=[]
  · subst hl
    have hn0:([]:List Int).length=0:=rfl
    rcases hcase with ⟨rfl,hA⟩ | ⟨g0,hg0,rfl,hz⟩
    · cases A with
      | none =>
        refine (str_nil g w c1).mono ?_
        rintro e w' ⟨rfl,rfl⟩
        exact fin0 _ rfl rfl rfl rfl (Nat.le_refl _) (fun _ _=>rfl)
      | some a =>
        have hg0:=hA a rfl
        rw [hg0] at hrow
        obtain ⟨arr0,t0,fr0,vs0,r1,_⟩:=hrow
        refine (str_row00 g a w c1 (t0,arr0.size) (by simp [World.shape?,r1])).mono ?_
        rintro e w' ⟨rfl,rfl⟩
        exact fin0 _ rfl rfl rfl rfl (by rw [alloc_size]; show w.heap.size≤w.heap.size+1; omega) (fun k hk=>by rw [alloc_heap,if_neg (by show ¬ k=w.heap.size; omega)]; rfl)
    · by_cases hc0:cap=0
      · subst hc0
        rw [hg0] at hrow
        obtain ⟨arr0,t0,fr0,vs0,r1,_⟩:=hrow
        refine (str_row00 g ⟨g0,0,none⟩ w c1 (t0,arr0.size) (by simp [World.shape?,r1])).mono ?_
        rintro e w' ⟨rfl,rfl⟩
        exact fin0 _ rfl rfl rfl rfl (by rw [alloc_size]; show w.heap.size≤w.heap.size+1; omega) (fun k hk=>by rw [alloc_heap,if_neg (by show ¬ k=w.heap.size; omega)]; rfl)
      · refine (str_row0 g cap ⟨g0,0,none⟩ hc0 w c1).mono ?_
        rintro e w' ⟨rfl,rfl⟩
        exact fin0 _ rfl rfl rfl rfl (Nat.le_refl _) (fun _ _=>rfl)
  · have hpos:0 < l.length:=List.length_pos_iff.2 hl
    rcases hcase with ⟨h0,_⟩ | ⟨g0,hg0,rfl,hz⟩
    · omega
    · rw [hg0] at hrow
      obtain ⟨arr0,t0,fr0,vs0,r1,r2,r3,r4,r5⟩:=hrow
      have ht:=r5.2 BU rfl
      subst ht
      have e:(Blk.rn ρ ⟨v,.buf BU,1,cat (nI .u8) l⟩).cs=cat (nI .u8) l:=rns_stat _ _ (cat_stat _)
      rw [e] at r4
      have hvs:=VRs_nI r4
      subst hvs
      have hlen:(l.map fun b:Int=>UInt8.ofNat b.toNat).length=l.length:=List.length_map _
      have hsize:l.length≤arr0.size:=by
        have hz':0+cap*1≤rowSize w g0:=hz
        unfold rowSize at hz'; rw [r1] at hz'; simp at hz'; omega
      refine (str_some g g0 cap (l.map fun b:Int=>UInt8.ofNat b.toNat) (by simpa using hl) w (by rw [hlen]; exact c1) (by rw [hlen]; exact hn) hm arr0.size (by simp [World.shape?,r1]) (by rw [hlen]; exact hsize) ?_).mono ?_
      · intro j x hx
        rw [List.getElem?_map] at hx
        obtain ⟨b,hb,rfl⟩:=Option.map_eq_some_iff.1 hx
        have hbr:=bytesB_iff.1 hB b (List.mem_of_getElem? hb)
        have hbn:((UInt8.ofNat b.toNat).toNat:Int)=b:=by simp [UInt8.toNat_ofNat]; omega
        rw [add_plain',hbn]
        refine cell_at r1 ?_
        rw [Nat.zero_add]
        exact r3 j _ (by rw [List.getElem?_map,hb]; rfl)
      · rintro e w' ⟨rfl,rfl⟩
        rw [hlen]
        obtain ⟨o1,o2,o3⟩:=freeze_os w g0 l.length
        obtain ⟨k1,k2⟩:=hr.kill (w':=(w.drew).freeze ⟨g0,0,none⟩ l.length) hb0 hd0 hg0 ⟨v,.dead,1,[]⟩ rfl (Nat.le_refl _) o1 o2 o3 (by rw [freeze_size]; exact Nat.le_refl _) (fun k _ hk=>freeze_keep w g0 l.length k hk)
        rw [hset'] at k1 k2
        exact ⟨im,_,rfl,k1,k2,rfl⟩
end Go.Proofs.YtfcegejpdlbkdaaGreatK
