/- Builders: room is made in one that is empty. -/
import Derived.Test.YtfcegejpdlbkdaaGreatSc
import Derived.Lib.MakeNoZero
import Derived.Laws.IdiomCopy
namespace Go.Proofs.YtfcegejpdlbkdaaGreatK
set_option linter.unusedVariables false
set_option linter.unusedSimpArgs false
set_option maxRecDepth 1000000
set_option maxHeartbeats 4000000
open Go.RowKit
/-- A block is told anew; the machine's memory stays. -/
theorem Rel.same {im H w} (h:Rel im H w) {b:Nat} {B:Blk} (hB:H[b]? = some B) (hd:B.kind ≠ .dead) (B':Blk) (hk:B'.kind=B.kind) (hs:B'.sz=B.sz) (hv:B.ver≤B'.ver)
    (hrow:match im b with
    | none=>(B'.kind=.grow∨∃ u,B'.kind=.buf u)∧B'.cs=[]
    | some g=>∃ (arr:Array Value) (t:TypeId) (fr:Nat × Nat) (vs:List Value),w.heap[g]? = some (.cells arr t fr)∧(∀ j,j < arr.size→¬ (fr.1≤j∧j < fr.2))∧(∀ (j:Nat) (v:Value),vs[j]? = some v→arr[j]? = some v)∧VRs im H w B'.cs vs∧bldOk B'.kind t arr.size) :
    Rel im (H.set b B') w∧Ext im H w im (H.set b B') w:=by
  have hb:b < H.length:=(List.getElem?_eq_some_iff.1 hB).1
  have hset:∀ x,(H.set b B')[x]? = if x=b then some B' else H[x]? := by
    intro x
    rw [List.getElem?_set]
    by_cases e:b=x
    · subst e; simp [hb]
    · rw [if_neg e,if_neg (by omega)]
  have hold:∀ (y:Nat) (Y:Blk),(H.set b B')[y]? = some Y→Y.kind ≠ .dead→∃ Y0:Blk,H[y]? = some Y0∧Y0.kind ≠ .dead:=by
    intro y Y hY hYd
    rw [hset] at hY
    by_cases e:y=b
    · exact ⟨B,e ▸ hB,hd⟩
    · rw [if_neg e] at hY; exact ⟨Y,hY,hYd⟩
  have hx:Ext im H w im (H.set b B') w:=by
    refine ⟨rfl,rfl,rfl,Nat.le_refl _,by simp,fun g' hg' ho=>⟨rfl,fun hn=>ho ?_⟩,fun x X X' hX hX' => ?_⟩
    · obtain ⟨x,X,h1,h2,h3⟩:=hn
      obtain ⟨Y,k1,k2⟩:=hold x X h1 h2
      exact ⟨x,Y,k1,k2,h3⟩
    · rw [hset] at hX'
      by_cases e:x=b
      · subst e
        rw [if_pos rfl] at hX'; injection hX' with hX'; subst hX'
        rw [hB] at hX; injection hX with hX; subst hX
        exact ⟨hv,fun _ _=>⟨hd,rfl,hs,fun _ _=>rfl⟩⟩
      · rw [if_neg e,hX] at hX'; injection hX' with hX'; subst hX'
        exact ⟨Nat.le_refl _,fun _ hd'=>⟨hd',rfl,rfl,fun _ _=>rfl⟩⟩
  refine ⟨⟨fun x X hX hXd => ?_,fun x x' X X' g' hX hX' hXd hXd' hi hi' => ?_,h.glob.ext hx⟩,hx⟩
  · rw [hset] at hX
    by_cases e:x=b
    · subst e
      rw [if_pos rfl] at hX; injection hX with hX; subst hX
      cases hgx:im x with
      | none=>rw [hgx] at hrow; exact hrow
      | some gx =>
        rw [hgx] at hrow
        obtain ⟨arr',t',fr',vs',h1,h2,h3,h4⟩:=hrow
        exact ⟨arr',t',fr',vs',h1,h2,h3,VRs.ext hx _ _ h4.1,h4.2⟩
    · rw [if_neg e] at hX
      have:=h.row x X hX hXd
      cases hgx:im x with
      | none=>rw [hgx] at this; exact this
      | some gx =>
        rw [hgx] at this
        obtain ⟨arr',t',fr',vs',h1,h2,h3,h4⟩:=this
        exact ⟨arr',t',fr',vs',h1,h2,h3,VRs.ext hx _ _ h4.1,h4.2⟩
  · obtain ⟨Y,k1,k2⟩:=hold x X hX hXd
    obtain ⟨Y',k1',k2'⟩:=hold x' X' hX' hXd'
    exact h.inj x x' Y Y' g' k1 k1' k2 k2' hi hi'
theorem grow_walk (b n cap:Nat) (A:Option Addr) (arr:Array Value) (fr:Nat × Nat) (w:World) (hbk:w.heap[b]? = some (.cells arr BT fr)) (h1:arr[1]? = some (.slice A 0 cap)) (hfr:¬ (fr.1≤1∧1 < fr.2)) (hn:2*cap+n≤281474976710656) :
    Calls Tryz.prog 68 #[.pointer (some ⟨b,0,none⟩),.int .i64 n] w fun e w'=>e=.returned (.tuple #[])∧∃ cs:Array Value,cs.size≤maxLen ∧
      w'.heap=((w.alloc (.cells cs BU)).setCell ⟨b,1,none⟩ (.slice (some ⟨w.heap.size,0,none⟩) 0 cs.size)).heap∧w'.os=w.os∧w'.tape=w.tape∧w'.output=w.output:=by
  obtain ⟨cs,hrun,hle,hmax⟩:=Lib.run_makeNoZero (P:=Tryz.prog) w.drew #[3] 22 BU Tryz.underlying22 (2*cap+n) hn
  have hw:IntKind.i64.wrap (IntKind.i64.wrap (2*(cap:Int))+(n:Int))=((2*cap+n:Nat):Int):=by
    rw [IntKind.wrap_i64,IntKind.wrap_i64]
    omega
  have hcall:(callFunc 90 #[.int .i64 (IntKind.i64.wrap (IntKind.i64.wrap (2*(cap:Int))+(n:Int)))]).run Tryz.prog w.drew=.ok (.value (.slice (some ⟨w.drew.heap.size,0,none⟩) (2*cap+n) cs.size)) (w.drew.drew.drew.alloc (.cells cs BU)):=by
    rw [hw,run_callFunc_extern Tryz.func90 (by kernel_rfl) (by kernel_rfl) (by kernel_rfl) (e:=Extern.BytealgMakeNoZero.makeNoZero #[3] #[22]) (by kernel_rfl),hrun]
    rfl
  have hlt:b < w.heap.size:=by
    rcases Nat.lt_or_ge b w.heap.size with h' | h'
    · exact h'
    · simp [Array.getElem?_eq_none h'] at hbk
  have c1:w.drew.cell? ⟨b,1,none⟩=some (.slice A 0 cap):=cell_at (w:=w.drew) hbk h1
  have hbk2:(w.alloc (.cells cs BU)).heap[b]? = some (.cells arr BT fr):=by rw [alloc_heap,if_neg (by omega)]; exact hbk
  have c2:(w.alloc (.cells cs BU)).cell? ⟨b,1,none⟩=some (.slice A 0 cap):=cell_at hbk2 h1
  have f2:(w.alloc (.cells cs BU)).frozen? ⟨b,1,none⟩=false:=by
    simp only [World.frozen?,hbk2]
    simp only [not_and,Nat.not_lt] at hfr
    rcases Nat.lt_or_ge 1 fr.1 with h' | h'
    · simp; omega
    · have:=hfr h'; simp; omega
  have hcopy:∀ W:World,(Builtin.copy_ #[22,22] 3 #[.slice (some ⟨w.heap.size,0,none⟩) 0 cs.size,.slice A 0 cap]).run Tryz.prog W=.ok (goInt 0) W :=
    fun W=>run_copy_none W 22 22 3 BU _ _ 0 cs.size 0 cap Tryz.underlying22 (by kernel_rfl) rfl
  have hm:cs.size≤maxLen:=hmax (by unfold maxLen; omega)
  clear hw
  have mixed:Tryz.prog.follows .mixedOrders=true:=by kernel_rfl
  go_enter Tryz.func68,Tryz.ntmps68
  go_wp2
  go_region_o
  all_goals (go_wp2; go_end0; exact ⟨rfl,cs,hm,by rw [World.setCell_alloc_past _ _ _ _ hlt]; rfl,rfl,rfl,rfl⟩)
theorem Grow_con (z:Bool) (v:Nat) (n:Int) (hn:0≤n∧n≤70368744177664) :
    ConL Tryz.prog 45 [.ptr 1 0 0,.s (.int .i64 n)] (Bld BT BU z v []) (.tup []) (Bld BT BU false (v+1) []):=by
  refine ⟨by simp [Bld],fun ρ G hE => ?_⟩
  intro im w cargs hr ha
  rw [CallsD.st (by rfl)]
  have hE2:Emb ρ G 2:=hE
  match cargs,ha with
  | [c,d],ha =>
  obtain ⟨b1,b2,_⟩:=ha
  have b2:d=.int .i64 n:=b2
  subst b2
  have ha1:VRs im (G (Bld BT BU z v [])) w (rns ρ [.ptr 1 0 0]) [c]:=⟨b1,trivial⟩
  obtain ⟨g,_,_,_,_,hc,hg,_⟩:=bld_row hE2 hr ha1
  obtain rfl:c=.pointer (some ⟨g,0,none⟩):=by simpa using hc
  obtain ⟨k,rfl⟩:∃ k:Nat,n=k:=⟨n.toNat,by omega⟩
  have CC:=(cc_con z v []).2 ρ G hE im w [.pointer (some ⟨g,0,none⟩)] hr ha1
  rw [CallsD.st (by rfl)] at CC
  have mixed:Tryz.prog.follows .mixedOrders=true:=by kernel_rfl
  obtain ⟨Post,hPost⟩:∃ Post:World→Prop,Post=fun w1=>∃ im1,Rel im1 (G (Bld BT BU false v [])) w1∧Ext im (G (Bld BT BU z v [])) w im1 (G (Bld BT BU false v [])) w1:=⟨_,rfl⟩
  have CC':Calls Tryz.prog 67 #[.pointer (some ⟨g,0,none⟩)] w fun e w1=>e=.returned (.tuple #[])∧Post w1:=by
    refine Calls.mono CC ?_
    rintro e w1 ⟨im1,c',rfl,hr1,hx1,hv1⟩
    obtain ⟨vs,rfl,h⟩:=hv1
    rw [hPost]
    rcases vs with ⟨_ | ⟨x,r⟩⟩
    · exact ⟨rfl,im1,hr1,hx1⟩
    · exact h.elim
  go_enter Tryz.func45,Tryz.ntmps45
  go_wp2_with (go_at_call 67; refine Calls.mono CC' ?_; rintro e w1 ⟨rfl,hP⟩)
  rw [hPost] at hP
  obtain ⟨im1,hr1,hx1⟩:=hP
  have ha2:VRs im1 (G (Bld BT BU false v [])) w1 (rns ρ [.ptr 1 0 0]) [.pointer (some ⟨g,0,none⟩)]:=VRs.ext hx1 _ _ ha1
  obtain ⟨g1,arr,fr,c0,c1,e1,hg1,h1,hsz,h2,a0,a1,v0,v1⟩:=bld_row hE2 hr1 ha2
  obtain rfl:g=g1:=by simpa using e1
  have hb0:=hE.get (Bld BT BU false v []) 0 ⟨v,.buf BU,1,[]⟩ (Nat.le_refl _) rfl
  have hb1:=hE.get (Bld BT BU false v []) 1 ⟨0,.bld BT,1,[.ptr 1 0 0,.ref 0 v 0 0]⟩ (Nat.le_refl _) rfl
  have hd0:(Blk.rn ρ ⟨v,.buf BU,1,[]⟩).kind ≠ .dead:=by simp [Blk.rn]
  have hd1:(Blk.rn ρ ⟨0,.bld BT,1,[.ptr 1 0 0,.ref 0 v 0 0]⟩).kind ≠ .dead:=by simp [Blk.rn]
  have hne:ρ 1 ≠ ρ 0:=fun e=>by
    rw [e,hb0] at hb1
    injection hb1 with hb1
    simp [Blk.rn] at hb1
  have v1':=v1
  obtain ⟨_,B',hB',_,hp⟩:=v1'
  have hB0:(G (Bld BT BU false v []))[ρ 0]? = some ⟨v,.buf BU,1,[]⟩:=hb0
  rw [hB0] at hB'; injection hB' with hB'; subst hB'
  obtain ⟨A,cap,rfl,hn',hm,hcase⟩:=hp rfl (by simp)
  have hm':cap≤9223372036854775807:=by unfold maxLen at hm; omega
  have hwc:wrap64 (cap:Int)=cap:=by unfold wrap64; omega
  have q1:=cell_at h1 a1
  have q1':w1.drew.cell? ⟨g,1,none⟩=some (.slice A 0 cap):=q1
  have hset0:(G (Bld BT BU false v [])).set (ρ 0) ⟨v+1,.buf BU,1,[]⟩=G [⟨v+1,.buf BU,1,[]⟩,⟨0,.bld BT,1,[.ptr 1 0 0,.ref 0 v 0 0]⟩]:=hE.set (Bld BT BU false v []) 0 ⟨v+1,.buf BU,1,[]⟩ (Nat.le_refl _) (by simp [Bld])
  have hset1:(G [⟨v+1,.buf BU,1,[]⟩,⟨0,.bld BT,1,[.ptr 1 0 0,.ref 0 v 0 0]⟩]).set (ρ 1) ⟨0,.bld BT,1,[.ptr (ρ 1) 0 0,.ref (ρ 0) (v+1) 0 0]⟩=G (Bld BT BU false (v+1) []):=hE.set [⟨v+1,.buf BU,1,[]⟩,⟨0,.bld BT,1,[.ptr 1 0 0,.ref 0 v 0 0]⟩] 1 ⟨0,.bld BT,1,[.ptr 1 0 0,.ref 0 (v+1) 0 0]⟩ (Nat.le_refl _) (by simp)
  have hb1s:(G [⟨v+1,.buf BU,1,[]⟩,⟨0,.bld BT,1,[.ptr 1 0 0,.ref 0 v 0 0]⟩])[ρ 1]? = some ⟨0,.bld BT,1,[.ptr (ρ 1) 0 0,.ref (ρ 0) v 0 0]⟩:=hE.get [⟨v+1,.buf BU,1,[]⟩,⟨0,.bld BT,1,[.ptr 1 0 0,.ref 0 v 0 0]⟩] 1 ⟨0,.bld BT,1,[.ptr 1 0 0,.ref 0 v 0 0]⟩ (Nat.le_refl _) rfl
  have hb0s:(G [⟨v+1,.buf BU,1,[]⟩,⟨0,.bld BT,1,[.ptr 1 0 0,.ref 0 v 0 0]⟩])[ρ 0]? = some ⟨v+1,.buf BU,1,[]⟩:=hE.get [⟨v+1,.buf BU,1,[]⟩,⟨0,.bld BT,1,[.ptr 1 0 0,.ref 0 v 0 0]⟩] 0 ⟨v+1,.buf BU,1,[]⟩ (Nat.le_refl _) rfl
  have fin0:∀ w':World,w'.heap=w1.heap→w'.os=w1.os→w'.tape=w1.tape→w'.output=w1.output→∃ im' c,Ending.returned (Value.tuple #[])=.returned c∧Rel im' (G (Bld BT BU false (v+1) [])) w'∧Ext im (G (Bld BT BU z v [])) w im' (G (Bld BT BU false (v+1) [])) w'∧VR im' (G (Bld BT BU false (v+1) [])) w' ((V.tup []).rn ρ) c:=by
    intro w' e1 e2 e3 e4
    obtain ⟨r1,x1⟩:=hr1.grow (w':=w') (by rw [e1]; exact Nat.le_refl _) (fun k _=>by rw [e1]) e2 e3 e4
    have hrow0:=r1.row _ _ hB0 (by simp)
    obtain ⟨r2,x2⟩:=r1.same hB0 (by simp) ⟨v+1,.buf BU,1,[]⟩ rfl rfl (Nat.le_succ _) hrow0
    rw [hset0] at r2 x2
    obtain ⟨r3,x3⟩:=r2.same hb1s (by simp) ⟨0,.bld BT,1,[.ptr (ρ 1) 0 0,.ref (ρ 0) (v+1) 0 0]⟩ rfl rfl (Nat.le_refl _) (by
      rw [hg1]
      refine ⟨arr,BT,fr,[c0,.slice A 0 cap],by rw [e1]; exact h1,h2,?_,⟨VR.ext x2 _ _ (VR.ext x1 _ _ v0),⟨rfl,_,hb0s,Nat.le_refl _,fun _ _=>⟨A,cap,rfl,hn',hm,?_⟩⟩,trivial⟩,⟨fun u hu=>by injection hu with hu; exact ⟨hu,hsz⟩,nofun⟩⟩
      · intro j x hj
        match j,hj with
        | 0,hj=>simp at hj; subst hj; exact a0
        | 1,hj=>simp at hj; subst hj; exact a1
      · rcases hcase with h | ⟨g',q1,q2,q3⟩
        · exact .inl h
        · refine .inr ⟨g',q1,q2,?_⟩
          have:rowSize w' g'=rowSize w1 g':=by unfold rowSize; rw [e1]
          rw [this]; exact q3)
    rw [hset1] at r3 x3
    exact ⟨im1,_,rfl,r3,((hx1.trans x1).trans x2).trans x3,#[],rfl,trivial⟩
  have fin1:∀ (w':World) (cs:Array Value),cs.size≤maxLen→w'.heap=((w1.alloc (.cells cs BU)).setCell ⟨g,1,none⟩ (.slice (some ⟨w1.heap.size,0,none⟩) 0 cs.size)).heap→w'.os=w1.os→w'.tape=w1.tape→w'.output=w1.output →
      ∃ im' c,Ending.returned (Value.tuple #[])=.returned c∧Rel im' (G (Bld BT BU false (v+1) [])) w'∧Ext im (G (Bld BT BU z v [])) w im' (G (Bld BT BU false (v+1) [])) w'∧VR im' (G (Bld BT BU false (v+1) [])) w' ((V.tup []).rn ρ) c:=by
    intro w' cs hcs f1 f2 f3 f4
    obtain ⟨r2,x2⟩:=hr1.move ⟨v+1,.buf BU,1,[]⟩ cs BU hB0 (by simp) (Nat.lt_succ_self _) (by simp) [] (fun j x hj=>by simp at hj) trivial ⟨nofun,fun u hu=>by injection hu⟩
    rw [hset0] at r2 x2
    have hlt:g < w1.heap.size:=(Array.getElem?_eq_some_iff.1 h1).1
    have hW:(w1.alloc (.cells cs BU)).heap[g]? = some (.cells arr BT fr):=by rw [alloc_heap,if_neg (by omega)]; exact h1
    have hi1:imNew im1 (ρ 0) w1.heap.size (ρ 1)=some g:=by unfold imNew; rw [if_neg hne]; exact hg1
    have hi0:imNew im1 (ρ 0) w1.heap.size (ρ 0)=some w1.heap.size:=by unfold imNew; rw [if_pos rfl]
    obtain ⟨r4,x4⟩:=r2.write 1 [.slice (some ⟨w1.heap.size,0,none⟩) 0 cs.size] ⟨0,.bld BT,1,[.ptr (ρ 1) 0 0,.ref (ρ 0) (v+1) 0 0]⟩ hb1s (by simp) hi1 hW h2 (Nat.le_refl _) rfl rfl [c0,.slice (some ⟨w1.heap.size,0,none⟩) 0 cs.size] (by
      intro j x hj
      have e:wr arr 1 [.slice (some ⟨w1.heap.size,0,none⟩) 0 cs.size]=arr.setIfInBounds 1 (.slice (some ⟨w1.heap.size,0,none⟩) 0 cs.size):=rfl
      rw [e,Array.getElem?_setIfInBounds]
      match j,hj with
      | 0,hj=>simp at hj; subst hj; simpa using a0
      | 1,hj=>rw [if_pos rfl,if_pos (by omega)]; exact hj) ⟨VR.ext x2 _ _ v0,⟨rfl,_,hb0s,Nat.le_refl _,fun _ _=>⟨_,_,rfl,Nat.zero_le _,hcs,.inr ⟨_,hi0,rfl,by unfold rowSize; rw [alloc_heap,if_pos rfl]; simp⟩⟩⟩,trivial⟩
    rw [hset1] at r4 x4
    obtain ⟨r5,x5⟩:=r4.grow (w':=w') (by rw [f1]; exact Nat.le_refl _) (fun k _=>by rw [f1]; rfl) f2 f3 f4
    exact ⟨_,_,rfl,r5,((hx1.trans x2).trans x4).trans x5,#[],rfl,trivial⟩
  go_region_o
  all_goals go_wp2_with (go_at_call 68; refine Calls.mono (grow_walk g k cap A arr fr w1.drew h1 a1 (h2 1 (by omega)) (by omega)) ?_; rintro e w' ⟨rfl,cs,p1,p2,p3,p4,p5⟩)
  all_goals first
    | (go_end0; exact fin1 w' cs p1 p2 p3 p4 p5)
    | (go_end0; exact fin0 _ rfl rfl rfl rfl)
end Go.Proofs.YtfcegejpdlbkdaaGreatK
