/- Builders: what they are over the abstract memory. -/
import Derived.Test.YtfcegejpdlbkdaaGreatRg
namespace Go.Proofs.YtfcegejpdlbkdaaGreatK
set_option linter.unusedVariables false
set_option linter.unusedSimpArgs false
open Go.RowKit
/-- A builder's own address, or nil. -/
def sp (z:Bool) (b ver:Nat):V:=bif z then .s (.pointer none) else .ptr b ver 0
theorem sp_rn {ρ:Nat→Nat} {z:Bool} {b b' ver:Nat} (h:ρ b=b'):RN ρ (sp z b ver) (sp z b' ver):=by subst h; cases z <;> rfl
def Bld (t u:TypeId) (z:Bool) (v:Nat) (l:List Int):Hp:=[⟨v,.buf u,1,cat (nI .u8) l⟩,⟨0,.bld t,1,[sp z 1 0,.ref 0 v 0 l.length]⟩]
/-- A builder whose text has been taken. -/
def BldD (t u:TypeId) (z:Bool) (v:Nat) (n:Nat):Hp:=[⟨v,.dead,1,[]⟩,⟨0,.bld t,1,[sp z 1 0,.ref 0 v 0 n]⟩]
def bytesB (l:List Int):Bool:=l.all fun x=>decide (0≤x∧x < 256)
theorem bytesB_iff {l:List Int}:bytesB l=true↔∀ x∈l,0≤x∧x < 256:=by simp [bytesB]
theorem Rel.kill {im H w w'} (h:Rel im H w) {b:Nat} {B:Blk} {g:Nat} (hB:H[b]? = some B) (hd:B.kind ≠ .dead) (hg:im b=some g) (B':Blk) (hk:B'.kind=.dead) (hv:B.ver≤B'.ver)
    (os:w'.os=w.os) (tape:w'.tape=w.tape) (output:w'.output=w.output) (hs:w.heap.size≤w'.heap.size) (keep:∀ k,k < w.heap.size→k ≠ g→w'.heap[k]? = w.heap[k]?) :
    Rel im (H.set b B') w'∧Ext im H w im (H.set b B') w':=by
  have hb:b < H.length:=(List.getElem?_eq_some_iff.1 hB).1
  have hset:∀ x,(H.set b B')[x]? = if x=b then some B' else H[x]? := by
    intro x
    rw [List.getElem?_set]
    by_cases e:b=x
    · subst e; simp [hb]
    · rw [if_neg e,if_neg (by omega)]
  have hold:∀ (y:Nat) (Y:Blk),(H.set b B')[y]? = some Y→Y.kind ≠ .dead→y ≠ b∧H[y]? = some Y:=by
    intro y Y hY hYd
    rw [hset] at hY
    by_cases e:y=b
    · rw [if_pos e] at hY; injection hY with hY; subst hY; exact absurd hk hYd
    · rw [if_neg e] at hY; exact ⟨e,hY⟩
  have hx:Ext im H w im (H.set b B') w':=by
    refine ⟨os,tape,output,hs,by simp,fun g' hg' ho => ?_,fun x X X' hX hX' => ?_⟩
    · refine ⟨keep g' hg' fun e=>ho ⟨b,B,hB,hd,e ▸ hg⟩,fun hn=>ho ?_⟩
      obtain ⟨x,X,h1,h2,h3⟩:=hn
      exact ⟨x,X,(hold x X h1 h2).2,h2,h3⟩
    · rw [hset] at hX'
      by_cases e:x=b
      · subst e
        rw [if_pos rfl] at hX'; injection hX' with hX'; subst hX'
        rw [hB] at hX; injection hX with hX; subst hX
        exact ⟨hv,fun _ k=>absurd hk k⟩
      · rw [if_neg e,hX] at hX'; injection hX' with hX'; subst hX'
        refine ⟨Nat.le_refl _,fun _ hd'=>⟨hd',rfl,rfl,fun g' hg' => ?_⟩⟩
        have hne:g' ≠ g:=fun e'=>e (h.inj x b X B g hX hB hd' hd (e' ▸ hg') hg)
        unfold rowSize
        rw [keep g' (h.lt hX hd' hg') hne]
  refine ⟨⟨fun x X hX hXd => ?_,fun x x' X X' g' hX hX' hXd hXd' hi hi' => ?_,h.glob.ext hx⟩,hx⟩
  · obtain ⟨e,hX⟩:=hold x X hX hXd
    have:=h.row x X hX hXd
    cases hgx:im x with
    | none=>rw [hgx] at this; exact this
    | some gx =>
      rw [hgx] at this
      obtain ⟨arr',t',fr',vs',h1,h2,h3,h4⟩:=this
      have hne:gx ≠ g:=fun e'=>e (h.inj x b X B g hX hB hXd hd (e' ▸ hgx) hg)
      exact ⟨arr',t',fr',vs',by rw [keep gx (h.lt hX hXd hgx) hne]; exact h1,h2,h3,VRs.ext hx _ _ h4.1,h4.2⟩
  · exact h.inj x x' X X' g' (hold x X hX hXd).2 (hold x' X' hX' hXd').2 hXd hXd' hi hi'
theorem Rel.killNone {im H w} (h:Rel im H w) {b:Nat} {B:Blk} (hB:H[b]? = some B) (hd:B.kind ≠ .dead) (hg:im b=none) (B':Blk) (hk:B'.kind=.dead) (hv:B.ver≤B'.ver) :
    Rel im (H.set b B') w∧Ext im H w im (H.set b B') w:=by
  have hb:b < H.length:=(List.getElem?_eq_some_iff.1 hB).1
  have hset:∀ x,(H.set b B')[x]? = if x=b then some B' else H[x]? := by
    intro x
    rw [List.getElem?_set]
    by_cases e:b=x
    · subst e; simp [hb]
    · rw [if_neg e,if_neg (by omega)]
  have hold:∀ (y:Nat) (Y:Blk),(H.set b B')[y]? = some Y→Y.kind ≠ .dead→y ≠ b∧H[y]? = some Y:=by
    intro y Y hY hYd
    rw [hset] at hY
    by_cases e:y=b
    · rw [if_pos e] at hY; injection hY with hY; subst hY; exact absurd hk hYd
    · rw [if_neg e] at hY; exact ⟨e,hY⟩
  have hx:Ext im H w im (H.set b B') w:=by
    refine ⟨rfl,rfl,rfl,Nat.le_refl _,by simp,fun g' hg' ho=>⟨rfl,fun hn=>ho ?_⟩,fun x X X' hX hX' => ?_⟩
    · obtain ⟨x,X,h1,h2,h3⟩:=hn
      exact ⟨x,X,(hold x X h1 h2).2,h2,h3⟩
    · rw [hset] at hX'
      by_cases e:x=b
      · subst e
        rw [if_pos rfl] at hX'; injection hX' with hX'; subst hX'
        rw [hB] at hX; injection hX with hX; subst hX
        exact ⟨hv,fun _ k=>absurd hk k⟩
      · rw [if_neg e,hX] at hX'; injection hX' with hX'; subst hX'
        exact ⟨Nat.le_refl _,fun _ hd'=>⟨hd',rfl,rfl,fun _ _=>rfl⟩⟩
  refine ⟨⟨fun x X hX hXd => ?_,fun x x' X X' g' hX hX' hXd hXd' hi hi' => ?_,h.glob.ext hx⟩,hx⟩
  · obtain ⟨e,hX⟩:=hold x X hX hXd
    have:=h.row x X hX hXd
    cases hgx:im x with
    | none=>rw [hgx] at this; exact this
    | some gx =>
      rw [hgx] at this
      obtain ⟨arr',t',fr',vs',h1,h2,h3,h4⟩:=this
      exact ⟨arr',t',fr',vs',h1,h2,h3,VRs.ext hx _ _ h4.1,h4.2⟩
  · exact h.inj x x' X X' g' (hold x X hX hXd).2 (hold x' X' hX' hXd').2 hXd hXd' hi hi'
end Go.Proofs.YtfcegejpdlbkdaaGreatK
