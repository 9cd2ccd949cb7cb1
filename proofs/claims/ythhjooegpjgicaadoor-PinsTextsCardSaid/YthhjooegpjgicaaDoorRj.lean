/- Places of bytes in strings; functions of values alone; builders in calls. -/
import Derived.Test.YthhjooegpjgicaaDoorRi
import Derived.Lib.Bytealg
namespace Go.Proofs.YthhjooegpjgicaaDoorK
set_option linter.unusedVariables false
set_option linter.unusedSimpArgs false
open Go.RowKit

/-- An element of a part of a slice. -/
theorem part_lt {α : Type} {l : List α} {a b : Nat} {i : Int} (h : a ≤ b ∧ b ≤ l.length) (c : 0 ≤ i ∧ i < ((b - a : Nat) : Int)) : 0 ≤ i ∧ i < ln (l.drop a) := by
  unfold ln
  rw [List.length_drop]
  omega

/-- The place of the first such byte; -1: there is none. -/
def ixB : List UInt8 → UInt8 → Int
  | [], _ => -1
  | b :: l, c => if b == c then 0 else if ixB l c == -1 then -1 else ixB l c + 1
theorem ixB_lib : ∀ (l : List UInt8) (c : UInt8), ixB l c = Lib.indexByte l c
  | [], _ => rfl
  | b :: l, c => by unfold ixB Lib.indexByte; rw [ixB_lib l c]
def oneByte {α : Type} (t : ByteArray) (f : UInt8 → α) : Option α := match t.data.toList with
  | [c] => some (f c)
  | _ => none
theorem one_byte {α : Type} {t : ByteArray} {f : UInt8 → α} {r : α} (h : oneByte t f = some r) : ∃ c, t = ⟨#[c]⟩ ∧ f c = r := by
  unfold oneByte at h
  split at h
  · rename_i c hc
    refine ⟨c, ?_, Option.some.inj h⟩
    obtain ⟨⟨x⟩⟩ := t
    simp at hc; subst hc; rfl
  · cases h
def internal_stringslite_IndexByte (s : ByteArray) (c : Int) : Option Int := some (ixB s.data.toList c.toNat.toUInt8)
def internal_stringslite_Index (s t : ByteArray) : Option Int := oneByte t fun c => ixB s.data.toList c
def strings_Count (s t : ByteArray) : Option Int := oneByte t fun c => ((s.data.toList.count c : Nat) : Int)

theorem VRs_lits {im H w} : ∀ {cs : List Value} {vs : List Value}, VRs im H w (cs.map V.s) vs → vs = cs
  | [], [], _ => rfl
  | [], _ :: _, h => h.elim
  | _ :: _, [], h => h.elim
  | x :: r, v :: vs, h => by
    have h1 : v = x := h.1
    have h2 : VRs im H w (r.map V.s) vs := h.2
    rw [h1, VRs_lits h2]
theorem rns_lits {ρ : Nat → Nat} : ∀ (cs : List Value), rns ρ (cs.map V.s) = cs.map V.s
  | [] => rfl
  | c :: r => by simp only [List.map_cons, rns, V.rn, rns_lits r]
/-- A function of values alone. -/
theorem Pure.val {P : Program} {m : FuncId} {cs : List Value} {v : Value} (h : ∀ w, Calls P m cs.toArray w fun e w' => e = .returned v ∧ w' = w) : Pure P m (cs.map V.s) (.s v) := by
  refine ⟨Nat.le_refl _, fun ρ G hE => ?_⟩
  intro im w cargs hr ha
  rw [rns_lits] at ha
  obtain rfl := VRs_lits ha
  refine (h w).mono ?_
  rintro e w' ⟨rfl, rfl⟩
  exact ⟨im, v, rfl, hr, Ext.refl _ _ _, rfl⟩

def BldAt (t u : TypeId) (z : Bool) (v : Nat) (l : List Int) (ib b : Nat) : Hp := [⟨v, .buf u, 1, cat (nI .u8) l⟩, ⟨0, .bld t, 1, [sp z b 0, .ref ib v 0 l.length]⟩]
theorem Bld.rn {ρ : Nat → Nat} {t u : TypeId} {z : Bool} {v ib b : Nat} {l : List Int} (h0 : ρ 0 = ib) (h1 : ρ 1 = b) : RBs ρ (Bld t u z v l) (BldAt t u z v l ib b) :=
  RBs.cons (RNs.stat (cat_stat _)) (RBs.cons (RNs.cons (sp_rn h1) (RNs.cons (RN.ref h0) RNs.nil)) RBs.nil)
def BldDAt (t : TypeId) (z : Bool) (v n : Nat) (ib b : Nat) : Hp := [⟨v, .dead, 1, []⟩, ⟨0, .bld t, 1, [sp z b 0, .ref ib v 0 n]⟩]
theorem BldD.rn {ρ : Nat → Nat} {t u : TypeId} {z : Bool} {v n ib b : Nat} (h0 : ρ 0 = ib) (h1 : ρ 1 = b) : RBs ρ (BldD t u z v n) (BldDAt t z v n ib b) :=
  RBs.cons RNs.nil (RBs.cons (RNs.cons (sp_rn h1) (RNs.cons (RN.ref h0) RNs.nil)) RBs.nil)
/-- A call that writes into a builder. -/
theorem CalL.bld {n0 : Nat} {P : Program} {m : FuncId} {xs : List Value} {t u : TypeId} {z z' : Bool} {v v' : Nat} {l l' : List Int} {r : V} {L L' : Hp} (ib b : Nat) (h : ConL P m (.ptr 1 0 0 :: xs.map V.s) (Bld t u z v l) r (Bld t u z' v' l'))
    (hb : (okSel [ib, b] L.length && Nat.ble n0 L.length) = true) (hr : r.static = true) (hL : setAll L [ib, b] (BldAt t u z v l ib b) = L) (hL' : setAll L [ib, b] (BldAt t u z' v' l' ib b) = L') : CalL n0 P m (.ptr b 0 0 :: xs.map V.s) L r L' := by
  simp only [Bool.and_eq_true] at hb
  exact CalL.borrow [ib, b] h (by simp only [hb.1, hb.2, Bool.and_true]; rfl) (RNs.cons (RN.ptr rfl) (rns_lits xs)) (RN.stat hr) (Bld.rn rfl rfl) (Bld.rn rfl rfl) hL hL'
/-- A call that takes a builder's text. -/
theorem CalL.bldD {n0 : Nat} {P : Program} {m : FuncId} {t u : TypeId} {z : Bool} {v : Nat} {l : List Int} {r : V} {L L' : Hp} (ib b : Nat) (h : ConL P m [.ptr 1 0 0] (Bld t u z v l) r (BldD t u z v l.length))
    (hb : (okSel [ib, b] L.length && Nat.ble n0 L.length) = true) (hr : r.static = true) (hL : setAll L [ib, b] (BldAt t u z v l ib b) = L) (hL' : setAll L [ib, b] (BldDAt t z v l.length ib b) = L') : CalL n0 P m [.ptr b 0 0] L r L' := by
  simp only [Bool.and_eq_true] at hb
  exact CalL.borrow [ib, b] h (by simp only [hb.1, hb.2, Bool.and_true]; rfl) (RNs.cons (RN.ptr rfl) RNs.nil) (RN.stat hr) (Bld.rn rfl rfl) (BldD.rn rfl rfl) hL hL'
theorem bld_under {n b ib v k : Nat} {z : Bool} (h : Nat.blt b n = true) (h' : Nat.blt ib n = true) : unders n [sp z b 0, .ref ib v 0 k] = true := by
  have h' := Nat.le_of_ble_eq_true h'
  simp only [unders, V.under, sp_under h, Bool.true_and, Bool.and_true]
  exact decide_eq_true h'
end Go.Proofs.YthhjooegpjgicaaDoorK
