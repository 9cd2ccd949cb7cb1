/- Places of bytes in strings; functions of values alone; builders in calls. -/
import Derived.Test.YtnilppmpfklpbaaDoorRi
import Derived.Lib.Bytealg
import Derived.Lib.CountLaws
namespace Go.Proofs.YtnilppmpfklpbaaDoorK
set_option linter.unusedVariables false
set_option linter.unusedSimpArgs false
open Go.RowKit

/-- An element of a part of a slice. -/
theorem part_lt {α : Type} {l : List α} {a b : Nat} {i : Int} (h : a ≤ b ∧ b ≤ l.length) (c : 0 ≤ i ∧ i < ((b - a : Nat) : Int)) : 0 ≤ i ∧ i < ln (l.drop a) := by
  unfold ln
  rw [List.length_drop]
  omega

/-- Elements laid over a list's, from a place on. -/
def cpyL {α : Type} (l : List α) (a m : Nat) (l' : List α) : List α := if a + m ≤ l.length then l.take a ++ l'.take m ++ l.drop (a + (l'.take m).length) else l
theorem cpyL_len {α : Type} {l l' : List α} {a m : Nat} : (cpyL l a m l').length = l.length := by
  unfold cpyL
  split
  · simp only [List.length_append, List.length_take, List.length_drop]; omega
  · rfl
theorem e_cpy0 {x y : Opd} {f : Fr} {L : Hp} {q ver a m : Nat} {kd : BK} {l l' : List Int} (hx : ev x f = .ref q ver (a * 1) m) (h : a + m ≤ l.length) (hL : live L q ver = some ⟨ver, kd, 1, cat (nI .u8) l⟩) (h2 : slCells L 1 (ev y f) = some (cat (nI .u8) l')) :
    E1 (.cpy x y) f L = some (.s (.int .i64 (((l'.take m).length : Nat) : Int)), L.set q ⟨ver, kd, 1, cat (nI .u8) (cpyL l a m l')⟩) := by
  have ht : (cat (nI .u8) l').take m = cat (nI .u8) (l'.take m) := by
    have := cat_taken (g := nI .u8) m l'
    rwa [Nat.mul_one] at this
  have hlt : (cat (nI .u8) (l'.take m)).length = (l'.take m).length := by rw [cat_len (g := nI .u8), Nat.mul_one]
  obtain ⟨q1, q2, q3⟩ := live_ok hL
  simp only [E1, hx, slLen, hL, Option.isSome_some, if_true, Option.bind_some, h2, ht, hlt, copyV]
  cases hz : l'.take m with
  | nil =>
    have he : cpyL l a m l' = l := by
      unfold cpyL
      rw [if_pos h, hz]
      simp
    rw [he]
    have hs : L.set q ⟨ver, kd, 1, cat (nI .u8) l⟩ = L := by
      apply List.ext_getElem?
      intro i
      rw [List.getElem?_set]
      split
      · rename_i e
        subst e
        rw [if_pos (List.getElem?_eq_some_iff.1 q1).1, q1]
      · rfl
    rw [hs]; rfl
  | cons z r =>
    rw [← hz]
    have hne : (cat (nI .u8) (l'.take m)).isEmpty = false := by rw [hz]; rfl
    have hle : a * 1 + (cat (nI .u8) (l'.take m)).length ≤ (cat (nI .u8) l).length := by
      rw [hlt, cat_len (g := nI .u8), List.length_take]; omega
    have hsp : splice (cat (nI .u8) l) a (cat (nI .u8) (l'.take m)) = cat (nI .u8) (cpyL l a m l') := by
      unfold cpyL
      rw [if_pos h, cat_app, cat_app]
      have h1 := cat_taken (g := nI .u8) a l
      have h3 := cat_dropn (g := nI .u8) (a + (l'.take m).length) l
      rw [Nat.mul_one] at h1 h3
      rw [← h1, ← h3, ← hlt]
      rfl
    simp only [hne, Bool.false_eq_true, if_false, storeAt, hL, if_pos (And.intro hle (cat_one (g := nI .u8) _)), Option.map_some]
    rw [Nat.mul_one, hsp]
theorem ref_00 {x : Opd} {f : Fr} {q ver n : Nat} (h : ev x f = .ref q ver 0 n) : ev x f = .ref q ver (0 + 0 * 1) (n - 0) := h
theorem e_cpy {x y : Opd} {f : Fr} {L : Hp} {q ver n a b : Nat} {kd : BK} {l l' : List Int} (hx : ev x f = .ref q ver (0 + a * 1) (b - a)) (h : a ≤ b ∧ b ≤ n) (hn : l.length = n) (hL : live L q ver = some ⟨ver, kd, 1, cat (nI .u8) l⟩) (h2 : slCells L 1 (ev y f) = some (cat (nI .u8) l')) :
    E1 (.cpy x y) f L = some (.s (.int .i64 (((l'.take (b - a)).length : Nat) : Int)), L.set q ⟨ver, kd, 1, cat (nI .u8) (cpyL l a (b - a) l')⟩) :=
  e_cpy0 (by rw [hx, Nat.zero_add]) (by omega) hL h2

theorem e_cpyN {x y : Opd} {f : Fr} {L : Hp} {q ver n a : Nat} {kd : BK} {l l' : List Int} (hx : ev x f = .ref q ver (0 + a * 1) (n - a)) (h : a ≤ n ∧ n ≤ n) (hn : l.length = n) (hL : live L q ver = some ⟨ver, kd, 1, cat (nI .u8) l⟩) (h2 : slCells L 1 (ev y f) = some (cat (nI .u8) l')) :
    E1 (.cpy x y) f L = some (.s (.int .i64 (((l'.take (l.length - a)).length : Nat) : Int)), L.set q ⟨ver, kd, 1, cat (nI .u8) (cpyL l a (l.length - a) l')⟩) := by
  subst hn
  exact e_cpy hx h rfl hL h2

/-- The place of the first such byte; -1: there is none. -/
def ixB : List UInt8 → UInt8 → Int
  | [], _ => -1
  | b :: l, c => if b == c then 0 else if ixB l c == -1 then -1 else ixB l c + 1
theorem ixB_lib : ∀ (l : List UInt8) (c : UInt8), ixB l c = Lib.indexByte l c
  | [], _ => rfl
  | b :: l, c => by unfold ixB Lib.indexByte; rw [ixB_lib l c]
def oneByte {α : Type} (t : ByteArray) (f : UInt8 → α) : Option α := match t.data.toList with
  | [c] => some (f c)
  | _ => none
theorem one_byte {α : Type} {t : ByteArray} {f : UInt8 → α} {r : α} (h : oneByte t f = some r) : ∃ c, t = ⟨#[c]⟩ ∧ f c = r := by
  unfold oneByte at h
  split at h
  · rename_i c hc
    refine ⟨c, ?_, Option.some.inj h⟩
    obtain ⟨⟨x⟩⟩ := t
    simp at hc; subst hc; rfl
  · cases h
def internal_stringslite_IndexByte (s : ByteArray) (c : Int) : Option Int := some (ixB s.data.toList c.toNat.toUInt8)
def internal_stringslite_Index (s t : ByteArray) : Option Int := oneByte t fun c => ixB s.data.toList c
def strings_Count (s t : ByteArray) : Option Int := match t.data.toList with
  | [c] => some ((s.data.toList.count c : Nat) : Int)
  | _ => if 2 ≤ t.size ∧ s.size < 4294967281 then some ((Lib.countB s t : Nat) : Int) else none

theorem VRs_lits {im H w} : ∀ {cs : List Value} {vs : List Value}, VRs im H w (cs.map V.s) vs → vs = cs
  | [], [], _ => rfl
  | [], _ :: _, h => h.elim
  | _ :: _, [], h => h.elim
  | x :: r, v :: vs, h => by
    have h1 : v = x := h.1
    have h2 : VRs im H w (r.map V.s) vs := h.2
    rw [h1, VRs_lits h2]
theorem rns_lits {ρ : Nat → Nat} : ∀ (cs : List Value), rns ρ (cs.map V.s) = cs.map V.s
  | [] => rfl
  | c :: r => by simp only [List.map_cons, rns, V.rn, rns_lits r]
/-- A function of values alone. -/
theorem Pure.val {P : Program} {m : FuncId} {cs : List Value} {v : Value} (h : ∀ w, Calls P m cs.toArray w fun e w' => e = .returned v ∧ w' = w) : Pure P m (cs.map V.s) (.s v) := by
  refine ⟨Nat.le_refl _, fun ρ G hE => ?_⟩
  intro im w cargs hr ha
  rw [rns_lits] at ha
  obtain rfl := VRs_lits ha
  refine (h w).mono ?_
  rintro e w' ⟨rfl, rfl⟩
  exact ⟨im, v, rfl, hr, Ext.refl _ _ _, rfl⟩

/-- The like, where the library reads an int of its own. -/
theorem Pure.valG {P : Program} {m : FuncId} {cs : List Value} {v : Value} {g : Nat} (hg : g ∈ GL) (h : ∀ w n, w.cell? ⟨g, 0, none⟩ = some (.int .i64 n) → Calls P m cs.toArray w fun e w' => e = .returned v ∧ w' = w) : Pure P m (cs.map V.s) (.s v) := by
  refine ⟨Nat.le_refl _, fun ρ G hE => ?_⟩
  intro im w cargs hr ha
  rw [rns_lits] at ha
  obtain rfl := VRs_lits ha
  obtain ⟨_, n, hn⟩ := hr.glob g hg
  refine (h w n hn).mono ?_
  rintro e w' ⟨rfl, rfl⟩
  exact ⟨im, v, rfl, hr, Ext.refl _ _ _, rfl⟩

def BldAt (t u : TypeId) (z : Bool) (v : Nat) (l : List Int) (ib b : Nat) : Hp := [⟨v, .buf u, 1, cat (nI .u8) l⟩, ⟨0, .bld t, 1, [sp z b 0, .ref ib v 0 l.length]⟩]
theorem Bld.rn {ρ : Nat → Nat} {t u : TypeId} {z : Bool} {v ib b : Nat} {l : List Int} (h0 : ρ 0 = ib) (h1 : ρ 1 = b) : RBs ρ (Bld t u z v l) (BldAt t u z v l ib b) :=
  RBs.cons (RNs.stat (cat_stat _)) (RBs.cons (RNs.cons (sp_rn h1) (RNs.cons (RN.ref h0) RNs.nil)) RBs.nil)
def BldDAt (t : TypeId) (z : Bool) (v n : Nat) (ib b : Nat) : Hp := [⟨v, .dead, 1, []⟩, ⟨0, .bld t, 1, [sp z b 0, .ref ib v 0 n]⟩]
theorem BldD.rn {ρ : Nat → Nat} {t u : TypeId} {z : Bool} {v n ib b : Nat} (h0 : ρ 0 = ib) (h1 : ρ 1 = b) : RBs ρ (BldD t u z v n) (BldDAt t z v n ib b) :=
  RBs.cons RNs.nil (RBs.cons (RNs.cons (sp_rn h1) (RNs.cons (RN.ref h0) RNs.nil)) RBs.nil)
/-- A call that writes into a builder. -/
theorem CalL.bld {n0 : Nat} {P : Program} {m : FuncId} {xs : List Value} {t u : TypeId} {z z' : Bool} {v v' : Nat} {l l' : List Int} {r : V} {L L' : Hp} (ib b : Nat) (h : ConL P m (.ptr 1 0 0 :: xs.map V.s) (Bld t u z v l) r (Bld t u z' v' l'))
    (hb : (okSel [ib, b] L.length && Nat.ble n0 L.length) = true) (hr : r.static = true) (hL : setAll L [ib, b] (BldAt t u z v l ib b) = L) (hL' : setAll L [ib, b] (BldAt t u z' v' l' ib b) = L') : CalL n0 P m (.ptr b 0 0 :: xs.map V.s) L r L' := by
  simp only [Bool.and_eq_true] at hb
  exact CalL.borrow [ib, b] h (by simp only [hb.1, hb.2, Bool.and_true]; rfl) (RNs.cons (RN.ptr rfl) (rns_lits xs)) (RN.stat hr) (Bld.rn rfl rfl) (Bld.rn rfl rfl) hL hL'
/-- A call that takes a builder's text. -/
theorem CalL.bldD {n0 : Nat} {P : Program} {m : FuncId} {t u : TypeId} {z : Bool} {v : Nat} {l : List Int} {r : V} {L L' : Hp} (ib b : Nat) (h : ConL P m [.ptr 1 0 0] (Bld t u z v l) r (BldD t u z v l.length))
    (hb : (okSel [ib, b] L.length && Nat.ble n0 L.length) = true) (hr : r.static = true) (hL : setAll L [ib, b] (BldAt t u z v l ib b) = L) (hL' : setAll L [ib, b] (BldDAt t z v l.length ib b) = L') : CalL n0 P m [.ptr b 0 0] L r L' := by
  simp only [Bool.and_eq_true] at hb
  exact CalL.borrow [ib, b] h (by simp only [hb.1, hb.2, Bool.and_true]; rfl) (RNs.cons (RN.ptr rfl) RNs.nil) (RN.stat hr) (Bld.rn rfl rfl) (BldD.rn rfl rfl) hL hL'
theorem bld_under {n b ib v k : Nat} {z : Bool} (h : Nat.blt b n = true) (h' : Nat.blt ib n = true) : unders n [sp z b 0, .ref ib v 0 k] = true := by
  have h' := Nat.le_of_ble_eq_true h'
  simp only [unders, V.under, sp_under h, Bool.true_and, Bool.and_true]
  exact decide_eq_true h'
end Go.Proofs.YtnilppmpfklpbaaDoorK
