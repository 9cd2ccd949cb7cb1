/- What hangs on one byte, or on an entry of the table, is told by its text. -/
import Derived.Test.YtfcegejpdlbkdaaUDsa
namespace Go.Proofs.YtfcegejpdlbkdaaK
set_option linter.unusedVariables false
set_option linter.unusedSimpArgs false
set_option maxHeartbeats 1000000
open Go.RowKit
attribute [local irreducible] dwv mops lops lqops lwops kont iter run runK rk okK ex E1 vals val chain chB sel resF

def rinv (l : List Int) : Int := if l = [88] then 1 else if l = [89] then 2 else if l = [85] then 3 else 4
def qchk (p : Nat) : Bool := match post_Of (p : Int) with
  | some P => (match ops_Reg P.Reg with
    | some R => ((decide (10 < P.Kind)) || (sbl R == [88] || sbl R == [89] || sbl R == [85] || sbl R == [83])) && (P.Kind == 1 || P.Off == 0) && (P.Reg == (if P.Kind = 13 then 0 else if 10 < P.Kind then 5 else rinv (sbl R))) && (P.Kind == 2 || P.Kind == 3 || P.Kind == 11 || P.Kind == 12 || P.Kind == 13 || (behM 4 (p : Int)).1 == 0)
    | none => false)
  | none => false
theorem qchk_all : ((List.range 256).all qchk) = true := by decide +kernel
theorem post_q {p : Int} (h0 : 0 ≤ p) (h1 : p < 256) : ∃ P R, post_Of p = some P ∧ ops_Reg P.Reg = some R ∧ (P.Kind ≤ 10 → reg1 (sbl R)) ∧ (P.Kind ≠ 1 → P.Off = 0) ∧ P.Reg = (if P.Kind = 13 then 0 else if 10 < P.Kind then 5 else rinv (sbl R)) ∧ ((P.Kind = 2 ∨ P.Kind = 11) ∨ (P.Kind = 3 ∨ P.Kind = 12 ∨ P.Kind = 13) ∨ (behM 4 p).1 = 0) := by
  obtain ⟨c, rfl, hc⟩ := upto qchk_all h0 h1
  unfold qchk at hc
  split at hc
  · rename_i P e1
    split at hc
    · rename_i R e2
      simp only [Bool.and_eq_true, Bool.or_eq_true, decide_eq_true_eq, beq_iff_eq] at hc
      obtain ⟨⟨⟨a1, a2⟩, a3⟩, a4⟩ := hc
      refine ⟨P, R, e1, e2, fun h => ?_, fun h => ?_, a3, ?_⟩
      · rcases a1 with a | ((a | a) | a) | a
        · omega
        · exact .inl a
        · exact .inr (.inl a)
        · exact .inr (.inr (.inl a))
        · exact .inr (.inr (.inr a))
      · rcases a2 with a | a
        · exact absurd a h
        · exact a
      · omega
    · cases hc
  · cases hc

/-! ### Pairs of registers -/
def rtxt (c : Nat) : List Int := match dis_Reg (c : Int) with | some A => sbl A | none => []
def r16 (c : Nat) : Bool := (!(rtxt c).contains 44) && (dis_Reg (c : Int)).isSome && ((List.range 16).all fun d => (c == d) || !(rtxt c == rtxt d))
theorem r16_all : ((List.range 16).all r16) = true := by decide +kernel
theorem r16_at {c : Int} (h0 : 0 ≤ c) (h1 : c < 16) {A : ByteArray} (h : dis_Reg c = some A) : (44 : Int) ∉ sbl A := by
  obtain ⟨n, rfl, hc⟩ := upto r16_all h0 h1
  simp only [r16, rtxt, h, Bool.and_eq_true, Bool.not_eq_true'] at hc
  intro m
  have := hc.1.1
  rw [List.contains_iff_mem.2 m] at this
  cases this
theorem r16_inj {c d : Int} (h0 : 0 ≤ c) (h1 : c < 16) (d0 : 0 ≤ d) (d1 : d < 16) {A B : ByteArray} (h : dis_Reg c = some A) (h' : dis_Reg d = some B) (e : sbl A = sbl B) : c = d := by
  obtain ⟨n, rfl, hc⟩ := upto r16_all h0 h1
  obtain ⟨m, rfl⟩ := Int.eq_ofNat_of_zero_le d0
  simp only [r16, Bool.and_eq_true, List.all_eq_true] at hc
  have := hc.2 m (List.mem_range.2 (by omega))
  simp only [rtxt, h, h', e, Bool.or_eq_true, beq_iff_eq, beq_self_eq_true, Bool.not_true, Bool.false_eq_true, or_false] at this
  omega
def hchk (p : Nat) : Bool := (IntKind.wrap .i64 (Int.fdiv (p : Int) (2 ^ (4))) == (p : Int) / 16) && (IntKind.wrap .i64 (bits .and .u8 (p : Int) 15) == (p : Int) % 16)
theorem hchk_all : ((List.range 256).all hchk) = true := by decide +kernel

/-! ### Lists of registers -/
def cut44 : List Int → List (List Int)
  | [] => [[]]
  | x :: r => if x = 44 then [] :: cut44 r else (match cut44 r with
    | [] => [[x]]
    | y :: q => (x :: y) :: q)
def nval (l : List Int) : Int := if l = [67, 67] then 1 else if l = [65] then 2 else if l = [66] then 4 else if l = [68, 80] then 8 else if l = [88] then 16 else if l = [89] then 32 else if l = [85] ∨ l = [83] then 64 else if l = [80, 67] then 128 else 0
def inv9 (l : List Int) : Int := (cut44 l).foldl (fun a y => a + nval y) 0
def mchk (st : Int) (p : Nat) : Bool := match lists_Text (p : Int) st with
  | some A => inv9 (sbl A) == (p : Int)
  | none => false
theorem mchk_all3 : ((List.range 256).all (mchk 3)) = true := by decide +kernel
theorem mchk_all0 : ((List.range 256).all (mchk 0)) = true := by decide +kernel
theorem list_inv {p : Int} (h0 : 0 ≤ p) (h1 : p < 256) {st : Int} {A : ByteArray} (h : lists_Text p st = some A) : inv9 (sbl A) = p := by
  have key : ∀ s : Int, ((List.range 256).all (mchk s)) = true → lists_Text p s = some A → inv9 (sbl A) = p := by
    intro s hs h
    obtain ⟨c, rfl, hc⟩ := upto hs h0 h1
    simp only [mchk, h] at hc
    exact eq_of_beq hc
  by_cases e : st = 3
  · subst e; exact key 3 mchk_all3 h
  · refine key 0 mchk_all0 ?_
    unfold lists_Text at h ⊢
    rw [← dregs_is e]
    exact h

/-! ### Names -/
def nk (e : api_Entry) : Nat := match ops_Name e.Op e.Reg with
  | some N => (sbl N).foldl (fun a c => a * 256 + c.toNat) 1
  | none => 0
def good (x y : spinetref14_Known) : Bool := (x.Entry.Op == y.Entry.Op) && (x.Entry.Reg == y.Entry.Reg) && (if x.Entry.Mode = y.Entry.Mode then (x.Page == y.Page) && (x.Code == y.Code) else decide (1 ≤ x.Entry.Mode) && decide (x.Entry.Mode ≤ 5) && decide (1 ≤ y.Entry.Mode) && decide (y.Entry.Mode ≤ 5) && !(x.Entry.Mode == 1 && y.Entry.Mode == 2) && !(x.Entry.Mode == 2 && y.Entry.Mode == 1))
theorem pairs_all : (refTab.all fun x => refTab.all fun y => (!(Nat.beq (nk x.Entry) (nk y.Entry))) || good x y) = true := by decide +kernel
def nosp (e : api_Entry) : Bool := match ops_Name e.Op e.Reg with
  | some N => !(sbl N).contains 32
  | none => true
theorem nosp_all : (refTab.all fun k => nosp k.Entry) = true := by decide +kernel
theorem name_no {e : api_Entry} (he : inTab e = true) {N : ByteArray} (h : ops_Name e.Op e.Reg = some N) : (32 : Int) ∉ sbl N := by
  have hq := inTab_all (q := nosp) (by decide +kernel) nosp_all he
  simp only [nosp, h, Bool.not_eq_true'] at hq
  intro m
  rw [List.contains_iff_mem.2 m] at hq
  cases hq
theorem refOf_mem {p c : Int} (h : (refOf p c).Op ≠ 0) : ∃ k ∈ refTab, k.Page = p ∧ k.Code = c ∧ k.Entry = refOf p c := by
  unfold refOf at h ⊢
  cases hf : refTab.find? (fun x => x.Page == p && x.Code == c) with
  | none => rw [hf] at h; exact absurd rfl h
  | some x =>
    have hp := List.find?_some hf
    simp only [Bool.and_eq_true, beq_iff_eq] at hp
    exact ⟨x, List.mem_of_find?_eq_some hf, hp.1, hp.2, rfl⟩
theorem names_i {p c p' c' : Int} (h : (refOf p c).Op ≠ 0) (h' : (refOf p' c').Op ≠ 0) {N : ByteArray} (hN : ops_Name (refOf p c).Op (refOf p c).Reg = some N) (hN' : ops_Name (refOf p' c').Op (refOf p' c').Reg = some N) :
    (refOf p c).Op = (refOf p' c').Op ∧ (refOf p c).Reg = (refOf p' c').Reg ∧ ((refOf p c).Mode = (refOf p' c').Mode → p = p' ∧ c = c') ∧ ((refOf p c).Mode ≠ (refOf p' c').Mode → (1 ≤ (refOf p c).Mode ∧ (refOf p c).Mode ≤ 5) ∧ (1 ≤ (refOf p' c').Mode ∧ (refOf p' c').Mode ≤ 5) ∧ ¬ ((refOf p c).Mode = 1 ∧ (refOf p' c').Mode = 2) ∧ ¬ ((refOf p c).Mode = 2 ∧ (refOf p' c').Mode = 1)) := by
  obtain ⟨x, hx, x1, x2, x3⟩ := refOf_mem h
  obtain ⟨y, hy, y1, y2, y3⟩ := refOf_mem h'
  have hq := List.all_eq_true.1 (List.all_eq_true.1 pairs_all x hx) y hy
  have hk : nk x.Entry = nk y.Entry := by
    rw [x3, y3]; unfold nk; rw [hN, hN']
  rw [hk, Nat.beq_refl] at hq
  have hq : good x y = true := by simpa using hq
  simp only [good, Bool.and_eq_true, beq_iff_eq] at hq
  obtain ⟨⟨a1, a2⟩, a3⟩ := hq
  rw [x3, y3] at a1 a2 a3
  refine ⟨a1, a2, fun e => ?_, fun e => ?_⟩
  · rw [if_pos e] at a3
    simp only [Bool.and_eq_true, beq_iff_eq] at a3
    rw [← x1, ← x2, ← y1, ← y2]
    exact a3
  · rw [if_neg e] at a3
    simp only [Bool.and_eq_true, decide_eq_true_eq, Bool.not_eq_true', Bool.and_eq_false_iff, beq_eq_false_iff_ne] at a3
    omega
end Go.Proofs.YtfcegejpdlbkdaaK
