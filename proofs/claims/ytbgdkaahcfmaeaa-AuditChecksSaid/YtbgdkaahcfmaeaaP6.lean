/- The law on traces: its own loop, and what it answers. -/
import Derived.Test.YtbgdkaahcfmaeaaP5
namespace Go.Proofs.YtbgdkaahcfmaeaaK
set_option linter.unusedVariables false
set_option linter.unusedSimpArgs false
open Go.RowKit

theorem con23 (H : Hp) : Con Try.prog 23 [] H (.s (.bool true)) H := by
  refine Con.of cfn23 (Nat.le_of_ble_eq_true rfl) ?_
  unfold ir23
  have c0 := con21 [] (.s (.slice none 0 0)) Reads.nil (by simp) H
  have c1 := con21 [⟨5, 0, false, false, false, false, false, false, false⟩] (.sl true 1 (Rec.v ⟨5, 0, false, false, false, false, false, false, false⟩)) (Reads.sl (f := Rec.v) (fun _ => rfl) (fun _ => rfl) [⟨5, 0, false, false, false, false, false, false, false⟩] true) (by simp) H
  have e0 : chk [] 0 Rec.zero false = (0, 0) := rfl
  have e1 : chk [⟨5, 0, false, false, false, false, false, false, false⟩] 0 Rec.zero false = (0, 1) := by decide
  rw [e0] at c0
  rw [e1] at c1
  simp +contextual (disch := omega) only [go_sem, Nat.reduceEqDiff, ↓reduceIte, Nat.reduceAdd, Nat.reduceSub, Nat.reduceMul, Nat.reduceLeDiff, Nat.reduceDiv, Nat.reduceMod, Nat.reducePow, Nat.reduceBEq, Int.reduceAdd, Int.reduceSub, Int.reduceMul, Int.reduceNeg, Int.reduceLT, Int.reduceLE, Int.reduceEq, Int.reduceNe, Int.reduceBEq, Int.reduceBNe, Int.reduceToNat,  dwp_skip]
  refine dcall_of c0 ?_
  simp +contextual (disch := omega) only [go_sem, Nat.reduceEqDiff, ↓reduceIte, Nat.reduceAdd, Nat.reduceSub, Nat.reduceMul, Nat.reduceLeDiff, Nat.reduceDiv, Nat.reduceMod, Nat.reducePow, Nat.reduceBEq, Int.reduceAdd, Int.reduceSub, Int.reduceMul, Int.reduceNeg, Int.reduceLT, Int.reduceLE, Int.reduceEq, Int.reduceNe, Int.reduceBEq, Int.reduceBNe, Int.reduceToNat,  dwp_skip]
  refine dcall_of c1 ?_
  simp +contextual (disch := omega) only [go_sem, Nat.reduceEqDiff, ↓reduceIte, Nat.reduceAdd, Nat.reduceSub, Nat.reduceMul, Nat.reduceLeDiff, Nat.reduceDiv, Nat.reduceMod, Nat.reducePow, Nat.reduceBEq, Int.reduceAdd, Int.reduceSub, Int.reduceMul, Int.reduceNeg, Int.reduceLT, Int.reduceLE, Int.reduceEq, Int.reduceNe, Int.reduceBEq, Int.reduceBNe, Int.reduceToNat,  dwp_skip]
  exact Settle.refl

/-- Where the law's own loop stands. -/
structure LS where
  i : Nat
  at_ : Int
  what : Int
  last : Rec
  sm : Bool

def LS.ok (l : List Rec) (s : LS) : Prop := s.i ≤ l.length ∧ ((s.what = 0 ∧ s.at_ = l.length ∧ chk (l.drop s.i) s.i s.last s.sm = chk l 0 Rec.zero false) ∨ (s.what ≠ 0 ∧ chk l 0 Rec.zero false = (s.at_, s.what)))

def LS.next (l : List Rec) (s : LS) : LS :=
  let r := l.getD s.i default
  let e := r.wrong s.last s.sm
  let hit := (e != 0 && s.what == 0)
  ⟨s.i + 1, if hit = true then s.i else s.at_, if hit = true then e else s.what, if r.mine = true then r else s.last, if r.mine = true then true else s.sm⟩

theorem wrong_eq (r last : Rec) (sm : Bool) (h0 : 0 ≤ r.addr) (h1 : r.addr < 65536) : r.wrong last sm = if (r.one != 0) = true then r.one else if (!r.mine) = true then 0 else if (sm && last.follows r != 0) = true then 6 else 0 := by
  obtain ⟨ad, da, rd, ba, bs, li, av, bu, mi⟩ := r
  simp only at h0 h1
  unfold Rec.wrong Rec.one Rec.follows Rec.quiet
  simp only
  have hq : ad = 65535 ∨ ad = 65534 ∨ (65522 ≤ ad ∧ ad < 65534) ∨ ad < 65522 := by omega
  generalize hd : (da == 0) = z
  generalize last.avma = la
  rcases hq with rfl | rfl | ⟨h2, h3⟩ | h2
  · cases rd <;> cases ba <;> cases bs <;> cases li <;> cases av <;> cases bu <;> cases mi <;> cases z <;> cases sm <;> cases la <;> rfl
  · cases rd <;> cases ba <;> cases bs <;> cases li <;> cases av <;> cases bu <;> cases mi <;> cases z <;> cases sm <;> cases la <;> rfl
  · have e1 : (ad == 65535) = false := by simp; omega
    have e2 : (ad == 65534) = false := by simp; omega
    have e3 : decide (ad < 65534) = true := by simp; omega
    have e4 : decide (ad < 65522) = false := by simp; omega
    rw [e1, e2, e3, e4]
    cases rd <;> cases ba <;> cases bs <;> cases li <;> cases av <;> cases bu <;> cases mi <;> cases z <;> cases sm <;> cases la <;> rfl
  · have e1 : (ad == 65535) = false := by simp; omega
    have e2 : (ad == 65534) = false := by simp; omega
    have e3 : decide (ad < 65534) = true := by simp; omega
    have e4 : decide (ad < 65522) = true := by simp; omega
    rw [e1, e2, e3, e4]
    cases rd <;> cases ba <;> cases bs <;> cases li <;> cases av <;> cases bu <;> cases mi <;> cases z <;> cases sm <;> cases la <;> rfl
end Go.Proofs.YtbgdkaahcfmaeaaK
