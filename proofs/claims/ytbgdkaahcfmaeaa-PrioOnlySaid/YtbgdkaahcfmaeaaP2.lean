/- What the second law's function answers. -/
import Derived.Test.YtbgdkaahcfmaeaaP1
namespace Go.Proofs.YtbgdkaahcfmaeaaK
set_option linter.unusedVariables false
set_option linter.unusedSimpArgs false
open Go.RowKit

theorem and80 (n : Int) (hn : 0 ≤ n) (hn' : n < 256) : 0 ≤ bits .and .u8 n 80 ∧ bits .and .u8 n 80 < 256 ∧ (bits .and .u8 n 80 / 64 % 2 == 1) = (n / 64 % 2 == 1) ∧ (bits .and .u8 n 80 / 16 % 2 == 1) = (n / 16 % 2 == 1) := by
  obtain ⟨m, rfl⟩ := Int.eq_ofNat_of_zero_le hn
  have hm : m < 256 := by omega
  have : ∀ m : Fin 256, 0 ≤ bits .and .u8 (m.val : Int) 80 ∧ bits .and .u8 (m.val : Int) 80 < 256 ∧ (bits .and .u8 (m.val : Int) 80 / 64 % 2 == 1) = ((m.val : Int) / 64 % 2 == 1) ∧ (bits .and .u8 (m.val : Int) 80 / 16 % 2 == 1) = ((m.val : Int) / 16 % 2 == 1) := of_decide_eq_true (by kernel_rfl)
  exact this ⟨m, hm⟩

theorem or80 (n : Int) (hn : 0 ≤ n) (hn' : n < 256) : 0 ≤ bits .or .u8 n 80 ∧ bits .or .u8 n 80 < 256 ∧ (bits .or .u8 n 80 / 64 % 2 == 1) = true ∧ (bits .or .u8 n 80 / 16 % 2 == 1) = true := by
  obtain ⟨m, rfl⟩ := Int.eq_ofNat_of_zero_le hn
  have hm : m < 256 := by omega
  have : ∀ m : Fin 256, 0 ≤ bits .or .u8 (m.val : Int) 80 ∧ bits .or .u8 (m.val : Int) 80 < 256 ∧ (bits .or .u8 (m.val : Int) 80 / 64 % 2 == 1) = true ∧ (bits .or .u8 (m.val : Int) 80 / 16 % 2 == 1) = true := of_decide_eq_true (by kernel_rfl)
  exact this ⟨m, hm⟩

set_option maxHeartbeats 4000000 in
theorem con4 (s0 s1 b a0 a1 a2 a3 a4 a5 : Bool) (n : Int) (hn : 0 ≤ n) (hn' : n < 256) (H : Hp) :
    Con Try.prog 4 [.agg [.s (.bool s0), .s (.bool s1), .s (.bool b)], .agg [.s (.bool a0), .s (.bool a1), .s (.bool a2), .s (.bool a3), .s (.bool a4), .s (.bool a5)], .s (.int .u8 n)] H (.s (.bool true)) H := by
  refine Con.of cfn4 (Nat.le_of_ble_eq_true rfl) ?_
  unfold ir4
  obtain ⟨h1, h2, h3, h4⟩ := and80 n hn hn'
  obtain ⟨k1, k2, k3, k4⟩ := or80 n hn hn'
  have c11 := con11 s0 s1 b a0 a1 a2 a3 a4 a5 n hn hn'
  have c12 := con12 s0 s1 b a0 a1 a2 a3 a4 a5 n hn hn'
  have d12 := con12 false false b false false a2 a3 false false _ h1 h2
  have e12 := con12 s0 s1 b a0 a1 a2 a3 a4 a5 _ k1 k2
  have c13 := con13 s0 s1 b a0 a1 a2 a3 a4 a5
  have r1 : row b a2 a3 (bits .and .u8 n 80) = row b a2 a3 n := by unfold row; rw [h3, h4]
  have r2 : row b a2 a3 (bits .or .u8 n 80) = if b then 1 else 0 := by unfold row; rw [k3, k4]; cases b <;> simp
  rw [r1] at d12
  rw [r2] at e12
  have hr : (row b a2 a3 n = 0 ∧ b = false) ∨ (row b a2 a3 n = 1 ∧ b = true) ∨ (row b a2 a3 n = 2 ∧ a2 = true ∧ b = false) ∨ (row b a2 a3 n = 3 ∧ a3 = true ∧ b = false) := by
    unfold row
    cases b
    · simp only [Bool.false_eq_true, if_false, and_true, and_false, false_or]
      split
      · rename_i h; simp at h; simp [h]
      · split
        · rename_i h; simp at h; simp [h]
        · simp
    · simp
  clear h1 h2 h3 h4 k1 k2 k3 k4 r1 r2
  generalize row b a2 a3 n = r at *
  rcases hr with ⟨rfl, rfl⟩ | ⟨rfl, rfl⟩ | ⟨rfl, rfl, rfl⟩ | ⟨rfl, rfl, rfl⟩ <;> simp (disch := omega) only [go_sem, Nat.reduceEqDiff, ↓reduceIte, Nat.reduceAdd, Nat.reduceSub, Nat.reduceMul, Nat.reduceLeDiff, Nat.reduceDiv, Nat.reduceMod, Nat.reducePow, Nat.reduceBEq, Int.reduceAdd, Int.reduceSub, Int.reduceMul, Int.reduceNeg, Int.reduceLT, Int.reduceLE, Int.reduceEq, Int.reduceNe, Int.reduceBEq, Int.reduceBNe, Int.reduceToNat,  dwp_skip] <;>
    (refine dcall_of (c11 _) ?_; simp (disch := omega) only [go_sem, Nat.reduceEqDiff, ↓reduceIte, Nat.reduceAdd, Nat.reduceSub, Nat.reduceMul, Nat.reduceLeDiff, Nat.reduceDiv, Nat.reduceMod, Nat.reducePow, Nat.reduceBEq, Int.reduceAdd, Int.reduceSub, Int.reduceMul, Int.reduceNeg, Int.reduceLT, Int.reduceLE, Int.reduceEq, Int.reduceNe, Int.reduceBEq, Int.reduceBNe, Int.reduceToNat,  dwp_skip]; refine qcall_of (c12 _) ?_; simp (disch := omega) only [go_sem, Nat.reduceEqDiff, ↓reduceIte, Nat.reduceAdd, Nat.reduceSub, Nat.reduceMul, Nat.reduceLeDiff, Nat.reduceDiv, Nat.reduceMod, Nat.reducePow, Nat.reduceBEq, Int.reduceAdd, Int.reduceSub, Int.reduceMul, Int.reduceNeg, Int.reduceLT, Int.reduceLE, Int.reduceEq, Int.reduceNe, Int.reduceBEq, Int.reduceBNe, Int.reduceToNat,  dwp_skip]; refine qcall_of (d12 _) ?_; simp (disch := omega) only [go_sem, Nat.reduceEqDiff, ↓reduceIte, Nat.reduceAdd, Nat.reduceSub, Nat.reduceMul, Nat.reduceLeDiff, Nat.reduceDiv, Nat.reduceMod, Nat.reducePow, Nat.reduceBEq, Int.reduceAdd, Int.reduceSub, Int.reduceMul, Int.reduceNeg, Int.reduceLT, Int.reduceLE, Int.reduceEq, Int.reduceNe, Int.reduceBEq, Int.reduceBNe, Int.reduceToNat,  dwp_skip];
     (try (refine qcall_of (c13 _) ?_; simp (disch := omega) only [go_sem, Nat.reduceEqDiff, ↓reduceIte, Nat.reduceAdd, Nat.reduceSub, Nat.reduceMul, Nat.reduceLeDiff, Nat.reduceDiv, Nat.reduceMod, Nat.reducePow, Nat.reduceBEq, Int.reduceAdd, Int.reduceSub, Int.reduceMul, Int.reduceNeg, Int.reduceLT, Int.reduceLE, Int.reduceEq, Int.reduceNe, Int.reduceBEq, Int.reduceBNe, Int.reduceToNat,  dwp_skip])); refine qcall_of (e12 _) ?_; simp (disch := omega) only [go_sem, Nat.reduceEqDiff, ↓reduceIte, Nat.reduceAdd, Nat.reduceSub, Nat.reduceMul, Nat.reduceLeDiff, Nat.reduceDiv, Nat.reduceMod, Nat.reducePow, Nat.reduceBEq, Int.reduceAdd, Int.reduceSub, Int.reduceMul, Int.reduceNeg, Int.reduceLT, Int.reduceLE, Int.reduceEq, Int.reduceNe, Int.reduceBEq, Int.reduceBNe, Int.reduceToNat,  dwp_skip]; refine qcall_of (con14 _) ?_; simp (disch := omega) only [go_sem, Nat.reduceEqDiff, ↓reduceIte, Nat.reduceAdd, Nat.reduceSub, Nat.reduceMul, Nat.reduceLeDiff, Nat.reduceDiv, Nat.reduceMod, Nat.reducePow, Nat.reduceBEq, Int.reduceAdd, Int.reduceSub, Int.reduceMul, Int.reduceNeg, Int.reduceLT, Int.reduceLE, Int.reduceEq, Int.reduceNe, Int.reduceBEq, Int.reduceBNe, Int.reduceToNat,  dwp_skip]; exact Settle.locals Fz.s)
end Go.Proofs.YtbgdkaahcfmaeaaK
