/- What the functions of the first law answer. -/
import Derived.Test.YtbgdkaahcfmaeaaIa
import Derived.Test.YtbgdkaahcfmaeaaKn
namespace Go.Proofs.YtbgdkaahcfmaeaaK
set_option linter.unusedVariables false
set_option linter.unusedSimpArgs false
open Go.RowKit

theorem con40 (n k : Int) (hn : 0 ≤ n) (hn' : n < 256) (hk : 0 < k) (hk' : k < 256) (H : Hp) : Con Try.prog 40 [.s (.int .u8 n), .s (.int .u8 k)] H (.s (.bool (n / k % 2 == 1))) H := by
  refine Con.of cfn40 (Nat.le_of_ble_eq_true rfl) ?_
  have h1 : n.tdiv k = n / k := Int.tdiv_eq_ediv_of_nonneg hn
  have h2 : 0 ≤ n / k := Int.ediv_nonneg hn (by omega)
  have h3 : n / k < 256 := Int.ediv_lt_of_lt_mul hk (by omega)
  have h4 : (n / k).tmod 2 = n / k % 2 := Int.tmod_eq_emod_of_nonneg h2
  unfold ir40
  simp (disch := omega) only [go_sem, Nat.reduceEqDiff, ↓reduceIte, Nat.reduceAdd, Nat.reduceSub, Nat.reduceMul, Nat.reduceLeDiff, Nat.reduceDiv, Nat.reduceMod, Nat.reducePow, Nat.reduceBEq, Int.reduceAdd, Int.reduceSub, Int.reduceMul, Int.reduceNeg, Int.reduceLT, Int.reduceLE, Int.reduceEq, Int.reduceNe, Int.reduceBEq, Int.reduceBNe, Int.reduceToNat, *]
  exact Settle.refl

def bs (l : List Int) : List V := l.map fun b => .s (.int .u8 b)

theorem con41 (n : Int) (l : List Int) (hl : l.length < 9223372036854775807) (H : Hp) : Con Try.prog 41 [.s (.int .u8 n), .sl true l.length (bs l)] H (.s (.bool (l.all fun k => bits .and .u8 n k == k))) H := by
  refine Con.of cfn41 (Nat.le_of_ble_eq_true rfl) ?_
  unfold ir41
  simp (disch := omega) only [go_sem, Nat.reduceEqDiff, ↓reduceIte, Nat.reduceAdd, Nat.reduceSub, Nat.reduceMul, Nat.reduceLeDiff, Nat.reduceDiv, Nat.reduceMod, Nat.reducePow, Nat.reduceBEq, Int.reduceAdd, Int.reduceSub, Int.reduceMul, Int.reduceNeg, Int.reduceLT, Int.reduceLE, Int.reduceEq, Int.reduceNe, Int.reduceBEq, Int.reduceBNe, Int.reduceToNat, *]
  refine dwp_loop (fun (i : Nat) f1 H1 => H1 = H ∧ f1 0 = .s (.int .u8 n) ∧ f1 7 = .sl true l.length (bs l) ∧ f1 8 = .s (.int .i64 l.length) ∧ f1 9 = .s (.int .i64 i) ∧ i ≤ l.length ∧ ((l.take i).all fun k => bits .and .u8 n k == k) = true) (fun i => l.length - i) 0 ?_ ?_
  · simp (disch := omega) only [go_sem, Nat.reduceEqDiff, ↓reduceIte, Nat.reduceAdd, Nat.reduceSub, Nat.reduceMul, Nat.reduceLeDiff, Nat.reduceDiv, Nat.reduceMod, Nat.reducePow, Nat.reduceBEq, Int.reduceAdd, Int.reduceSub, Int.reduceMul, Int.reduceNeg, Int.reduceLT, Int.reduceLE, Int.reduceEq, Int.reduceNe, Int.reduceBEq, Int.reduceBNe, Int.reduceToNat, *]
    simp
  · rintro i f1 H1 ⟨rfl, h0, h7, h8, h9, hi, ha⟩
    have hlen : (bs l).length = l.length := by simp [bs]
    simp (disch := omega) only [go_sem, Nat.reduceEqDiff, ↓reduceIte, Nat.reduceAdd, Nat.reduceSub, Nat.reduceMul, Nat.reduceLeDiff, Nat.reduceDiv, Nat.reduceMod, Nat.reducePow, Nat.reduceBEq, Int.reduceAdd, Int.reduceSub, Int.reduceMul, Int.reduceNeg, Int.reduceLT, Int.reduceLE, Int.reduceEq, Int.reduceNe, Int.reduceBEq, Int.reduceBNe, Int.reduceToNat, *]
    refine andB_split (fun hc => ?_) (fun hc => ?_)
    · have hi' : i < l.length := by simpa using hc
      have hg : (bs l).getD i .any = .s (.int .u8 l[i]) := by simp [bs, hi']
      simp (disch := omega) only [go_sem, Nat.reduceEqDiff, ↓reduceIte, Nat.reduceAdd, Nat.reduceSub, Nat.reduceMul, Nat.reduceLeDiff, Nat.reduceDiv, Nat.reduceMod, Nat.reducePow, Nat.reduceBEq, Int.reduceAdd, Int.reduceSub, Int.reduceMul, Int.reduceNeg, Int.reduceLT, Int.reduceLE, Int.reduceEq, Int.reduceNe, Int.reduceBEq, Int.reduceBNe, Int.reduceToNat, Int.toNat_natCast, *]
      refine andB_split (fun hc2 => ?_) (fun hc2 => ?_)
      · simp (disch := omega) only [go_sem, Nat.reduceEqDiff, ↓reduceIte, Nat.reduceAdd, Nat.reduceSub, Nat.reduceMul, Nat.reduceLeDiff, Nat.reduceDiv, Nat.reduceMod, Nat.reducePow, Nat.reduceBEq, Int.reduceAdd, Int.reduceSub, Int.reduceMul, Int.reduceNeg, Int.reduceLT, Int.reduceLE, Int.reduceEq, Int.reduceNe, Int.reduceBEq, Int.reduceBNe, Int.reduceToNat,  go_sem]
        refine Settle.of_eq ?_
        have : (l.all fun k => bits .and .u8 n k == k) = false := by
          rw [List.all_eq_false]
          exact ⟨l[i], by simp, by simpa using hc2⟩
        rw [this]
      · simp (disch := omega) only [go_sem, Nat.reduceEqDiff, ↓reduceIte, Nat.reduceAdd, Nat.reduceSub, Nat.reduceMul, Nat.reduceLeDiff, Nat.reduceDiv, Nat.reduceMod, Nat.reducePow, Nat.reduceBEq, Int.reduceAdd, Int.reduceSub, Int.reduceMul, Int.reduceNeg, Int.reduceLT, Int.reduceLE, Int.reduceEq, Int.reduceNe, Int.reduceBEq, Int.reduceBNe, Int.reduceToNat, *]
        refine ⟨i + 1, ⟨by simp, by omega, ?_⟩, by omega⟩
        rw [List.take_add_one, List.all_append, ha]
        simp [hi']
        simpa using hc2
    · simp (disch := omega) only [go_sem, Nat.reduceEqDiff, ↓reduceIte, Nat.reduceAdd, Nat.reduceSub, Nat.reduceMul, Nat.reduceLeDiff, Nat.reduceDiv, Nat.reduceMod, Nat.reducePow, Nat.reduceBEq, Int.reduceAdd, Int.reduceSub, Int.reduceMul, Int.reduceNeg, Int.reduceLT, Int.reduceLE, Int.reduceEq, Int.reduceNe, Int.reduceBEq, Int.reduceBNe, Int.reduceToNat,  h0]
      have : l.take i = l := List.take_of_length_le (by simpa using hc)
      rw [this] at ha
      exact Settle.of_eq (by rw [ha])

/-- Which row begins: the document's answer. -/
def row (set firq irq : Bool) (cc : Int) : Int := if set then 1 else if firq && !(cc / 64 % 2 == 1) then 2 else if irq && !(cc / 16 % 2 == 1) then 3 else 0

theorem con10 (b a0 a1 a2 a3 a4 a5 : Bool) (n : Int) (hn : 0 ≤ n) (hn' : n < 256) (H : Hp) :
    Con Try.prog 10 [.s (.bool b), .agg [.s (.bool a0), .s (.bool a1), .s (.bool a2), .s (.bool a3), .s (.bool a4), .s (.bool a5)], .s (.int .u8 n)] H (.s (.int .i64 (row b a2 a3 n))) H := by
  refine Con.of cfn10 (Nat.le_of_ble_eq_true rfl) ?_
  unfold ir10
  have c16 := con40 n 16 hn hn' (by omega) (by omega)
  have c64 := con40 n 64 hn hn' (by omega) (by omega)
  generalize e16 : (n / 16 % 2 == 1) = u16 at c16
  generalize e64 : (n / 64 % 2 == 1) = u64 at c64
  unfold row
  rw [e16, e64]
  cases u16 <;> cases u64 <;> cases a2 <;> cases a3 <;> cases b <;> simp (disch := omega) only [go_sem, Nat.reduceEqDiff, ↓reduceIte, Nat.reduceAdd, Nat.reduceSub, Nat.reduceMul, Nat.reduceLeDiff, Nat.reduceDiv, Nat.reduceMod, Nat.reducePow, Nat.reduceBEq, Int.reduceAdd, Int.reduceSub, Int.reduceMul, Int.reduceNeg, Int.reduceLT, Int.reduceLE, Int.reduceEq, Int.reduceNe, Int.reduceBEq, Int.reduceBNe, Int.reduceToNat, *] <;>
    (repeat' first
      | (refine qcall_of (c16 _) ?_; simp (disch := omega) only [go_sem, Nat.reduceEqDiff, ↓reduceIte, Nat.reduceAdd, Nat.reduceSub, Nat.reduceMul, Nat.reduceLeDiff, Nat.reduceDiv, Nat.reduceMod, Nat.reducePow, Nat.reduceBEq, Int.reduceAdd, Int.reduceSub, Int.reduceMul, Int.reduceNeg, Int.reduceLT, Int.reduceLE, Int.reduceEq, Int.reduceNe, Int.reduceBEq, Int.reduceBNe, Int.reduceToNat, *])
      | (refine qcall_of (c64 _) ?_; simp (disch := omega) only [go_sem, Nat.reduceEqDiff, ↓reduceIte, Nat.reduceAdd, Nat.reduceSub, Nat.reduceMul, Nat.reduceLeDiff, Nat.reduceDiv, Nat.reduceMod, Nat.reducePow, Nat.reduceBEq, Int.reduceAdd, Int.reduceSub, Int.reduceMul, Int.reduceNeg, Int.reduceLT, Int.reduceLE, Int.reduceEq, Int.reduceNe, Int.reduceBEq, Int.reduceBNe, Int.reduceToNat, *])) <;> exact Settle.locals Fz.s

theorem bits64 (n : Int) (hn : 0 ≤ n) (hn' : n < 256) : (bits .and .u8 n 64 == 64) = (n / 64 % 2 == 1) := by
  obtain ⟨m, rfl⟩ := Int.eq_ofNat_of_zero_le hn
  have hm : m < 256 := by omega
  have : ∀ m : Fin 256, (bits .and .u8 (m.val : Int) 64 == 64) = ((m.val : Int) / 64 % 2 == 1) := of_decide_eq_true (by kernel_rfl)
  exact this ⟨m, hm⟩

theorem bits16 (n : Int) (hn : 0 ≤ n) (hn' : n < 256) : (bits .and .u8 n 16 == 16) = (n / 16 % 2 == 1) := by
  obtain ⟨m, rfl⟩ := Int.eq_ofNat_of_zero_le hn
  have hm : m < 256 := by omega
  have : ∀ m : Fin 256, (bits .and .u8 (m.val : Int) 16 == 16) = ((m.val : Int) / 16 % 2 == 1) := of_decide_eq_true (by kernel_rfl)
  exact this ⟨m, hm⟩

theorem con12 (s0 s1 b a0 a1 a2 a3 a4 a5 : Bool) (n : Int) (hn : 0 ≤ n) (hn' : n < 256) (H : Hp) :
    Con Try.prog 12 [.agg [.s (.bool s0), .s (.bool s1), .s (.bool b)], .agg [.s (.bool a0), .s (.bool a1), .s (.bool a2), .s (.bool a3), .s (.bool a4), .s (.bool a5)], .s (.int .u8 n)] H (.s (.int .i64 (row b a2 a3 n))) H := by
  refine Con.of cfn12 (Nat.le_of_ble_eq_true rfl) ?_
  unfold ir12
  have c16 := con41 n [16] (by simp)
  have c64 := con41 n [64] (by simp)
  simp only [List.all_cons, List.all_nil, Bool.and_true, bits16 n hn hn', bits64 n hn hn', bs, List.map_cons, List.map_nil, List.length_cons, List.length_nil, Nat.zero_add] at c16 c64
  generalize e16 : (n / 16 % 2 == 1) = u16 at c16
  generalize e64 : (n / 64 % 2 == 1) = u64 at c64
  unfold row
  rw [e16, e64]
  cases u16 <;> cases u64 <;> cases a2 <;> cases a3 <;> cases b <;> simp (disch := omega) only [go_sem, Nat.reduceEqDiff, ↓reduceIte, Nat.reduceAdd, Nat.reduceSub, Nat.reduceMul, Nat.reduceLeDiff, Nat.reduceDiv, Nat.reduceMod, Nat.reducePow, Nat.reduceBEq, Int.reduceAdd, Int.reduceSub, Int.reduceMul, Int.reduceNeg, Int.reduceLT, Int.reduceLE, Int.reduceEq, Int.reduceNe, Int.reduceBEq, Int.reduceBNe, Int.reduceToNat, *] <;>
    (repeat' first
      | (refine qcall_of (c16 _) ?_; simp (disch := omega) only [go_sem, Nat.reduceEqDiff, ↓reduceIte, Nat.reduceAdd, Nat.reduceSub, Nat.reduceMul, Nat.reduceLeDiff, Nat.reduceDiv, Nat.reduceMod, Nat.reducePow, Nat.reduceBEq, Int.reduceAdd, Int.reduceSub, Int.reduceMul, Int.reduceNeg, Int.reduceLT, Int.reduceLE, Int.reduceEq, Int.reduceNe, Int.reduceBEq, Int.reduceBNe, Int.reduceToNat, *])
      | (refine qcall_of (c64 _) ?_; simp (disch := omega) only [go_sem, Nat.reduceEqDiff, ↓reduceIte, Nat.reduceAdd, Nat.reduceSub, Nat.reduceMul, Nat.reduceLeDiff, Nat.reduceDiv, Nat.reduceMod, Nat.reducePow, Nat.reduceBEq, Int.reduceAdd, Int.reduceSub, Int.reduceMul, Int.reduceNeg, Int.reduceLT, Int.reduceLE, Int.reduceEq, Int.reduceNe, Int.reduceBEq, Int.reduceBNe, Int.reduceToNat, *])) <;> exact Settle.locals Fz.s

theorem row_range (b a2 a3 : Bool) (n : Int) : row b a2 a3 n = 0 ∨ row b a2 a3 n = 1 ∨ row b a2 a3 n = 2 ∨ row b a2 a3 n = 3 := by
  unfold row
  split
  · simp
  · split
    · simp
    · split <;> simp

theorem con11 (s0 s1 b a0 a1 a2 a3 a4 a5 : Bool) (n : Int) (hn : 0 ≤ n) (hn' : n < 256) (H : Hp) :
    Con Try.prog 11 [.agg [.s (.bool s0), .s (.bool s1), .s (.bool b)], .agg [.s (.bool a0), .s (.bool a1), .s (.bool a2), .s (.bool a3), .s (.bool a4), .s (.bool a5)], .s (.int .u8 n)] H
      (.tup [.s (.int .i64 (if row b a2 a3 n > 0 then row b a2 a3 n + 4 else 0)), .s (.bool (decide (row b a2 a3 n > 0)))]) H := by
  refine Con.of cfn11 (Nat.le_of_ble_eq_true rfl) ?_
  unfold ir11
  have c12 := con12 s0 s1 b a0 a1 a2 a3 a4 a5 n hn hn'
  have hr : row b a2 a3 n = 0 ∨ row b a2 a3 n = 1 ∨ row b a2 a3 n = 2 ∨ row b a2 a3 n = 3 := row_range b a2 a3 n
  generalize row b a2 a3 n = r at *
  simp (disch := omega) only [go_sem, Nat.reduceEqDiff, ↓reduceIte, Nat.reduceAdd, Nat.reduceSub, Nat.reduceMul, Nat.reduceLeDiff, Nat.reduceDiv, Nat.reduceMod, Nat.reducePow, Nat.reduceBEq, Int.reduceAdd, Int.reduceSub, Int.reduceMul, Int.reduceNeg, Int.reduceLT, Int.reduceLE, Int.reduceEq, Int.reduceNe, Int.reduceBEq, Int.reduceBNe, Int.reduceToNat, *]
  refine dcall_of (c12 _) ?_
  rcases hr with rfl | rfl | rfl | rfl <;> simp (disch := omega) only [go_sem, Nat.reduceEqDiff, ↓reduceIte, Nat.reduceAdd, Nat.reduceSub, Nat.reduceMul, Nat.reduceLeDiff, Nat.reduceDiv, Nat.reduceMod, Nat.reducePow, Nat.reduceBEq, Int.reduceAdd, Int.reduceSub, Int.reduceMul, Int.reduceNeg, Int.reduceLT, Int.reduceLE, Int.reduceEq, Int.reduceNe, Int.reduceBEq, Int.reduceBNe, Int.reduceToNat, *] <;> exact Settle.locals (Fz.tup (Fzs.cons Fz.s (Fzs.cons Fz.s Fzs.nil)))

theorem con13 (s0 s1 b a0 a1 a2 a3 a4 a5 : Bool) (H : Hp) :
    Con Try.prog 13 [.agg [.s (.bool s0), .s (.bool s1), .s (.bool b)], .agg [.s (.bool a0), .s (.bool a1), .s (.bool a2), .s (.bool a3), .s (.bool a4), .s (.bool a5)]] H (.s (.bool (b || a2 || a3))) H := by
  refine Con.of cfn13 (Nat.le_of_ble_eq_true rfl) ?_
  unfold ir13
  cases a2 <;> cases a3 <;> cases b <;> simp (disch := omega) only [go_sem, Nat.reduceEqDiff, ↓reduceIte, Nat.reduceAdd, Nat.reduceSub, Nat.reduceMul, Nat.reduceLeDiff, Nat.reduceDiv, Nat.reduceMod, Nat.reducePow, Nat.reduceBEq, Int.reduceAdd, Int.reduceSub, Int.reduceMul, Int.reduceNeg, Int.reduceLT, Int.reduceLE, Int.reduceEq, Int.reduceNe, Int.reduceBEq, Int.reduceBNe, Int.reduceToNat, *] <;> exact Settle.locals Fz.s

theorem con14 (H : Hp) : Con Try.prog 14 [] H (.s (.bool true)) H := by
  refine Con.of cfn14 (Nat.le_of_ble_eq_true rfl) ?_
  unfold ir14
  have c12 := con12 false false false false false true true false false 64 (by omega) (by omega)
  have hr : row false true true 64 = 3 := by decide
  rw [hr] at c12
  simp (disch := omega) only [go_sem, Nat.reduceEqDiff, ↓reduceIte, Nat.reduceAdd, Nat.reduceSub, Nat.reduceMul, Nat.reduceLeDiff, Nat.reduceDiv, Nat.reduceMod, Nat.reducePow, Nat.reduceBEq, Int.reduceAdd, Int.reduceSub, Int.reduceMul, Int.reduceNeg, Int.reduceLT, Int.reduceLE, Int.reduceEq, Int.reduceNe, Int.reduceBEq, Int.reduceBNe, Int.reduceToNat, *]
  refine dcall_of (c12 _) ?_
  simp (disch := omega) only [go_sem, Nat.reduceEqDiff, ↓reduceIte, Nat.reduceAdd, Nat.reduceSub, Nat.reduceMul, Nat.reduceLeDiff, Nat.reduceDiv, Nat.reduceMod, Nat.reducePow, Nat.reduceBEq, Int.reduceAdd, Int.reduceSub, Int.reduceMul, Int.reduceNeg, Int.reduceLT, Int.reduceLE, Int.reduceEq, Int.reduceNe, Int.reduceBEq, Int.reduceBNe, Int.reduceToNat, *]
  exact Settle.refl

set_option maxHeartbeats 4000000 in
theorem con3 (s0 s1 b a0 a1 a2 a3 a4 a5 : Bool) (n : Int) (hn : 0 ≤ n) (hn' : n < 256) (H : Hp) :
    Con Try.prog 3 [.agg [.s (.bool s0), .s (.bool s1), .s (.bool b)], .agg [.s (.bool a0), .s (.bool a1), .s (.bool a2), .s (.bool a3), .s (.bool a4), .s (.bool a5)], .s (.int .u8 n)] H (.s (.bool true)) H := by
  refine Con.of cfn3 (Nat.le_of_ble_eq_true rfl) ?_
  unfold ir3
  have c10 := con10 b a0 a1 a2 a3 a4 a5 n hn hn'
  have c11 := con11 s0 s1 b a0 a1 a2 a3 a4 a5 n hn hn'
  have c12 := con12 s0 s1 b a0 a1 a2 a3 a4 a5 n hn hn'
  have c13 := con13 s0 s1 b a0 a1 a2 a3 a4 a5
  have hr : row b a2 a3 n = 0 ∨ row b a2 a3 n = 1 ∨ row b a2 a3 n = 2 ∨ row b a2 a3 n = 3 := row_range b a2 a3 n
  generalize row b a2 a3 n = r at *
  simp (disch := omega) only [go_sem, Nat.reduceEqDiff, ↓reduceIte, Nat.reduceAdd, Nat.reduceSub, Nat.reduceMul, Nat.reduceLeDiff, Nat.reduceDiv, Nat.reduceMod, Nat.reducePow, Nat.reduceBEq, Int.reduceAdd, Int.reduceSub, Int.reduceMul, Int.reduceNeg, Int.reduceLT, Int.reduceLE, Int.reduceEq, Int.reduceNe, Int.reduceBEq, Int.reduceBNe, Int.reduceToNat, *]
  refine dcall_of (c10 _) ?_
  simp (disch := omega) only [go_sem, Nat.reduceEqDiff, ↓reduceIte, Nat.reduceAdd, Nat.reduceSub, Nat.reduceMul, Nat.reduceLeDiff, Nat.reduceDiv, Nat.reduceMod, Nat.reducePow, Nat.reduceBEq, Int.reduceAdd, Int.reduceSub, Int.reduceMul, Int.reduceNeg, Int.reduceLT, Int.reduceLE, Int.reduceEq, Int.reduceNe, Int.reduceBEq, Int.reduceBNe, Int.reduceToNat, *]
  refine dcall_of (c11 _) ?_
  rcases hr with rfl | rfl | rfl | rfl <;> cases a2 <;> cases a3 <;> cases b <;> simp (disch := omega) only [go_sem, Nat.reduceEqDiff, ↓reduceIte, Nat.reduceAdd, Nat.reduceSub, Nat.reduceMul, Nat.reduceLeDiff, Nat.reduceDiv, Nat.reduceMod, Nat.reducePow, Nat.reduceBEq, Int.reduceAdd, Int.reduceSub, Int.reduceMul, Int.reduceNeg, Int.reduceLT, Int.reduceLE, Int.reduceEq, Int.reduceNe, Int.reduceBEq, Int.reduceBNe, Int.reduceToNat, *] <;>
    (refine qcall_of (c12 _) ?_; simp (disch := omega) only [go_sem, Nat.reduceEqDiff, ↓reduceIte, Nat.reduceAdd, Nat.reduceSub, Nat.reduceMul, Nat.reduceLeDiff, Nat.reduceDiv, Nat.reduceMod, Nat.reducePow, Nat.reduceBEq, Int.reduceAdd, Int.reduceSub, Int.reduceMul, Int.reduceNeg, Int.reduceLT, Int.reduceLE, Int.reduceEq, Int.reduceNe, Int.reduceBEq, Int.reduceBNe, Int.reduceToNat, *]; refine qcall_of (c13 _) ?_; simp (disch := omega) only [go_sem, Nat.reduceEqDiff, ↓reduceIte, Nat.reduceAdd, Nat.reduceSub, Nat.reduceMul, Nat.reduceLeDiff, Nat.reduceDiv, Nat.reduceMod, Nat.reducePow, Nat.reduceBEq, Int.reduceAdd, Int.reduceSub, Int.reduceMul, Int.reduceNeg, Int.reduceLT, Int.reduceLE, Int.reduceEq, Int.reduceNe, Int.reduceBEq, Int.reduceBNe, Int.reduceToNat, *]; refine qcall_of (con14 _) ?_; simp (disch := omega) only [go_sem, Nat.reduceEqDiff, ↓reduceIte, Nat.reduceAdd, Nat.reduceSub, Nat.reduceMul, Nat.reduceLeDiff, Nat.reduceDiv, Nat.reduceMod, Nat.reducePow, Nat.reduceBEq, Int.reduceAdd, Int.reduceSub, Int.reduceMul, Int.reduceNeg, Int.reduceLT, Int.reduceLE, Int.reduceEq, Int.reduceNe, Int.reduceBEq, Int.reduceBNe, Int.reduceToNat, *]; exact Settle.locals Fz.s)
end Go.Proofs.YtbgdkaahcfmaeaaK
