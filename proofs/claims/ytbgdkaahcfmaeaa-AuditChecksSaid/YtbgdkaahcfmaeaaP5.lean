/- What the count of traces answers; the law on traces. -/
import Derived.Test.YtbgdkaahcfmaeaaP4
namespace Go.Proofs.YtbgdkaahcfmaeaaK
set_option linter.unusedVariables false
set_option linter.unusedSimpArgs false
open Go.RowKit

structure T4 where
  a : Int
  b : Int
  c : Int
  d : Int

def T4.v (t : T4) : List V := [.s (.int .i64 t.a), .s (.int .i64 t.b), .s (.int .i64 t.c), .s (.int .i64 t.d)]
def T4.zero : T4 := ⟨0, 0, 0, 0⟩
def T4.step (t : T4) (r : Rec) : T4 := if r.mine = true then ⟨t.a + 1, t.b, t.c, t.d⟩ else if r.lic = true then ⟨t.a, t.b, t.c + 1, t.d⟩ else if r.ba = true then ⟨t.a, t.b + 1, t.c, t.d⟩ else ⟨t.a, t.b, t.c, t.d + 1⟩
def tly (l : List Rec) : T4 := l.foldl T4.step T4.zero
def T4.upto (t : T4) (i : Nat) : Prop := 0 ≤ t.a ∧ t.a ≤ i ∧ 0 ≤ t.b ∧ t.b ≤ i ∧ 0 ≤ t.c ∧ t.c ≤ i ∧ 0 ≤ t.d ∧ t.d ≤ i

theorem tly_succ (l : List Rec) (i : Nat) (h : i < l.length) : tly (l.take (i + 1)) = (tly (l.take i)).step (l.getD i default) := by
  unfold tly
  rw [List.take_add_one, List.foldl_append]
  simp [List.getD, h]

theorem T4.step_upto {t : T4} {i : Nat} (h : t.upto i) (r : Rec) : (t.step r).upto (i + 1) := by
  obtain ⟨h1, h2, h3, h4, h5, h6, h7, h8⟩ := h
  unfold T4.step T4.upto
  split
  · simp only; omega
  · split
    · simp only; omega
    · split <;> simp only <;> omega

set_option maxHeartbeats 4000000 in
theorem con22 (l : List Rec) (x : V) (hx : Reads x l.length 9 fun i => (l.getD i default).v) (hl : l.length < 1000000) (H : Hp) : Con Try.prog 22 [x] H (.agg (tly l).v) H := by
  refine Con.of cfn22 (Nat.le_of_ble_eq_true rfl) ?_
  unfold ir22
  have hlen := hx.len
  have hcut := hx.cut
  simp +contextual (disch := omega) only [go_sem, Nat.reduceEqDiff, ↓reduceIte, Nat.reduceAdd, Nat.reduceSub, Nat.reduceMul, Nat.reduceLeDiff, Nat.reduceDiv, Nat.reduceMod, Nat.reducePow, Nat.reduceBEq, Int.reduceAdd, Int.reduceSub, Int.reduceMul, Int.reduceNeg, Int.reduceLT, Int.reduceLE, Int.reduceEq, Int.reduceNe, Int.reduceBEq, Int.reduceBNe, Int.reduceToNat,  hlen]
  refine dwp_loopc (α := Nat) H _ 2 (fun i f1 L1 => L1 = [⟨0, .mem, 1, T4.zero.v⟩, ⟨0, .mem, 1, (tly (l.take i)).v⟩] ∧ f1 6 = x ∧ f1 7 = .s (.int .i64 l.length) ∧ f1 8 = .s (.int .i64 i) ∧ f1 2 = .ptr H.length 0 0 ∧ f1 3 = .ptr (H.length + 1) 0 0 ∧ i ≤ l.length ∧ (tly (l.take i)).upto i) (fun i => l.length - i) 0 (by simp) ?_ ?_
  · simp +contextual (disch := omega) only [go_sem, Nat.reduceEqDiff, ↓reduceIte, Nat.reduceAdd, Nat.reduceSub, Nat.reduceMul, Nat.reduceLeDiff, Nat.reduceDiv, Nat.reduceMod, Nat.reducePow, Nat.reduceBEq, Int.reduceAdd, Int.reduceSub, Int.reduceMul, Int.reduceNeg, Int.reduceLT, Int.reduceLE, Int.reduceEq, Int.reduceNe, Int.reduceBEq, Int.reduceBNe, Int.reduceToNat,  T4.v]
    exact ⟨rfl, rfl, by omega, by simp [tly, T4.zero, T4.upto]⟩
  · rintro i f1 L1 ⟨rfl, h6, h7, h8, h2, h3, hi, hu⟩
    simp +contextual (disch := omega) only [go_sem, Nat.reduceEqDiff, ↓reduceIte, Nat.reduceAdd, Nat.reduceSub, Nat.reduceMul, Nat.reduceLeDiff, Nat.reduceDiv, Nat.reduceMod, Nat.reducePow, Nat.reduceBEq, Int.reduceAdd, Int.reduceSub, Int.reduceMul, Int.reduceNeg, Int.reduceLT, Int.reduceLE, Int.reduceEq, Int.reduceNe, Int.reduceBEq, Int.reduceBNe, Int.reduceToNat,  h6, h7, h8, h2, h3, T4.v]
    refine andB_split (fun hb => ?_) (fun hb => ?_)
    · have hi' : i < l.length := by simpa using hb
      obtain ⟨rest, hr⟩ := hx.at_ i hi'
      have hs := tly_succ l i hi'
      have hu' := T4.step_upto hu (l.getD i default)
      rw [← hs] at hu'
      generalize hg : l.getD i default = r at hr hs
      generalize htn : tly (l.take (i + 1)) = tn at hs hu'
      generalize ht : tly (l.take i) = t at hs hu
      obtain ⟨u1, u2, u3, u4, u5, u6, u7, u8⟩ := hu
      unfold T4.step at hs
      simp +contextual (disch := omega) only [go_sem, Nat.reduceEqDiff, ↓reduceIte, Nat.reduceAdd, Nat.reduceSub, Nat.reduceMul, Nat.reduceLeDiff, Nat.reduceDiv, Nat.reduceMod, Nat.reducePow, Nat.reduceBEq, Int.reduceAdd, Int.reduceSub, Int.reduceMul, Int.reduceNeg, Int.reduceLT, Int.reduceLE, Int.reduceEq, Int.reduceNe, Int.reduceBEq, Int.reduceBNe, Int.reduceToNat,  h6, h7, h8, h2, h3, T4.v, Rec.v, T4.zero, hlen, hr, hcut]
      refine andB_split (fun k1 => ?_) (fun k1 => ?_)
      · rw [ifT k1] at hs
        simp +contextual (disch := omega) only [go_sem, Nat.reduceEqDiff, ↓reduceIte, Nat.reduceAdd, Nat.reduceSub, Nat.reduceMul, Nat.reduceLeDiff, Nat.reduceDiv, Nat.reduceMod, Nat.reducePow, Nat.reduceBEq, Int.reduceAdd, Int.reduceSub, Int.reduceMul, Int.reduceNeg, Int.reduceLT, Int.reduceLE, Int.reduceEq, Int.reduceNe, Int.reduceBEq, Int.reduceBNe, Int.reduceToNat,  h6, h7, h8, h2, h3, T4.v, Rec.v, T4.zero, hlen, hr, hcut]
        exact ⟨[_, _], [_], i + 1, rfl, rfl, fun B hB => by simp only [List.mem_cons, List.not_mem_nil, or_false] at hB; rcases hB with rfl | rfl <;> rfl, ⟨by rw [htn, hs], by simp, by omega, by rw [htn]; exact hu'⟩, by omega⟩
      · rw [ifF k1] at hs
        simp +contextual (disch := omega) only [go_sem, Nat.reduceEqDiff, ↓reduceIte, Nat.reduceAdd, Nat.reduceSub, Nat.reduceMul, Nat.reduceLeDiff, Nat.reduceDiv, Nat.reduceMod, Nat.reducePow, Nat.reduceBEq, Int.reduceAdd, Int.reduceSub, Int.reduceMul, Int.reduceNeg, Int.reduceLT, Int.reduceLE, Int.reduceEq, Int.reduceNe, Int.reduceBEq, Int.reduceBNe, Int.reduceToNat,  h6, h7, h8, h2, h3, T4.v, Rec.v, T4.zero, hlen, hr, hcut]
        refine andB_split (fun k2 => ?_) (fun k2 => ?_)
        · rw [ifT k2] at hs
          simp +contextual (disch := omega) only [go_sem, Nat.reduceEqDiff, ↓reduceIte, Nat.reduceAdd, Nat.reduceSub, Nat.reduceMul, Nat.reduceLeDiff, Nat.reduceDiv, Nat.reduceMod, Nat.reducePow, Nat.reduceBEq, Int.reduceAdd, Int.reduceSub, Int.reduceMul, Int.reduceNeg, Int.reduceLT, Int.reduceLE, Int.reduceEq, Int.reduceNe, Int.reduceBEq, Int.reduceBNe, Int.reduceToNat,  h6, h7, h8, h2, h3, T4.v, Rec.v, T4.zero, hlen, hr, hcut]
          exact ⟨[_, _], [_], i + 1, rfl, rfl, fun B hB => by simp only [List.mem_cons, List.not_mem_nil, or_false] at hB; rcases hB with rfl | rfl <;> rfl, ⟨by rw [htn, hs], by simp, by omega, by rw [htn]; exact hu'⟩, by omega⟩
        · rw [ifF k2] at hs
          simp +contextual (disch := omega) only [go_sem, Nat.reduceEqDiff, ↓reduceIte, Nat.reduceAdd, Nat.reduceSub, Nat.reduceMul, Nat.reduceLeDiff, Nat.reduceDiv, Nat.reduceMod, Nat.reducePow, Nat.reduceBEq, Int.reduceAdd, Int.reduceSub, Int.reduceMul, Int.reduceNeg, Int.reduceLT, Int.reduceLE, Int.reduceEq, Int.reduceNe, Int.reduceBEq, Int.reduceBNe, Int.reduceToNat,  h6, h7, h8, h2, h3, T4.v, Rec.v, T4.zero, hlen, hr, hcut]
          refine andB_split (fun k3 => ?_) (fun k3 => ?_)
          · rw [ifT k3] at hs
            simp +contextual (disch := omega) only [go_sem, Nat.reduceEqDiff, ↓reduceIte, Nat.reduceAdd, Nat.reduceSub, Nat.reduceMul, Nat.reduceLeDiff, Nat.reduceDiv, Nat.reduceMod, Nat.reducePow, Nat.reduceBEq, Int.reduceAdd, Int.reduceSub, Int.reduceMul, Int.reduceNeg, Int.reduceLT, Int.reduceLE, Int.reduceEq, Int.reduceNe, Int.reduceBEq, Int.reduceBNe, Int.reduceToNat,  h6, h7, h8, h2, h3, T4.v, Rec.v, T4.zero, hlen, hr, hcut]
            exact ⟨[_, _], [_], i + 1, rfl, rfl, fun B hB => by simp only [List.mem_cons, List.not_mem_nil, or_false] at hB; rcases hB with rfl | rfl <;> rfl, ⟨by rw [htn, hs], by simp, by omega, by rw [htn]; exact hu'⟩, by omega⟩
          · rw [ifF k3] at hs
            simp +contextual (disch := omega) only [go_sem, Nat.reduceEqDiff, ↓reduceIte, Nat.reduceAdd, Nat.reduceSub, Nat.reduceMul, Nat.reduceLeDiff, Nat.reduceDiv, Nat.reduceMod, Nat.reducePow, Nat.reduceBEq, Int.reduceAdd, Int.reduceSub, Int.reduceMul, Int.reduceNeg, Int.reduceLT, Int.reduceLE, Int.reduceEq, Int.reduceNe, Int.reduceBEq, Int.reduceBNe, Int.reduceToNat,  h6, h7, h8, h2, h3, T4.v, Rec.v, T4.zero, hlen, hr, hcut]
            exact ⟨[_, _], [_], i + 1, rfl, rfl, fun B hB => by simp only [List.mem_cons, List.not_mem_nil, or_false] at hB; rcases hB with rfl | rfl <;> rfl, ⟨by rw [htn, hs], by simp, by omega, by rw [htn]; exact hu'⟩, by omega⟩
    · simp +contextual (disch := omega) only [go_sem, Nat.reduceEqDiff, ↓reduceIte, Nat.reduceAdd, Nat.reduceSub, Nat.reduceMul, Nat.reduceLeDiff, Nat.reduceDiv, Nat.reduceMod, Nat.reducePow, Nat.reduceBEq, Int.reduceAdd, Int.reduceSub, Int.reduceMul, Int.reduceNeg, Int.reduceLT, Int.reduceLE, Int.reduceEq, Int.reduceNe, Int.reduceBEq, Int.reduceBNe, Int.reduceToNat,  h6, h7, h8, h2, h3, T4.v, T4.zero, hlen]
      have hge : l.length ≤ i := by simpa using hb
      rw [List.take_of_length_le hge]
      exact Settle.locals (Fz.below rfl)
end Go.Proofs.YtbgdkaahcfmaeaaK
