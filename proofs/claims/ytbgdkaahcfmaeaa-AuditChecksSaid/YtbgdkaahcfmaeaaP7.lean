/- The law on traces: what its function answers. -/
import Derived.Test.YtbgdkaahcfmaeaaP6
namespace Go.Proofs.YtbgdkaahcfmaeaaK
set_option linter.unusedVariables false
set_option linter.unusedSimpArgs false
open Go.RowKit

theorem LS.next_ok {l : List Rec} (hw : ∀ r ∈ l, 0 ≤ r.addr ∧ r.addr < 65536) {s : LS} (h : s.ok l) (hi : s.i < l.length) : (s.next l).ok l := by
  obtain ⟨i, at_, what, last, sm⟩ := s
  simp only [LS.ok, LS.next] at h hi ⊢
  obtain ⟨_, h⟩ := h
  have hr := hw (l.getD i default) (by simp [List.getD, hi])
  have we := wrong_eq (l.getD i default) last sm hr.1 hr.2
  rw [drop_get l i hi] at h
  generalize l.getD i default = r at *
  refine ⟨by omega, ?_⟩
  rcases h with ⟨rfl, ha, hc⟩ | ⟨hn, hc⟩
  · simp only [chk] at hc
    by_cases h1 : (r.one != 0) = true
    · rw [ifT h1] at hc we
      rw [we]
      simp only [h1, beq_self_eq_true, Bool.and_self, if_true]
      exact .inr ⟨by simpa using h1, hc.symm⟩
    · have h1 : (r.one != 0) = false := by simpa using h1
      rw [ifF h1] at hc we
      by_cases h2 : (!r.mine) = true
      · rw [ifT h2] at hc we
        rw [we]
        have hm : r.mine = false := by simpa using h2
        rw [hm]
        simp only [bne_self_eq_false, Bool.false_and, Bool.false_eq_true, if_false]
        exact .inl ⟨trivial, ha, by simpa using hc⟩
      · have h2 : (!r.mine) = false := by simpa using h2
        rw [ifF h2] at hc we
        have hm : r.mine = true := by simpa using h2
        rw [hm]
        by_cases h3 : (sm && last.follows r != 0) = true
        · rw [ifT h3] at hc we
          rw [we]
          exact .inr ⟨by decide, hc.symm⟩
        · have h3 : (sm && last.follows r != 0) = false := by simpa using h3
          rw [ifF h3] at hc we
          rw [we]
          simp only [bne_self_eq_false, Bool.false_and, Bool.false_eq_true, if_false, if_true]
          exact .inl ⟨trivial, ha, by simpa using hc⟩
  · have e : (what == 0) = false := by simpa using hn
    simp only [e, Bool.and_false, Bool.false_eq_true, if_false]
    exact .inr ⟨hn, hc⟩

theorem LS.done {l : List Rec} {s : LS} (h : s.ok l) (hi : l.length ≤ s.i) : chk l 0 Rec.zero false = (s.at_, s.what) := by
  obtain ⟨h1, ⟨h2, h3, h4⟩ | ⟨h2, h3⟩⟩ := h
  · rw [List.drop_of_length_le hi] at h4
    simp only [chk] at h4
    rw [← h4, h2, h3]
    have : s.i = l.length := by omega
    rw [this]
  · exact h3

set_option maxHeartbeats 8000000 in
theorem con6 (l : List Rec) (x : V) (hx : Reads x l.length 9 fun i => (l.getD i default).v) (hw : ∀ r ∈ l, 0 ≤ r.addr ∧ r.addr < 65536) (H : Hp) : Con Try.prog 6 [x] H (.s (.bool true)) H := by
  refine Con.of cfn6 (Nat.le_of_ble_eq_true rfl) ?_
  unfold ir6
  have hlen := hx.len
  have hcut := hx.cut
  simp +contextual (disch := omega) only [go_sem, Nat.reduceEqDiff, ↓reduceIte, Nat.reduceAdd, Nat.reduceSub, Nat.reduceMul, Nat.reduceLeDiff, Nat.reduceDiv, Nat.reduceMod, Nat.reducePow, Nat.reduceBEq, Int.reduceAdd, Int.reduceSub, Int.reduceMul, Int.reduceNeg, Int.reduceLT, Int.reduceLE, Int.reduceEq, Int.reduceNe, Int.reduceBEq, Int.reduceBNe, Int.reduceToNat,  hlen]
  refine andB_split (fun hb => ?_) (fun hb => ?_)
  · simp +contextual (disch := omega) only [go_sem, Nat.reduceEqDiff, ↓reduceIte, Nat.reduceAdd, Nat.reduceSub, Nat.reduceMul, Nat.reduceLeDiff, Nat.reduceDiv, Nat.reduceMod, Nat.reducePow, Nat.reduceBEq, Int.reduceAdd, Int.reduceSub, Int.reduceMul, Int.reduceNeg, Int.reduceLT, Int.reduceLE, Int.reduceEq, Int.reduceNe, Int.reduceBEq, Int.reduceBNe, Int.reduceToNat,  hlen]
    exact Settle.refl
  have hl : l.length ≤ 200 := by
    have : (l.length : Int) ≤ 200 := by simpa using hb
    omega
  simp +contextual (disch := omega) only [go_sem, Nat.reduceEqDiff, ↓reduceIte, Nat.reduceAdd, Nat.reduceSub, Nat.reduceMul, Nat.reduceLeDiff, Nat.reduceDiv, Nat.reduceMod, Nat.reducePow, Nat.reduceBEq, Int.reduceAdd, Int.reduceSub, Int.reduceMul, Int.reduceNeg, Int.reduceLT, Int.reduceLE, Int.reduceEq, Int.reduceNe, Int.reduceBEq, Int.reduceBNe, Int.reduceToNat,  hlen]
  refine dwp_loopc (α := LS) H _ 2 (fun s f1 L1 => L1 = [⟨0, .mem, 1, s.last.v⟩, ⟨0, .mem, 1, (tly (l.take s.i)).v⟩] ∧ f1 0 = x ∧ f1 3 = .s (.int .i64 s.at_) ∧ f1 4 = .s (.int .i64 s.what) ∧ f1 6 = .s (.bool s.sm) ∧ f1 8 = .s (.int .i64 s.i) ∧ f1 5 = .ptr H.length 0 0 ∧ f1 7 = .ptr (H.length + 1) 0 0 ∧ s.ok l ∧ (tly (l.take s.i)).upto s.i) (fun s => l.length - s.i) ⟨0, l.length, 0, Rec.zero, false⟩ (by simp) ?_ ?_
  · simp +contextual (disch := omega) only [go_sem, Nat.reduceEqDiff, ↓reduceIte, Nat.reduceAdd, Nat.reduceSub, Nat.reduceMul, Nat.reduceLeDiff, Nat.reduceDiv, Nat.reduceMod, Nat.reducePow, Nat.reduceBEq, Int.reduceAdd, Int.reduceSub, Int.reduceMul, Int.reduceNeg, Int.reduceLT, Int.reduceLE, Int.reduceEq, Int.reduceNe, Int.reduceBEq, Int.reduceBNe, Int.reduceToNat,  Rec.v, Rec.zero, T4.v, hlen]
    exact ⟨rfl, rfl, ⟨by simp, .inl ⟨rfl, rfl, rfl⟩⟩, by simp [tly, T4.zero, T4.upto]⟩
  · rintro ⟨i, at_, what, last, sm⟩ f1 L1 ⟨rfl, h0, h3, h4, h6, h8, h5, h7, hok, hu⟩
    simp only at h3 h4 h6 h8 hu
    simp +contextual (disch := omega) only [go_sem, Nat.reduceEqDiff, ↓reduceIte, Nat.reduceAdd, Nat.reduceSub, Nat.reduceMul, Nat.reduceLeDiff, Nat.reduceDiv, Nat.reduceMod, Nat.reducePow, Nat.reduceBEq, Int.reduceAdd, Int.reduceSub, Int.reduceMul, Int.reduceNeg, Int.reduceLT, Int.reduceLE, Int.reduceEq, Int.reduceNe, Int.reduceBEq, Int.reduceBNe, Int.reduceToNat,  h0, h3, h4, h6, h8, h5, h7, T4.v, Rec.v, hlen]
    refine andB_split (fun hb => ?_) (fun hb => ?_)
    · have hi' : i < l.length := by simpa using hb
      obtain ⟨rest, hr⟩ := hx.at_ i hi'
      have hs := tly_succ l i hi'
      have hu' := T4.step_upto hu (l.getD i default)
      rw [← hs] at hu'
      have hok' := LS.next_ok hw hok hi'
      simp only [LS.next] at hok'
      generalize hg : l.getD i default = r at hr hs hok'
      generalize htn : tly (l.take (i + 1)) = tn at hs hu'
      generalize ht : tly (l.take i) = t at hs hu
      obtain ⟨u1, u2, u3, u4, u5, u6, u7, u8⟩ := hu
      unfold T4.step at hs
      simp +contextual (disch := omega) only [go_sem, Nat.reduceEqDiff, ↓reduceIte, Nat.reduceAdd, Nat.reduceSub, Nat.reduceMul, Nat.reduceLeDiff, Nat.reduceDiv, Nat.reduceMod, Nat.reducePow, Nat.reduceBEq, Int.reduceAdd, Int.reduceSub, Int.reduceMul, Int.reduceNeg, Int.reduceLT, Int.reduceLE, Int.reduceEq, Int.reduceNe, Int.reduceBEq, Int.reduceBNe, Int.reduceToNat,  h0, h3, h4, h6, h8, h5, h7, T4.v, Rec.v, hlen, hr, hcut, ht]
      refine qcall_of (con20 r last sm _) ?_
      simp +contextual (disch := omega) only [go_sem, Nat.reduceEqDiff, ↓reduceIte, Nat.reduceAdd, Nat.reduceSub, Nat.reduceMul, Nat.reduceLeDiff, Nat.reduceDiv, Nat.reduceMod, Nat.reducePow, Nat.reduceBEq, Int.reduceAdd, Int.reduceSub, Int.reduceMul, Int.reduceNeg, Int.reduceLT, Int.reduceLE, Int.reduceEq, Int.reduceNe, Int.reduceBEq, Int.reduceBNe, Int.reduceToNat,  h0, h3, h4, h6, h8, h5, h7, T4.v, Rec.v, hlen, hr, hcut, ht]
      refine andB_split (fun hh => ?_) (fun hh => ?_)
      · simp +contextual (disch := omega) only [go_sem, Nat.reduceEqDiff, ↓reduceIte, Nat.reduceAdd, Nat.reduceSub, Nat.reduceMul, Nat.reduceLeDiff, Nat.reduceDiv, Nat.reduceMod, Nat.reducePow, Nat.reduceBEq, Int.reduceAdd, Int.reduceSub, Int.reduceMul, Int.reduceNeg, Int.reduceLT, Int.reduceLE, Int.reduceEq, Int.reduceNe, Int.reduceBEq, Int.reduceBNe, Int.reduceToNat,  h0, h3, h4, h6, h8, h5, h7, T4.v, Rec.v, hlen, hr, hcut, ht]
        simp only [hh, if_true, if_false, Bool.false_eq_true] at hok'
        refine andB_split (fun k1 => ?_) (fun k1 => ?_)
        · rw [ifT k1] at hs
          simp only [k1, if_true] at hok'
          simp +contextual (disch := omega) only [go_sem, Nat.reduceEqDiff, ↓reduceIte, Nat.reduceAdd, Nat.reduceSub, Nat.reduceMul, Nat.reduceLeDiff, Nat.reduceDiv, Nat.reduceMod, Nat.reducePow, Nat.reduceBEq, Int.reduceAdd, Int.reduceSub, Int.reduceMul, Int.reduceNeg, Int.reduceLT, Int.reduceLE, Int.reduceEq, Int.reduceNe, Int.reduceBEq, Int.reduceBNe, Int.reduceToNat,  h0, h3, h4, h6, h8, h5, h7, T4.v, Rec.v, hlen, hr, hcut, ht]
          exact ⟨[_, _], [], ⟨i + 1, i, r.wrong last sm, r, true⟩, rfl, rfl, fun B hB => by simp only [List.mem_cons, List.not_mem_nil, or_false] at hB; rcases hB with rfl | rfl <;> rfl, ⟨by rw [htn, hs], rfl, rfl, rfl, by simp, hok', by rw [htn]; exact hu'⟩, by simp only; omega⟩
        · rw [ifF k1] at hs
          simp only [k1, if_false, Bool.false_eq_true] at hok'
          simp +contextual (disch := omega) only [go_sem, Nat.reduceEqDiff, ↓reduceIte, Nat.reduceAdd, Nat.reduceSub, Nat.reduceMul, Nat.reduceLeDiff, Nat.reduceDiv, Nat.reduceMod, Nat.reducePow, Nat.reduceBEq, Int.reduceAdd, Int.reduceSub, Int.reduceMul, Int.reduceNeg, Int.reduceLT, Int.reduceLE, Int.reduceEq, Int.reduceNe, Int.reduceBEq, Int.reduceBNe, Int.reduceToNat,  h0, h3, h4, h6, h8, h5, h7, T4.v, Rec.v, hlen, hr, hcut, ht]
          refine andB_split (fun k2 => ?_) (fun k2 => ?_)
          · rw [ifT k2] at hs
            simp +contextual (disch := omega) only [go_sem, Nat.reduceEqDiff, ↓reduceIte, Nat.reduceAdd, Nat.reduceSub, Nat.reduceMul, Nat.reduceLeDiff, Nat.reduceDiv, Nat.reduceMod, Nat.reducePow, Nat.reduceBEq, Int.reduceAdd, Int.reduceSub, Int.reduceMul, Int.reduceNeg, Int.reduceLT, Int.reduceLE, Int.reduceEq, Int.reduceNe, Int.reduceBEq, Int.reduceBNe, Int.reduceToNat,  h0, h3, h4, h6, h8, h5, h7, T4.v, Rec.v, hlen, hr, hcut, ht]
            exact ⟨[_, _], [], ⟨i + 1, i, r.wrong last sm, last, sm⟩, rfl, rfl, fun B hB => by simp only [List.mem_cons, List.not_mem_nil, or_false] at hB; rcases hB with rfl | rfl <;> rfl, ⟨by rw [htn, hs], rfl, rfl, rfl, by simp, hok', by rw [htn]; exact hu'⟩, by simp only; omega⟩
          · rw [ifF k2] at hs
            simp +contextual (disch := omega) only [go_sem, Nat.reduceEqDiff, ↓reduceIte, Nat.reduceAdd, Nat.reduceSub, Nat.reduceMul, Nat.reduceLeDiff, Nat.reduceDiv, Nat.reduceMod, Nat.reducePow, Nat.reduceBEq, Int.reduceAdd, Int.reduceSub, Int.reduceMul, Int.reduceNeg, Int.reduceLT, Int.reduceLE, Int.reduceEq, Int.reduceNe, Int.reduceBEq, Int.reduceBNe, Int.reduceToNat,  h0, h3, h4, h6, h8, h5, h7, T4.v, Rec.v, hlen, hr, hcut, ht]
            refine andB_split (fun k3 => ?_) (fun k3 => ?_)
            · rw [ifT k3] at hs
              simp +contextual (disch := omega) only [go_sem, Nat.reduceEqDiff, ↓reduceIte, Nat.reduceAdd, Nat.reduceSub, Nat.reduceMul, Nat.reduceLeDiff, Nat.reduceDiv, Nat.reduceMod, Nat.reducePow, Nat.reduceBEq, Int.reduceAdd, Int.reduceSub, Int.reduceMul, Int.reduceNeg, Int.reduceLT, Int.reduceLE, Int.reduceEq, Int.reduceNe, Int.reduceBEq, Int.reduceBNe, Int.reduceToNat,  h0, h3, h4, h6, h8, h5, h7, T4.v, Rec.v, hlen, hr, hcut, ht]
              exact ⟨[_, _], [], ⟨i + 1, i, r.wrong last sm, last, sm⟩, rfl, rfl, fun B hB => by simp only [List.mem_cons, List.not_mem_nil, or_false] at hB; rcases hB with rfl | rfl <;> rfl, ⟨by rw [htn, hs], rfl, rfl, rfl, by simp, hok', by rw [htn]; exact hu'⟩, by simp only; omega⟩
            · rw [ifF k3] at hs
              simp +contextual (disch := omega) only [go_sem, Nat.reduceEqDiff, ↓reduceIte, Nat.reduceAdd, Nat.reduceSub, Nat.reduceMul, Nat.reduceLeDiff, Nat.reduceDiv, Nat.reduceMod, Nat.reducePow, Nat.reduceBEq, Int.reduceAdd, Int.reduceSub, Int.reduceMul, Int.reduceNeg, Int.reduceLT, Int.reduceLE, Int.reduceEq, Int.reduceNe, Int.reduceBEq, Int.reduceBNe, Int.reduceToNat,  h0, h3, h4, h6, h8, h5, h7, T4.v, Rec.v, hlen, hr, hcut, ht]
              exact ⟨[_, _], [], ⟨i + 1, i, r.wrong last sm, last, sm⟩, rfl, rfl, fun B hB => by simp only [List.mem_cons, List.not_mem_nil, or_false] at hB; rcases hB with rfl | rfl <;> rfl, ⟨by rw [htn, hs], rfl, rfl, rfl, by simp, hok', by rw [htn]; exact hu'⟩, by simp only; omega⟩
      · simp +contextual (disch := omega) only [go_sem, Nat.reduceEqDiff, ↓reduceIte, Nat.reduceAdd, Nat.reduceSub, Nat.reduceMul, Nat.reduceLeDiff, Nat.reduceDiv, Nat.reduceMod, Nat.reducePow, Nat.reduceBEq, Int.reduceAdd, Int.reduceSub, Int.reduceMul, Int.reduceNeg, Int.reduceLT, Int.reduceLE, Int.reduceEq, Int.reduceNe, Int.reduceBEq, Int.reduceBNe, Int.reduceToNat,  h0, h3, h4, h6, h8, h5, h7, T4.v, Rec.v, hlen, hr, hcut, ht]
        simp only [hh, if_true, if_false, Bool.false_eq_true] at hok'
        refine andB_split (fun k1 => ?_) (fun k1 => ?_)
        · rw [ifT k1] at hs
          simp only [k1, if_true] at hok'
          simp +contextual (disch := omega) only [go_sem, Nat.reduceEqDiff, ↓reduceIte, Nat.reduceAdd, Nat.reduceSub, Nat.reduceMul, Nat.reduceLeDiff, Nat.reduceDiv, Nat.reduceMod, Nat.reducePow, Nat.reduceBEq, Int.reduceAdd, Int.reduceSub, Int.reduceMul, Int.reduceNeg, Int.reduceLT, Int.reduceLE, Int.reduceEq, Int.reduceNe, Int.reduceBEq, Int.reduceBNe, Int.reduceToNat,  h0, h3, h4, h6, h8, h5, h7, T4.v, Rec.v, hlen, hr, hcut, ht]
          exact ⟨[_, _], [], ⟨i + 1, at_, what, r, true⟩, rfl, rfl, fun B hB => by simp only [List.mem_cons, List.not_mem_nil, or_false] at hB; rcases hB with rfl | rfl <;> rfl, ⟨by rw [htn, hs], rfl, rfl, rfl, by simp, hok', by rw [htn]; exact hu'⟩, by simp only; omega⟩
        · rw [ifF k1] at hs
          simp only [k1, if_false, Bool.false_eq_true] at hok'
          simp +contextual (disch := omega) only [go_sem, Nat.reduceEqDiff, ↓reduceIte, Nat.reduceAdd, Nat.reduceSub, Nat.reduceMul, Nat.reduceLeDiff, Nat.reduceDiv, Nat.reduceMod, Nat.reducePow, Nat.reduceBEq, Int.reduceAdd, Int.reduceSub, Int.reduceMul, Int.reduceNeg, Int.reduceLT, Int.reduceLE, Int.reduceEq, Int.reduceNe, Int.reduceBEq, Int.reduceBNe, Int.reduceToNat,  h0, h3, h4, h6, h8, h5, h7, T4.v, Rec.v, hlen, hr, hcut, ht]
          refine andB_split (fun k2 => ?_) (fun k2 => ?_)
          · rw [ifT k2] at hs
            simp +contextual (disch := omega) only [go_sem, Nat.reduceEqDiff, ↓reduceIte, Nat.reduceAdd, Nat.reduceSub, Nat.reduceMul, Nat.reduceLeDiff, Nat.reduceDiv, Nat.reduceMod, Nat.reducePow, Nat.reduceBEq, Int.reduceAdd, Int.reduceSub, Int.reduceMul, Int.reduceNeg, Int.reduceLT, Int.reduceLE, Int.reduceEq, Int.reduceNe, Int.reduceBEq, Int.reduceBNe, Int.reduceToNat,  h0, h3, h4, h6, h8, h5, h7, T4.v, Rec.v, hlen, hr, hcut, ht]
            exact ⟨[_, _], [], ⟨i + 1, at_, what, last, sm⟩, rfl, rfl, fun B hB => by simp only [List.mem_cons, List.not_mem_nil, or_false] at hB; rcases hB with rfl | rfl <;> rfl, ⟨by rw [htn, hs], rfl, rfl, rfl, by simp, hok', by rw [htn]; exact hu'⟩, by simp only; omega⟩
          · rw [ifF k2] at hs
            simp +contextual (disch := omega) only [go_sem, Nat.reduceEqDiff, ↓reduceIte, Nat.reduceAdd, Nat.reduceSub, Nat.reduceMul, Nat.reduceLeDiff, Nat.reduceDiv, Nat.reduceMod, Nat.reducePow, Nat.reduceBEq, Int.reduceAdd, Int.reduceSub, Int.reduceMul, Int.reduceNeg, Int.reduceLT, Int.reduceLE, Int.reduceEq, Int.reduceNe, Int.reduceBEq, Int.reduceBNe, Int.reduceToNat,  h0, h3, h4, h6, h8, h5, h7, T4.v, Rec.v, hlen, hr, hcut, ht]
            refine andB_split (fun k3 => ?_) (fun k3 => ?_)
            · rw [ifT k3] at hs
              simp +contextual (disch := omega) only [go_sem, Nat.reduceEqDiff, ↓reduceIte, Nat.reduceAdd, Nat.reduceSub, Nat.reduceMul, Nat.reduceLeDiff, Nat.reduceDiv, Nat.reduceMod, Nat.reducePow, Nat.reduceBEq, Int.reduceAdd, Int.reduceSub, Int.reduceMul, Int.reduceNeg, Int.reduceLT, Int.reduceLE, Int.reduceEq, Int.reduceNe, Int.reduceBEq, Int.reduceBNe, Int.reduceToNat,  h0, h3, h4, h6, h8, h5, h7, T4.v, Rec.v, hlen, hr, hcut, ht]
              exact ⟨[_, _], [], ⟨i + 1, at_, what, last, sm⟩, rfl, rfl, fun B hB => by simp only [List.mem_cons, List.not_mem_nil, or_false] at hB; rcases hB with rfl | rfl <;> rfl, ⟨by rw [htn, hs], rfl, rfl, rfl, by simp, hok', by rw [htn]; exact hu'⟩, by simp only; omega⟩
            · rw [ifF k3] at hs
              simp +contextual (disch := omega) only [go_sem, Nat.reduceEqDiff, ↓reduceIte, Nat.reduceAdd, Nat.reduceSub, Nat.reduceMul, Nat.reduceLeDiff, Nat.reduceDiv, Nat.reduceMod, Nat.reducePow, Nat.reduceBEq, Int.reduceAdd, Int.reduceSub, Int.reduceMul, Int.reduceNeg, Int.reduceLT, Int.reduceLE, Int.reduceEq, Int.reduceNe, Int.reduceBEq, Int.reduceBNe, Int.reduceToNat,  h0, h3, h4, h6, h8, h5, h7, T4.v, Rec.v, hlen, hr, hcut, ht]
              exact ⟨[_, _], [], ⟨i + 1, at_, what, last, sm⟩, rfl, rfl, fun B hB => by simp only [List.mem_cons, List.not_mem_nil, or_false] at hB; rcases hB with rfl | rfl <;> rfl, ⟨by rw [htn, hs], rfl, rfl, rfl, by simp, hok', by rw [htn]; exact hu'⟩, by simp only; omega⟩
    · have hge : l.length ≤ i := by simpa using hb
      have c21 := con21 l x hx (by omega)
      have c22 := con22 l x hx (by omega)
      rw [LS.done hok hge] at c21
      have htk : l.take i = l := List.take_of_length_le hge
      rw [htk]
      unfold T4.v at c22
      simp +contextual (disch := omega) only [go_sem, Nat.reduceEqDiff, ↓reduceIte, Nat.reduceAdd, Nat.reduceSub, Nat.reduceMul, Nat.reduceLeDiff, Nat.reduceDiv, Nat.reduceMod, Nat.reducePow, Nat.reduceBEq, Int.reduceAdd, Int.reduceSub, Int.reduceMul, Int.reduceNeg, Int.reduceLT, Int.reduceLE, Int.reduceEq, Int.reduceNe, Int.reduceBEq, Int.reduceBNe, Int.reduceToNat,  h0, h3, h4, h6, h8, h5, h7, T4.v, Rec.v, hlen]
      refine dcall_of (c21 _) ?_
      simp +contextual (disch := omega) only [go_sem, Nat.reduceEqDiff, ↓reduceIte, Nat.reduceAdd, Nat.reduceSub, Nat.reduceMul, Nat.reduceLeDiff, Nat.reduceDiv, Nat.reduceMod, Nat.reducePow, Nat.reduceBEq, Int.reduceAdd, Int.reduceSub, Int.reduceMul, Int.reduceNeg, Int.reduceLT, Int.reduceLE, Int.reduceEq, Int.reduceNe, Int.reduceBEq, Int.reduceBNe, Int.reduceToNat,  h0, h3, h4, h6, h8, h5, h7, T4.v, Rec.v, hlen]
      refine qcall_of (c22 _) ?_
      simp +contextual (disch := omega) only [go_sem, Nat.reduceEqDiff, ↓reduceIte, Nat.reduceAdd, Nat.reduceSub, Nat.reduceMul, Nat.reduceLeDiff, Nat.reduceDiv, Nat.reduceMod, Nat.reducePow, Nat.reduceBEq, Int.reduceAdd, Int.reduceSub, Int.reduceMul, Int.reduceNeg, Int.reduceLT, Int.reduceLE, Int.reduceEq, Int.reduceNe, Int.reduceBEq, Int.reduceBNe, Int.reduceToNat,  h0, h3, h4, h6, h8, h5, h7, T4.v, Rec.v, hlen]
      refine qcall_of (con23 _) ?_
      simp +contextual (disch := omega) only [go_sem, Nat.reduceEqDiff, ↓reduceIte, Nat.reduceAdd, Nat.reduceSub, Nat.reduceMul, Nat.reduceLeDiff, Nat.reduceDiv, Nat.reduceMod, Nat.reducePow, Nat.reduceBEq, Int.reduceAdd, Int.reduceSub, Int.reduceMul, Int.reduceNeg, Int.reduceLT, Int.reduceLE, Int.reduceEq, Int.reduceNe, Int.reduceBEq, Int.reduceBNe, Int.reduceToNat,  h0, h3, h4, h6, h8, h5, h7, T4.v, Rec.v, hlen]
      exact Settle.locals Fz.s
end Go.Proofs.YtbgdkaahcfmaeaaK
