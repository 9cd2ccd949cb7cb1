/- What the check of traces answers. -/
import Derived.Test.YtbgdkaahcfmaeaaP3
namespace Go.Proofs.YtbgdkaahcfmaeaaK
set_option linter.unusedVariables false
set_option linter.unusedSimpArgs false
open Go.RowKit

/-- A slice that is read: so many elements, each of these cells. -/
structure Reads (x : V) (n sz : Nat) (cell : Nat → List V) : Prop where
  len : ∀ H, slLen H x = some n
  at_ : ∀ i, i < n → ∃ rest, slAt x (i * sz) = some (.ip (cell i ++ rest))
  cut : ∀ k, cutV k x = x

theorem flat_drop {α : Type} {f : α → List V} {sz : Nat} (hf : ∀ a, (f a).length = sz) : ∀ (l : List α) (i : Nat) (a : α), l[i]? = some a → ∃ rest, (l.map f).flatten.drop (i * sz) = f a ++ rest
  | [], i, a, h => by simp at h
  | x :: r, 0, a, h => by simp at h; subst h; exact ⟨(r.map f).flatten, by simp⟩
  | x :: r, i + 1, a, h => by
    obtain ⟨rest, hr⟩ := flat_drop hf r i a (by simpa using h)
    refine ⟨rest, ?_⟩
    rw [← hr, List.map_cons, List.flatten_cons, Nat.add_mul, Nat.one_mul, Nat.add_comm, ← List.drop_drop, ← hf x, List.drop_left]

theorem statics_flat {α : Type} {f : α → List V} (hs : ∀ a, statics (f a) = true) (l : List α) : statics (l.map f).flatten = true := by
  have app : ∀ (a b : List V), statics a = true → statics b = true → statics (a ++ b) = true := by
    intro a b ha hb
    induction a with
    | nil => exact hb
    | cons v r ih =>
      simp only [statics, Bool.and_eq_true, List.cons_append] at ha ⊢
      exact ⟨ha.1, ih ha.2⟩
  induction l with
  | nil => rfl
  | cons a r ih => simp only [List.map_cons, List.flatten_cons]; exact app _ _ (hs a) ih

theorem Reads.sl {α : Type} [Inhabited α] {f : α → List V} {sz : Nat} (hf : ∀ a, (f a).length = sz) (hs : ∀ a, statics (f a) = true) (l : List α) (u : Bool) : Reads (.sl u l.length (l.map f).flatten) l.length sz fun i => f (l.getD i default) :=
  ⟨fun _ => rfl, fun i hi => by
    obtain ⟨rest, h⟩ := flat_drop hf l i (l.getD i default) (by simp [List.getD, hi])
    exact ⟨rest, by simp [slAt, h]⟩, fun k => cutV_static (statics_flat hs l)⟩

theorem Reads.nil {sz : Nat} {c : Nat → List V} : Reads (.s (.slice none 0 0)) 0 sz c := ⟨fun _ => rfl, fun i hi => by omega, fun _ => rfl⟩

instance : Inhabited Rec := ⟨Rec.zero⟩

def chk : List Rec → Int → Rec → Bool → Int × Int
  | [], i, _, _ => (i, 0)
  | r :: t, i, last, sm => if (r.one != 0) = true then (i, r.one) else if (!r.mine) = true then chk t (i + 1) last sm else if (sm && last.follows r != 0) = true then (i, 6) else chk t (i + 1) r true

theorem drop_get (l : List Rec) (i : Nat) (h : i < l.length) : l.drop i = l.getD i default :: l.drop (i + 1) := by
  rw [List.drop_eq_getElem_cons h]; simp [List.getD, h]

set_option maxHeartbeats 4000000 in
theorem con21 (l : List Rec) (x : V) (hx : Reads x l.length 9 fun i => (l.getD i default).v) (hl : l.length < 1000000) (H : Hp) : Con Try.prog 21 [x] H (.tup [.s (.int .i64 (chk l 0 Rec.zero false).1), .s (.int .i64 (chk l 0 Rec.zero false).2)]) H := by
  refine Con.of cfn21 (Nat.le_of_ble_eq_true rfl) ?_
  unfold ir21
  have hlen := hx.len
  have hcut := hx.cut
  simp +contextual (disch := omega) only [go_sem, Nat.reduceEqDiff, ↓reduceIte, Nat.reduceAdd, Nat.reduceSub, Nat.reduceMul, Nat.reduceLeDiff, Nat.reduceDiv, Nat.reduceMod, Nat.reducePow, Nat.reduceBEq, Int.reduceAdd, Int.reduceSub, Int.reduceMul, Int.reduceNeg, Int.reduceLT, Int.reduceLE, Int.reduceEq, Int.reduceNe, Int.reduceBEq, Int.reduceBNe, Int.reduceToNat,  hlen]
  refine dwp_loopc (α := Nat × Rec × Bool) H [⟨0, .mem, 1, Rec.zero.v⟩] 1 (fun s f1 L1 => L1 = [⟨0, .mem, 1, s.2.1.v⟩] ∧ f1 0 = x ∧ f1 9 = x ∧ f1 10 = .s (.int .i64 l.length) ∧ f1 11 = .s (.int .i64 s.1) ∧ f1 5 = .s (.bool s.2.2) ∧ f1 4 = .ptr H.length 0 0 ∧ s.1 ≤ l.length ∧ chk (l.drop s.1) s.1 s.2.1 s.2.2 = chk l 0 Rec.zero false) (fun s => l.length - s.1) (0, Rec.zero, false) (by simp) ?_ ?_
  · simp +contextual (disch := omega) only [go_sem, Nat.reduceEqDiff, ↓reduceIte, Nat.reduceAdd, Nat.reduceSub, Nat.reduceMul, Nat.reduceLeDiff, Nat.reduceDiv, Nat.reduceMod, Nat.reducePow, Nat.reduceBEq, Int.reduceAdd, Int.reduceSub, Int.reduceMul, Int.reduceNeg, Int.reduceLT, Int.reduceLE, Int.reduceEq, Int.reduceNe, Int.reduceBEq, Int.reduceBNe, Int.reduceToNat,  Rec.v]
    exact ⟨rfl, by omega, rfl⟩
  · rintro ⟨i, last, sm⟩ f1 L1 ⟨rfl, h0, h9, h10, h11, h5, h4, hi, hc⟩
    simp only at h11 h5 hi hc
    simp +contextual (disch := omega) only [go_sem, Nat.reduceEqDiff, ↓reduceIte, Nat.reduceAdd, Nat.reduceSub, Nat.reduceMul, Nat.reduceLeDiff, Nat.reduceDiv, Nat.reduceMod, Nat.reducePow, Nat.reduceBEq, Int.reduceAdd, Int.reduceSub, Int.reduceMul, Int.reduceNeg, Int.reduceLT, Int.reduceLE, Int.reduceEq, Int.reduceNe, Int.reduceBEq, Int.reduceBNe, Int.reduceToNat,  h0, h9, h10, h11, h5, h4, Rec.v]
    refine andB_split (fun hb => ?_) (fun hb => ?_)
    · have hi' : i < l.length := by simpa using hb
      obtain ⟨rest, hr⟩ := hx.at_ i hi'
      rw [drop_get l i hi'] at hc
      generalize hg : l.getD i default = r at hr hc
      simp only [chk] at hc
      simp +contextual (disch := omega) only [go_sem, Nat.reduceEqDiff, ↓reduceIte, Nat.reduceAdd, Nat.reduceSub, Nat.reduceMul, Nat.reduceLeDiff, Nat.reduceDiv, Nat.reduceMod, Nat.reducePow, Nat.reduceBEq, Int.reduceAdd, Int.reduceSub, Int.reduceMul, Int.reduceNeg, Int.reduceLT, Int.reduceLE, Int.reduceEq, Int.reduceNe, Int.reduceBEq, Int.reduceBNe, Int.reduceToNat,  h0, h9, h10, h11, h5, h4, Rec.v, hlen, hr]
      refine dcall_of (con48 r _) ?_
      simp +contextual (disch := omega) only [go_sem, Nat.reduceEqDiff, ↓reduceIte, Nat.reduceAdd, Nat.reduceSub, Nat.reduceMul, Nat.reduceLeDiff, Nat.reduceDiv, Nat.reduceMod, Nat.reducePow, Nat.reduceBEq, Int.reduceAdd, Int.reduceSub, Int.reduceMul, Int.reduceNeg, Int.reduceLT, Int.reduceLE, Int.reduceEq, Int.reduceNe, Int.reduceBEq, Int.reduceBNe, Int.reduceToNat,  h0, h9, h10, h11, h5, h4, Rec.v, hlen, hr]
      refine andB_split (fun h1 => ?_) (fun h1 => ?_)
      · simp +contextual (disch := omega) only [go_sem, Nat.reduceEqDiff, ↓reduceIte, Nat.reduceAdd, Nat.reduceSub, Nat.reduceMul, Nat.reduceLeDiff, Nat.reduceDiv, Nat.reduceMod, Nat.reducePow, Nat.reduceBEq, Int.reduceAdd, Int.reduceSub, Int.reduceMul, Int.reduceNeg, Int.reduceLT, Int.reduceLE, Int.reduceEq, Int.reduceNe, Int.reduceBEq, Int.reduceBNe, Int.reduceToNat,  h0, h9, h10, h11, h5, h4, Rec.v, hlen, hr]
        rw [ifT h1] at hc
        rw [← hc]
        exact Settle.locals (Fz.tup (Fzs.cons Fz.s (Fzs.cons Fz.s Fzs.nil)))
      · rw [ifF h1] at hc
        simp +contextual (disch := omega) only [go_sem, Nat.reduceEqDiff, ↓reduceIte, Nat.reduceAdd, Nat.reduceSub, Nat.reduceMul, Nat.reduceLeDiff, Nat.reduceDiv, Nat.reduceMod, Nat.reducePow, Nat.reduceBEq, Int.reduceAdd, Int.reduceSub, Int.reduceMul, Int.reduceNeg, Int.reduceLT, Int.reduceLE, Int.reduceEq, Int.reduceNe, Int.reduceBEq, Int.reduceBNe, Int.reduceToNat,  h0, h9, h10, h11, h5, h4, Rec.v, hlen, hr]
        refine andB_split (fun h2 => ?_) (fun h2 => ?_)
        · rw [ifT h2] at hc
          simp +contextual (disch := omega) only [go_sem, Nat.reduceEqDiff, ↓reduceIte, Nat.reduceAdd, Nat.reduceSub, Nat.reduceMul, Nat.reduceLeDiff, Nat.reduceDiv, Nat.reduceMod, Nat.reducePow, Nat.reduceBEq, Int.reduceAdd, Int.reduceSub, Int.reduceMul, Int.reduceNeg, Int.reduceLT, Int.reduceLE, Int.reduceEq, Int.reduceNe, Int.reduceBEq, Int.reduceBNe, Int.reduceToNat,  h0, h9, h10, h11, h5, h4, Rec.v, hlen, hr, hcut]
          exact ⟨[_], [_], (i + 1, last, sm), rfl, rfl, fun B hB => by simp only [List.mem_singleton] at hB; subst hB; rfl, ⟨rfl, by simp, rfl, by omega, by simpa using hc⟩, by simp only; omega⟩
        · rw [ifF h2] at hc
          simp +contextual (disch := omega) only [go_sem, Nat.reduceEqDiff, ↓reduceIte, Nat.reduceAdd, Nat.reduceSub, Nat.reduceMul, Nat.reduceLeDiff, Nat.reduceDiv, Nat.reduceMod, Nat.reducePow, Nat.reduceBEq, Int.reduceAdd, Int.reduceSub, Int.reduceMul, Int.reduceNeg, Int.reduceLT, Int.reduceLE, Int.reduceEq, Int.reduceNe, Int.reduceBEq, Int.reduceBNe, Int.reduceToNat,  h0, h9, h10, h11, h5, h4, Rec.v, hlen, hr]
          refine gcall_of' (con49 last r _) (fun hc => by first | rfl | (simp only [hc]; done) | (simp only [hc]; rfl)) ?_
          simp +contextual (disch := omega) only [go_sem, Nat.reduceEqDiff, ↓reduceIte, Nat.reduceAdd, Nat.reduceSub, Nat.reduceMul, Nat.reduceLeDiff, Nat.reduceDiv, Nat.reduceMod, Nat.reducePow, Nat.reduceBEq, Int.reduceAdd, Int.reduceSub, Int.reduceMul, Int.reduceNeg, Int.reduceLT, Int.reduceLE, Int.reduceEq, Int.reduceNe, Int.reduceBEq, Int.reduceBNe, Int.reduceToNat,  h0, h9, h10, h11, h5, h4, Rec.v, hlen, hr]
          refine andB_split (fun h3 => ?_) (fun h3 => ?_)
          · rw [ifT h3] at hc
            simp +contextual (disch := omega) only [go_sem, Nat.reduceEqDiff, ↓reduceIte, Nat.reduceAdd, Nat.reduceSub, Nat.reduceMul, Nat.reduceLeDiff, Nat.reduceDiv, Nat.reduceMod, Nat.reducePow, Nat.reduceBEq, Int.reduceAdd, Int.reduceSub, Int.reduceMul, Int.reduceNeg, Int.reduceLT, Int.reduceLE, Int.reduceEq, Int.reduceNe, Int.reduceBEq, Int.reduceBNe, Int.reduceToNat,  h0, h9, h10, h11, h5, h4, Rec.v, hlen, hr]
            rw [← hc]
            exact Settle.locals (Fz.tup (Fzs.cons Fz.s (Fzs.cons Fz.s Fzs.nil)))
          · rw [ifF h3] at hc
            simp +contextual (disch := omega) only [go_sem, Nat.reduceEqDiff, ↓reduceIte, Nat.reduceAdd, Nat.reduceSub, Nat.reduceMul, Nat.reduceLeDiff, Nat.reduceDiv, Nat.reduceMod, Nat.reducePow, Nat.reduceBEq, Int.reduceAdd, Int.reduceSub, Int.reduceMul, Int.reduceNeg, Int.reduceLT, Int.reduceLE, Int.reduceEq, Int.reduceNe, Int.reduceBEq, Int.reduceBNe, Int.reduceToNat,  h0, h9, h10, h11, h5, h4, Rec.v, hlen, hr, hcut]
            exact ⟨[_], [_], (i + 1, r, true), rfl, rfl, fun B hB => by simp only [List.mem_singleton] at hB; subst hB; rfl, ⟨rfl, by simp, rfl, by omega, by simpa using hc⟩, by simp only; omega⟩
    · simp +contextual (disch := omega) only [go_sem, Nat.reduceEqDiff, ↓reduceIte, Nat.reduceAdd, Nat.reduceSub, Nat.reduceMul, Nat.reduceLeDiff, Nat.reduceDiv, Nat.reduceMod, Nat.reducePow, Nat.reduceBEq, Int.reduceAdd, Int.reduceSub, Int.reduceMul, Int.reduceNeg, Int.reduceLT, Int.reduceLE, Int.reduceEq, Int.reduceNe, Int.reduceBEq, Int.reduceBNe, Int.reduceToNat,  h0, h9, h10, h11, h5, h4, Rec.v, hlen]
      have hge : l.length ≤ i := by simpa using hb
      rw [List.drop_of_length_le hge] at hc
      simp only [chk] at hc
      rw [← hc]
      have : i = l.length := by omega
      subst this
      exact Settle.locals (Fz.tup (Fzs.cons Fz.s (Fzs.cons Fz.s Fzs.nil)))
end Go.Proofs.YtbgdkaahcfmaeaaK
