/- Any record has a text, any row of records has lines. -/
import Derived.Test.YtfdadnldlngmeaaUB
import Derived.Test.YtfdadnldlngmeaaF
namespace Go.Proofs.YtfdadnldlngmeaaK
set_option linter.unusedVariables false
set_option linter.unusedSimpArgs false
set_option maxHeartbeats 400000
open Go.RowKit
attribute [local irreducible] dwv mops lops lqops lwops kont iter run runK rk okK ex E1 vals val chain chB sel resF

theorem sign_some (n : Int) : ∃ v, digit_sign n = some v := by
  unfold digit_sign
  split <;> exact ⟨_, rfl⟩

theorem hexd : ∀ (i k : Nat) (l : List Int) (n : Int), i ≤ 16 → i < k → l.length = 16 → 0 ≤ n → n < 16 ^ i →
    ∃ l' i', digit_Hex_l0 4 k l n (i : Int) = some (l', i') ∧ l'.length = 16 ∧ 0 ≤ i' ∧ i' ≤ 12
  | i, 0, _, _, _, hk, _, _, _ => by omega
  | i, k + 1, l, n, hi, hk, hl, h0, hp => by
    have w0 : IntKind.wrap .i64 (16 - (i : Int)) = 16 - (i : Int) := wrap_i64 (by omega) (by omega)
    have hwd : (if (16 : Int) < (4 : Int) then (16 : Int) else (4 : Int)) = 4 := by decide
    by_cases hc : 0 < n ∨ 12 < i
    · match i, hi, hk, hp, hc, w0 with
      | 0, _, _, hp, hc, _ => simp at hp; omega
      | j + 1, hi, hk, hp, hc, w0 =>
        have w1 : IntKind.wrap .i64 (((j + 1 : Nat) : Int) - 1) = (j : Int) := by rw [wrap_i64 (by omega) (by omega)]; omega
        have e2 : Int.fdiv n (2 ^ 4) = n / 16 := by rw [Int.fdiv_eq_ediv_of_nonneg _ (by decide)]; rfl
        obtain ⟨v, hv⟩ := sign_some (IntKind.wrap .u8 (bits .and .u64 n 15))
        obtain ⟨l', i', q1, q⟩ := hexd j k (st l (j : Int) v) (n / 16) (by omega) (by omega) (by simp [st, hl]) (by omega) (by rw [Int.pow_succ] at hp; omega)
        refine ⟨l', i', ?_, q⟩
        rw [digit_Hex_l0, w0, hwd, if_pos (by
            rcases hc with hc | hc
            · simp [hc]
            · rw [Bool.or_eq_true]
              exact .inr (decide_eq_true (by omega))), hv, Option.bind_some, w1, if_pos ⟨by omega, by omega⟩, e2, q1]
    · refine ⟨l, (i : Int), ?_, hl, by omega, by omega⟩
      rw [digit_Hex_l0, w0, hwd, if_neg (fun e => by
          rw [Bool.or_eq_true, Bool.or_eq_true] at e
          rcases e with (e | e) | e
          · have := of_decide_eq_true e; omega
          · have := eq_of_beq e; omega
          · have := of_decide_eq_true e; omega)]

theorem hex_some {n : Int} (h0 : 0 ≤ n) (h1 : n < 18446744073709551616) : ∃ S, digit_Hex n 4 = some S ∧ 4 ≤ S.size ∧ S.size ≤ 16 := by
  obtain ⟨l', i', q1, hl, a, b⟩ := hexd 16 BIG [0, 0, 0, 0, 0, 0, 0, 0, 0, 0, 0, 0, 0, 0, 0, 0] n (Nat.le_refl _) (by unfold BIG; omega) rfl h0 (by omega)
  refine ⟨bs ((l'.drop i'.toNat).take (16 - i'.toNat)), ?_, ?_⟩
  · unfold digit_Hex
    rw [show (16 : Int) = ((16 : Nat) : Int) from rfl, q1, Option.bind_some]
    simp only
    rw [if_pos ⟨a, by omega⟩]
  · rw [bs_size, List.length_take, List.length_drop, hl]
    omega

theorem pairs_some (x : Int) : ∃ S, digit_Pairs [x] = some S ∧ S.size = 2 := by
  obtain ⟨u, hu⟩ := sign_some (Int.fdiv x (2 ^ 4))
  obtain ⟨v, hv⟩ := sign_some (bits .and .u8 x 15)
  obtain ⟨k, hk⟩ := bigS 1 (by decide)
  refine ⟨bs [u, v], ?_, by rw [bs_size]; rfl⟩
  have hg : gt [x] 0 = x := rfl
  have hln : ln [x] = 1 := rfl
  have h1 : IntKind.wrap .i64 (2 * ln [x]) = 2 := by rw [hln]; exact wrap_i64 (by decide) (by decide)
  have h2 : IntKind.wrap .i64 (0 + 1) = 1 := wrap_i64 (by decide) (by decide)
  unfold digit_Pairs
  rw [h1, if_pos (by decide), hk, digit_Pairs_l0, hln, if_pos (by decide), if_pos ⟨by decide, by decide⟩, hg, hu, Option.bind_some, hv, Option.bind_some, if_pos (by simp [rp]), h2, digit_Pairs_l0, hln, if_neg (by decide)]
  rfl

theorem text_loop (r3 : A7_bool) : ∀ (m t k : Nat) (l : List Int), t + m = 7 → m < k → 17 ≤ l.length → ∃ l', record_Text_l0 r3 k l (t : Int) = some l' ∧ l'.length = l.length
  | _, _, 0, _, _, hk, _ => by omega
  | 0, t, k + 1, l, ht, _, hl => by
    refine ⟨l, ?_, rfl⟩
    rw [record_Text_l0, if_neg (fun e => absurd (of_decide_eq_true e) (by omega))]
  | m + 1, t, k + 1, l, ht, hk, hl => by
    have hw := wrapS (n := t) (by omega)
    have hln : ∀ l : List Int, ln l = l.length := fun _ => rfl
    have hst : ∀ (l : List Int) (i x : Int), (st l i x).length = l.length := fun l i x => by simp [st]
    rw [record_Text_l0, if_pos (decide_eq_true (by omega)), if_pos ⟨by omega, by omega⟩, hw]
    split
    · exact text_loop r3 m (t + 1) k l (by omega) (by omega) hl
    · split
      · rw [if_pos ⟨by decide, by rw [hln]; omega⟩]
        obtain ⟨l', h1, h2⟩ := text_loop r3 m (t + 1) k (st l 8 82) (by omega) (by omega) (by rw [hst]; exact hl)
        exact ⟨l', h1, by rw [h2, hst]⟩
      · rename_i h0
        have h0 : ¬ (t : Int) = 0 := fun e => h0 (by rw [e]; rfl)
        split
        · rw [if_pos ⟨by decide, by rw [hln]; omega⟩]
          obtain ⟨l', h1, h2⟩ := text_loop r3 m (t + 1) k (st l 16 77) (by omega) (by omega) (by rw [hst]; exact hl)
          exact ⟨l', h1, by rw [h2, hst]⟩
        · rename_i h6
          have h6 : ¬ (t : Int) = 6 := fun e => h6 (by rw [e]; rfl)
          have w1 : IntKind.wrap .i64 ((t : Int) - 1) = t - 1 := wrap_i64 (by omega) (by omega)
          have w2 : IntKind.wrap .i64 (9 + (t : Int)) = 9 + t := wrap_i64 (by omega) (by omega)
          rw [w1, w2, if_pos ⟨by omega, by show (t : Int) - 1 < 5; omega⟩, if_pos ⟨by omega, by rw [hln]; omega⟩]
          obtain ⟨l', h1, h2⟩ := text_loop r3 m (t + 1) k (st l (9 + t) (bt ⟨#[65, 83, 76, 86, 66]⟩ (t - 1))) (by omega) (by omega) (by rw [hst]; exact hl)
          exact ⟨l', h1, by rw [h2, hst]⟩

theorem text_some (r : api_Rec) : ∃ S, record_Text r = some S ∧ S.size ≤ 40 := by
  have hw : IntKind.wrap .u64 r.Addr = r.Addr % 18446744073709551616 := by simp [IntKind.wrap, IntKind.bits, IntKind.signed]
  obtain ⟨A, hA, a1, a2⟩ := hex_some (n := IntKind.wrap .u64 r.Addr) (by rw [hw]; omega) (by rw [hw]; omega)
  obtain ⟨B, hB, b1⟩ := pairs_some r.Data
  have s1 : (⟨#[32]⟩ : ByteArray).size = 1 := rfl
  have s2 : (⟨#[32, 87, 32, 45, 45, 45, 45, 45, 32, 45]⟩ : ByteArray).size = 10 := rfl
  have e1 : (A ++ (⟨#[32]⟩ : ByteArray)).size = A.size + 1 := by rw [ByteArray.size_append, s1]
  have e2 : ((A ++ (⟨#[32]⟩ : ByteArray)) ++ B).size = A.size + 3 := by rw [ByteArray.size_append, e1, b1]
  have e3 : (((A ++ (⟨#[32]⟩ : ByteArray)) ++ B) ++ (⟨#[32, 87, 32, 45, 45, 45, 45, 45, 32, 45]⟩ : ByteArray)).size = A.size + 13 := by rw [ByteArray.size_append, e2, s2]
  obtain ⟨l', q1, q2⟩ := text_loop (A7_bool.mk r.Read r.BA r.BS r.LIC r.AVMA r.BUSY r.Mine) 7 0 BIG (sbl (((A ++ (⟨#[32]⟩ : ByteArray)) ++ B) ++ (⟨#[32, 87, 32, 45, 45, 45, 45, 45, 32, 45]⟩ : ByteArray))) rfl (by unfold BIG; omega) (by rw [sbl_len, e3]; omega)
  refine ⟨bs l', ?_, by rw [bs_size, q2, sbl_len, e3]; omega⟩
  unfold record_Text record_lines
  rw [hA, Option.bind_some, if_pos (by rw [s1]; omega), hB, Option.bind_some, if_pos (by rw [e1, b1]; omega), if_pos (by rw [e2, s2]; omega), if_pos (by rw [e3]; omega), Option.bind_some]
  rw [show (0 : Int) = ((0 : Nat) : Int) from rfl, q1, Option.bind_some]

theorem lines_loop (l : List api_Rec) : ∀ (r : List api_Rec) (i k : Nat) (acc : List Int), l.drop i = r → r.length < k → l.length ≤ 1000 → acc.length + 41 * r.length ≤ 100000 → (∀ x ∈ acc, 0 ≤ x ∧ x < 256) →
    ∃ out, record_Lines_l0 l k acc (i : Int) = some out ∧ out.length ≤ 100000 ∧ ∀ x ∈ out, 0 ≤ x ∧ x < 256
  | _, _, 0, _, _, hk, _, _, _ => by omega
  | [], i, k + 1, acc, hd, _, _, ha, hb => by
    refine ⟨acc, ?_, by simp at ha; omega, hb⟩
    rw [record_Lines_l0, if_neg (fun e => gtNil hd (of_decide_eq_true e))]
  | x :: r, i, k + 1, acc, hd, hk, hl, ha, hb => by
    obtain ⟨g1, g2, g3⟩ := gtCons hd
    obtain ⟨S, hS, hs⟩ := text_some x
    have hi : i < l.length := (dropAt hd).2.2
    simp only [List.length_cons] at ha hk
    obtain ⟨out, q1, q2, q3⟩ := lines_loop l r (i + 1) k ((acc ++ sbl S) ++ [10]) g3 (by omega) hl (by simp only [List.length_append, sbl_len, List.length_cons, List.length_nil]; omega) (by
      intro y hy
      rcases List.mem_append.1 hy with hy | hy
      · rcases List.mem_append.1 hy with hy | hy
        · exact hb y hy
        · exact sblRange hy
      · simp at hy; subst hy; decide)
    refine ⟨out, ?_, q2, q3⟩
    rw [record_Lines_l0, if_pos (decide_eq_true g2.2), if_pos g2, g1, hS, Option.bind_some, if_pos (by omega), if_pos (by simp only [List.length_append, sbl_len, List.length_cons, List.length_nil]; omega), wrapS (by omega), q1]

theorem lines_some {l : List api_Rec} (hl : l.length ≤ 1000) : ∃ S, record_Lines l = some S ∧ S.size ≤ 100000 := by
  obtain ⟨out, q1, q2, q3⟩ := lines_loop l l 0 BIG [] rfl (by unfold BIG; omega) hl (by simp; omega) (by simp)
  refine ⟨bs out, ?_, by rw [bs_size]; exact q2⟩
  unfold record_Lines
  rw [show (0 : Int) = ((0 : Nat) : Int) from rfl, q1, Option.bind_some, if_pos (by
    unfold bytesB
    simp only [List.all_eq_true, Bool.and_eq_true, decide_eq_true_eq]
    intro x hx; have := q3 x hx; omega)]
end Go.Proofs.YtfdadnldlngmeaaK
