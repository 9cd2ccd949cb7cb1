/- The law SrecLines over typed data. -/
import Derived.Test.YtfdadnldlngmeaaF
import Derived.Test.YtfdadnldlngmeaaUB
namespace Go.Proofs.YtfdadnldlngmeaaK
set_option linter.unusedVariables false
set_option linter.unusedSimpArgs false
set_option maxHeartbeats 4000000
open Go.RowKit
attribute [local irreducible] dwv mops lops lqops lwops kont iter run runK rk okK ex E1 vals val chain chB sel resF

theorem wu8 (n : Int) : IntKind.wrap .u8 n = n % 256 := by simp [IntKind.wrap, IntKind.signed, IntKind.bits]
theorem wu16 (n : Int) : IntKind.wrap .u16 n = n % 65536 := by simp [IntKind.wrap, IntKind.signed, IntKind.bits]

/-- The number that a digit stands for. -/
def dig (c : Int) : Option Int := if 48 ≤ c ∧ c ≤ 57 then some (c - 48) else if 65 ≤ c ∧ c ≤ 70 then some (c - 55) else if 97 ≤ c ∧ c ≤ 102 then some (c - 87) else none

theorem dig_range {c v : Int} (h : dig c = some v) : 0 ≤ v ∧ v < 16 := by
  unfold dig at h
  split at h
  · injection h; omega
  · split at h
    · injection h; omega
    · split at h
      · injection h; omega
      · cases h

theorem value_is {c : Int} (h0 : 0 ≤ c) (h1 : c < 256) : digit_value c = some (match dig c with | some v => (v, true) | none => (0, false)) := by
  unfold digit_value dig
  by_cases a : 48 ≤ c ∧ c ≤ 57
  · rw [if_pos (by simp; omega), if_pos a, wu8, Int.emod_eq_of_lt (by omega) (by omega)]
  · rw [if_neg (by simp; omega), if_neg a]
    by_cases a : 65 ≤ c ∧ c ≤ 70
    · rw [if_pos (by simp; omega), if_pos a, wu8, wu8, Int.emod_eq_of_lt (by omega) (by omega), Int.emod_eq_of_lt (by omega) (by omega)]
      show some (c - 65 + 10, true) = some (c - 55, true)
      rw [show c - 65 + 10 = c - 55 by omega]
    · rw [if_neg (by simp; omega), if_neg a]
      by_cases a : 97 ≤ c ∧ c ≤ 102
      · rw [if_pos (by simp; omega), if_pos a, wu8, wu8, Int.emod_eq_of_lt (by omega) (by omega), Int.emod_eq_of_lt (by omega) (by omega)]
        show some (c - 97 + 10, true) = some (c - 87, true)
        rw [show c - 97 + 10 = c - 87 by omega]
      · rw [if_neg (by simp; omega), if_neg a]

theorem rvalue_is {c : Int} (h0 : 0 ≤ c) (h1 : c < 256) : spinetref02_Value c = some ((dig c).getD 99) := by
  unfold spinetref02_Value dig
  rw [wrap_i64 (n := c) (by omega) (by omega)]
  by_cases a : 48 ≤ c ∧ c ≤ 57
  · rw [if_pos (by simp; omega), if_pos a, wrap_i64 (by omega) (by omega)]; rfl
  · rw [if_neg (by simp; omega), if_neg a]
    by_cases a : 65 ≤ c ∧ c ≤ 70
    · rw [if_pos (by simp; omega), if_pos a, wrap_i64 (by omega) (by omega)]; rfl
    · rw [if_neg (by simp; omega), if_neg a]
      by_cases a : 97 ≤ c ∧ c ≤ 102
      · rw [if_pos (by simp; omega), if_pos a, wrap_i64 (by omega) (by omega)]; rfl
      · rw [if_neg (by simp; omega), if_neg a]; rfl

def unpairs : List Int → Option (List Int)
  | [] => some []
  | [_] => none
  | a :: b :: r => match dig a, dig b, unpairs r with
    | some x, some y, some l => some ((x * 16 + y) :: l)
    | _, _, _ => none

theorem unpairs_odd : ∀ (r : List Int), r.length % 2 = 1 → unpairs r = none
  | [], h => by simp at h
  | [_], h => rfl
  | a :: b :: r, h => by
    unfold unpairs
    rw [unpairs_odd r (by simp only [List.length_cons] at h; omega)]
    split
    · rename_i h3; cases h3
    · rfl

theorem unpair_l0 {s : ByteArray} (hs : s.size < 100000) : ∀ (r : List Int) (k i : Nat) (acc : List Int), (sbl s).drop i = r → r.length % 2 = 0 → r.length < k → acc.length ≤ i →
    digit_Unpair_l0 s k acc (i : Int) = some (match unpairs r with | some l => .go (acc ++ l) | none => .ret ([], 21))
  | _, 0, i, acc, _, _, hk, _ => by omega
  | [], k + 1, i, acc, h, _, _, _ => by
    rw [digit_Unpair_l0, if_neg (by simpa using btNil h)]
    simp [unpairs]
  | [a], k + 1, i, acc, h, he, _, _ => by simp at he
  | a :: b :: r, k + 1, i, acc, h, he, hk, ha => by
    obtain ⟨e1, g1, r1, h1⟩ := btCons h
    obtain ⟨e2, g2, r2, h2⟩ := btCons h1
    have hi : i < 100000 := by have := g1.2; unfold sln at this; omega
    have ih := fun acc' hl => unpair_l0 hs r k (i + 2) acc' h2 (by simp only [List.length_cons] at he; omega) (by simp only [List.length_cons] at hk; omega) hl
    rw [digit_Unpair_l0, if_pos (decide_eq_true g1.2), if_pos g1, e1, value_is r1.1 r1.2]
    simp only [Option.bind_some]
    rw [wrapS (by omega), if_pos g2, e2, value_is r2.1 r2.2]
    simp only [Option.bind_some, unpairs]
    cases hx : dig a with
    | none => simp
    | some x =>
      cases hy : dig b with
      | none => simp
      | some y =>
        have rx := dig_range hx
        have ry := dig_range hy
        have w1 : IntKind.wrap .u8 (x * 2 ^ 4) = x * 2 ^ 4 := wrap_u8 (by omega) (by omega)
        have w2 : bits .or .u8 (x * 2 ^ 4) y = x * 16 + y := or_u8 4 rx.1 ry.1 (by omega) (by omega)
        have w3 : IntKind.wrap .i64 ((i : Int) + 2) = ((i + 2 : Nat) : Int) := wrap_i64 (by omega) (by omega)
        simp only [Bool.not_true, Bool.or_self, Bool.false_eq_true, if_false]
        rw [w1, w2, w3, if_pos (by simp only [List.length_cons, List.length_nil]; omega), ih _ (by simp; omega)]
        cases unpairs r with
        | none => rfl
        | some l => simp

theorem tmod2 {s : ByteArray} : Int.tmod (sln s) 2 = ((s.size % 2 : Nat) : Int) := by
  unfold sln; rw [Int.tmod_eq_emod_of_nonneg (by omega)]; omega

theorem unpair_is {s : ByteArray} (hs : s.size < 100000) : digit_Unpair s = some (match unpairs (sbl s) with | some l => (l, 0) | none => ([], 21)) := by
  unfold digit_Unpair
  rw [tmod2]
  by_cases h : s.size % 2 = 1
  · rw [if_pos (by simp; omega), unpairs_odd _ (by rw [sbl_len]; exact h)]
  · rw [if_neg (by simp; omega)]
    have := unpair_l0 hs (sbl s) BIG 0 [] rfl (by rw [sbl_len]; omega) (by rw [sbl_len]; unfold BIG; omega) (by simp)
    rw [show (((0 : Nat) : Int)) = 0 from rfl] at this
    rw [this]
    cases unpairs (sbl s) <;> simp

theorem rread2 {t : ByteArray} {a b : Int} (ht : sbl t = [a, b]) : spinetref02_Read t 16 2 = some (match dig a, dig b with | some x, some y => (x * 16 + y, 0) | _, _ => (0, 21)) := by
  have h0 : (sbl t).drop 0 = a :: [b] := ht
  obtain ⟨e1, g1, r1, h1⟩ := btCons h0
  obtain ⟨e2, g2, r2, h2⟩ := btCons h1
  have g3 := btNil h2
  have hl : sln t = 2 := by rw [← sblLen, ht]; rfl
  rw [show (((0 : Nat) : Int)) = 0 from rfl] at e1 g1
  rw [show (((0 + 1 : Nat) : Int)) = 1 from rfl] at e2 g2
  obtain ⟨k, hk⟩ := bigS 2 (by decide)
  have w1 : IntKind.wrap .i64 (0 + 1) = 1 := by decide
  have w2 : IntKind.wrap .i64 (1 + 1) = 2 := by decide
  have w16 : IntKind.wrap .i64 16 = 16 := by decide
  unfold spinetref02_Read
  rw [if_neg (by rw [teq, ht]; simp [sbl])]
  rw [hk, show k + 2 + 1 = (k + 1 + 1) + 1 by omega, spinetref02_Read_l0, if_pos (decide_eq_true g1.2), if_pos g1, e1, rvalue_is r1.1 r1.2]
  simp only [Option.bind_some]
  rw [w16, w1]
  cases hx : dig a with
  | none => simp
  | some x =>
    have rx := dig_range hx
    simp only [Option.getD_some]
    rw [if_neg (by simp; omega), spinetref02_Read_l0, if_pos (decide_eq_true g2.2), if_pos g2, e2, rvalue_is r2.1 r2.2]
    simp only [Option.bind_some]
    rw [w16, w2]
    cases hy : dig b with
    | none => simp
    | some y =>
      have ry := dig_range hy
      simp only [Option.getD_some]
      rw [if_neg (by simp; omega), spinetref02_Read_l0, hl]
      simp only [Int.lt_irrefl, decide_false, Bool.false_eq_true, if_false, Option.bind_some]
      have wx : IntKind.wrap .u64 x = x := wrap_u64 (by omega) (by omega)
      have wy : IntKind.wrap .u64 y = y := wrap_u64 (by omega) (by omega)
      rw [spinetref02_Read_l1, if_pos (decide_eq_true g1.2), if_pos g1, e1, rvalue_is r1.1 r1.2]
      simp only [Option.bind_some, hx, Option.getD_some]
      rw [if_pos (by decide), wx]
      have d1 : Int.tdiv (18446744073709551615 - x) 16 = (18446744073709551615 - x) / 16 := Int.tdiv_eq_ediv_of_nonneg (by omega)
      have d2 : Int.tdiv (18446744073709551615 - y) 16 = (18446744073709551615 - y) / 16 := Int.tdiv_eq_ediv_of_nonneg (by omega)
      rw [wrap_u64 (n := 18446744073709551615 - x) (by omega) (by omega), d1, wrap_u64 (n := (18446744073709551615 - x) / 16) (by omega) (by omega)]
      rw [if_neg (by simp; omega), w1]
      rw [show IntKind.wrap .u64 (IntKind.wrap .u64 (16 * 0) + x) = x by rw [show IntKind.wrap .u64 (16 * 0) = 0 by decide, Int.zero_add, wx]]
      rw [spinetref02_Read_l1, if_pos (decide_eq_true g2.2), if_pos g2, e2, rvalue_is r2.1 r2.2]
      simp only [Option.bind_some, hy, Option.getD_some]
      rw [if_pos (by decide), wy]
      rw [wrap_u64 (n := 18446744073709551615 - y) (by omega) (by omega), d2, wrap_u64 (n := (18446744073709551615 - y) / 16) (by omega) (by omega)]
      rw [if_neg (by simp; omega), w2, wrap_u64 (n := 16 * x) (by omega) (by omega), wrap_u64 (n := 16 * x + y) (by omega) (by omega)]
      rw [spinetref02_Read_l1, hl]
      simp only [Int.lt_irrefl, decide_false, Bool.false_eq_true, if_false, Option.bind_some]
      rw [show 16 * x + y = x * 16 + y by omega]

theorem runpair_l0 {s : ByteArray} (hs : s.size < 100000) : ∀ (r : List Int) (k i : Nat) (acc : List Int), (sbl s).drop i = r → r.length % 2 = 0 → r.length < k → acc.length ≤ i →
    spinetref02_Unpair_l0 s k acc (i : Int) = some (match unpairs r with | some l => .go (acc ++ l) | none => .ret ([], 21))
  | _, 0, i, acc, _, _, hk, _ => by omega
  | [], k + 1, i, acc, h, _, _, _ => by
    rw [spinetref02_Unpair_l0, if_neg (by simpa using btNil h)]
    simp [unpairs]
  | [a], k + 1, i, acc, h, he, _, _ => by simp at he
  | a :: b :: r, k + 1, i, acc, h, he, hk, ha => by
    obtain ⟨e1, g1, r1, h1⟩ := btCons h
    obtain ⟨e2, g2, r2, h2⟩ := btCons h1
    have hi : i < 100000 := by have := g1.2; unfold sln at this; omega
    have ih := fun acc' hl => runpair_l0 hs r k (i + 2) acc' h2 (by simp only [List.length_cons] at he; omega) (by simp only [List.length_cons] at hk; omega) hl
    have w3 : IntKind.wrap .i64 ((i : Int) + 2) = ((i + 2 : Nat) : Int) := wrap_i64 (by omega) (by omega)
    have hx : sbl (s.extract i (i + 2)) = [a, b] := by rw [sbl_extract, h]; simp
    rw [spinetref02_Unpair_l0, if_pos (decide_eq_true g1.2), w3, if_pos ⟨g1.1, by omega, by have := g2.2; omega⟩, Int.toNat_natCast, Int.toNat_natCast, rread2 hx]
    simp only [Option.bind_some, unpairs]
    cases hx : dig a with
    | none => simp
    | some x =>
      cases hy : dig b with
      | none => simp
      | some y =>
        have rx := dig_range hx
        have ry := dig_range hy
        simp only [bne_self_eq_false, Bool.false_eq_true, if_false]
        rw [wrap_u8 (by omega) (by omega), if_pos (by simp only [List.length_cons, List.length_nil]; omega), ih _ (by simp; omega)]
        cases unpairs r with
        | none => rfl
        | some l => simp

theorem runpair_is {s : ByteArray} (hs : s.size < 100000) : spinetref02_Unpair s = some (match unpairs (sbl s) with | some l => (l, 0) | none => ([], 21)) := by
  unfold spinetref02_Unpair
  rw [tmod2]
  by_cases h : s.size % 2 = 1
  · rw [if_pos (by simp; omega), unpairs_odd _ (by rw [sbl_len]; exact h)]
  · rw [if_neg (by simp; omega)]
    have := runpair_l0 hs (sbl s) BIG 0 [] rfl (by rw [sbl_len]; omega) (by rw [sbl_len]; unfold BIG; omega) (by simp)
    rw [show (((0 : Nat) : Int)) = 0 from rfl] at this
    rw [this]
    cases unpairs (sbl s) <;> simp

theorem unpairs_bytes : ∀ (r q : List Int), unpairs r = some q → ∀ x ∈ q, 0 ≤ x ∧ x < 256
  | [], q, h => by simp [unpairs] at h; subst h; simp
  | [_], q, h => by simp [unpairs] at h
  | a :: b :: r, q, h => by
    unfold unpairs at h
    split at h
    · rename_i x y l h1 h2 h3
      injection h with h; subst h
      have r1 := dig_range h1
      have r2 := dig_range h2
      intro z hz
      rcases List.mem_cons.1 hz with rfl | hz
      · omega
      · exact unpairs_bytes r l h3 z hz
    · cases h
theorem unpairs_len : ∀ (r q : List Int), unpairs r = some q → q.length ≤ r.length
  | [], q, h => by simp [unpairs] at h; subst h; simp
  | [_], q, h => by simp [unpairs] at h
  | a :: b :: r, q, h => by
    unfold unpairs at h
    split at h
    · rename_i x y l h1 h2 h3
      injection h with h; subst h
      have := unpairs_len r l h3
      simp only [List.length_cons]; omega
    · cases h
end Go.Proofs.YtfdadnldlngmeaaK
