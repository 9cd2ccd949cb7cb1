/- The parts of lines: the reference's lines and fields. -/
import Derived.Test.YthooddibdmigmaaDoorULex
namespace Go.Proofs.YthooddibdmigmaaDoorK
set_option linter.unusedVariables false
set_option linter.unusedSimpArgs false
set_option maxHeartbeats 4000000
open Go.RowKit
attribute [local irreducible] dwv mops lops lqops lwops kont iter run runK rk okK ex E1 vals val chain chB sel resF

theorem spinetref43_LinesP_l0 {s : ByteArray} (hs : s.size < 100000) : ∀ (r : List Int) (k i : Nat) (d : List ByteArray) (w : List Int), (sbl s).drop i = r → r.length < k → d.length ≤ i → w.length ≤ i → (∀ x ∈ w, 0 ≤ x ∧ x < 256) →
    spinetref43_Lines_l0 s k (d ++ [bs w]) (i : Int) = some (d ++ (match cutAt 10 r with | [] => [] | p :: q => bs (w ++ p) :: q.map bs))
  | _, 0, _, _, _, _, hk, _, _, _ => by omega
  | [], k + 1, i, d, w, h, _, _, _, _ => by
    rw [spinetref43_Lines_l0, if_neg (fun e => btNil h (of_decide_eq_true e))]; simp [cutAt]
  | x :: r, k + 1, i, d, w, h, hk, hd, hw, hB => by
    obtain ⟨e1, g1, r1, h1⟩ := btCons h
    have hi : i < 100000 := by have := g1.2; unfold sln at this; omega
    have hlt : (i : Int) + 1 ≤ sln s := by have := g1.2; omega
    rw [spinetref43_Lines_l0, if_pos (decide_eq_true g1.2), if_pos g1, e1]
    by_cases hc : x = 10
    · subst hc
      have ih := spinetref43_LinesP_l0 hs r k (i + 1) (d ++ [bs w]) [] h1 (by simp only [List.length_cons] at hk; omega) (by simp; omega) (by simp) (by simp)
      rw [if_pos (by decide), if_pos (by simp only [List.length_append, List.length_cons, List.length_nil]; omega), wrapS (by omega)]
      rw [show (⟨#[]⟩ : ByteArray) = bs [] from rfl, ih]
      rw [cutAt, if_pos rfl]
      have hne := cutAt_ne 10 r
      cases hq : cutAt 10 r with
      | nil => exact absurd hq hne
      | cons p q => simp
    · have hb : (x == 10) = false := by simpa using hc
      have ih := spinetref43_LinesP_l0 hs r k (i + 1) d (w ++ [x]) h1 (by simp only [List.length_cons] at hk; omega) (by omega) (by simp; omega) (by
        intro y hy
        rcases List.mem_append.1 hy with hy | hy
        · exact hB y hy
        · simp at hy; subst hy; exact r1)
      rw [hb, if_neg (by decide)]
      have hl : ln (d ++ [bs w]) = ((d.length + 1 : Nat) : Int) := by simp [ln]
      have w1 : IntKind.wrap .i64 (ln (d ++ [bs w]) - 1) = ((d.length : Nat) : Int) := by rw [hl, wrap_i64 (by omega) (by omega)]; omega
      have gx : 0 ≤ ((d.length : Nat) : Int) ∧ ((d.length : Nat) : Int) < ln (d ++ [bs w]) := by rw [hl]; omega
      have gg : gt (d ++ [bs w]) ((d.length : Nat) : Int) = bs w := gtAt (by simp)
      have w2 : IntKind.wrap .i64 ((i : Int) + 1) = ((i + 1 : Nat) : Int) := wrapS (by omega)
      have hx : s.extract i (i + 1) = bs [x] := by
        apply sbl_inj
        rw [sbl_extract, h, sbl_bs (by intro y hy; simp at hy; subst hy; exact r1)]
        simp
      rw [w1, if_pos gx, w2, if_pos ⟨g1.1, by omega, by omega⟩, gg, Int.toNat_natCast, Int.toNat_natCast, hx, bs_size, bs_size]
      have hsz : ((w.length + [x].length : Nat) : Int) ≤ 9223372036854775807 := by simp only [List.length_cons, List.length_nil]; omega
      rw [if_pos hsz, if_pos gx]
      have hst : st (d ++ [bs w]) ((d.length : Nat) : Int) (bs w ++ bs [x]) = d ++ [bs (w ++ [x])] := by unfold st; rw [Int.toNat_natCast, set_at, ← bs_app]
      rw [hst, ih, cutAt, if_neg hc]
      have hne := cutAt_ne 10 r
      cases hq : cutAt 10 r with
      | nil => exact absurd hq hne
      | cons p q => simp
theorem spinetref43_LinesP_is {s : ByteArray} (hs : s.size < 100000) : spinetref43_Lines_l0 s BIG [(⟨#[]⟩ : ByteArray)] 0 = some ((cutAt 10 (sbl s)).map bs) := by
  have := spinetref43_LinesP_l0 hs (sbl s) BIG 0 [] [] rfl (by rw [sbl_len]; unfold BIG; omega) (by simp) (by simp) (by simp)
  rw [show (((0 : Nat) : Int)) = 0 from rfl] at this
  rw [show [(⟨#[]⟩ : ByteArray)] = [] ++ [bs []] from rfl, this]
  have hne := cutAt_ne 10 (sbl s)
  cases hq : cutAt 10 (sbl s) with
  | nil => exact absurd hq hne
  | cons p q => simp

theorem spinetref43_FieldsP_l0 {s : ByteArray} (hs : s.size < 100000) : ∀ (r : List Int) (k i : Nat) (d : List ByteArray) (w : List Int), (sbl s).drop i = r → r.length < k → d.length ≤ i → w.length ≤ i → (∀ x ∈ w, 0 ≤ x ∧ x < 256) →
    spinetref43_Fields_l0 s k (d ++ [bs w]) (i : Int) = some (d ++ (match cutAt 44 r with | [] => [] | p :: q => bs (w ++ p) :: q.map bs))
  | _, 0, _, _, _, _, hk, _, _, _ => by omega
  | [], k + 1, i, d, w, h, _, _, _, _ => by
    rw [spinetref43_Fields_l0, if_neg (fun e => btNil h (of_decide_eq_true e))]; simp [cutAt]
  | x :: r, k + 1, i, d, w, h, hk, hd, hw, hB => by
    obtain ⟨e1, g1, r1, h1⟩ := btCons h
    have hi : i < 100000 := by have := g1.2; unfold sln at this; omega
    have hlt : (i : Int) + 1 ≤ sln s := by have := g1.2; omega
    rw [spinetref43_Fields_l0, if_pos (decide_eq_true g1.2), if_pos g1, e1]
    by_cases hc : x = 44
    · subst hc
      have ih := spinetref43_FieldsP_l0 hs r k (i + 1) (d ++ [bs w]) [] h1 (by simp only [List.length_cons] at hk; omega) (by simp; omega) (by simp) (by simp)
      rw [if_pos (by decide), if_pos (by simp only [List.length_append, List.length_cons, List.length_nil]; omega), wrapS (by omega)]
      rw [show (⟨#[]⟩ : ByteArray) = bs [] from rfl, ih]
      rw [cutAt, if_pos rfl]
      have hne := cutAt_ne 44 r
      cases hq : cutAt 44 r with
      | nil => exact absurd hq hne
      | cons p q => simp
    · have hb : (x == 44) = false := by simpa using hc
      have ih := spinetref43_FieldsP_l0 hs r k (i + 1) d (w ++ [x]) h1 (by simp only [List.length_cons] at hk; omega) (by omega) (by simp; omega) (by
        intro y hy
        rcases List.mem_append.1 hy with hy | hy
        · exact hB y hy
        · simp at hy; subst hy; exact r1)
      rw [hb, if_neg (by decide)]
      have hl : ln (d ++ [bs w]) = ((d.length + 1 : Nat) : Int) := by simp [ln]
      have w1 : IntKind.wrap .i64 (ln (d ++ [bs w]) - 1) = ((d.length : Nat) : Int) := by rw [hl, wrap_i64 (by omega) (by omega)]; omega
      have gx : 0 ≤ ((d.length : Nat) : Int) ∧ ((d.length : Nat) : Int) < ln (d ++ [bs w]) := by rw [hl]; omega
      have gg : gt (d ++ [bs w]) ((d.length : Nat) : Int) = bs w := gtAt (by simp)
      have w2 : IntKind.wrap .i64 ((i : Int) + 1) = ((i + 1 : Nat) : Int) := wrapS (by omega)
      have hx : s.extract i (i + 1) = bs [x] := by
        apply sbl_inj
        rw [sbl_extract, h, sbl_bs (by intro y hy; simp at hy; subst hy; exact r1)]
        simp
      rw [w1, if_pos gx, w2, if_pos ⟨g1.1, by omega, by omega⟩, gg, Int.toNat_natCast, Int.toNat_natCast, hx, bs_size, bs_size]
      have hsz : ((w.length + [x].length : Nat) : Int) ≤ 9223372036854775807 := by simp only [List.length_cons, List.length_nil]; omega
      rw [if_pos hsz, if_pos gx]
      have hst : st (d ++ [bs w]) ((d.length : Nat) : Int) (bs w ++ bs [x]) = d ++ [bs (w ++ [x])] := by unfold st; rw [Int.toNat_natCast, set_at, ← bs_app]
      rw [hst, ih, cutAt, if_neg hc]
      have hne := cutAt_ne 44 r
      cases hq : cutAt 44 r with
      | nil => exact absurd hq hne
      | cons p q => simp
theorem spinetref43_FieldsP_is {s : ByteArray} (hs : s.size < 100000) : spinetref43_Fields_l0 s BIG [(⟨#[]⟩ : ByteArray)] 0 = some ((cutAt 44 (sbl s)).map bs) := by
  have := spinetref43_FieldsP_l0 hs (sbl s) BIG 0 [] [] rfl (by rw [sbl_len]; unfold BIG; omega) (by simp) (by simp) (by simp)
  rw [show (((0 : Nat) : Int)) = 0 from rfl] at this
  rw [show [(⟨#[]⟩ : ByteArray)] = [] ++ [bs []] from rfl, this]
  have hne := cutAt_ne 44 (sbl s)
  cases hq : cutAt 44 (sbl s) with
  | nil => exact absurd hq hne
  | cons p q => simp

end Go.Proofs.YthooddibdmigmaaDoorK
