/- The law WaveReads. -/
import Derived.Test.YtnilppmpfklpbaaDoorUWav
namespace Go.Proofs.YtnilppmpfklpbaaDoorK
set_option linter.unusedVariables false
set_option linter.unusedSimpArgs false
set_option maxHeartbeats 4000000
open Go.RowKit
attribute [local irreducible] dwv mops lops lqops lwops kont iter run runK rk okK ex E1 vals val chain chB sel resF

theorem rowM_len (L : List api_Rec) {j : Nat} (hj : j < 7) : (rowM L j).length ≤ L.length + 11 := by
  obtain ⟨r, h1, h2, h3, h4⟩ := pad_is j hj
  have hh : (gt heads (j : Int)).size ≤ 10 := by rw [← h2, ← sbl_len, sbl_app, List.length_append, sbl_len, sbl_len]; omega
  unfold rowM
  simp only [List.length_append, List.length_map, List.length_cons, List.length_nil, sbl_len]
  omega
theorem rowM_bytes (L : List api_Rec) (j : Nat) : ∀ x ∈ rowM L j, 0 ≤ x ∧ x < 256 := by
  intro x hx
  unfold rowM at hx
  simp only [List.mem_append, List.mem_map, List.mem_cons, List.not_mem_nil, or_false] at hx
  rcases hx with (hx | ⟨y, _, rfl⟩) | rfl
  · exact sblRange hx
  · exact mark_byte y j
  · decide
def textM (L : List api_Rec) : List Int := rowM L 0 ++ rowM L 1 ++ rowM L 2 ++ rowM L 3 ++ rowM L 4 ++ rowM L 5 ++ rowM L 6
theorem text_is {L : List api_Rec} (hN : L.length < 10000) : wave_Text L = some (bs (textM L)) := by
  obtain ⟨k, hk⟩ := bigS 7 (by omega)
  have r0 := rowM_len L (j := 0) (by omega)
  have r1 := rowM_len L (j := 1) (by omega)
  have r2 := rowM_len L (j := 2) (by omega)
  have r3 := rowM_len L (j := 3) (by omega)
  have r4 := rowM_len L (j := 4) (by omega)
  have r5 := rowM_len L (j := 5) (by omega)
  unfold wave_Text
  rw [names_split, Option.bind_some, hk, show (0 : Int) = ((0 : Nat) : Int) from rfl]
  rw [text_step hN (by omega) _ _ (by simp), text_step hN (by omega) _ _ (by simp only [List.length_append, List.length_nil, Nat.zero_add, Nat.reduceAdd]; omega), text_step hN (by omega) _ _ (by simp only [List.length_append, List.length_nil, Nat.zero_add, Nat.reduceAdd]; omega), text_step hN (by omega) _ _ (by simp only [List.length_append, List.length_nil, Nat.zero_add, Nat.reduceAdd]; omega), text_step hN (by omega) _ _ (by simp only [List.length_append, List.length_nil, Nat.zero_add, Nat.reduceAdd]; omega), text_step hN (by omega) _ _ (by simp only [List.length_append, List.length_nil, Nat.zero_add, Nat.reduceAdd]; omega), text_step hN (by omega) _ _ (by simp only [List.length_append, List.length_nil, Nat.zero_add, Nat.reduceAdd]; omega)]
  rw [wave_Text_l0, if_neg (by decide), Option.bind_some]
  have hb : bytesB ([] ++ rowM L 0 ++ rowM L (0 + 1) ++ rowM L (0 + 1 + 1) ++ rowM L (0 + 1 + 1 + 1) ++ rowM L (0 + 1 + 1 + 1 + 1) ++ rowM L (0 + 1 + 1 + 1 + 1 + 1) ++ rowM L (0 + 1 + 1 + 1 + 1 + 1 + 1)) = true := by
    rw [bytesB_iff]
    intro x hx
    simp only [List.mem_append, List.not_mem_nil, false_or] at hx
    rcases hx with (((((hx | hx) | hx) | hx) | hx) | hx) | hx
    all_goals exact rowM_bytes _ _ x hx
  rw [if_pos hb]
  rfl

section
variable {R : List ByteArray} (hR : ln R = 8) {t : Nat} (ht : t < 10000)
include hR ht
theorem rd3 : ∀ (d k j : Nat) (l : List Bool), j + d = 7 → d < k → ∃ l' a b, wave_Read_l3 R (t : Int) k l (j : Int) = some (l', a, b)
  | _, 0, _, _, _, hk => by omega
  | 0, k + 1, j, l, h, _ => by
    rw [wave_Read_l3, if_neg (fun e => by have := of_decide_eq_true e; omega)]
    exact ⟨_, _, _, rfl⟩
  | d + 1, k + 1, j, l, h, hk => by
    have g : 0 ≤ (j : Int) ∧ (j : Int) < ln R := by omega
    have hw : IntKind.wrap .i64 ((t : Int) + 5) = (t : Int) + 5 := wrap_i64 (by omega) (by omega)
    rw [wave_Read_l3, if_pos (decide_eq_true (by omega)), if_pos g, if_pos (fun _ => g), hw, if_pos (fun e => ⟨by omega, of_decide_eq_true e⟩), if_pos (by omega), wrapS (by omega)]
    exact rd3 d k (j + 1) _ (by omega) (by omega)
end
theorem rd2 {R : List ByteArray} (hR : ln R = 8) (hs : (gt R 0).size < 1000) : ∀ (d k t : Nat) (l : List api_Rec), (gt R 0).size - 5 = t + d → 5 ≤ (gt R 0).size → d < k → l.length = t → (∀ x ∈ l, x.Addr = 0 ∧ x.Data = 0) →
    ∃ l', wave_Read_l2 R k l (t : Int) = some l' ∧ l'.length = t + d ∧ ∀ x ∈ l', x.Addr = 0 ∧ x.Data = 0
  | _, 0, _, _, _, _, hk, _, _ => by omega
  | d, k + 1, t, l, h, h5, hk, hl, ha => by
    have hw : IntKind.wrap .i64 (sln (gt R 0) - 5) = ((t + d : Nat) : Int) := by
      unfold sln
      rw [wrap_i64 (by omega) (by omega)]
      omega
    rw [wave_Read_l2, hw]
    match d, h, hk with
    | 0, h, hk =>
      rw [if_neg (fun e => by have := of_decide_eq_true e; omega)]
      exact ⟨l, rfl, by omega, ha⟩
    | d + 1, h, hk =>
      obtain ⟨l', a, b, h3⟩ := rd3 hR (t := t) (by omega) 7 BIG 0 [false, false, false, false, false, false, false] rfl (by unfold BIG; omega)
      rw [show (((0 : Nat) : Int)) = 0 from rfl] at h3
      rw [if_pos (decide_eq_true (by omega)), h3, Option.bind_some]
      simp only
      rw [if_pos (by decide), if_pos (by decide), if_pos (by decide), if_pos (by decide), if_pos (by decide), if_pos (by decide), if_pos (by decide), if_pos (by simp only [List.length_cons, List.length_nil]; omega), wrapS (by omega)]
      obtain ⟨l2, e1, e2, e3⟩ := rd2 hR hs d k (t + 1) (l ++ [api_Rec.mk 0 0 (gt l' 0) (gt l' 1) (gt l' 2) (gt l' 3) (gt l' 4) (gt l' 5) (gt l' 6)]) (by omega) h5 (by omega) (by simp [hl]) (by
        intro x hx
        rcases List.mem_append.1 hx with hx | hx
        · exact ha x hx
        · simp at hx; subst hx; exact ⟨rfl, rfl⟩)
      exact ⟨l2, e1, by omega, e3⟩
end Go.Proofs.YtnilppmpfklpbaaDoorK
