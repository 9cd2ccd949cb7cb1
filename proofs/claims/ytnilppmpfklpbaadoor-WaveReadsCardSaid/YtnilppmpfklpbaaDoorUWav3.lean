/- The law WaveReads, joined. -/
import Derived.Test.YtnilppmpfklpbaaDoorUWav2
namespace Go.Proofs.YtnilppmpfklpbaaDoorK
set_option linter.unusedVariables false
set_option linter.unusedSimpArgs false
set_option maxHeartbeats 4000000
open Go.RowKit
attribute [local irreducible] dwv mops lops lqops lwops kont iter run runK rk okK ex E1 vals val chain chB sel resF

theorem law_l0 {r : List api_Rec × Int} (hN : r.1.length < 10000) (ha : ∀ x ∈ r.1, x.Addr = 0 ∧ x.Data = 0) : ∀ (q : List api_Rec) (k i : Nat), r.1.drop i = q → q.length < k → spinetlaw50_WaveReads_l0 r k (i : Int) = some (.go ())
  | _, 0, _, _, hk => by omega
  | [], k + 1, i, h, _ => by
    rw [spinetlaw50_WaveReads_l0, if_neg (fun e => gtNil h (of_decide_eq_true e))]
  | x :: q, k + 1, i, h, hk => by
    obtain ⟨e1, g1, h1⟩ := gtCons h
    have hi := (dropAt h).2.2
    have hx := ha x (List.mem_of_mem_drop (i := i) (by rw [h]; simp))
    rw [spinetlaw50_WaveReads_l0, if_pos (decide_eq_true g1.2), if_pos g1, if_pos (fun _ => g1), e1, hx.1, hx.2, if_neg (by decide), wrapS (by omega)]
    exact law_l0 hN ha q k (i + 1) h1 (by simp only [List.length_cons] at hk; omega)

/-- The text of no records: eight pieces, the first five bytes long. -/
theorem empty_text : ∃ R, strings_Split (bs (textM [])) (⟨#[10]⟩ : ByteArray) = some R ∧ ln R = 8 ∧ (gt R 0).size = 5 := by
  refine ⟨heads ++ [⟨#[]⟩], by decide +kernel, rfl, rfl⟩

theorem cut_mem_le (c : Int) : ∀ (l : List Int) (p : List Int), p ∈ cutAt c l → p.length ≤ l.length
  | [], p, h => by simp [cutAt] at h; subst h; simp
  | x :: r, p, h => by
    rw [cutAt] at h
    by_cases hc : x = c
    · rw [if_pos hc] at h
      rcases List.mem_cons.1 h with h | h
      · subst h; simp
      · have := cut_mem_le c r p h; simp only [List.length_cons]; omega
    · rw [if_neg hc] at h
      have hne := cutAt_ne c r
      cases hq : cutAt c r with
      | nil => exact absurd hq hne
      | cons y q =>
        rw [hq] at h
        rcases List.mem_cons.1 h with h | h
        · subst h
          have := cut_mem_le c r y (by rw [hq]; simp)
          simp only [List.length_cons]; omega
        · have := cut_mem_le c r p (by rw [hq]; simp [h])
          simp only [List.length_cons]; omega
theorem toList_eq {a b : ByteArray} (h : (a.toList == b.toList) = true) : a = b := by
  rw [teq, beq_iff_eq] at h; exact sbl_inj h

theorem read_is (s : ByteArray) (hz : s.size ≤ 400) : (wave_Read s = some ([], 21) ∧ s ≠ bs (textM [])) ∨ ∃ l, wave_Read s = some (l, 0) ∧ s = bs (textM l) ∧ l.length < 1000 ∧ ∀ x ∈ l, x.Addr = 0 ∧ x.Data = 0 := by
  have h10 : (((10 : UInt8).toNat : Nat) : Int) = 10 := rfl
  obtain ⟨R0, f1, f2, f3⟩ := empty_text
  have hsp : strings_Split s (⟨#[10]⟩ : ByteArray) = some ((cutAt 10 (sbl s)).map bs) := by
    rw [show (⟨#[10]⟩ : ByteArray) = s1 10 from rfl, split_is s 10 (by omega)]
    unfold pieces
    rw [h10]
  have hL : ∀ x ∈ (cutAt 10 (sbl s)).map bs, x.size < 1000 := fun x hx => by
    obtain ⟨p, hp, rfl⟩ := List.mem_map.1 hx
    have := cut_mem_le 10 (sbl s) p hp
    rw [sbl_len] at this
    rw [bs_size]; omega
  generalize (cutAt 10 (sbl s)).map bs = R at *
  have hsame : s = bs (textM []) → R = R0 := fun e => by
    rw [e, f1] at hsp; exact (Option.some.inj hsp).symm
  unfold wave_Read
  rw [hsp, Option.bind_some]
  by_cases h8 : ln R = 8
  · have g0 : 0 ≤ (0 : Int) ∧ 0 < ln R := by omega
    rw [if_pos (fun _ => g0)]
    have hs : (gt R 0).size < 1000 := by
      cases R with
      | nil => simp [ln] at h8
      | cons x q => exact hL x (by simp)
    by_cases h5 : (gt R 0).size < 5
    · rw [if_pos (by rw [Bool.or_eq_true]; exact .inr (decide_eq_true (by unfold sln; omega)))]
      refine .inl ⟨rfl, fun e => ?_⟩
      rw [hsame e, f3] at h5; omega
    · obtain ⟨l, e1, e2, e3⟩ := rd2 h8 hs ((gt R 0).size - 5) BIG 0 [] (by omega) (by omega) (by unfold BIG; omega) rfl (by simp)
      rw [show (((0 : Nat) : Int)) = 0 from rfl] at e1
      rw [if_neg (by
        rw [h8]; intro e; rw [Bool.or_eq_true] at e
        rcases e with e | e
        · exact absurd e (by decide)
        · have := of_decide_eq_true e
          unfold sln at this; omega), if_pos g0, e1, Option.bind_some, text_is (by omega), Option.bind_some]
      by_cases he : ((bs (textM l)).toList == s.toList) = true
      · rw [he, if_neg (by decide)]
        exact .inr ⟨l, rfl, (toList_eq he).symm, by omega, e3⟩
      · rw [if_pos (by simpa using he)]
        refine .inl ⟨rfl, fun e => he ?_⟩
        have h0 := hsame e
        rw [h0, f3] at e2
        have : l = [] := List.eq_nil_of_length_eq_zero (by omega)
        subst this
        rw [← e]; simp
  · rw [if_pos (fun e => absurd e (by simp [h8])), if_pos (by simp [h8])]
    refine .inl ⟨rfl, fun e => ?_⟩
    rw [hsame e] at h8; exact h8 f2

theorem waveReads_true (s : ByteArray) : spinetlaw50_WaveReads s = some true := by
  unfold spinetlaw50_WaveReads
  by_cases h6 : 400 < sln s
  · rw [if_pos (decide_eq_true h6)]
  rw [if_neg (fun h => h6 (of_decide_eq_true h))]
  have hz : s.size ≤ 400 := by unfold sln at h6; omega
  rcases read_is s hz with ⟨h1, h2⟩ | ⟨l, h1, h2, h3, h4⟩
  · rw [h1, Option.bind_some, if_pos (by decide), if_pos (by decide), text_is (by simp), Option.bind_some]
    have hne : (s.toList == (bs (textM [])).toList) = false := by
      cases he : (s.toList == (bs (textM [])).toList) with
      | false => rfl
      | true => exact absurd (toList_eq he) h2
    simp only [hne, alive50]
    rfl
  · have h9 := law_l0 (r := (l, 0)) (by show l.length < 10000; omega) h4 l BIG 0 rfl (by unfold BIG; omega)
    rw [show (((0 : Nat) : Int)) = 0 from rfl] at h9
    rw [h1, Option.bind_some, if_neg (by simp), h9, Option.bind_some]
    simp only
    rw [text_is (by omega), Option.bind_some, ← h2]
    simp [alive50]
end Go.Proofs.YtnilppmpfklpbaaDoorK
