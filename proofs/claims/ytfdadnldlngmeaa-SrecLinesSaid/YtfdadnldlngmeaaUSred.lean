/- The law SrecLines over typed data: lines that are read. -/
import Derived.Test.YtfdadnldlngmeaaUSrec
namespace Go.Proofs.YtfdadnldlngmeaaK
set_option linter.unusedVariables false
set_option linter.unusedSimpArgs false
set_option maxHeartbeats 4000000
open Go.RowKit
attribute [local irreducible] dwv mops lops lqops lwops kont iter run runK rk okK ex E1 vals val chain chB sel resF

theorem sum_range : ∀ (r : List Int), (∀ x ∈ r, 0 ≤ x ∧ x < 256) → 0 ≤ r.sum ∧ r.sum ≤ 255 * (r.length : Int)
  | [], _ => by simp
  | x :: r, h => by
    have h1 := h x (by simp)
    have h2 := sum_range r fun y hy => h y (by simp [hy])
    simp only [List.sum_cons, List.length_cons]
    omega

theorem sum_l0 {b : List Int} (hb : b.length < 1000000) : ∀ (r : List Int) (k i : Nat) (acc : Int), b.drop i = r → r.length < k → octet_Sum_l0 b k (acc % 256) (i : Int) = some ((acc + r.sum) % 256)
  | _, 0, i, acc, _, hk => by omega
  | [], k + 1, i, acc, h, _ => by
    rw [octet_Sum_l0, if_neg (by simpa using gtNil h)]
    simp
  | x :: r, k + 1, i, acc, h, hk => by
    obtain ⟨e1, g1, h1⟩ := gtCons h
    have hi : i < b.length := (dropAt h).2.2
    have ih := sum_l0 hb r k (i + 1) (acc + x) h1 (by simp only [List.length_cons] at hk; omega)
    rw [octet_Sum_l0, if_pos (decide_eq_true g1.2), if_pos g1, e1, wu8, wrapS (by omega), show (acc % 256 + x) % 256 = (acc + x) % 256 by omega, ih, List.sum_cons, Int.add_assoc]
theorem sum_is {b : List Int} (hb : b.length < 1000000) : octet_Sum b = some (b.sum % 256) := by
  unfold octet_Sum
  have := sum_l0 hb b BIG 0 0 rfl (by unfold BIG; omega)
  rw [show (((0 : Nat) : Int)) = 0 from rfl, show (0 : Int) % 256 = 0 by decide, Int.zero_add] at this
  rw [this]; rfl

theorem rsum_l0 {p : List Int × Int} (hb : p.1.length < 1000000) (hB : ∀ x ∈ p.1, 0 ≤ x ∧ x < 256) : ∀ (r : List Int) (k i : Nat) (acc : Int), p.1.drop i = r → r.length < k → 0 ≤ acc → acc ≤ 256 * (i : Int) → spinetref40_Read_l0 p k acc (i : Int) = some (acc + r.sum)
  | _, 0, i, acc, _, hk, _, _ => by omega
  | [], k + 1, i, acc, h, _, _, _ => by
    rw [spinetref40_Read_l0, if_neg (by simpa using gtNil h)]
    simp
  | x :: r, k + 1, i, acc, h, hk, a0, a1 => by
    obtain ⟨e1, g1, h1⟩ := gtCons h
    have hi : i < p.1.length := (dropAt h).2.2
    have hx := hB x (List.mem_of_getElem? (dropAt h).1)
    have ih := rsum_l0 hb hB r k (i + 1) (acc + x) h1 (by simp only [List.length_cons] at hk; omega) (by omega) (by omega)
    rw [spinetref40_Read_l0, if_pos (decide_eq_true g1.2), if_pos g1, e1, wrap_i64 (n := x) (by omega) (by omega), wrap_i64 (n := acc + x) (by omega) (by omega), wrapS (by omega), ih, List.sum_cons, Int.add_assoc]
theorem rsum_is {p : List Int × Int} (hb : p.1.length < 1000000) (hB : ∀ x ∈ p.1, 0 ≤ x ∧ x < 256) : spinetref40_Read_l0 p BIG 0 0 = some p.1.sum := by
  have := rsum_l0 hb hB p.1 BIG 0 0 rfl (by unfold BIG; omega) (by omega) (by omega)
  rw [show (((0 : Nat) : Int)) = 0 from rfl, Int.zero_add] at this
  exact this

theorem word_is {h l : Int} (h0 : 0 ≤ h) (h1 : h < 256) (l0 : 0 ≤ l) (l1 : l < 256) : octet_Word h l = some (h * 256 + l) := by
  unfold octet_Word
  rw [wrap_u16 (n := h) (by omega) (by omega), wrap_u16 (n := h * 2 ^ 8) (by omega) (by omega), wrap_u16 (n := l) (by omega) (by omega), or_u16 8 h0 l0 (by omega) (by omega)]
  rfl

def zeroL : srec_Line := ⟨0, 0, []⟩
/-- A line's bytes. -/
def tailM (b : Int) (q : List Int) : srec_Line × Int :=
  if ln q < 4 then (zeroL, 21) else if gt q 0 ≠ ln q - 1 then (zeroL, 12) else if q.sum % 256 ≠ 255 then (zeroL, 22) else if b = 57 ∧ 4 < ln q then (zeroL, 21) else (⟨b - 48, gt q 1 * 256 + gt q 2, (q.drop 3).take (q.length - 4)⟩, 0)
/-- A line that is read. -/
def readM : List Int → srec_Line × Int
  | a :: b :: r => if a = 83 ∧ (b = 48 ∨ b = 49 ∨ b = 57) then (match unpairs r with | some q => tailM b q | none => (zeroL, 21)) else (zeroL, 21)
  | _ => (zeroL, 21)

theorem tailM_short {b : Int} {q : List Int} (h : ln q < 4) : tailM b q = (zeroL, 21) := if_pos h
theorem tailM_size {b : Int} {q : List Int} (h : ¬ ln q < 4) (h1 : gt q 0 ≠ ln q - 1) : tailM b q = (zeroL, 12) := by unfold tailM; rw [if_neg h, if_pos h1]
theorem tailM_sum {b : Int} {q : List Int} (h : ¬ ln q < 4) (h1 : gt q 0 = ln q - 1) (h2 : q.sum % 256 ≠ 255) : tailM b q = (zeroL, 22) := by unfold tailM; rw [if_neg h, if_neg (by simpa using h1), if_pos h2]
theorem tailM_9 {b : Int} {q : List Int} (h : ¬ ln q < 4) (h1 : gt q 0 = ln q - 1) (h2 : q.sum % 256 = 255) (h9 : b = 57 ∧ 4 < ln q) : tailM b q = (zeroL, 21) := by unfold tailM; rw [if_neg h, if_neg (by simpa using h1), if_neg (by simpa using h2), if_pos h9]
theorem tailM_ok {b : Int} {q : List Int} (h : ¬ ln q < 4) (h1 : gt q 0 = ln q - 1) (h2 : q.sum % 256 = 255) (h9 : ¬ (b = 57 ∧ 4 < ln q)) : tailM b q = (⟨b - 48, gt q 1 * 256 + gt q 2, (q.drop 3).take (q.length - 4)⟩, 0) := by unfold tailM; rw [if_neg h, if_neg (by simpa using h1), if_neg (by simpa using h2), if_neg h9]

theorem get3 {q : List Int} (h : ¬ ln q < 4) : ∃ a b c d r, q = a :: b :: c :: d :: r := by
  match q, h with
  | a :: b :: c :: d :: r, _ => exact ⟨a, b, c, d, r, rfl⟩
  | [], h => simp [ln] at h
  | [_], h => simp [ln] at h
  | [_, _], h => simp [ln] at h
  | [_, _, _], h => simp [ln] at h

theorem sread_is {s : ByteArray} (hs : s.size < 100000) : srec_Read s = some (readM (sbl s)) := by
  unfold srec_Read
  match hc : sbl s with
  | [] =>
    have h2 : decide (sln s < 2) = true := by rw [← sblLen, hc]; rfl
    simp only [h2, Bool.true_or, Bool.not_true, Bool.and_false, Bool.false_eq_true, false_implies, if_true]
    rfl
  | [_] =>
    have h2 : decide (sln s < 2) = true := by rw [← sblLen, hc]; rfl
    simp only [h2, Bool.true_or, Bool.not_true, Bool.and_false, Bool.false_eq_true, false_implies, if_true]
    rfl
  | a :: b :: r =>
    have h0 : (sbl s).drop 0 = a :: b :: r := hc
    obtain ⟨e1, g1, r1, h1⟩ := btCons h0
    obtain ⟨e2, g2, r2, h2⟩ := btCons h1
    rw [show (((0 : Nat) : Int)) = 0 from rfl] at e1 g1
    rw [show (((0 + 1 : Nat) : Int)) = 1 from rfl] at e2 g2
    have hlen : sln s = ((r.length + 2 : Nat) : Int) := by rw [← sblLen, hc]; rfl
    have hd : decide (sln s < 2) = false := by simp; omega
    rw [if_pos (fun _ => g1), if_pos (fun _ => g2), if_pos (fun _ => g2), if_pos (fun _ => g2), e1, e2, hd]
    by_cases hk : a = 83 ∧ (b = 48 ∨ b = 49 ∨ b = 57)
    · have hx : sbl (s.extract (2 : Int).toNat s.size) = r := by
        rw [sbl_extract, hc, ← sbl_len, hc]; simp
      have hr : r.length < 100000 := by have := sbl_len s; rw [hc] at this; simp only [List.length_cons] at this; omega
      rw [if_neg (by simp; omega), if_pos (by omega), unpair_is (by have := sbl_len (s.extract (2 : Int).toNat s.size); rw [hx] at this; omega), hx]
      simp only [readM, if_pos hk]
      cases hq : unpairs r with
      | none => simp [zeroL]
      | some q =>
        have hB := unpairs_bytes r q hq
        have hL := unpairs_len r q hq
        have hS := sum_range q hB
        simp only [Option.bind_some, bne_self_eq_false, Bool.false_or]
        by_cases h4 : ln q < 4
        · rw [if_pos (decide_eq_true h4), tailM_short h4]; rfl
        · rw [if_neg (fun h => h4 (of_decide_eq_true h))]
          obtain ⟨x0, x1, x2, x3, q', rfl⟩ := get3 h4
          have t0 : gt (x0 :: x1 :: x2 :: x3 :: q') 0 = x0 := gtAt (i := 0) rfl
          have t1 : gt (x0 :: x1 :: x2 :: x3 :: q') 1 = x1 := gtAt (i := 1) rfl
          have t2 : gt (x0 :: x1 :: x2 :: x3 :: q') 2 = x2 := gtAt (i := 2) rfl
          have b0 := hB x0 (by simp)
          have b1 := hB x1 (by simp)
          have b2 := hB x2 (by simp)
          have hlq : ln (x0 :: x1 :: x2 :: x3 :: q') = ((q'.length + 4 : Nat) : Int) := rfl
          simp only [List.length_cons] at hL
          simp only [t0, t1, t2, hlq]
          have w1 : IntKind.wrap .i64 (((q'.length + 4 : Nat) : Int) - 1) = ((q'.length + 3 : Nat) : Int) := by rw [wrap_i64 (by omega) (by omega)]; omega
          rw [if_pos ⟨by omega, by omega⟩, wrap_i64 (n := x0) (by omega) (by omega), w1]
          by_cases hn : x0 = ((q'.length + 4 : Nat) : Int) - 1
          · rw [if_neg (by simp; omega), sum_is (by simp only [List.length_cons]; omega)]
            simp only [Option.bind_some]
            by_cases h255 : (x0 :: x1 :: x2 :: x3 :: q').sum % 256 = 255
            · rw [if_neg (by simpa using h255), if_pos g2, if_pos ⟨by omega, by omega⟩, if_pos ⟨by omega, by omega⟩, word_is b1.1 b1.2 b2.1 b2.2]
              simp only [Option.bind_some]
              rw [if_pos ⟨⟨by omega, by omega⟩, by omega, by omega, by omega⟩]
              have wk : IntKind.wrap .i64 (IntKind.wrap .u8 (b - 48)) = b - 48 := by rw [wrap_u8 (by omega) (by omega), wrap_i64 (by omega) (by omega)]
              have e3 : (((q'.length + 3 : Nat) : Int)).toNat - (3 : Int).toNat = q'.length := by omega
              rw [wk, e3]
              have e4 : List.take q'.length (List.drop (3 : Int).toNat (x0 :: x1 :: x2 :: x3 :: q')) = (x3 :: q').take q'.length := rfl
              rw [e4]
              unfold srec_Line_right
              simp only [Option.bind_some]
              have e6 : ln ((x3 :: q').take q'.length) = (q'.length : Int) := by unfold ln; rw [List.length_take]; simp only [List.length_cons]; omega
              rw [e6]
              by_cases h9 : b = 57 ∧ 4 < ((q'.length + 4 : Nat) : Int)
              · rw [if_pos, tailM_9 h4 (by rw [t0, hlq]; exact hn) h255 (by rw [hlq]; exact h9)]
                · rfl
                · obtain ⟨rfl, h9⟩ := h9
                  generalize q'.length = m at h9 ⊢
                  simp; omega
              · rw [if_neg, tailM_ok h4 (by rw [t0, hlq]; exact hn) h255 (by rw [hlq]; exact h9), t1, t2]
                · rfl
                have : ((((b - 48 == 0) || (b - 48 == 1)) || ((b - 48 == 9) && ((q'.length : Int) == 0))) && (decide ((q'.length : Int) ≤ 252))) = true := by
                  generalize q'.length = m at h9 hn ⊢
                  simp; omega
                rw [this]; simp
            · rw [if_pos (by simpa using h255), tailM_sum h4 (by rw [t0, hlq]; exact hn) h255]; rfl
          · rw [if_pos (by simp; omega), tailM_size h4 (by rw [t0, hlq]; exact hn)]; rfl
    · rw [if_pos (by simp; omega)]
      simp only [readM, if_neg hk, zeroL]

def asR (x : srec_Line) : spinetref40_Line := ⟨x.Kind, x.At, x.B⟩
theorem rread_is {s : ByteArray} (hs : s.size < 100000) : spinetref40_Read s = some (asR (readM (sbl s)).1, (readM (sbl s)).2) := by
  unfold spinetref40_Read
  match hc : sbl s with
  | [] =>
    have h2 : decide (2 ≤ sln s) = false := by rw [← sblLen, hc]; rfl
    simp only [h2, Bool.false_and, Bool.false_eq_true, false_implies, if_true, if_false]
    rfl
  | [_] =>
    have h2 : decide (2 ≤ sln s) = false := by rw [← sblLen, hc]; rfl
    simp only [h2, Bool.false_and, Bool.false_eq_true, false_implies, if_true, if_false]
    rfl
  | a :: b :: r =>
    have h0 : (sbl s).drop 0 = a :: b :: r := hc
    obtain ⟨e1, g1, r1, h1⟩ := btCons h0
    obtain ⟨e2, g2, r2, h2⟩ := btCons h1
    rw [show (((0 : Nat) : Int)) = 0 from rfl] at e1 g1
    rw [show (((0 + 1 : Nat) : Int)) = 1 from rfl] at e2 g2
    have hlen : sln s = ((r.length + 2 : Nat) : Int) := by rw [← sblLen, hc]; rfl
    have hd : decide (2 ≤ sln s) = true := by simp; omega
    have hr : r.length < 100000 := by have := sbl_len s; rw [hc] at this; simp only [List.length_cons] at this; omega
    rw [if_pos (fun _ => g1), e1, hd]
    by_cases ha : a = 83
    · rw [if_pos (by simp [ha]), if_pos g2, e2, wrap_i64 (n := b) (by omega) (by omega), wrap_i64 (n := b - 48) (by omega) (by omega)]
      unfold spinetref40_Read_j0
      by_cases hb : b = 48 ∨ b = 49 ∨ b = 57
      · have hx : sbl (s.extract (2 : Int).toNat s.size) = r := by
          rw [sbl_extract, hc, ← sbl_len, hc]; simp
        rw [if_neg (by simp; omega), if_pos (by omega), runpair_is (by have := sbl_len (s.extract (2 : Int).toNat s.size); rw [hx] at this; omega), hx]
        simp only [readM, if_pos (And.intro ha hb)]
        cases hq : unpairs r with
        | none => rfl
        | some q =>
          have hB := unpairs_bytes r q hq
          have hL := unpairs_len r q hq
          have hS := sum_range q hB
          simp only [Option.bind_some, bne_self_eq_false, Bool.false_or]
          by_cases h4 : ln q < 4
          · rw [if_pos (decide_eq_true h4), tailM_short h4]; rfl
          · rw [if_neg (fun h => h4 (of_decide_eq_true h)), rsum_is (p := (q, 0)) (show q.length < 1000000 by omega) hB]
            simp only [Option.bind_some]
            obtain ⟨x0, x1, x2, x3, q', rfl⟩ := get3 h4
            have t0 : gt (x0 :: x1 :: x2 :: x3 :: q') 0 = x0 := gtAt (i := 0) rfl
            have t1 : gt (x0 :: x1 :: x2 :: x3 :: q') 1 = x1 := gtAt (i := 1) rfl
            have t2 : gt (x0 :: x1 :: x2 :: x3 :: q') 2 = x2 := gtAt (i := 2) rfl
            have b0 := hB x0 (by simp)
            have b1 := hB x1 (by simp)
            have b2 := hB x2 (by simp)
            have hlq : ln (x0 :: x1 :: x2 :: x3 :: q') = ((q'.length + 4 : Nat) : Int) := rfl
            simp only [List.length_cons] at hL
            simp only [t0, t1, t2, hlq]
            have w1 : IntKind.wrap .i64 (((q'.length + 4 : Nat) : Int) - 1) = ((q'.length + 3 : Nat) : Int) := by rw [wrap_i64 (by omega) (by omega)]; omega
            rw [if_pos ⟨by omega, by omega⟩, wrap_i64 (n := x0) (by omega) (by omega), wrap_i64 (n := x0 + 1) (by omega) (by omega), w1]
            by_cases hn : x0 = ((q'.length + 4 : Nat) : Int) - 1
            · rw [if_neg (by simp; omega)]
              rw [Int.tmod_eq_emod_of_nonneg hS.1]
              by_cases h255 : (x0 :: x1 :: x2 :: x3 :: q').sum % 256 = 255
              · rw [if_neg (by simpa using h255)]
                by_cases h9 : b = 57 ∧ 4 < ((q'.length + 4 : Nat) : Int)
                · rw [if_pos (by simp; omega), tailM_9 h4 (by rw [t0, hlq]; exact hn) h255 (by rw [hlq]; exact h9)]; rfl
                · rw [if_neg (by simp; omega), if_pos ⟨by omega, by omega⟩, if_pos ⟨by omega, by omega⟩, if_pos ⟨by omega, by omega, by omega⟩]
                  have e3 : (((q'.length + 3 : Nat) : Int)).toNat - (3 : Int).toNat = q'.length := by omega
                  rw [e3]
                  rw [wrap_u16 (n := x1) (by omega) (by omega), wrap_u16 (n := x2) (by omega) (by omega), wrap_u16 (n := x1 * 256) (by omega) (by omega), wrap_u16 (n := x1 * 256 + x2) (by omega) (by omega), tailM_ok h4 (by rw [t0, hlq]; exact hn) h255 (by rw [hlq]; exact h9), t1, t2]
                  rfl
              · rw [if_pos (by simpa using h255), tailM_sum h4 (by rw [t0, hlq]; exact hn) h255]; rfl
            · rw [if_pos (by simp; omega), tailM_size h4 (by rw [t0, hlq]; exact hn)]; rfl
      · rw [if_pos (by simp; omega)]
        simp only [readM, if_neg (show ¬ (a = 83 ∧ (b = 48 ∨ b = 49 ∨ b = 57)) from fun h => hb h.2)]
        rfl
    · rw [if_neg (by simp [ha])]
      simp only [readM, if_neg (show ¬ (a = 83 ∧ (b = 48 ∨ b = 49 ∨ b = 57)) from fun h => ha h.1)]
      rfl
end Go.Proofs.YtfdadnldlngmeaaK
