/- Lines of digits: texts and what is read (for SrecPuts). -/
import Derived.Test.YtphfmfbebcconaaDoorF
import Derived.Test.YtphfmfbebcconaaDoorUB
namespace Go.Proofs.YtphfmfbebcconaaDoorK
set_option linter.unusedVariables false
set_option linter.unusedSimpArgs false
set_option maxHeartbeats 4000000
open Go.RowKit
attribute [local irreducible] dwv mops lops lqops lwops kont iter run runK rk okK ex E1 vals val chain chB sel resF

theorem wu8 (n : Int) : IntKind.wrap .u8 n = n % 256 := by simp [IntKind.wrap, IntKind.signed, IntKind.bits]
theorem wu16 (n : Int) : IntKind.wrap .u16 n = n % 65536 := by simp [IntKind.wrap, IntKind.signed, IntKind.bits]

/-- The number that a digit stands for. -/
def dig (c : Int) : Option Int := if 48 ≤ c ∧ c ≤ 57 then some (c - 48) else if 65 ≤ c ∧ c ≤ 70 then some (c - 55) else if 97 ≤ c ∧ c ≤ 102 then some (c - 87) else none

theorem dig_range {c v : Int} (h : dig c = some v) : 0 ≤ v ∧ v < 16 := by
  unfold dig at h
  split at h
  · injection h; omega
  · split at h
    · injection h; omega
    · split at h
      · injection h; omega
      · cases h

theorem value_is {c : Int} (h0 : 0 ≤ c) (h1 : c < 256) : digit_value c = some (match dig c with | some v => (v, true) | none => (0, false)) := by
  unfold digit_value dig
  by_cases a : 48 ≤ c ∧ c ≤ 57
  · rw [if_pos (by simp; omega), if_pos a, wu8, Int.emod_eq_of_lt (by omega) (by omega)]
  · rw [if_neg (by simp; omega), if_neg a]
    by_cases a : 65 ≤ c ∧ c ≤ 70
    · rw [if_pos (by simp; omega), if_pos a, wu8, wu8, Int.emod_eq_of_lt (by omega) (by omega), Int.emod_eq_of_lt (by omega) (by omega)]
      show some (c - 65 + 10, true) = some (c - 55, true)
      rw [show c - 65 + 10 = c - 55 by omega]
    · rw [if_neg (by simp; omega), if_neg a]
      by_cases a : 97 ≤ c ∧ c ≤ 102
      · rw [if_pos (by simp; omega), if_pos a, wu8, wu8, Int.emod_eq_of_lt (by omega) (by omega), Int.emod_eq_of_lt (by omega) (by omega)]
        show some (c - 97 + 10, true) = some (c - 87, true)
        rw [show c - 97 + 10 = c - 87 by omega]
      · rw [if_neg (by simp; omega), if_neg a]

def unpairs : List Int → Option (List Int)
  | [] => some []
  | [_] => none
  | a :: b :: r => match dig a, dig b, unpairs r with
    | some x, some y, some l => some ((x * 16 + y) :: l)
    | _, _, _ => none

theorem unpairs_odd : ∀ (r : List Int), r.length % 2 = 1 → unpairs r = none
  | [], h => by simp at h
  | [_], h => rfl
  | a :: b :: r, h => by
    unfold unpairs
    rw [unpairs_odd r (by simp only [List.length_cons] at h; omega)]
    split
    · rename_i h3; cases h3
    · rfl

theorem unpair_l0 {s : ByteArray} (hs : s.size < 100000) : ∀ (r : List Int) (k i : Nat) (acc : List Int), (sbl s).drop i = r → r.length % 2 = 0 → r.length < k → acc.length ≤ i →
    digit_Unpair_l0 s k acc (i : Int) = some (match unpairs r with | some l => .go (acc ++ l) | none => .ret ([], 21))
  | _, 0, i, acc, _, _, hk, _ => by omega
  | [], k + 1, i, acc, h, _, _, _ => by
    rw [digit_Unpair_l0, if_neg (by simpa using btNil h)]
    simp [unpairs]
  | [a], k + 1, i, acc, h, he, _, _ => by simp at he
  | a :: b :: r, k + 1, i, acc, h, he, hk, ha => by
    obtain ⟨e1, g1, r1, h1⟩ := btCons h
    obtain ⟨e2, g2, r2, h2⟩ := btCons h1
    have hi : i < 100000 := by have := g1.2; unfold sln at this; omega
    have ih := fun acc' hl => unpair_l0 hs r k (i + 2) acc' h2 (by simp only [List.length_cons] at he; omega) (by simp only [List.length_cons] at hk; omega) hl
    rw [digit_Unpair_l0, if_pos (decide_eq_true g1.2), if_pos g1, e1, value_is r1.1 r1.2]
    simp only [Option.bind_some]
    rw [wrapS (by omega), if_pos g2, e2, value_is r2.1 r2.2]
    simp only [Option.bind_some, unpairs]
    cases hx : dig a with
    | none => simp
    | some x =>
      cases hy : dig b with
      | none => simp
      | some y =>
        have rx := dig_range hx
        have ry := dig_range hy
        have w1 : IntKind.wrap .u8 (x * 2 ^ 4) = x * 2 ^ 4 := wrap_u8 (by omega) (by omega)
        have w2 : bits .or .u8 (x * 2 ^ 4) y = x * 16 + y := or_u8 4 rx.1 ry.1 (by omega) (by omega)
        have w3 : IntKind.wrap .i64 ((i : Int) + 2) = ((i + 2 : Nat) : Int) := wrap_i64 (by omega) (by omega)
        simp only [Bool.not_true, Bool.or_self, Bool.false_eq_true, if_false]
        rw [w1, w2, w3, if_pos (by simp only [List.length_cons, List.length_nil]; omega), ih _ (by simp; omega)]
        cases unpairs r with
        | none => rfl
        | some l => simp

theorem tmod2 {s : ByteArray} : Int.tmod (sln s) 2 = ((s.size % 2 : Nat) : Int) := by
  unfold sln; rw [Int.tmod_eq_emod_of_nonneg (by omega)]; omega

theorem unpair_is {s : ByteArray} (hs : s.size < 100000) : digit_Unpair s = some (match unpairs (sbl s) with | some l => (l, 0) | none => ([], 21)) := by
  unfold digit_Unpair
  rw [tmod2]
  by_cases h : s.size % 2 = 1
  · rw [if_pos (by simp; omega), unpairs_odd _ (by rw [sbl_len]; exact h)]
  · rw [if_neg (by simp; omega)]
    have := unpair_l0 hs (sbl s) BIG 0 [] rfl (by rw [sbl_len]; omega) (by rw [sbl_len]; unfold BIG; omega) (by simp)
    rw [show (((0 : Nat) : Int)) = 0 from rfl] at this
    rw [this]
    cases unpairs (sbl s) <;> simp

theorem unpairs_bytes : ∀ (r q : List Int), unpairs r = some q → ∀ x ∈ q, 0 ≤ x ∧ x < 256
  | [], q, h => by simp [unpairs] at h; subst h; simp
  | [_], q, h => by simp [unpairs] at h
  | a :: b :: r, q, h => by
    unfold unpairs at h
    split at h
    · rename_i x y l h1 h2 h3
      injection h with h; subst h
      have r1 := dig_range h1
      have r2 := dig_range h2
      intro z hz
      rcases List.mem_cons.1 hz with rfl | hz
      · omega
      · exact unpairs_bytes r l h3 z hz
    · cases h
theorem unpairs_len : ∀ (r q : List Int), unpairs r = some q → q.length ≤ r.length
  | [], q, h => by simp [unpairs] at h; subst h; simp
  | [_], q, h => by simp [unpairs] at h
  | a :: b :: r, q, h => by
    unfold unpairs at h
    split at h
    · rename_i x y l h1 h2 h3
      injection h with h; subst h
      have := unpairs_len r l h3
      simp only [List.length_cons]; omega
    · cases h

theorem sum_range : ∀ (r : List Int), (∀ x ∈ r, 0 ≤ x ∧ x < 256) → 0 ≤ r.sum ∧ r.sum ≤ 255 * (r.length : Int)
  | [], _ => by simp
  | x :: r, h => by
    have h1 := h x (by simp)
    have h2 := sum_range r fun y hy => h y (by simp [hy])
    simp only [List.sum_cons, List.length_cons]
    omega

theorem sum_l0 {b : List Int} (hb : b.length < 1000000) : ∀ (r : List Int) (k i : Nat) (acc : Int), b.drop i = r → r.length < k → octet_Sum_l0 b k (acc % 256) (i : Int) = some ((acc + r.sum) % 256)
  | _, 0, i, acc, _, hk => by omega
  | [], k + 1, i, acc, h, _ => by
    rw [octet_Sum_l0, if_neg (by simpa using gtNil h)]
    simp
  | x :: r, k + 1, i, acc, h, hk => by
    obtain ⟨e1, g1, h1⟩ := gtCons h
    have hi : i < b.length := (dropAt h).2.2
    have ih := sum_l0 hb r k (i + 1) (acc + x) h1 (by simp only [List.length_cons] at hk; omega)
    rw [octet_Sum_l0, if_pos (decide_eq_true g1.2), if_pos g1, e1, wu8, wrapS (by omega), show (acc % 256 + x) % 256 = (acc + x) % 256 by omega, ih, List.sum_cons, Int.add_assoc]
theorem sum_is {b : List Int} (hb : b.length < 1000000) : octet_Sum b = some (b.sum % 256) := by
  unfold octet_Sum
  have := sum_l0 hb b BIG 0 0 rfl (by unfold BIG; omega)
  rw [show (((0 : Nat) : Int)) = 0 from rfl, show (0 : Int) % 256 = 0 by decide, Int.zero_add] at this
  rw [this]; rfl

theorem word_is {h l : Int} (h0 : 0 ≤ h) (h1 : h < 256) (l0 : 0 ≤ l) (l1 : l < 256) : octet_Word h l = some (h * 256 + l) := by
  unfold octet_Word
  rw [wrap_u16 (n := h) (by omega) (by omega), wrap_u16 (n := h * 2 ^ 8) (by omega) (by omega), wrap_u16 (n := l) (by omega) (by omega), or_u16 8 h0 l0 (by omega) (by omega)]
  rfl

def zeroL : srec_Line := ⟨0, 0, []⟩
/-- A line's bytes. -/
def tailM (b : Int) (q : List Int) : srec_Line × Int :=
  if ln q < 4 then (zeroL, 21) else if gt q 0 ≠ ln q - 1 then (zeroL, 12) else if q.sum % 256 ≠ 255 then (zeroL, 22) else if b = 57 ∧ 4 < ln q then (zeroL, 21) else (⟨b - 48, gt q 1 * 256 + gt q 2, (q.drop 3).take (q.length - 4)⟩, 0)
/-- A line that is read. -/
def readM : List Int → srec_Line × Int
  | a :: b :: r => if a = 83 ∧ (b = 48 ∨ b = 49 ∨ b = 57) then (match unpairs r with | some q => tailM b q | none => (zeroL, 21)) else (zeroL, 21)
  | _ => (zeroL, 21)

theorem tailM_short {b : Int} {q : List Int} (h : ln q < 4) : tailM b q = (zeroL, 21) := if_pos h
theorem tailM_size {b : Int} {q : List Int} (h : ¬ ln q < 4) (h1 : gt q 0 ≠ ln q - 1) : tailM b q = (zeroL, 12) := by unfold tailM; rw [if_neg h, if_pos h1]
theorem tailM_sum {b : Int} {q : List Int} (h : ¬ ln q < 4) (h1 : gt q 0 = ln q - 1) (h2 : q.sum % 256 ≠ 255) : tailM b q = (zeroL, 22) := by unfold tailM; rw [if_neg h, if_neg (by simpa using h1), if_pos h2]
theorem tailM_9 {b : Int} {q : List Int} (h : ¬ ln q < 4) (h1 : gt q 0 = ln q - 1) (h2 : q.sum % 256 = 255) (h9 : b = 57 ∧ 4 < ln q) : tailM b q = (zeroL, 21) := by unfold tailM; rw [if_neg h, if_neg (by simpa using h1), if_neg (by simpa using h2), if_pos h9]
theorem tailM_ok {b : Int} {q : List Int} (h : ¬ ln q < 4) (h1 : gt q 0 = ln q - 1) (h2 : q.sum % 256 = 255) (h9 : ¬ (b = 57 ∧ 4 < ln q)) : tailM b q = (⟨b - 48, gt q 1 * 256 + gt q 2, (q.drop 3).take (q.length - 4)⟩, 0) := by unfold tailM; rw [if_neg h, if_neg (by simpa using h1), if_neg (by simpa using h2), if_neg h9]

theorem get3 {q : List Int} (h : ¬ ln q < 4) : ∃ a b c d r, q = a :: b :: c :: d :: r := by
  match q, h with
  | a :: b :: c :: d :: r, _ => exact ⟨a, b, c, d, r, rfl⟩
  | [], h => simp [ln] at h
  | [_], h => simp [ln] at h
  | [_, _], h => simp [ln] at h
  | [_, _, _], h => simp [ln] at h

theorem sread_is {s : ByteArray} (hs : s.size < 100000) : srec_Read s = some (readM (sbl s)) := by
  unfold srec_Read
  match hc : sbl s with
  | [] =>
    have h2 : decide (sln s < 2) = true := by rw [← sblLen, hc]; rfl
    simp only [h2, Bool.true_or, Bool.not_true, Bool.and_false, Bool.false_eq_true, false_implies, if_true]
    rfl
  | [_] =>
    have h2 : decide (sln s < 2) = true := by rw [← sblLen, hc]; rfl
    simp only [h2, Bool.true_or, Bool.not_true, Bool.and_false, Bool.false_eq_true, false_implies, if_true]
    rfl
  | a :: b :: r =>
    have h0 : (sbl s).drop 0 = a :: b :: r := hc
    obtain ⟨e1, g1, r1, h1⟩ := btCons h0
    obtain ⟨e2, g2, r2, h2⟩ := btCons h1
    rw [show (((0 : Nat) : Int)) = 0 from rfl] at e1 g1
    rw [show (((0 + 1 : Nat) : Int)) = 1 from rfl] at e2 g2
    have hlen : sln s = ((r.length + 2 : Nat) : Int) := by rw [← sblLen, hc]; rfl
    have hd : decide (sln s < 2) = false := by simp; omega
    rw [if_pos (fun _ => g1), if_pos (fun _ => g2), if_pos (fun _ => g2), if_pos (fun _ => g2), e1, e2, hd]
    by_cases hk : a = 83 ∧ (b = 48 ∨ b = 49 ∨ b = 57)
    · have hx : sbl (s.extract (2 : Int).toNat s.size) = r := by
        rw [sbl_extract, hc, ← sbl_len, hc]; simp
      have hr : r.length < 100000 := by have := sbl_len s; rw [hc] at this; simp only [List.length_cons] at this; omega
      rw [if_neg (by simp; omega), if_pos (by omega), unpair_is (by have := sbl_len (s.extract (2 : Int).toNat s.size); rw [hx] at this; omega), hx]
      simp only [readM, if_pos hk]
      cases hq : unpairs r with
      | none => simp [zeroL]
      | some q =>
        have hB := unpairs_bytes r q hq
        have hL := unpairs_len r q hq
        have hS := sum_range q hB
        simp only [Option.bind_some, bne_self_eq_false, Bool.false_or]
        by_cases h4 : ln q < 4
        · rw [if_pos (decide_eq_true h4), tailM_short h4]; rfl
        · rw [if_neg (fun h => h4 (of_decide_eq_true h))]
          obtain ⟨x0, x1, x2, x3, q', rfl⟩ := get3 h4
          have t0 : gt (x0 :: x1 :: x2 :: x3 :: q') 0 = x0 := gtAt (i := 0) rfl
          have t1 : gt (x0 :: x1 :: x2 :: x3 :: q') 1 = x1 := gtAt (i := 1) rfl
          have t2 : gt (x0 :: x1 :: x2 :: x3 :: q') 2 = x2 := gtAt (i := 2) rfl
          have b0 := hB x0 (by simp)
          have b1 := hB x1 (by simp)
          have b2 := hB x2 (by simp)
          have hlq : ln (x0 :: x1 :: x2 :: x3 :: q') = ((q'.length + 4 : Nat) : Int) := rfl
          simp only [List.length_cons] at hL
          simp only [t0, t1, t2, hlq]
          have w1 : IntKind.wrap .i64 (((q'.length + 4 : Nat) : Int) - 1) = ((q'.length + 3 : Nat) : Int) := by rw [wrap_i64 (by omega) (by omega)]; omega
          rw [if_pos ⟨by omega, by omega⟩, wrap_i64 (n := x0) (by omega) (by omega), w1]
          by_cases hn : x0 = ((q'.length + 4 : Nat) : Int) - 1
          · rw [if_neg (by simp; omega), sum_is (by simp only [List.length_cons]; omega)]
            simp only [Option.bind_some]
            by_cases h255 : (x0 :: x1 :: x2 :: x3 :: q').sum % 256 = 255
            · rw [if_neg (by simpa using h255), if_pos g2, if_pos ⟨by omega, by omega⟩, if_pos ⟨by omega, by omega⟩, word_is b1.1 b1.2 b2.1 b2.2]
              simp only [Option.bind_some]
              rw [if_pos ⟨⟨by omega, by omega⟩, by omega, by omega, by omega⟩]
              have wk : IntKind.wrap .i64 (IntKind.wrap .u8 (b - 48)) = b - 48 := by rw [wrap_u8 (by omega) (by omega), wrap_i64 (by omega) (by omega)]
              have e3 : (((q'.length + 3 : Nat) : Int)).toNat - (3 : Int).toNat = q'.length := by omega
              rw [wk, e3]
              have e4 : List.take q'.length (List.drop (3 : Int).toNat (x0 :: x1 :: x2 :: x3 :: q')) = (x3 :: q').take q'.length := rfl
              rw [e4]
              unfold srec_Line_right
              simp only [Option.bind_some]
              have e6 : ln ((x3 :: q').take q'.length) = (q'.length : Int) := by unfold ln; rw [List.length_take]; simp only [List.length_cons]; omega
              rw [e6]
              by_cases h9 : b = 57 ∧ 4 < ((q'.length + 4 : Nat) : Int)
              · rw [if_pos, tailM_9 h4 (by rw [t0, hlq]; exact hn) h255 (by rw [hlq]; exact h9)]
                · rfl
                · obtain ⟨rfl, h9⟩ := h9
                  generalize q'.length = m at h9 ⊢
                  simp; omega
              · rw [if_neg, tailM_ok h4 (by rw [t0, hlq]; exact hn) h255 (by rw [hlq]; exact h9), t1, t2]
                · rfl
                have : ((((b - 48 == 0) || (b - 48 == 1)) || ((b - 48 == 9) && ((q'.length : Int) == 0))) && (decide ((q'.length : Int) ≤ 252))) = true := by
                  generalize q'.length = m at h9 hn ⊢
                  simp; omega
                rw [this]; simp
            · rw [if_pos (by simpa using h255), tailM_sum h4 (by rw [t0, hlq]; exact hn) h255]; rfl
          · rw [if_pos (by simp; omega), tailM_size h4 (by rw [t0, hlq]; exact hn)]; rfl
    · rw [if_pos (by simp; omega)]
      simp only [readM, if_neg hk, zeroL]


/-- A digit's sign. -/
def dsg (n : Int) : Int := if n < 10 then 48 + n else 55 + n
def prs (l : List Int) : List Int := l.flatMap fun c => [dsg (c / 16), dsg (c % 16)]
theorem prs_cons (c : Int) (r : List Int) : prs (c :: r) = dsg (c / 16) :: dsg (c % 16) :: prs r := by simp [prs]
theorem prs_len : ∀ (l : List Int), (prs l).length = 2 * l.length
  | [] => rfl
  | c :: r => by rw [prs_cons]; simp only [List.length_cons, prs_len r]; omega
theorem dsg_range {n : Int} (h0 : 0 ≤ n) (h1 : n < 16) : 0 ≤ dsg n ∧ dsg n < 256 := by unfold dsg; split <;> omega
theorem prs_bytes : ∀ {l : List Int}, (∀ x ∈ l, 0 ≤ x ∧ x < 256) → ∀ x ∈ prs l, 0 ≤ x ∧ x < 256
  | [], _ => by simp [prs]
  | c :: r, h => by
    have hc := h c (by simp)
    intro x hx
    rw [prs_cons] at hx
    rcases List.mem_cons.1 hx with rfl | hx
    · exact dsg_range (by omega) (by omega)
    · rcases List.mem_cons.1 hx with rfl | hx
      · exact dsg_range (by omega) (by omega)
      · exact prs_bytes (fun y hy => h y (by simp [hy])) x hx
theorem dig_dsg {n : Int} (h0 : 0 ≤ n) (h1 : n < 16) : dig (dsg n) = some n := by
  unfold dsg dig
  by_cases h : n < 10
  · rw [if_pos h, if_pos (by omega)]; congr 1; omega
  · rw [if_neg h, if_neg (by omega), if_pos (by omega)]; congr 1; omega
theorem unpairs_prs : ∀ {l : List Int}, (∀ x ∈ l, 0 ≤ x ∧ x < 256) → unpairs (prs l) = some l
  | [], _ => rfl
  | c :: r, h => by
    have hc := h c (by simp)
    rw [prs_cons, unpairs, dig_dsg (by omega) (by omega), dig_dsg (by omega) (by omega), unpairs_prs fun y hy => h y (by simp [hy])]
    show some ((c / 16 * 16 + c % 16) :: r) = some (c :: r)
    rw [show c / 16 * 16 + c % 16 = c by omega]

theorem sign_is {n : Int} (h0 : 0 ≤ n) (h1 : n < 16) : digit_sign n = some (dsg n) := by
  unfold digit_sign dsg
  by_cases h : n < 10
  · rw [if_pos (decide_eq_true h), if_pos h, wrap_u8 (by omega) (by omega)]
  · rw [if_neg (fun e => h (of_decide_eq_true e)), if_neg h, wrap_u8 (n := 65 + n) (by omega) (by omega), wrap_u8 (by omega) (by omega)]; congr 1; omega

theorem pairs_l0 {b : List Int} (hb : b.length < 1000000) (hB : ∀ x ∈ b, 0 ≤ x ∧ x < 256) : ∀ (r : List Int) (k i : Nat) (acc : List Int), b.drop i = r → r.length < k → acc.length ≤ 2 * i → digit_Pairs_l0 b k acc (i : Int) = some (acc ++ prs r)
  | _, 0, i, acc, _, hk, _ => by omega
  | [], k + 1, i, acc, h, _, _ => by
    rw [digit_Pairs_l0, if_neg (by simpa using gtNil h)]
    simp [prs]
  | x :: r, k + 1, i, acc, h, hk, ha => by
    obtain ⟨e1, g1, h1⟩ := gtCons h
    have hi : i < b.length := (dropAt h).2.2
    have hx := hB x (List.mem_of_getElem? (dropAt h).1)
    have ih := pairs_l0 hb hB r k (i + 1) (acc ++ [dsg (x / 16), dsg (x % 16)]) h1 (by simp only [List.length_cons] at hk; omega) (by simp; omega)
    have f1 : Int.fdiv x (2 ^ 4) = x / 16 := by rw [show (2 : Int) ^ 4 = 16 by decide, Int.fdiv_eq_ediv_of_nonneg x (by decide)]
    have f2 : bits .and .u8 x 15 = x % 16 := and_u8 4 (by decide) hx.1 hx.2
    rw [digit_Pairs_l0, if_pos (decide_eq_true g1.2), if_pos g1, e1, f1, f2, sign_is (by omega) (by omega)]
    simp only [Option.bind_some]
    rw [sign_is (by omega) (by omega)]
    simp only [Option.bind_some]
    rw [if_pos (by simp only [List.length_cons, List.length_nil]; omega), wrapS (by omega), ih, prs_cons]
    simp
theorem pairs_is {b : List Int} (hb : b.length < 1000000) (hB : ∀ x ∈ b, 0 ≤ x ∧ x < 256) : digit_Pairs b = some (bs (prs b)) := by
  unfold digit_Pairs
  have w : IntKind.wrap .i64 (2 * ln b) = 2 * ln b := by unfold ln; exact wrap_i64 (by omega) (by omega)
  rw [w, if_pos (by unfold ln; omega)]
  have := pairs_l0 hb hB b BIG 0 [] rfl (by unfold BIG; omega) (by simp)
  rw [show (((0 : Nat) : Int)) = 0 from rfl, List.nil_append] at this
  rw [show rp (0 : Int) (0 : Int) = [] from rfl, this]
  rfl

theorem digits_all : ((List.range 256).all fun c => match spinetref02_Digits (c : Int) 16 2 with | some s => sbl s == [dsg ((c : Int) / 16), dsg ((c : Int) % 16)] | none => false) = true := by decide +kernel
theorem digits2 {x : Int} (h0 : 0 ≤ x) (h1 : x < 256) : spinetref02_Digits x 16 2 = some (bs [dsg (x / 16), dsg (x % 16)]) := by
  obtain ⟨c, rfl⟩ := Int.eq_ofNat_of_zero_le h0
  have := List.all_eq_true.1 digits_all c (by simp; omega)
  split at this
  · rename_i s hs
    rw [hs, ← eq_of_beq this, bs_sbl]
  · cases this

theorem rpairs_l0 {b : List Int} (hb : b.length < 1000000) (hB : ∀ x ∈ b, 0 ≤ x ∧ x < 256) : ∀ (r : List Int) (k i : Nat) (acc : ByteArray), b.drop i = r → r.length < k → acc.size ≤ 2 * i → spinetref02_Pairs_l0 b k acc (i : Int) = some (acc ++ bs (prs r))
  | _, 0, i, acc, _, hk, _ => by omega
  | [], k + 1, i, acc, h, _, _ => by
    rw [spinetref02_Pairs_l0, if_neg (by simpa using gtNil h)]
    congr 1
    apply sbl_inj
    rw [sbl_app]; simp [prs, bs, sbl]
  | x :: r, k + 1, i, acc, h, hk, ha => by
    obtain ⟨e1, g1, h1⟩ := gtCons h
    have hi : i < b.length := (dropAt h).2.2
    have hx := hB x (List.mem_of_getElem? (dropAt h).1)
    have hz : (bs [dsg (x / 16), dsg (x % 16)]).size = 2 := bs_size _
    have ih := rpairs_l0 hb hB r k (i + 1) (acc ++ bs [dsg (x / 16), dsg (x % 16)]) h1 (by simp only [List.length_cons] at hk; omega) (by rw [ByteArray.size_append, hz]; omega)
    rw [spinetref02_Pairs_l0, if_pos (decide_eq_true g1.2), if_pos g1, e1, wrap_u64 (by omega) (by omega), digits2 hx.1 hx.2]
    rw [Option.bind_some]
    have hc : ((acc.size + (bs [dsg (x / 16), dsg (x % 16)]).size : Nat) : Int) ≤ 9223372036854775807 := by rw [hz]; omega
    rw [if_pos hc, wrapS (by omega), ih, prs_cons]
    congr 1
    rw [show dsg (x / 16) :: dsg (x % 16) :: prs r = [dsg (x / 16), dsg (x % 16)] ++ prs r from rfl, bs_app, ByteArray.append_assoc]
theorem rpairs_is {b : List Int} (hb : b.length < 1000000) (hB : ∀ x ∈ b, 0 ≤ x ∧ x < 256) : spinetref02_Pairs b = some (bs (prs b)) := by
  unfold spinetref02_Pairs
  have := rpairs_l0 hb hB b BIG 0 ⟨#[]⟩ rfl (by unfold BIG; omega) (by decide)
  rw [show (((0 : Nat) : Int)) = 0 from rfl] at this
  rw [this]
  rw [Option.bind_some]
  congr 1

theorem dec_k : digit_Dec 0 = some ⟨#[48]⟩ ∧ digit_Dec 1 = some ⟨#[49]⟩ ∧ digit_Dec 9 = some ⟨#[57]⟩ := by decide +kernel
theorem rdec_k : spinetref02_Digits 0 10 1 = some ⟨#[48]⟩ ∧ spinetref02_Digits 1 10 1 = some ⟨#[49]⟩ ∧ spinetref02_Digits 9 10 1 = some ⟨#[57]⟩ := by decide +kernel
theorem alive40 : spinetlaw40_alive = some true := by decide +kernel

def T3 (l : srec_Line) : List Int := [ln l.B + 3, l.At / 256, l.At % 256] ++ l.B
def T4 (l : srec_Line) : List Int := T3 l ++ [255 - (T3 l).sum % 256]
/-- A line's text. -/
def textL (l : srec_Line) : List Int := 83 :: (48 + l.Kind) :: prs (T4 l)

theorem tsum_l0 {l : spinetref40_Line} {T : List Int} (hT : T = [(IntKind.wrap .u8 (IntKind.wrap .i64 ((ln l.B) + 3))), (IntKind.wrap .u8 (IntKind.wrap .u16 (Int.tdiv l.At 256))), (IntKind.wrap .u8 (Int.tmod l.At 256))] ++ l.B) (hb : T.length < 1000000) (hB : ∀ x ∈ T, 0 ≤ x ∧ x < 256) : ∀ (r : List Int) (k i : Nat) (acc : Int), T.drop i = r → r.length < k → 0 ≤ acc → acc ≤ 256 * (i : Int) → spinetref40_Text_l0 l k acc (i : Int) = some (acc + r.sum)
  | _, 0, i, acc, _, hk, _, _ => by omega
  | [], k + 1, i, acc, h, _, _, _ => by
    rw [spinetref40_Text_l0, ← hT, if_neg (by simpa using gtNil h)]
    simp
  | x :: r, k + 1, i, acc, h, hk, a0, a1 => by
    obtain ⟨e1, g1, h1⟩ := gtCons h
    have hi : i < T.length := (dropAt h).2.2
    have hx := hB x (List.mem_of_getElem? (dropAt h).1)
    have ih := tsum_l0 hT hb hB r k (i + 1) (acc + x) h1 (by simp only [List.length_cons] at hk; omega) (by omega) (by omega)
    rw [spinetref40_Text_l0, ← hT, if_pos (decide_eq_true g1.2), if_pos g1, e1, wrap_i64 (n := x) (by omega) (by omega), wrap_i64 (n := acc + x) (by omega) (by omega), wrapS (by omega), ih, List.sum_cons, Int.add_assoc]

structure okL (l : srec_Line) : Prop where
  kind : l.Kind = 0 ∨ l.Kind = 1 ∨ l.Kind = 9
  at0 : 0 ≤ l.At
  at1 : l.At < 65536
  len : l.B.length ≤ 252
  nine : l.Kind = 9 → l.B = []
  bytes : ∀ x ∈ l.B, 0 ≤ x ∧ x < 256

theorem T3_bytes {l : srec_Line} (h : okL l) : ∀ x ∈ T3 l, 0 ≤ x ∧ x < 256 := by
  intro x hx
  have h0 := h.at0
  have h1 := h.at1
  have h2 := h.len
  unfold T3 at hx
  simp only [List.cons_append, List.nil_append, List.mem_cons] at hx
  unfold ln at hx
  rcases hx with rfl | rfl | rfl | hx
  · omega
  · omega
  · omega
  · exact h.bytes x hx
theorem T3_len (l : srec_Line) : (T3 l).length = l.B.length + 3 := by unfold T3; simp
theorem T4_bytes {l : srec_Line} (h : okL l) : ∀ x ∈ T4 l, 0 ≤ x ∧ x < 256 := by
  intro x hx
  unfold T4 at hx
  rcases List.mem_append.1 hx with hx | hx
  · exact T3_bytes h x hx
  · simp at hx; omega

theorem T3_is {l : srec_Line} (h : okL l) : [(IntKind.wrap .u8 (IntKind.wrap .i64 ((ln l.B) + 3))), l.At / 256, l.At % 256] ++ l.B = T3 l := by
  have h2 := h.len
  unfold T3
  rw [wrap_i64 (n := ln l.B + 3) (by unfold ln; omega) (by unfold ln; omega), wrap_u8 (by unfold ln; omega) (by unfold ln; omega)]

theorem xor255_all : ((List.range 256).all fun c => bits .xor .u8 (IntKind.max .u8) (c : Int) == 255 - (c : Int)) = true := by decide +kernel
theorem xor255 {x : Int} (h0 : 0 ≤ x) (h1 : x < 256) : bits .xor .u8 (IntKind.max .u8) x = 255 - x := by
  obtain ⟨c, rfl⟩ := Int.eq_ofNat_of_zero_le h0
  exact eq_of_beq (List.all_eq_true.1 xor255_all c (by simp; omega))

theorem text_end {l : srec_Line} (h : okL l) {d : ByteArray} (hd : d = bs [48 + l.Kind]) : ((⟨#[83]⟩ : ByteArray) ++ d) ++ bs (prs (T4 l)) = bs (textL l) := by
  subst hd
  unfold textL
  rw [show (83 :: (48 + l.Kind) :: prs (T4 l)) = [83] ++ ([48 + l.Kind] ++ prs (T4 l)) from rfl, bs_app, bs_app, ByteArray.append_assoc]
  rfl

theorem stext_is {l : srec_Line} (h : okL l) : srec_Line_Text l = some (bs (textL l)) := by
  have h0 := h.at0
  have h1 := h.at1
  have h2 := h.len
  have hl3 := T3_len l
  have hs := sum_range _ (T3_bytes h)
  have hd : ∃ d, digit_Dec (IntKind.wrap .u64 l.Kind) = some d ∧ d = bs [48 + l.Kind] := by
    rcases h.kind with e | e | e <;> rw [e]
    · exact ⟨_, dec_k.1, rfl⟩
    · exact ⟨_, dec_k.2.1, rfl⟩
    · exact ⟨_, dec_k.2.2, rfl⟩
  obtain ⟨d, hd1, hd2⟩ := hd
  have hz : d.size = 1 := by rw [hd2, bs_size]; rfl
  unfold srec_Line_Text octet_High octet_Low
  rw [Option.bind_some, Option.bind_some]
  rw [show (2 : Int) ^ 8 = 256 by decide, Int.fdiv_eq_ediv_of_nonneg l.At (by decide), wrap_u8 (n := l.At / 256) (by omega) (by omega), wu8 l.At, T3_is h]
  rw [if_pos (by simp only [List.length_cons, List.length_nil]; omega), hd1]
  rw [Option.bind_some]
  rw [if_pos (by rw [hz]; decide), sum_is (by omega)]
  rw [Option.bind_some]
  rw [xor255 (by omega) (by omega), if_pos (by simp only [List.length_cons, List.length_nil]; omega)]
  rw [show T3 l ++ [255 - (T3 l).sum % 256] = T4 l from rfl]
  have hl4 : (T4 l).length = l.B.length + 4 := by unfold T4; rw [List.length_append, hl3]; rfl
  rw [pairs_is (by omega) (T4_bytes h)]
  rw [Option.bind_some]
  rw [if_pos, text_end h hd2]
  rw [ByteArray.size_append, hz, bs_size, prs_len, hl4, show (⟨#[83]⟩ : ByteArray).size = 1 from rfl]
  omega

theorem rtext_is {l : srec_Line} (h : okL l) : spinetref40_Text ⟨l.Kind, l.At, l.B⟩ = some (bs (textL l)) := by
  have h0 := h.at0
  have h1 := h.at1
  have h2 := h.len
  have hl3 := T3_len l
  have hs := sum_range _ (T3_bytes h)
  have hd : ∃ d, spinetref02_Digits (IntKind.wrap .u64 l.Kind) 10 1 = some d ∧ d = bs [48 + l.Kind] := by
    rcases h.kind with e | e | e <;> rw [e]
    · exact ⟨_, rdec_k.1, rfl⟩
    · exact ⟨_, rdec_k.2.1, rfl⟩
    · exact ⟨_, rdec_k.2.2, rfl⟩
  obtain ⟨d, hd1, hd2⟩ := hd
  have hz : d.size = 1 := by rw [hd2, bs_size]; rfl
  have eT : T3 l = [(IntKind.wrap .u8 (IntKind.wrap .i64 ((ln l.B) + 3))), (IntKind.wrap .u8 (IntKind.wrap .u16 (Int.tdiv l.At 256))), (IntKind.wrap .u8 (Int.tmod l.At 256))] ++ l.B := by
    rw [Int.tdiv_eq_ediv_of_nonneg h0, Int.tmod_eq_emod_of_nonneg h0, wrap_u16 (n := l.At / 256) (by omega) (by omega), wrap_u8 (n := l.At / 256) (by omega) (by omega), wrap_u8 (n := l.At % 256) (by omega) (by omega)]
    exact (T3_is h).symm
  have es := tsum_l0 (l := ⟨l.Kind, l.At, l.B⟩) eT (by omega) (T3_bytes h) (T3 l) BIG 0 0 rfl (by unfold BIG; omega) (by omega) (by omega)
  rw [show (((0 : Nat) : Int)) = 0 from rfl, Int.zero_add] at es
  unfold spinetref40_Text
  simp only
  rw [← eT, es, if_pos (by simp only [List.length_cons, List.length_nil]; omega)]
  rw [Option.bind_some]
  rw [hd1]
  rw [Option.bind_some]
  rw [if_pos (by rw [hz]; decide), Int.tmod_eq_emod_of_nonneg hs.1, wrap_i64 (n := 255 - (T3 l).sum % 256) (by omega) (by omega), wrap_u8 (n := 255 - (T3 l).sum % 256) (by omega) (by omega)]
  rw [if_pos (by simp only [List.length_cons, List.length_nil]; omega)]
  rw [show T3 l ++ [255 - (T3 l).sum % 256] = T4 l from rfl]
  have hl4 : (T4 l).length = l.B.length + 4 := by unfold T4; rw [List.length_append, hl3]; rfl
  rw [rpairs_is (by omega) (T4_bytes h)]
  rw [Option.bind_some]
  rw [if_pos, text_end h hd2]
  rw [ByteArray.size_append, hz, bs_size, prs_len, hl4, show (⟨#[83]⟩ : ByteArray).size = 1 from rfl]
  omega

theorem textL_bytes {l : srec_Line} (h : okL l) : ∀ x ∈ textL l, 0 ≤ x ∧ x < 256 := by
  intro x hx
  unfold textL at hx
  rcases List.mem_cons.1 hx with rfl | hx
  · omega
  · rcases List.mem_cons.1 hx with rfl | hx
    · rcases h.kind with e | e | e <;> omega
    · exact prs_bytes (T4_bytes h) x hx

theorem sum_app (a b : List Int) : (a ++ b).sum = a.sum + b.sum := List.sum_append

theorem read_text {l : srec_Line} (h : okL l) : readM (textL l) = (l, 0) := by
  have h0 := h.at0
  have h1 := h.at1
  have h2 := h.len
  have hl3 := T3_len l
  have hl4 : (T4 l).length = l.B.length + 4 := by unfold T4; rw [List.length_append, hl3]; rfl
  have hk := h.kind
  unfold textL
  have e0 : readM (83 :: (48 + l.Kind) :: prs (T4 l)) = if (83 : Int) = 83 ∧ (48 + l.Kind = 48 ∨ 48 + l.Kind = 49 ∨ 48 + l.Kind = 57) then (match unpairs (prs (T4 l)) with | some q => tailM (48 + l.Kind) q | none => (zeroL, 21)) else (zeroL, 21) := rfl
  rw [e0, if_pos ⟨rfl, by omega⟩, unpairs_prs (T4_bytes h)]
  simp only
  have e : T4 l = (ln l.B + 3) :: (l.At / 256) :: (l.At % 256) :: (l.B ++ [255 - (T3 l).sum % 256]) := by unfold T4 T3; simp
  have t0 : gt (T4 l) 0 = ln l.B + 3 := by rw [e]; exact gtAt (i := 0) rfl
  have t1 : gt (T4 l) 1 = l.At / 256 := by rw [e]; exact gtAt (i := 1) rfl
  have t2 : gt (T4 l) 2 = l.At % 256 := by rw [e]; exact gtAt (i := 2) rfl
  have hln : ln (T4 l) = (l.B.length : Int) + 4 := by unfold ln; rw [hl4]; omega
  have hsum : (T4 l).sum % 256 = 255 := by unfold T4; rw [sum_app]; simp only [List.sum_cons, List.sum_nil]; omega
  rw [tailM_ok (by rw [hln]; omega) (by rw [t0, hln]; unfold ln; omega) hsum (by
    rintro ⟨hb, hc⟩
    have := h.nine (by omega)
    rw [hln, this] at hc
    simp at hc)]
  rw [t1, t2, hl4, e]
  have e4 : List.take (l.B.length + 4 - 4) (List.drop 3 ((ln l.B + 3) :: (l.At / 256) :: (l.At % 256) :: (l.B ++ [255 - (T3 l).sum % 256]))) = l.B := by
    show List.take l.B.length (l.B ++ [255 - (T3 l).sum % 256]) = l.B
    rw [List.take_append_of_le_length (Nat.le_refl _), List.take_length]
  rw [e4, show 48 + l.Kind - 48 = l.Kind by omega, show l.At / 256 * 256 + l.At % 256 = l.At by omega]

end Go.Proofs.YtphfmfbebcconaaDoorK
