/- The parts of lines: the loops of the lexer and of its reference. -/
import Derived.Test.YthooddibdmigmaaDoorUSpl
namespace Go.Proofs.YthooddibdmigmaaDoorK
set_option linter.unusedVariables false
set_option linter.unusedSimpArgs false
set_option maxHeartbeats 4000000
open Go.RowKit
attribute [local irreducible] dwv mops lops lqops lwops kont iter run runK rk okK ex E1 vals val chain chB sel resF

def blB (c : Int) : Bool := (c == 32) || (c == 9)
def nbB (c : Int) : Bool := !blB c
def capI (x : Int) : Int := if 97 ≤ x ∧ x ≤ 122 then x - 32 else x

theorem take_tw {p : Int → Bool} : ∀ (l : List Int), l.take (l.takeWhile p).length = l.takeWhile p
  | [] => rfl
  | x :: r => by
    cases h : p x with
    | true => simp [List.takeWhile_cons, h, take_tw r]
    | false => simp [List.takeWhile_cons, h]
theorem drop_tw {p : Int → Bool} : ∀ (l : List Int), l.drop (l.takeWhile p).length = l.dropWhile p
  | [] => rfl
  | x :: r => by
    cases h : p x with
    | true => simp [List.takeWhile_cons, List.dropWhile_cons, h, drop_tw r]
    | false => simp [List.takeWhile_cons, List.dropWhile_cons, h]
theorem tw_all {p : Int → Bool} : ∀ {l : List Int}, l.all p = true → l.takeWhile p = l
  | [], _ => rfl
  | x :: r, h => by
    simp only [List.all_cons, Bool.and_eq_true] at h
    rw [List.takeWhile_cons, h.1, if_pos rfl, tw_all h.2]
theorem tw_len_le {p : Int → Bool} (l : List Int) : (l.takeWhile p).length ≤ l.length := by
  have := congrArg List.length (List.takeWhile_append_dropWhile (p := p) (l := l))
  rw [List.length_append] at this; omega

theorem word_l0 {s : ByteArray} (hs : s.size < 100000) : ∀ (r : List Int) (k i : Nat), (sbl s).drop i = r → r.length < k →
    lexer_word_l0 s k (i : Int) = some (if r.all nbB = true then .go () else .ret (s.extract 0 (i + (r.takeWhile nbB).length), s.extract (i + (r.takeWhile nbB).length) s.size))
  | _, 0, _, _, hk => by omega
  | [], k + 1, i, h, _ => by
    rw [lexer_word_l0, if_neg (fun e => btNil h (of_decide_eq_true e))]; rfl
  | x :: r, k + 1, i, h, hk => by
    obtain ⟨e1, g1, r1, h1⟩ := btCons h
    have hi : i < 100000 := by have := g1.2; unfold sln at this; omega
    rw [lexer_word_l0, if_pos (decide_eq_true g1.2), if_pos g1, e1]
    have eb : lexer_blank x = some (blB x) := rfl
    rw [eb]
    simp only [Option.bind_some]
    cases hb : blB x with
    | true =>
      have hn : nbB x = false := by simp [nbB, hb]
      rw [if_pos rfl, if_pos ⟨g1.1, Int.le_of_lt g1.2⟩, if_pos ⟨g1.1, Int.le_of_lt g1.2⟩]
      simp [List.takeWhile_cons, hn]
    | false =>
      have hn : nbB x = true := by simp [nbB, hb]
      rw [if_neg (by simp), wrapS (by omega), word_l0 hs r k (i + 1) h1 (by simp only [List.length_cons] at hk; omega)]
      simp only [List.all_cons, hn, Bool.true_and, List.takeWhile_cons, if_true, List.length_cons]
      rw [show i + 1 + (r.takeWhile nbB).length = i + ((r.takeWhile nbB).length + 1) by omega]
theorem word_is {s : ByteArray} (hs : s.size < 100000) : lexer_word s = some (bs ((sbl s).takeWhile nbB), bs ((sbl s).dropWhile nbB)) := by
  unfold lexer_word
  have := word_l0 hs (sbl s) BIG 0 rfl (by rw [sbl_len]; unfold BIG; omega)
  rw [show (((0 : Nat) : Int)) = 0 from rfl] at this
  rw [this]
  simp only [Option.bind_some]
  by_cases ha : (sbl s).all nbB = true
  · rw [if_pos ha]
    simp only
    have e1 : (sbl s).takeWhile nbB = sbl s := tw_all ha
    have e2 : (sbl s).dropWhile nbB = [] := by
      have := List.takeWhile_append_dropWhile (p := nbB) (l := sbl s)
      rw [e1] at this
      simpa using this
    rw [e1, e2, bs_sbl]; rfl
  · rw [if_neg ha]
    simp only [Nat.zero_add]
    congr 2
    · apply sbl_inj
      rw [sbl_extract, sbl_bs (fun x hx => sblRange (List.takeWhile_subset _ hx)), List.drop_zero, Nat.sub_zero, take_tw]
    · apply sbl_inj
      rw [sbl_extract, sbl_bs (fun x hx => sblRange (List.dropWhile_subset _ hx)), drop_tw]
      exact List.take_of_length_le (by
        have := congrArg List.length (List.takeWhile_append_dropWhile (p := nbB) (l := sbl s))
        rw [List.length_append, sbl_len] at this; omega)

theorem ext1 {t : ByteArray} {x : Int} {r : List Int} (h : sbl t = x :: r) : sbl (t.extract 1 t.size) = r := by
  have hs : t.size = r.length + 1 := by rw [← sbl_len, h]; rfl
  rw [sbl_extract, h, hs]; simp

theorem skip_l0 : ∀ (r : List Int) (k : Nat) (t : ByteArray), sbl t = r → r.length < k → lexer_skip_l0 k t = some (bs (r.dropWhile blB))
  | _, 0, _, _, hk => by omega
  | [], k + 1, t, h, _ => by
    have ht : (t.toList == (⟨#[]⟩ : ByteArray).toList) = true := by rw [teq, h]; rfl
    rw [lexer_skip_l0, ht]
    simp only [Bool.not_true, Bool.false_eq_true, false_implies, if_true, if_false, Option.bind_some, Bool.false_and]
    rw [← bs_sbl t, h]; rfl
  | x :: r, k + 1, t, h, hk => by
    have ht : (t.toList == (⟨#[]⟩ : ByteArray).toList) = false := by rw [teq, h]; rfl
    have hd : (sbl t).drop 0 = x :: r := h
    obtain ⟨e1, g1, r1, h1⟩ := btCons hd
    rw [show (((0 : Nat) : Int)) = 0 from rfl] at e1 g1
    rw [lexer_skip_l0, ht, if_pos (fun _ => g1), if_pos (by rfl), e1]
    have eb : lexer_blank x = some (blB x) := rfl
    rw [eb]
    simp only [Option.bind_some, Bool.not_false, Bool.true_and]
    cases hb : blB x with
    | true =>
      rw [if_pos rfl, if_pos ⟨by omega, by have := g1.2; omega⟩]
      rw [show (1 : Int).toNat = 1 from rfl, skip_l0 r k _ (ext1 h) (by simp only [List.length_cons] at hk; omega)]
      simp [List.dropWhile_cons, hb]
    | false =>
      rw [if_neg (by simp)]
      simp only [List.dropWhile_cons, hb]
      rw [← bs_sbl t, h]; rfl
theorem skip_is {t : ByteArray} (hs : t.size < 100000) : lexer_skip t = some (bs ((sbl t).dropWhile blB)) := by
  unfold lexer_skip
  rw [skip_l0 (sbl t) BIG t rfl (by rw [sbl_len]; unfold BIG; omega)]; rfl

theorem cap_l0 {s : ByteArray} (hs : s.size < 100000) : ∀ (r : List Int) (k : Nat) (d : List Int), (sbl s).drop d.length = r → r.length < k → lexer_capital_l0 s k (d ++ r) ((d.length : Nat) : Int) = some (d ++ r.map capI)
  | _, 0, _, _, hk => by omega
  | [], k + 1, d, h, _ => by
    have hn := gtNil h
    rw [lexer_capital_l0, if_neg (fun e => hn (of_decide_eq_true e))]; rfl
  | x :: r, k + 1, d, h, hk => by
    obtain ⟨e0, g0, h1⟩ := gtCons h
    have hx := sblRange (List.mem_of_getElem? (dropAt h).1)
    have hl : d.length < (sbl s).length := (dropAt h).2.2
    rw [sbl_len] at hl
    have eg : gt (d ++ x :: r) ((d.length : Nat) : Int) = x := gtAt (by simp)
    have gb : 0 ≤ ((d.length : Nat) : Int) ∧ ((d.length : Nat) : Int) < ln (d ++ x :: r) := ⟨by omega, by unfold ln; simp only [List.length_append, List.length_cons]; omega⟩
    have ih := fun y => cap_l0 hs r k (d ++ [y]) (by rw [List.length_append]; exact h1) (by simp only [List.length_cons] at hk; omega)
    have w : IntKind.wrap .i64 (((d.length : Nat) : Int) + 1) = (((d ++ [capI x]).length : Nat) : Int) := by rw [wrapS (by omega), List.length_append]; rfl
    have e2 : d ++ capI x :: r = (d ++ [capI x]) ++ r := by simp
    rw [lexer_capital_l0, if_pos (decide_eq_true g0.2), if_pos gb, eg]
    by_cases hc : 97 ≤ x ∧ x ≤ 122
    · have ec : capI x = x - 32 := if_pos hc
      rw [if_pos (by simp; omega), if_pos gb, wrap_u8 (n := x - 97) (by omega) (by omega), wrap_u8 (by omega) (by omega), show x - 97 + 65 = capI x by rw [ec]; omega, w]
      have hst : st (d ++ x :: r) ((d.length : Nat) : Int) (capI x) = (d ++ [capI x]) ++ r := by unfold st; rw [Int.toNat_natCast, ← e2]; simp
      rw [hst, ih]; simp
    · have ec : capI x = x := if_neg hc
      rw [if_neg (by simp; omega), w]
      have e3 : d ++ x :: r = (d ++ [capI x]) ++ r := by rw [ec]; simp
      rw [e3, ih]; simp
theorem capI_range {x : Int} (h : 0 ≤ x ∧ x < 256) : 0 ≤ capI x ∧ capI x < 256 := by unfold capI; split <;> omega
theorem cap_is {s : ByteArray} (hs : s.size < 100000) : lexer_capital s = some (bs ((sbl s).map capI)) := by
  unfold lexer_capital
  have := cap_l0 hs (sbl s) BIG [] rfl (by rw [sbl_len]; unfold BIG; omega)
  rw [if_pos (by omega)]
  rw [show ((([] : List Int).length : Nat) : Int) = 0 from rfl, List.nil_append] at this
  rw [this]; rfl

theorem tight_l0 {s : ByteArray} (hs : s.size < 100000) : ∀ (r : List Int) (k i : Nat) (acc : List Int), (sbl s).drop i = r → r.length < k → acc.length ≤ i → lexer_tight_l0 s k acc (i : Int) = some (acc ++ r.filter nbB)
  | _, 0, _, _, _, hk, _ => by omega
  | [], k + 1, i, acc, h, _, _ => by
    rw [lexer_tight_l0, if_neg (fun e => btNil h (of_decide_eq_true e))]; simp
  | x :: r, k + 1, i, acc, h, hk, ha => by
    obtain ⟨e1, g1, r1, h1⟩ := btCons h
    have hi : i < 100000 := by have := g1.2; unfold sln at this; omega
    have ih := fun a ha' => tight_l0 hs r k (i + 1) a h1 (by simp only [List.length_cons] at hk; omega) ha'
    have eb : lexer_blank x = some (blB x) := rfl
    rw [lexer_tight_l0, if_pos (decide_eq_true g1.2), if_pos g1, e1, eb]
    simp only [Option.bind_some]
    cases hb : blB x with
    | true =>
      have hn : nbB x = false := by simp [nbB, hb]
      rw [if_neg (by simp), wrapS (by omega), ih _ (by omega)]
      simp [List.filter_cons, hn]
    | false =>
      have hn : nbB x = true := by simp [nbB, hb]
      rw [if_pos (by rfl), if_pos g1, if_pos (by simp only [List.length_cons, List.length_nil]; omega), wrapS (by omega), ih _ (by simp; omega)]
      simp [List.filter_cons, hn]
theorem tight_is {s : ByteArray} (hs : s.size < 100000) : lexer_tight s = some (bs ((sbl s).filter nbB)) := by
  unfold lexer_tight
  have := tight_l0 hs (sbl s) BIG 0 [] rfl (by rw [sbl_len]; unfold BIG; omega) (by simp)
  rw [show (((0 : Nat) : Int)) = 0 from rfl, List.nil_append] at this
  rw [this]
  rw [Option.bind_some, if_pos (bytesB_iff.2 fun x hx => sblRange ((List.mem_filter.1 hx).1))]

/-- May a name have a byte anywhere, behind its first one? -/
def letB (c : Int) : Bool := ((((decide (65 ≤ c)) && (decide (c ≤ 90))) || ((decide (97 ≤ c)) && (decide (c ≤ 122)))) || (c == 46)) || (c == 95)
def conB (c : Int) : Bool := letB c || (decide (48 ≤ c) && decide (c ≤ 57))
def rightB (l : List Int) : Bool := match l with
  | [] => false
  | x :: r => letB x && r.all conB && decide (r.length < 16)

theorem right_l0 {s : ByteArray} (hs : s.size < 100000) : ∀ (r : List Int) (k i : Nat), (sbl s).drop (i + 1) = r → r.length < k → symbols_Right_l0 s k ((i + 1 : Nat) : Int) = some (if r.all conB = true then .go () else .ret false)
  | _, 0, _, _, hk => by omega
  | [], k + 1, i, h, _ => by
    rw [symbols_Right_l0, if_neg (fun e => btNil h (of_decide_eq_true e))]; rfl
  | x :: r, k + 1, i, h, hk => by
    obtain ⟨e1, g1, r1, h1⟩ := btCons h
    have hi : i + 1 < 100000 := by have := g1.2; unfold sln at this; omega
    rw [symbols_Right_l0, if_pos (decide_eq_true g1.2), if_pos g1, e1]
    cases hc : conB x with
    | true =>
      rw [if_neg, wrapS (by omega), right_l0 hs r k (i + 1) h1 (by simp only [List.length_cons] at hk; omega)]
      · simp [hc]
      · simp only [conB, letB, Bool.or_eq_true, Bool.and_eq_true, decide_eq_true_eq, beq_iff_eq] at hc
        simp only [Bool.and_eq_true, Bool.or_eq_true, Bool.not_eq_true', Bool.or_eq_false_iff, Bool.and_eq_false_imp, decide_eq_true_eq, decide_eq_false_iff_not, beq_iff_eq, beq_eq_false_iff_ne]
        omega
    | false =>
      rw [if_pos]
      · simp [hc]
      · simp only [conB, letB, Bool.or_eq_false_iff, Bool.and_eq_false_imp, decide_eq_true_eq, decide_eq_false_iff_not, beq_eq_false_iff_ne] at hc
        simp only [Bool.and_eq_true, Bool.or_eq_true, Bool.not_eq_true', Bool.or_eq_false_iff, Bool.and_eq_false_imp, decide_eq_true_eq, decide_eq_false_iff_not, beq_iff_eq, beq_eq_false_iff_ne]
        omega
theorem right_is {s : ByteArray} (hs : s.size < 100000) : symbols_Right s = some (rightB (sbl s)) := by
  unfold symbols_Right
  have hlen := sbl_len s
  obtain ⟨k, hk⟩ : ∃ k, BIG = k + 1 := ⟨BIG - 1, by unfold BIG; rfl⟩
  match hc : sbl s with
  | [] =>
    have hz : sln s = 0 := by rw [← sblLen, hc]; rfl
    rw [hk, symbols_Right_l0, hz]
    rfl
  | x :: r =>
    have hd : (sbl s).drop 0 = x :: r := hc
    obtain ⟨e1, g1, r1, h1⟩ := btCons hd
    rw [show (((0 : Nat) : Int)) = 0 from rfl] at e1 g1
    have hz : sln s = ((r.length + 1 : Nat) : Int) := by rw [← sblLen, hc]; rfl
    have hkr : r.length < k := by
      rw [hc] at hlen; simp only [List.length_cons] at hlen
      have : k = BIG - 1 := by omega
      rw [this]; unfold BIG; omega
    rw [hk, symbols_Right_l0, if_pos (decide_eq_true g1.2), if_pos g1, e1]
    cases hl : letB x with
    | false =>
      rw [if_pos]
      · simp [rightB, hl]
      · simp only [letB, Bool.or_eq_false_iff, Bool.and_eq_false_imp, decide_eq_true_eq, decide_eq_false_iff_not, beq_eq_false_iff_ne] at hl
        simp only [Bool.and_eq_true, Bool.or_eq_true, Bool.not_eq_true', Bool.or_eq_false_iff, Bool.and_eq_false_imp, decide_eq_true_eq, decide_eq_false_iff_not, beq_iff_eq, beq_eq_false_iff_ne]
        exact ⟨by omega, .inl (.inl trivial)⟩
    | true =>
      have := right_l0 hs r k 0 h1 hkr
      rw [show IntKind.wrap .i64 (0 + 1) = ((0 + 1 : Nat) : Int) by decide, if_neg, this]
      · cases ha : r.all conB with
        | false => simp [rightB, hl, ha]
        | true =>
          simp only [if_true, Option.bind_some, rightB, hl, ha, Bool.and_self, Bool.true_and, hz]
          congr 1
          rw [Bool.eq_iff_iff]; simp; omega
      · simp only [letB, Bool.or_eq_true, Bool.and_eq_true, decide_eq_true_eq, beq_iff_eq] at hl
        simp only [Bool.and_eq_true, Bool.or_eq_true, Bool.not_eq_true', Bool.or_eq_false_iff, Bool.and_eq_false_imp, decide_eq_true_eq, decide_eq_false_iff_not, beq_iff_eq, beq_eq_false_iff_ne]
        omega
end Go.Proofs.YthooddibdmigmaaDoorK
