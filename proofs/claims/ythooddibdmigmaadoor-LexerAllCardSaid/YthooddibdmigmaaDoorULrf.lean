/- The parts of a line: the reference's cut; the laws LexerCuts and LexerAll. -/
import Derived.Test.YthooddibdmigmaaDoorULct
namespace Go.Proofs.YthooddibdmigmaaDoorK
set_option linter.unusedVariables false
set_option linter.unusedSimpArgs false
set_option maxHeartbeats 4000000
open Go.RowKit
attribute [local irreducible] dwv mops lops lqops lwops kont iter run runK rk okK ex E1 vals val chain chB sel resF

theorem rletter (x : Int) : spinetref41_Letter x = some (letB x) := rfl
theorem rblank (x : Int) : spinetref43_blank x = some (blB x) := rfl
theorem rright_l0 {s : ByteArray} (hs : s.size < 100000) : ∀ (r : List Int) (k i : Nat), (sbl s).drop i = r → r.length < k → spinetref41_Right_l0 s k (i : Int) = some (if r.all conB = true then .go () else .ret false)
  | _, 0, _, _, hk => by omega
  | [], k + 1, i, h, _ => by
    rw [spinetref41_Right_l0, if_neg (fun e => btNil h (of_decide_eq_true e))]; rfl
  | x :: r, k + 1, i, h, hk => by
    obtain ⟨e1, g1, r1, h1⟩ := btCons h
    have hi : i < 100000 := by have := g1.2; unfold sln at this; omega
    rw [spinetref41_Right_l0, if_pos (decide_eq_true g1.2), if_pos g1, e1, rletter, Option.bind_some, if_pos (fun _ => g1), if_pos (fun _ => g1)]
    cases hc : conB x with
    | true =>
      rw [if_neg, wrapS (by omega), rright_l0 hs r k (i + 1) h1 (by simp only [List.length_cons] at hk; omega)]
      · simp [hc]
      · intro hb
        simp only [Bool.and_eq_true, Bool.or_eq_true, Bool.not_eq_true', decide_eq_true_eq] at hb
        simp only [conB, hb.1, Bool.false_or, Bool.and_eq_true, decide_eq_true_eq] at hc
        omega
    | false =>
      rw [if_pos]
      · simp [hc]
      · simp only [conB, Bool.or_eq_false_iff, Bool.and_eq_false_imp, decide_eq_true_eq, decide_eq_false_iff_not] at hc
        simp only [hc.1, Bool.not_false, Bool.true_and, Bool.or_eq_true, decide_eq_true_eq]
        omega
theorem rright_is {s : ByteArray} (hs : s.size < 100000) : spinetref41_Right s = some (rightB (sbl s)) := by
  unfold spinetref41_Right
  have hlen := sbl_len s
  match hc : sbl s with
  | [] =>
    have hz : sln s = 0 := by rw [← sblLen, hc]; rfl
    rw [hz]
    rfl
  | x :: r =>
    have hd : (sbl s).drop 0 = x :: r := hc
    obtain ⟨e1, g1, r1, h1⟩ := btCons hd
    rw [show (((0 : Nat) : Int)) = 0 from rfl] at e1 g1
    have hz : sln s = ((r.length + 1 : Nat) : Int) := by rw [← sblLen, hc]; rfl
    have hkr : r.length < BIG := by rw [hc] at hlen; simp only [List.length_cons] at hlen; unfold BIG; omega
    rw [if_pos (fun _ => g1), e1, rletter]
    by_cases h16 : 16 < r.length + 1
    · have hd1 : ((decide (sln s < 1)) || (decide (16 < sln s))) = true := by rw [hz]; simp; omega
      simp only [hd1, Bool.not_true, Bool.false_eq_true, if_false, Option.bind_some, Bool.true_or, if_true]
      simp only [rightB, show decide (r.length < 16) = false by simp; omega, Bool.and_false]
    · have hd1 : ((decide (sln s < 1)) || (decide (16 < sln s))) = false := by rw [hz]; simp; omega
      simp only [hd1, Bool.not_false, if_true, Option.bind_some, Bool.false_or]
      cases hl : letB x with
      | false => simp [rightB, hl]
      | true =>
        have := rright_l0 hs r BIG 1 h1 hkr
        rw [show (((1 : Nat) : Int)) = 1 from rfl] at this
        rw [if_neg (by simp), this]
        cases ha : r.all conB with
        | false => simp [rightB, hl, ha]
        | true =>
          simp only [if_true, Option.bind_some, rightB, hl, ha, Bool.and_self, Bool.true_and]
          congr 1
          simp; omega

theorem cl0 {s : ByteArray} (hs : s.size < 100000) : ∀ (r : List Int) (k i : Nat), (sbl s).drop i = r → r.length < k → spinetref43_Cut_l0 s k (i : Int) = some ((i + (r.takeWhile ne59).length : Nat) : Int)
  | _, 0, _, _, hk => by omega
  | [], k + 1, i, h, _ => by
    have hn := btNil h
    rw [spinetref43_Cut_l0, if_pos (fun e => absurd (of_decide_eq_true e) hn), show decide ((i : Int) < sln s) = false by simpa using hn]
    rfl
  | x :: r, k + 1, i, h, hk => by
    obtain ⟨e1, g1, r1, h1⟩ := btCons h
    have hi : i < 100000 := by have := g1.2; unfold sln at this; omega
    rw [spinetref43_Cut_l0, if_pos (fun _ => g1), show decide ((i : Int) < sln s) = true from decide_eq_true g1.2, e1, Bool.true_and]
    cases hx : (x != 59) with
    | true =>
      have hp : ne59 x = true := hx
      rw [if_pos rfl, wrapS (by omega), cl0 hs r k (i + 1) h1 (by simp only [List.length_cons] at hk; omega)]
      simp only [List.takeWhile_cons, hp, if_true, List.length_cons]
      rw [show i + 1 + (r.takeWhile ne59).length = i + ((r.takeWhile ne59).length + 1) by omega]
    | false =>
      have hp : ne59 x = false := hx
      rw [if_neg (by simp)]
      simp [List.takeWhile_cons, hp]

section
variable {s t : ByteArray} {n : Int} (ht : s.extract 0 (n : Int).toNat = t) (hs : t.size < 100000)
include ht hs
theorem cl1 : ∀ (r : List Int) (k i : Nat), (sbl t).drop i = r → r.length < k → spinetref43_Cut_l1 s n k (i : Int) = some ((i + (r.takeWhile labB).length : Nat) : Int)
  | _, 0, _, _, hk => by omega
  | [], k + 1, i, h, _ => by
    have hn := btNil h
    rw [spinetref43_Cut_l1, ht, if_pos (fun e => absurd (of_decide_eq_true e) hn), show decide ((i : Int) < sln t) = false by simpa using hn]
    rfl
  | x :: r, k + 1, i, h, hk => by
    obtain ⟨e1, g1, r1, h1⟩ := btCons h
    have hi : i < 100000 := by have := g1.2; unfold sln at this; omega
    have ih := cl1 r k (i + 1) h1 (by simp only [List.length_cons] at hk; omega)
    rw [spinetref43_Cut_l1, ht, if_pos (fun _ => g1), show decide ((i : Int) < sln t) = true from decide_eq_true g1.2, if_pos rfl, e1, rblank, Option.bind_some, if_pos (fun _ => g1), Bool.true_and]
    cases hx : labB x with
    | true =>
      have hx' : ((!(blB x)) && (x != 58)) = true := hx
      rw [if_pos hx', wrapS (by omega), ih]
      simp only [List.takeWhile_cons, hx, if_true, List.length_cons]
      rw [show i + 1 + (r.takeWhile labB).length = i + ((r.takeWhile labB).length + 1) by omega]
    | false =>
      have hx' : ¬ ((!(blB x)) && (x != 58)) = true := by
        have : ((!(blB x)) && (x != 58)) = false := hx
        rw [this]; simp
      rw [if_neg hx']
      simp [List.takeWhile_cons, hx]
theorem cl2 : ∀ (r : List Int) (k i : Nat), (sbl t).drop i = r → r.length < k → spinetref43_Cut_l2 s n k (i : Int) = some ((i + (r.takeWhile blB).length : Nat) : Int)
  | _, 0, _, _, hk => by omega
  | [], k + 1, i, h, _ => by
    have hn := btNil h
    rw [spinetref43_Cut_l2, ht, if_pos (fun e => absurd (of_decide_eq_true e) hn), show decide ((i : Int) < sln t) = false by simpa using hn]
    rfl
  | x :: r, k + 1, i, h, hk => by
    obtain ⟨e1, g1, r1, h1⟩ := btCons h
    have hi : i < 100000 := by have := g1.2; unfold sln at this; omega
    have ih := cl2 r k (i + 1) h1 (by simp only [List.length_cons] at hk; omega)
    rw [spinetref43_Cut_l2, ht, if_pos (fun _ => g1), show decide ((i : Int) < sln t) = true from decide_eq_true g1.2, if_pos rfl, e1, rblank, Option.bind_some, Bool.true_and]
    cases hx : blB x with
    | true =>
      rw [if_pos rfl, wrapS (by omega), ih]
      simp only [List.takeWhile_cons, hx, if_true, List.length_cons]
      rw [show i + 1 + (r.takeWhile blB).length = i + ((r.takeWhile blB).length + 1) by omega]
    | false =>
      rw [if_neg (by simp)]
      simp [List.takeWhile_cons, hx]
theorem cl3 : ∀ (r : List Int) (k i : Nat) (w : List Int), (sbl t).drop i = r → r.length < k → w.length ≤ i → spinetref43_Cut_l3 s n k (bs w) (i : Int) = some (bs (w ++ (r.takeWhile nbB).map capI), ((i + (r.takeWhile nbB).length : Nat) : Int))
  | _, 0, _, _, _, hk, _ => by omega
  | [], k + 1, i, w, h, _, _ => by
    have hn := btNil h
    rw [spinetref43_Cut_l3, ht, if_pos (fun e => absurd (of_decide_eq_true e) hn), show decide ((i : Int) < sln t) = false by simpa using hn]
    simp
  | x :: r, k + 1, i, w, h, hk, hw => by
    obtain ⟨e1, g1, r1, h1⟩ := btCons h
    have hi : i < 100000 := by have := g1.2; unfold sln at this; omega
    have ih := fun y => cl3 r k (i + 1) (w ++ [y]) h1 (by simp only [List.length_cons] at hk; omega) (by simp; omega)
    rw [spinetref43_Cut_l3, ht, if_pos (fun _ => g1), show decide ((i : Int) < sln t) = true from decide_eq_true g1.2, if_pos rfl, e1, rblank, Option.bind_some, Bool.true_and]
    have hj : ∀ y, spinetref43_Cut_j0 (spinetref43_Cut_l3 s n k) (bs w) (i : Int) y = some (bs ((w ++ [y]) ++ (r.takeWhile nbB).map capI), ((i + 1 + (r.takeWhile nbB).length : Nat) : Int)) := by
      intro y
      unfold spinetref43_Cut_j0
      have hsz : (((bs w).size + (bs [y]).size : Nat) : Int) ≤ 9223372036854775807 := by rw [bs_size, bs_size]; simp only [List.length_cons, List.length_nil]; omega
      rw [if_pos hsz, wrapS (by omega), ← bs_app, ih]
    cases hx : blB x with
    | true =>
      have hn : nbB x = false := by simp [nbB, hx]
      rw [if_neg (by simp)]
      simp [List.takeWhile_cons, hn]
    | false =>
      have hn : nbB x = true := by simp [nbB, hx]
      rw [if_pos (by rfl), if_pos g1]
      have e5 : i + 1 + (r.takeWhile nbB).length = i + ((x :: r).takeWhile nbB).length := by simp only [List.takeWhile_cons, hn, if_true, List.length_cons]; omega
      have e6 : ((x :: r).takeWhile nbB).map capI = capI x :: (r.takeWhile nbB).map capI := by simp [List.takeWhile_cons, hn]
      by_cases hc : 97 ≤ x ∧ x ≤ 122
      · rw [if_pos (by simp; omega), wrap_u8 (by omega) (by omega), hj, e5, e6, show capI x = x - 32 from if_pos hc]; simp
      · rw [if_neg (by simp; omega), hj, e5, e6, show capI x = x from if_neg hc]; simp
theorem cl4 : ∀ (r : List Int) (k i : Nat) (w : List Int), (sbl t).drop i = r → r.length < k → w.length ≤ i → spinetref43_Cut_l4 s n k (bs w) (i : Int) = some (bs (w ++ r.filter nbB))
  | _, 0, _, _, _, hk, _ => by omega
  | [], k + 1, i, w, h, _, _ => by
    rw [spinetref43_Cut_l4, ht, if_neg (fun e => btNil h (of_decide_eq_true e))]; simp
  | x :: r, k + 1, i, w, h, hk, hw => by
    obtain ⟨e1, g1, r1, h1⟩ := btCons h
    have hi : i < 100000 := by have := g1.2; unfold sln at this; omega
    have ih := fun a ha => cl4 r k (i + 1) a h1 (by simp only [List.length_cons] at hk; omega) ha
    rw [spinetref43_Cut_l4, ht, if_pos (decide_eq_true g1.2), if_pos g1, e1, rblank, Option.bind_some]
    have w2 : IntKind.wrap .i64 ((i : Int) + 1) = ((i + 1 : Nat) : Int) := wrapS (by omega)
    cases hx : blB x with
    | true =>
      have hn : nbB x = false := by simp [nbB, hx]
      rw [if_neg (by simp), w2, ih _ (by omega)]
      simp [List.filter_cons, hn]
    | false =>
      have hn : nbB x = true := by simp [nbB, hx]
      have hxx : t.extract i (i + 1) = bs [x] := by
        apply sbl_inj
        rw [sbl_extract, h, sbl_bs (by intro y hy; simp at hy; subst hy; exact r1)]
        simp
      rw [if_pos (by rfl), w2, if_pos ⟨g1.1, by omega, by have := g1.2; omega⟩, Int.toNat_natCast, Int.toNat_natCast, hxx]
      have hsz : (((bs w).size + (bs [x]).size : Nat) : Int) ≤ 9223372036854775807 := by rw [bs_size, bs_size]; simp only [List.length_cons, List.length_nil]; omega
      rw [if_pos hsz, ← bs_app, ih _ (by simp; omega)]
      simp [List.filter_cons, hn]

def asR43 (l : lexer_Line) : spinetref43_Line := ⟨l.Label, l.Op, l.Arg⟩
theorem cj1 (lab : List Int) (i : Nat) (hi : i ≤ (sbl t).length) : spinetref43_Cut_j1 s n (bs lab) (i : Int) = some (asR43 (lineM lab ((sbl t).drop i)), true) := by
  have hl : (sbl t).length < 100000 := by rw [sbl_len]; exact hs
  unfold spinetref43_Cut_j1
  have hb : ∀ q : List Int, ((sbl t).drop i).length < BIG := fun q => by rw [List.length_drop]; unfold BIG; omega
  rw [cl2 ht hs _ BIG i rfl (hb []), Option.bind_some]
  have d1 : (sbl t).drop (i + (((sbl t).drop i).takeWhile blB).length) = ((sbl t).drop i).dropWhile blB := by rw [← List.drop_drop, drop_tw]
  have l1 : ((sbl t).drop i).length < 100000 := by rw [List.length_drop]; omega
  have l2 : (((sbl t).drop i).dropWhile blB).length ≤ ((sbl t).drop i).length := by
    have := congrArg List.length (List.takeWhile_append_dropWhile (p := blB) (l := (sbl t).drop i)); rw [List.length_append] at this; omega
  have l3 : ((((sbl t).drop i).dropWhile blB).dropWhile nbB).length ≤ (((sbl t).drop i).dropWhile blB).length := by
    have := congrArg List.length (List.takeWhile_append_dropWhile (p := nbB) (l := ((sbl t).drop i).dropWhile blB)); rw [List.length_append] at this; omega
  rw [show (⟨#[]⟩ : ByteArray) = bs [] from rfl, cl3 ht hs _ BIG _ [] d1 (by unfold BIG; omega) (by simp), Option.bind_some]
  simp only
  have d2 : (sbl t).drop (i + (((sbl t).drop i).takeWhile blB).length + ((((sbl t).drop i).dropWhile blB).takeWhile nbB).length) = (((sbl t).drop i).dropWhile blB).dropWhile nbB := by rw [← List.drop_drop, d1, drop_tw]
  rw [cl4 ht hs _ BIG _ [] d2 (by unfold BIG; omega) (by simp), Option.bind_some]
  rfl
end

theorem refCut_is {s : ByteArray} (hs : s.size < 100000) : spinetref43_Cut s = some (asR43 (cutM (sbl s)).1, (cutM (sbl s)).2 == 0) := by
  have hB := sblB s
  have hl : (sbl s).length < 100000 := by rw [sbl_len]; exact hs
  have h0 := cl0 hs (sbl s) BIG 0 rfl (by unfold BIG; omega)
  rw [show (((0 : Nat) : Int)) = 0 from rfl, Nat.zero_add] at h0
  have hle := tw_len_le (p := ne59) (sbl s)
  unfold spinetref43_Cut
  rw [h0, Option.bind_some, if_pos ⟨by omega, by rw [← sblLen]; omega⟩, Int.toNat_natCast]
  have ht : sbl (s.extract 0 ((sbl s).takeWhile ne59).length) = (sbl s).takeWhile ne59 := by rw [sbl_extract, List.drop_zero, Nat.sub_zero, take_tw]
  generalize hT : s.extract 0 ((sbl s).takeWhile ne59).length = t at ht
  have hT' : s.extract 0 ((((sbl s).takeWhile ne59).length : Nat) : Int).toNat = t := by rw [Int.toNat_natCast]; exact hT
  generalize hn : (((sbl s).takeWhile ne59).length : Nat) = n at *
  have hts : t.size < 100000 := by rw [← sbl_len, ht]; omega
  unfold cutM
  rw [← ht]
  have hln : (sbl t).length < 100000 := by rw [ht]; omega
  match hc : sbl t with
  | [] =>
    have hz : sln t = 0 := by rw [← sblLen, hc]; rfl
    rw [hz]
    have hd : decide ((0 : Int) < 0) = false := rfl
    simp only [hd, Bool.false_eq_true, false_implies, if_true, if_false, Bool.false_and, Option.bind_some]
    have := cj1 hT' hts [] 0 (by omega)
    rw [List.drop_zero, hc] at this
    exact this
  | x :: r =>
    have hd : (sbl t).drop 0 = x :: r := hc
    obtain ⟨e1, g1, r1, h1⟩ := btCons hd
    rw [show (((0 : Nat) : Int)) = 0 from rfl] at e1 g1
    have hlt : sln t = ((sbl t).length : Int) := (sblLen t).symm
    rw [if_pos (fun _ => g1), show decide (0 < sln t) = true from decide_eq_true g1.2, if_pos rfl, e1, rblank, Option.bind_some, Bool.true_and]
    cases hx : blB x with
    | true =>
      rw [if_neg (by simp)]
      have := cj1 hT' hts [] 0 (by omega)
      rw [List.drop_zero, hc] at this
      have e2 : cutU (x :: r) = (lineM [] (x :: r), 0) := by simp [cutU, headNb, nbB, hx]
      rw [e2]
      exact this
    | false =>
      have hh : headNb (x :: r) = true := by simp [headNb, nbB, hx]
      have hlab := cl1 hT' hts (sbl t) BIG 0 rfl (by unfold BIG; omega)
      rw [show (((0 : Nat) : Int)) = 0 from rfl, Nat.zero_add] at hlab
      have hle2 := tw_len_le (p := labB) (sbl t)
      rw [if_pos (by rfl), hlab, Option.bind_some, if_pos ⟨by omega, by rw [hlt]; omega⟩, Int.toNat_natCast]
      have hE : t.extract 0 ((sbl t).takeWhile labB).length = bs ((sbl t).takeWhile labB) := by
        apply sbl_inj
        rw [sbl_extract, List.drop_zero, Nat.sub_zero, take_tw, sbl_bs (tw_bytes (sblB t))]
      rw [hE, rright_is (bsz (by omega)), Option.bind_some, sbl_bs (tw_bytes (sblB t))]
      unfold cutU
      rw [if_pos hh, ← hc]
      cases hr : rightB ((sbl t).takeWhile labB) with
      | false => rfl
      | true =>
        rw [if_neg (by simp), if_pos rfl]
        have hdw : (sbl t).drop ((sbl t).takeWhile labB).length = (sbl t).dropWhile labB := drop_tw _
        cases hq : (sbl t).dropWhile labB with
        | nil =>
          rw [hq] at hdw
          have hn := btNil hdw
          rw [if_pos (fun e => absurd (of_decide_eq_true e) hn), show decide ((((sbl t).takeWhile labB).length : Int) < sln t) = false by simpa using hn]
          rw [if_neg (by simp), cj1 hT' hts _ _ hle2, hdw]
          rfl
        | cons y q =>
          rw [hq] at hdw
          obtain ⟨e3, g3, r3, h3⟩ := btCons hdw
          have hlt3 : ((sbl t).takeWhile labB).length < (sbl t).length := (dropAt hdw).2.2
          rw [if_pos (fun _ => g3), show decide ((((sbl t).takeWhile labB).length : Int) < sln t) = true from decide_eq_true g3.2, e3, Bool.true_and]
          by_cases h58 : y = 58
          · rw [if_pos (by simpa using h58), wrapS (by omega), cj1 hT' hts _ _ (by omega), h3]
            simp [behind, h58]
          · rw [if_neg (by simpa using h58), cj1 hT' hts _ _ hle2, hdw]
            simp [behind, h58]

theorem alive43 : spinetlaw43_alive = some true := by decide +kernel

theorem sleq_l0 (l : List ByteArray) (hl : l.length < 2 ^ 40) : ∀ (r : List ByteArray) (k i : Nat), l.drop i = r → r.length < k → slices_Equal_sl_string_string_l0 l l k (i : Int) = some (.go ())
  | _, 0, _, _, hk => by omega
  | [], k + 1, i, h, _ => by
    rw [slices_Equal_sl_string_string_l0, if_neg (fun e => gtNil h (of_decide_eq_true e))]
  | x :: r, k + 1, i, h, hk => by
    obtain ⟨e1, g1, h1⟩ := gtCons h
    have hi := (dropAt h).2.2
    rw [slices_Equal_sl_string_string_l0, if_pos (decide_eq_true g1.2), if_pos g1, if_pos g1, if_neg (by simp), wrapS (by omega), sleq_l0 l hl r k (i + 1) h1 (by simp only [List.length_cons] at hk; omega)]
theorem sleq_refl (l : List ByteArray) (hl : l.length < 2 ^ 40) : slices_Equal_sl_string_string l l = some true := by
  unfold slices_Equal_sl_string_string
  rw [if_neg (by simp)]
  have := sleq_l0 l hl l BIG 0 rfl (by unfold BIG; omega)
  rw [show (((0 : Nat) : Int)) = 0 from rfl] at this
  rw [this]; rfl

theorem cut_len_le (c : Int) (l : List Int) : (cutAt c l).length ≤ l.length + 1 := by rw [cutAt_count]; have := List.count_le_length (a := c) (l := l); omega
theorem fields_eq {s : ByteArray} (hs : s.size < 100000) : ∃ l, lexer_Fields s = some l ∧ spinetref43_Fields s = some l ∧ l.length < 2 ^ 40 := by
  unfold lexer_Fields spinetref43_Fields
  rw [spinetref43_FieldsP_is hs, show (⟨#[44]⟩ : ByteArray) = s1 44 from rfl, split_is s 44 (by omega)]
  cases (s.toList == (⟨#[]⟩ : ByteArray).toList) with
  | true => exact ⟨[], rfl, rfl, by decide⟩
  | false =>
    refine ⟨_, rfl, rfl, ?_⟩
    have := cut_len_le 44 (sbl s)
    rw [sbl_len] at this
    have h44 : (((44 : UInt8).toNat : Nat) : Int) = 44 := rfl
    unfold pieces
    rw [List.length_map, h44]
    omega

theorem cutM_err (l : List Int) : (cutM l).2 = 0 ∨ (cutM l = (zeroLn, 40)) := by
  unfold cutM cutU
  split
  · split
    · exact .inl rfl
    · exact .inr rfl
  · exact .inl rfl

theorem baSelf (b : ByteArray) : (b == b) = true := by
  cases b with
  | mk d => show (d == d) = true; simp

theorem lexerCuts_true (s : ByteArray) : spinetlaw43_LexerCuts s = some true := by
  unfold spinetlaw43_LexerCuts
  by_cases h6 : 200 < sln s
  · rw [if_pos (decide_eq_true h6)]
  rw [if_neg (fun h => h6 (of_decide_eq_true h))]
  have hs : s.size < 100000 := by unfold sln at h6; omega
  obtain ⟨l, f1, f2, f3⟩ := fields_eq hs
  rw [lexCut_is hs, refCut_is hs, f1, f2]
  simp only [Option.bind_some]
  rw [sleq_refl l f3]
  simp only [Option.bind_some, Bool.not_true, Bool.false_eq_true, if_false]
  rcases cutM_err (sbl s) with h | h
  · rw [h]
    simp only [asR43, baSelf, beq_self_eq_true, Bool.not_true, Bool.false_eq_true, if_false, Bool.and_self, if_true, alive43, Option.bind_some]
  · rw [h, alive43]
    rfl
end Go.Proofs.YthooddibdmigmaaDoorK
