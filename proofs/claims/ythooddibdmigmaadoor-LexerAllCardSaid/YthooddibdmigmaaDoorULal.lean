/- The parts of lines: the law LexerAll. -/
import Derived.Test.YthooddibdmigmaaDoorULrf
namespace Go.Proofs.YthooddibdmigmaaDoorK
set_option linter.unusedVariables false
set_option linter.unusedSimpArgs false
set_option maxHeartbeats 4000000
open Go.RowKit
attribute [local irreducible] dwv mops lops lqops lwops kont iter run runK rk okK ex E1 vals val chain chB sel resF

theorem cut_mem_le (c : Int) : ∀ (l : List Int) (p : List Int), p ∈ cutAt c l → p.length ≤ l.length
  | [], p, h => by simp [cutAt] at h; subst h; simp
  | x :: r, p, h => by
    rw [cutAt] at h
    by_cases hc : x = c
    · rw [if_pos hc] at h
      rcases List.mem_cons.1 h with h | h
      · subst h; simp
      · have := cut_mem_le c r p h; simp only [List.length_cons]; omega
    · rw [if_neg hc] at h
      have hne := cutAt_ne c r
      cases hq : cutAt c r with
      | nil => exact absurd hq hne
      | cons y q =>
        rw [hq] at h
        rcases List.mem_cons.1 h with h | h
        · subst h
          have := cut_mem_le c r y (by rw [hq]; simp)
          simp only [List.length_cons]; omega
        · have := cut_mem_le c r p (by rw [hq]; simp [h])
          simp only [List.length_cons]; omega
def okL (x : ByteArray) : Bool := (cutM (sbl x)).2 == 0
def fL (x : ByteArray) : lexer_Line := (cutM (sbl x)).1

theorem mem_drop {L : List ByteArray} {i : Nat} {x : ByteArray} {r : List ByteArray} (h : L.drop i = x :: r) : x ∈ L := List.mem_of_mem_drop (i := i) (by rw [h]; simp)
section
variable {L : List ByteArray} (hL : ∀ x ∈ L, x.size < 100000) (hN : L.length < 100000)
include hL hN
theorem all_go : ∀ (r : List ByteArray) (k i : Nat) (a : List lexer_Line), L.drop i = r → r.length < k → (∀ x ∈ r, okL x = true) → a.length = i → lexer_All_l0 L k a (i : Int) = some (.go (a ++ r.map fL))
  | _, 0, _, _, _, hk, _, _ => by omega
  | [], k + 1, i, a, h, _, _, _ => by
    rw [lexer_All_l0, if_neg (fun e => gtNil h (of_decide_eq_true e))]; simp
  | x :: r, k + 1, i, a, h, hk, ho, ha => by
    obtain ⟨e1, g1, h1⟩ := gtCons h
    have hi := (dropAt h).2.2
    have ho1 : (cutM (sbl x)).2 = 0 := by have := ho x (by simp); unfold okL at this; simpa using this
    rw [lexer_All_l0, if_pos (decide_eq_true g1.2), if_pos g1, e1, lexCut_is (hL x (mem_drop h)), Option.bind_some, ho1, if_neg (by simp), if_pos (by simp only [List.length_cons, List.length_nil]; omega), wrapS (by omega), all_go r k (i + 1) _ h1 (by simp only [List.length_cons] at hk; omega) (fun y hy => ho y (by simp [hy])) (by simp [ha])]
    simp [fL]
theorem all_err {x : ByteArray} {b : List ByteArray} (hx : okL x = false) : ∀ (r : List ByteArray) (k i : Nat) (a : List lexer_Line), L.drop i = r ++ x :: b → r.length + 1 < k → (∀ x ∈ r, okL x = true) → a.length = i → lexer_All_l0 L k a (i : Int) = some (.ret ([], ((i + r.length + 1 : Nat) : Int), 40))
  | _, 0, _, _, _, hk, _, _ => by omega
  | [], k + 1, i, a, h, _, _, _ => by
    obtain ⟨e1, g1, h1⟩ := gtCons (show L.drop i = x :: b from h)
    have hi := (dropAt (show L.drop i = x :: b from h)).2.2
    have ho1 : (cutM (sbl x)).2 = 40 := by
      rcases cutM_err (sbl x) with h | h
      · unfold okL at hx; rw [h] at hx; simp at hx
      · rw [h]
    rw [lexer_All_l0, if_pos (decide_eq_true g1.2), if_pos g1, e1, lexCut_is (hL x (mem_drop (show L.drop i = x :: b from h))), Option.bind_some, ho1, if_pos (by decide), wrapS (by omega)]
    simp
  | y :: r, k + 1, i, a, h, hk, ho, ha => by
    obtain ⟨e1, g1, h1⟩ := gtCons (show L.drop i = y :: (r ++ x :: b) from h)
    have hi := (dropAt (show L.drop i = y :: (r ++ x :: b) from h)).2.2
    have ho1 : (cutM (sbl y)).2 = 0 := by have := ho y (by simp); unfold okL at this; simpa using this
    rw [lexer_All_l0, if_pos (decide_eq_true g1.2), if_pos g1, e1, lexCut_is (hL y (mem_drop (show L.drop i = y :: (r ++ x :: b) from h))), Option.bind_some, ho1, if_neg (by simp), if_pos (by simp only [List.length_cons, List.length_nil]; omega), wrapS (by omega), all_err hx r k (i + 1) _ h1 (by simp only [List.length_cons] at hk; omega) (fun y hy => ho y (by simp [hy])) (by simp [ha])]
    simp only [List.length_cons]
    rw [show i + 1 + r.length + 1 = i + (r.length + 1) + 1 by omega]

theorem law_go : ∀ (r : List ByteArray) (k i : Nat), L.drop i = r → r.length < k → (∀ x ∈ r, okL x = true) → spinetlaw43_LexerAll_l0 (L.map fL, 0, 0) L k (i : Int) = some (.go ())
  | _, 0, _, _, hk, _ => by omega
  | [], k + 1, i, h, _, _ => by
    rw [spinetlaw43_LexerAll_l0, if_neg (fun e => gtNil h (of_decide_eq_true e))]
  | x :: r, k + 1, i, h, hk, ho => by
    obtain ⟨e1, g1, h1⟩ := gtCons h
    have hi := (dropAt h).2.2
    have ho1 : (cutM (sbl x)).2 = 0 := by have := ho x (by simp); unfold okL at this; simpa using this
    have hd : (L.map fL).drop i = fL x :: r.map fL := by rw [← List.map_drop, h]; rfl
    obtain ⟨e2, g2, h2⟩ := gtCons hd
    have hln : ln (L.map fL) = ln L := by simp [ln]
    have hne : (ln L != 0) = true := by have := g1.2; have := g1.1; simp; omega
    have hle : decide (ln L ≤ (i : Int)) = false := by have := g1.2; simp; omega
    have e3 : (fL x).Label = (asR43 (cutM (sbl x)).1).Label := rfl
    have e4 : (fL x).Op = (asR43 (cutM (sbl x)).1).Op := rfl
    have e5 : (fL x).Arg = (asR43 (cutM (sbl x)).1).Arg := rfl
    rw [spinetlaw43_LexerAll_l0, if_pos (decide_eq_true g1.2), if_pos g1, e1, refCut_is (hL x (mem_drop h)), Option.bind_some, ho1, if_neg (by simp)]
    simp only [hln, hne, hle, e2, e3, e4, e5, baSelf, Bool.not_false, Bool.and_self, Bool.and_true, Bool.not_true, Bool.or_self, Bool.and_false]
    rw [if_pos (fun _ => g1), if_neg (by simp), wrapS (by omega), law_go r k (i + 1) h1 (by simp only [List.length_cons] at hk; omega) (fun y hy => ho y (by simp [hy]))]
theorem law_err {x : ByteArray} {b : List ByteArray} (hx : okL x = false) {n : Int} : ∀ (r : List ByteArray) (k i : Nat), L.drop i = r ++ x :: b → r.length + 1 < k → (∀ x ∈ r, okL x = true) → n = ((i + r.length + 1 : Nat) : Int) → spinetlaw43_LexerAll_l0 ([], n, 40) L k (i : Int) = some (.ret true)
  | _, 0, _, _, hk, _, _ => by omega
  | [], k + 1, i, h, _, _, hn => by
    obtain ⟨e1, g1, h1⟩ := gtCons (show L.drop i = x :: b from h)
    have hi := (dropAt (show L.drop i = x :: b from h)).2.2
    have ho1 : (cutM (sbl x)).2 = 40 := by
      rcases cutM_err (sbl x) with h | h
      · unfold okL at hx; rw [h] at hx; simp at hx
      · rw [h]
    have hw : IntKind.wrap .i64 ((i : Int) + 1) = ((i + 1 : Nat) : Int) := wrapS (by omega)
    subst hn
    rw [spinetlaw43_LexerAll_l0, if_pos (decide_eq_true g1.2), if_pos g1, e1, refCut_is (hL x (mem_drop (show L.drop i = x :: b from h))), Option.bind_some, ho1, if_pos (by rfl), hw]
    have hz : ln ([] : List lexer_Line) = 0 := rfl
    simp only [hz, List.length_nil, Nat.add_zero, beq_self_eq_true, Bool.and_self, if_true, alive43, Option.bind_some]
  | y :: r, k + 1, i, h, hk, ho, hn => by
    obtain ⟨e1, g1, h1⟩ := gtCons (show L.drop i = y :: (r ++ x :: b) from h)
    have hi := (dropAt (show L.drop i = y :: (r ++ x :: b) from h)).2.2
    have ho1 : (cutM (sbl y)).2 = 0 := by have := ho y (by simp); unfold okL at this; simpa using this
    have hz : ln ([] : List lexer_Line) = 0 := rfl
    have h00 : ((0 : Int) != 0) = false := rfl
    have ih := law_err hx (n := n) r k (i + 1) h1 (by simp only [List.length_cons] at hk; omega) (fun y hy => ho y (by simp [hy])) (by rw [hn]; simp only [List.length_cons]; omega)
    rw [spinetlaw43_LexerAll_l0, if_pos (decide_eq_true g1.2), if_pos g1, e1, refCut_is (hL y (mem_drop (show L.drop i = y :: (r ++ x :: b) from h))), Option.bind_some, ho1, if_neg (by simp)]
    simp only [hz, h00, Bool.and_false, Bool.false_and, Bool.false_eq_true, false_implies, if_true, if_false]
    rw [wrapS (by omega), ih]
end

theorem ok_split : ∀ (L : List ByteArray), (∀ x ∈ L, okL x = true) ∨ ∃ r x b, L = r ++ x :: b ∧ okL x = false ∧ ∀ y ∈ r, okL y = true
  | [] => .inl (by simp)
  | y :: L => by
    cases hy : okL y with
    | false => exact .inr ⟨[], y, L, rfl, hy, by simp⟩
    | true =>
      rcases ok_split L with h | ⟨r, x, b, h1, h2, h3⟩
      · exact .inl fun x hx => by
          rcases List.mem_cons.1 hx with h' | h'
          · rw [h']; exact hy
          · exact h x h'
      · exact .inr ⟨y :: r, x, b, by rw [h1]; rfl, h2, fun z hz => by
          rcases List.mem_cons.1 hz with h' | h'
          · rw [h']; exact hy
          · exact h3 z h'⟩

theorem lexerAll_true (s : ByteArray) : spinetlaw43_LexerAll s = some true := by
  unfold spinetlaw43_LexerAll
  by_cases h6 : 600 < sln s
  · rw [if_pos (decide_eq_true h6)]
  rw [if_neg (fun h => h6 (of_decide_eq_true h))]
  have hz : s.size ≤ 600 := by unfold sln at h6; omega
  have hs : s.size < 100000 := by omega
  have h10 : (((10 : UInt8).toNat : Nat) : Int) = 10 := rfl
  have hsp : strings_Split s (⟨#[10]⟩ : ByteArray) = some ((cutAt 10 (sbl s)).map bs) := by
    rw [show (⟨#[10]⟩ : ByteArray) = s1 10 from rfl, split_is s 10 (by omega)]
    unfold pieces
    rw [h10]
  unfold lexer_All spinetref43_Lines
  rw [hsp, spinetref43_LinesP_is hs]
  have hN : ((cutAt 10 (sbl s)).map bs).length < 100000 := by
    rw [List.length_map]
    have := cut_len_le 10 (sbl s)
    rw [sbl_len] at this
    omega
  have hL : ∀ x ∈ (cutAt 10 (sbl s)).map bs, x.size < 100000 := fun x hx => by
    obtain ⟨p, hp, rfl⟩ := List.mem_map.1 hx
    have := cut_mem_le 10 (sbl s) p hp
    rw [sbl_len] at this
    rw [bs_size]; omega
  generalize (cutAt 10 (sbl s)).map bs = L at *
  rw [Option.bind_some]
  have hB : L.length < BIG := by unfold BIG; omega
  rcases ok_split L with h | ⟨r, x, b, h1, h2, h3⟩
  · have h0 := all_go hL hN L BIG 0 [] rfl hB h rfl
    have h9 := law_go hL hN L BIG 0 rfl hB h
    rw [show (((0 : Nat) : Int)) = 0 from rfl] at h0 h9
    rw [h0]
    simp only [List.nil_append, Option.bind_some]
    rw [h9]
    have hln : ln (L.map fL) = ln L := by simp [ln]
    simp only [hln, beq_self_eq_true, Bool.and_self, if_true, alive43, Option.bind_some]
  · have hlen : L.length = r.length + (b.length + 1) := by rw [h1]; simp
    have h0 := all_err hL hN h2 r BIG 0 [] (by rw [List.drop_zero]; exact h1) (by omega) h3 rfl
    have h9 := law_err hL hN h2 (n := ((0 + r.length + 1 : Nat) : Int)) r BIG 0 (by rw [List.drop_zero]; exact h1) (by omega) h3 rfl
    rw [show (((0 : Nat) : Int)) = 0 from rfl] at h0 h9
    rw [h0]
    simp only [Option.bind_some]
    rw [h9]
    rfl
end Go.Proofs.YthooddibdmigmaaDoorK
