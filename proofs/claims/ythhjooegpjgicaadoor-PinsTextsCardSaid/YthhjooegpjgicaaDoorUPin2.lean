/- The law PinsReads: the pieces, and the law. -/
import Derived.Test.YthhjooegpjgicaaDoorUPin
namespace Go.Proofs.YthhjooegpjgicaaDoorK
set_option linter.unusedVariables false
set_option linter.unusedSimpArgs false
set_option maxHeartbeats 4000000
open Go.RowKit
attribute [local irreducible] dwv mops lops lqops lwops kont iter run runK rk okK ex E1 vals val chain chB sel resF

theorem cut_spec (s : ByteArray) (c : UInt8) (hs : s.size < 100000) : ((c.toNat : Int) ∉ sbl s ∧ strings_Cut s (s1 c) = some (s, ⟨#[]⟩, false)) ∨
    ∃ A B, sbl s = A ++ (c.toNat : Int) :: B ∧ (c.toNat : Int) ∉ A ∧ strings_Cut s (s1 c) = some (bs A, bs B, true) := by
  have hix : internal_stringslite_Index s (s1 c) = some (ixB s.data.toList c) := rfl
  rcases ixB_spec c s.data.toList with ⟨h1, h2⟩ | ⟨a, b, h1, h2, h3⟩
  · refine .inl ⟨by unfold sbl; exact notin_map h1, ?_⟩
    unfold strings_Cut internal_stringslite_Cut
    rw [hix, h2]; rfl
  · have hsz : s.size = a.length + (b.length + 1) := by rw [← data_size, h1]; simp
    refine .inr ⟨_, _, sbl_data h1, notin_map h2, ?_⟩
    unfold strings_Cut internal_stringslite_Cut
    rw [hix, h3, Option.bind_some, if_pos (by simp), if_pos ⟨by omega, by unfold sln; omega⟩, s1_size]
    have w : IntKind.wrap .i64 ((a.length : Int) + 1) = ((a.length + 1 : Nat) : Int) := wrapS (by omega)
    rw [w, if_pos ⟨by omega, by unfold sln; omega⟩, Int.toNat_natCast, Int.toNat_natCast, ext_pre h1, ext_post h1, bs_map, bs_map]
    rfl

def ne42 (c : Int) : Bool := c != 42
theorem tw_app {p : Int → Bool} {y : Int} (R : List Int) (hy : p y = false) : ∀ {A : List Int}, (∀ x ∈ A, p x = true) → (A ++ y :: R).takeWhile p = A
  | [], _ => by simp [List.takeWhile_cons, hy]
  | x :: A, h => by
    have hx := h x (by simp)
    have e1 := tw_app R hy (A := A) fun z hz => h z (by simp [hz])
    simp [List.takeWhile_cons, hx, e1]
theorem tw_all' {p : Int → Bool} : ∀ {A : List Int}, (∀ x ∈ A, p x = true) → A.takeWhile p = A
  | [], _ => rfl
  | x :: A, h => by
    have hx := h x (by simp)
    have e1 := tw_all' (A := A) fun z hz => h z (by simp [hz])
    simp [List.takeWhile_cons, hx, e1]
theorem l5_is {x : ByteArray} (hs : x.size < 100000) : ∀ (r : List Int) (k i : Nat), (sbl x).drop i = r → r.length < k → ∃ a b c, spinetref31_Parse_l5 x k (i : Int) = some (((i + (r.takeWhile ne42).length : Nat) : Int), ((i + (r.takeWhile ne42).length : Nat) : Int), a, b, c)
  | _, 0, _, _, hk => by omega
  | [], k + 1, i, h, _ => by
    have hn := btNil h
    rw [spinetref31_Parse_l5, if_pos (fun e => absurd (of_decide_eq_true e) hn), if_neg (by simp [hn])]
    exact ⟨_, _, _, rfl⟩
  | y :: r, k + 1, i, h, hk => by
    obtain ⟨e1, g1, r1, h1⟩ := btCons h
    have hi : i < 100000 := by have := g1.2; unfold sln at this; omega
    rw [spinetref31_Parse_l5, if_pos (fun _ => g1), e1]
    cases hx : (y != 42) with
    | true =>
      have hp : ne42 y = true := hx
      obtain ⟨a, b, c, ih⟩ := l5_is hs r k (i + 1) h1 (by simp only [List.length_cons] at hk; omega)
      refine ⟨a, b, c, ?_⟩
      rw [if_pos (by rw [decide_eq_true g1.2]; rfl), wrapS (by omega), ih]
      simp only [List.takeWhile_cons, hp, if_true, List.length_cons]
      rw [show i + 1 + (r.takeWhile ne42).length = i + ((r.takeWhile ne42).length + 1) by omega]
    | false =>
      have hp : ne42 y = false := hx
      rw [if_neg (by simp)]
      simp only [List.takeWhile_cons, hp]
      exact ⟨_, _, _, rfl⟩

theorem rep3 (r : api_Pins × Int × Int) : ∀ (j k t : Nat) (l : List api_Pins), ((t + j : Nat) : Int) = r.2.1 → j < k → t + j < 10000 → l.length + j < 100000 → ∃ a b, pins_Parse_l3 r k l (t : Int) = some (l ++ List.replicate j r.1, a, b)
  | _, 0, _, _, _, hk, _, _ => by omega
  | 0, k + 1, t, l, h, _, _, _ => by
    rw [pins_Parse_l3, if_neg (fun e => by have := of_decide_eq_true e; omega)]
    exact ⟨(t : Int), decide ((t : Int) < r.2.1), by simp⟩
  | j + 1, k + 1, t, l, h, hk, h1, h2 => by
    obtain ⟨a, b, ih⟩ := rep3 r j k (t + 1) (l ++ [r.1]) (by rw [← h]; congr 1; omega) (by omega) (by omega) (by simp; omega)
    refine ⟨a, b, ?_⟩
    rw [pins_Parse_l3, if_pos (decide_eq_true (by omega)), if_pos (by simp only [List.length_cons, List.length_nil]; omega), wrapS (by omega), ih, List.replicate_succ]
    simp
theorem rep6 (r : api_Pins × Bool) (n : Int) : ∀ (j k t : Nat) (l : List api_Pins), ((t + j : Nat) : Int) = n → j < k → t + j < 10000 → l.length + j < 100000 → ∃ a b c, spinetref31_Parse_l6 r n k l (t : Int) = some (l ++ List.replicate j r.1, a, b, c)
  | _, 0, _, _, _, hk, _, _ => by omega
  | 0, k + 1, t, l, h, _, _, _ => by
    rw [spinetref31_Parse_l6, if_neg (fun e => by have := of_decide_eq_true e; omega)]
    exact ⟨(t : Int), (t : Int), decide ((t : Int) < n), by simp⟩
  | j + 1, k + 1, t, l, h, hk, h1, h2 => by
    obtain ⟨a, b, c, ih⟩ := rep6 r n j k (t + 1) (l ++ [r.1]) (by rw [← h]; congr 1; omega) (by omega) (by omega) (by simp; omega)
    refine ⟨a, b, c, ?_⟩
    rw [spinetref31_Parse_l6, if_pos (decide_eq_true (by omega)), if_pos (by simp only [List.length_cons, List.length_nil]; omega), wrapS (by omega), ih, List.replicate_succ]
    simp

/-- What a word does to the list. -/
def stW (p : api_Pins) (ok : Bool) (n : Int) (l : List api_Pins) : Out (List api_Pins × Int) (List api_Pins) :=
  if ok = false then .ret ([], 21) else if n = 0 then .ret ([], 10) else if 4096 - (l.length : Int) < n then .ret ([], 12) else .go (l ++ List.replicate n.toNat p)
def pieceW (p : api_Pins) (ok : Bool) (n : Int) : api_Pins × Int × Int := if ok = false then (zeroPins, 0, 21) else if n = 0 then (zeroPins, 0, 10) else (p, n, 0)
abbrev Rec := List api_Pins → ByteArray → Int → Option (Out (List api_Pins × Int) (List api_Pins))
def goOn (rec : Rec) (i : Int) : Out (List api_Pins × Int) (List api_Pins) → Option (Out (List api_Pins × Int) (List api_Pins))
  | .ret e => some (.ret e)
  | .go l => rec l ⟨#[]⟩ (IntKind.wrap .i64 (i + 1))

theorem pj0_is (rec : Rec) (l : List api_Pins) (i : Int) (r : api_Pins × Bool) (ok : Bool) (n : Int) (hn : 0 ≤ n ∧ n ≤ 4097) (hl : l.length ≤ 4096) : spinetref31_Parse_j0 rec l i r ok n = goOn rec i (stW r.1 ok n l) := by
  unfold spinetref31_Parse_j0 stW
  cases ok with
  | false => rfl
  | true =>
    rw [if_neg (show ¬ (!true) = true by simp), if_neg (show ¬ (true = false) by simp)]
    by_cases hz : n = 0
    · rw [if_pos (by simpa using hz), if_pos hz]; rfl
    rw [if_neg (by simpa using hz), if_neg hz]
    have hw : IntKind.wrap .i64 (4096 - ln l) = 4096 - (l.length : Int) := by
      unfold ln
      exact wrap_i64 (by omega) (by omega)
    rw [hw]
    by_cases hc : 4096 - (l.length : Int) < n
    · rw [if_pos (decide_eq_true hc), if_pos hc]; rfl
    rw [if_neg (fun h => hc (of_decide_eq_true h)), if_neg hc]
    obtain ⟨a, b, c, h⟩ := rep6 r n n.toNat BIG 0 l (by omega) (by unfold BIG; omega) (by omega) (by omega)
    rw [show (((0 : Nat) : Int)) = 0 from rfl] at h
    rw [h]; rfl

theorem word_both (x : ByteArray) (hx : x.size < 1000) : ∃ p ok n, 0 ≤ n ∧ n ≤ 4097 ∧ pins_piece x = some (pieceW p ok n) ∧
    ∀ (rec : Rec) (l : List api_Pins) (i : Int), l.length ≤ 4096 →
      (if 0 ≤ ((((sbl x).takeWhile ne42).length : Nat) : Int) ∧ ((((sbl x).takeWhile ne42).length : Nat) : Int) ≤ (sln x) then
          (spinetref31_One (x.extract 0 ((((sbl x).takeWhile ne42).length : Nat) : Int).toNat)).bind fun r_4 =>
          if (decide (((((sbl x).takeWhile ne42).length : Nat) : Int) < (sln x))) = true then
            if 0 ≤ ((IntKind.wrap .i64 (((((sbl x).takeWhile ne42).length : Nat) : Int) + 1)) : Int) ∧ (IntKind.wrap .i64 (((((sbl x).takeWhile ne42).length : Nat) : Int) + 1)) ≤ (sln x) then
            (spinetref31_count (x.extract ((IntKind.wrap .i64 (((((sbl x).takeWhile ne42).length : Nat) : Int) + 1)) : Int).toNat x.size)).bind fun r_5 =>
            spinetref31_Parse_j0 rec l i r_4 (r_4.2 && r_5.2) r_5.1
            else none
          else
            spinetref31_Parse_j0 rec l i r_4 r_4.2 (1)
          else none) = goOn rec i (stW p ok n l) := by
  have hN : ∀ A : List Int, ((42 : UInt8).toNat : Int) ∉ A → ∀ x ∈ A, ne42 x = true := fun A hA x hx => by
    have : x ≠ 42 := fun e => hA (by subst e; exact hx)
    simp [ne42, this]
  have hsl : sln x = (x.size : Int) := rfl
  unfold pins_piece
  rw [show (⟨#[42]⟩ : ByteArray) = s1 42 from rfl]
  rcases cut_spec x 42 (by omega) with ⟨h1, h2⟩ | ⟨A, B, h1, h2, h3⟩
  · have e : (sbl x).takeWhile ne42 = sbl x := tw_all' (hN _ h1)
    have ee : x.extract 0 x.size = x := by
      apply sbl_inj
      rw [sbl_extract, List.drop_zero, List.take_of_length_le]
      rw [sbl_len]; omega
    refine ⟨(oneM x).1, (oneM x).2, 1, by omega, by omega, ?_, ?_⟩
    · rw [h2, Option.bind_some, one_is, Option.bind_some]
      unfold pieceW
      simp only
      cases (oneM x).2 <;> rfl
    · intro rec l i hl
      rw [e, sbl_len, if_pos ⟨by omega, by omega⟩, Int.toNat_natCast, ee, rone_is, Option.bind_some, if_neg (by simp; omega), pj0_is rec l i _ _ _ (by omega) hl]
  · have e : (sbl x).takeWhile ne42 = A := by rw [h1]; exact tw_app B (by decide) (hN _ h2)
    have hlen : x.size = A.length + (B.length + 1) := by rw [← sbl_len, h1]; simp
    have hB := fun y (hy : y ∈ sbl x) => sblRange hy
    have eA : x.extract 0 A.length = bs A := by
      apply sbl_inj
      rw [sbl_extract, h1, sbl_bs (fun y hy => hB y (by rw [h1]; simp [hy]))]
      simp
    have eB : x.extract (A.length + 1) x.size = bs B := by
      apply sbl_inj
      rw [sbl_extract, h1, sbl_bs (fun y hy => hB y (by rw [h1]; simp [hy])), hlen]
      rw [show A ++ ((42 : UInt8).toNat : Int) :: B = (A ++ [((42 : UInt8).toNat : Int)]) ++ B by simp, List.drop_left' (by simp), List.take_of_length_le (by omega)]
    obtain ⟨n, ok, n0, n1, c1, c2⟩ := pcount_is (bs B) (by rw [bs_size]; omega)
    refine ⟨(oneM (bs A)).1, (oneM (bs A)).2 && ok, n, n0, n1, ?_, ?_⟩
    · rw [h3, Option.bind_some, one_is, Option.bind_some, c1]
      unfold pieceW
      simp only [Option.bind_some]
      cases (oneM (bs A)).2 <;> cases ok
      · rfl
      · rfl
      · rfl
      · by_cases hz : n = 0
        · subst hz; rfl
        · have hz' : (n == 0) = false := by simpa using hz
          simp [hz']
          exact hz
    · intro rec l i hl
      have w : IntKind.wrap .i64 ((A.length : Int) + 1) = ((A.length + 1 : Nat) : Int) := wrapS (by omega)
      rw [e, w, if_pos ⟨by omega, by omega⟩, Int.toNat_natCast, Int.toNat_natCast, eA, eB, rone_is, Option.bind_some, if_pos (by simp; omega), if_pos ⟨by omega, by omega⟩, c2, Option.bind_some, pj0_is rec l i _ _ _ ⟨n0, n1⟩ hl]
end Go.Proofs.YthhjooegpjgicaaDoorK
