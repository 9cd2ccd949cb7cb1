/- The law PinsReads. -/
import Derived.Test.YthhjooegpjgicaaDoorUPin2
namespace Go.Proofs.YthhjooegpjgicaaDoorK
set_option linter.unusedVariables false
set_option linter.unusedSimpArgs false
set_option maxHeartbeats 4000000
open Go.RowKit
attribute [local irreducible] dwv mops lops lqops lwops kont iter run runK rk okK ex E1 vals val chain chB sel resF

/-- A word's pins, whether it is well formed, its count. -/
def pcP (x : ByteArray) : api_Pins × Int × Int := (pins_piece x).getD (zeroPins, 0, 0)
def stP (l : List api_Pins) (x : ByteArray) : Out (List api_Pins × Int) (List api_Pins) :=
  if (pcP x).2.2 ≠ 0 then .ret ([], (pcP x).2.2) else if 4096 - (l.length : Int) < (pcP x).2.1 then .ret ([], 12) else .go (l ++ List.replicate (pcP x).2.1.toNat (pcP x).1)
def foP : List api_Pins → List ByteArray → Out (List api_Pins × Int) (List api_Pins)
  | l, [] => .go l
  | l, x :: r => if (x.toList == (⟨#[]⟩ : ByteArray).toList) = true then foP l r else match stP l x with | .ret e => .ret e | .go l' => foP l' r

theorem stP_is {x : ByteArray} {p : api_Pins} {ok : Bool} {n : Int} (h : pins_piece x = some (pieceW p ok n)) (l : List api_Pins) : stP l x = stW p ok n l := by
  unfold stP stW pcP
  rw [h]
  unfold pieceW
  cases ok with
  | false => rfl
  | true =>
    by_cases hz : n = 0
    · subst hz; rfl
    · simp only [Option.getD_some, if_neg hz]
      rw [if_neg (show ¬ (true = false) by simp), if_neg (show ¬ (true = false) by simp)]
      simp
theorem stW_go {p : api_Pins} {ok : Bool} {n : Int} {l l' : List api_Pins} (h : stW p ok n l = .go l') (hn : 0 ≤ n) (hl : l.length ≤ 4096) : l'.length ≤ 4096 := by
  unfold stW at h
  split at h
  · cases h
  split at h
  · cases h
  split at h
  · cases h
  · cases h
    simp only [List.length_append, List.length_replicate]
    omega
theorem stW_ret {p : api_Pins} {ok : Bool} {n : Int} {l : List api_Pins} {e : List api_Pins × Int} (h : stW p ok n l = .ret e) : e.1 = [] := by
  unfold stW at h
  split at h
  · cases h; rfl
  split at h
  · cases h; rfl
  split at h
  · cases h; rfl
  · cases h

theorem foP_len : ∀ (L : List ByteArray) (l : List api_Pins), (∀ x ∈ L, x.size < 1000) → l.length ≤ 4096 → (∃ l', foP l L = .go l' ∧ l'.length ≤ 4096) ∨ ∃ e, foP l L = .ret ([], e)
  | [], l, _, hl => .inl ⟨l, rfl, hl⟩
  | x :: r, l, hL, hl => by
    rw [foP]
    by_cases he : (x.toList == (⟨#[]⟩ : ByteArray).toList) = true
    · rw [if_pos he]; exact foP_len r l (fun y hy => hL y (by simp [hy])) hl
    rw [if_neg he]
    obtain ⟨p, ok, n, n0, n1, h1, _⟩ := word_both x (hL x (by simp))
    rw [stP_is h1]
    cases hs : stW p ok n l with
    | ret e => exact .inr ⟨e.2, by simp only; rw [← stW_ret hs]⟩
    | go l' => exact foP_len r l' (fun y hy => hL y (by simp [hy])) (stW_go hs n0 hl)

theorem p_l2 {L : List ByteArray} (hL : ∀ x ∈ L, x.size < 1000) (hN : L.length < 100000) : ∀ (r : List ByteArray) (k i : Nat) (l : List api_Pins), L.drop i = r → r.length < k → l.length ≤ 4096 → pins_Parse_l2 L k l (i : Int) = some (foP l r)
  | _, 0, _, _, _, hk, _ => by omega
  | [], k + 1, i, l, h, _, _ => by
    rw [pins_Parse_l2, if_neg (fun e => gtNil h (of_decide_eq_true e))]; rfl
  | x :: r, k + 1, i, l, h, hk, hl => by
    obtain ⟨e1, g1, h1⟩ := gtCons h
    have hi := (dropAt h).2.2
    have hx := hL x (List.mem_of_mem_drop (i := i) (by rw [h]; simp))
    rw [pins_Parse_l2, if_pos (decide_eq_true g1.2), if_pos g1, e1, wrapS (by omega)]
    have ih := fun l' hl' => p_l2 hL hN r k (i + 1) l' h1 (by simp only [List.length_cons] at hk; omega) hl'
    rw [foP]
    by_cases he : (x.toList == (⟨#[]⟩ : ByteArray).toList) = true
    · rw [if_pos he, if_pos he]; exact ih l hl
    rw [if_neg he, if_neg he]
    obtain ⟨p, ok, n, n0, n1, h2, _⟩ := word_both x hx
    rw [h2, Option.bind_some, stP_is h2]
    have hw : IntKind.wrap .i64 (4096 - ln l) = 4096 - (l.length : Int) := by
      unfold ln
      exact wrap_i64 (by omega) (by omega)
    rw [hw]
    unfold stW pieceW
    cases ok with
    | false => rfl
    | true =>
      by_cases hz : n = 0
      · subst hz; rfl
      · simp only [if_neg hz, Bool.true_eq_false, if_false]
        by_cases hc : 4096 - (l.length : Int) < n
        · rw [if_neg (by decide), if_pos (decide_eq_true hc), if_pos hc]
        · obtain ⟨a, b, h3⟩ := rep3 (p, n, 0) n.toNat BIG 0 l (by show ((0 + n.toNat : Nat) : Int) = n; omega) (by unfold BIG; omega) (by omega) (by omega)
          rw [show (((0 : Nat) : Int)) = 0 from rfl] at h3
          rw [if_neg (by decide), if_neg (fun h => hc (of_decide_eq_true h)), if_neg hc, h3, Option.bind_some]
          exact ih _ (by simp only [List.length_append, List.length_replicate]; omega)

theorem r_l4 {s : ByteArray} (hs : s.size < 900) : ∀ (r : List Int) (k i : Nat) (l : List api_Pins) (w : List Int), (sbl (s ++ (⟨#[32]⟩ : ByteArray))).drop i = r ++ [32] → r.length + 1 < k → l.length ≤ 4096 → w.length ≤ i → (∀ x ∈ w, 0 ≤ x ∧ x < 256) →
    spinetref31_Parse_l4 s k l (bs w) (i : Int) = some (match cutAt 32 r with | [] => .go l | p :: q => foP l (bs (w ++ p) :: q.map bs)) := by
  have hsz : (s ++ (⟨#[32]⟩ : ByteArray)).size < 1000 := by rw [← sbl_len, sbl_app, List.length_append, sbl_len]; show s.size + 1 < 1000; omega
  -- what the word at hand does
  have wordE : ∀ (k i : Nat) (l : List api_Pins) (w : List Int) (r : List Int), (sbl (s ++ (⟨#[32]⟩ : ByteArray))).drop i = 32 :: r → l.length ≤ 4096 → w.length ≤ i →
      spinetref31_Parse_l4 s (k + 1) l (bs w) (i : Int) = if ((bs w).toList == (⟨#[]⟩ : ByteArray).toList) = true then spinetref31_Parse_l4 s k l (bs []) ((i + 1 : Nat) : Int) else match stP l (bs w) with | .ret e => some (.ret e) | .go l' => spinetref31_Parse_l4 s k l' (bs []) ((i + 1 : Nat) : Int) := by
    intro k i l w r h hl hw
    obtain ⟨e1, g1, r1, h1⟩ := btCons h
    have hi : i < 1000 := by have := g1.2; unfold sln at this; omega
    rw [spinetref31_Parse_l4, if_pos (decide_eq_true g1.2), if_pos g1, e1, if_neg (by simp), wrapS (by omega)]
    by_cases he : ((bs w).toList == (⟨#[]⟩ : ByteArray).toList) = true
    · rw [if_pos he, if_pos he, toList_eq he]; rfl
    rw [if_neg he, if_neg he]
    have hb : (bs w).size < 1000 := by rw [bs_size]; omega
    obtain ⟨a, b, c, h5⟩ := l5_is (x := bs w) (by omega) (sbl (bs w)) BIG 0 rfl (by rw [sbl_len]; unfold BIG; omega)
    rw [show (((0 : Nat) : Int)) = 0 from rfl, Nat.zero_add] at h5
    obtain ⟨p, ok, n, n0, n1, h2, h3⟩ := word_both (bs w) hb
    rw [h5, Option.bind_some]
    have h4 := h3 (spinetref31_Parse_l4 s k) l (i : Int) hl
    refine h4.trans ?_
    rw [stP_is h2]
    unfold goOn
    cases stW p ok n l with
    | ret e => rfl
    | go l' => simp only; rw [wrapS (by omega)]; rfl
  intro r
  induction r with
  | nil =>
    intro k i l w h hk hl hw hB
    obtain ⟨k, rfl⟩ : ∃ j, k = j + 2 := ⟨k - 2, by simp only [List.length_nil] at hk; omega⟩
    rw [wordE (k + 1) i l w [] h hl hw]
    have h1 : (sbl (s ++ (⟨#[32]⟩ : ByteArray))).drop (i + 1) = [] := (btCons (show _ = 32 :: [] from h)).2.2.2
    have hend : ∀ l', spinetref31_Parse_l4 s (k + 1) l' (bs []) ((i + 1 : Nat) : Int) = some (.go l') := fun l' => by
      rw [spinetref31_Parse_l4, if_neg (fun e => btNil h1 (of_decide_eq_true e))]
    simp only [hend, cutAt, List.append_nil, List.map_nil, foP]
    by_cases he : ((bs w).toList == (⟨#[]⟩ : ByteArray).toList) = true
    · rw [if_pos he, if_pos he]
    rw [if_neg he, if_neg he]
    cases stP l (bs w) <;> rfl
  | cons x r ih =>
    intro k i l w h hk hl hw hB
    obtain ⟨e1, g1, r1, h1⟩ := btCons (show _ = x :: (r ++ [32]) from h)
    have hi : i < 1000 := by have := g1.2; unfold sln at this; omega
    obtain ⟨k, rfl⟩ : ∃ j, k = j + 1 := ⟨k - 1, by omega⟩
    have hk' : r.length + 1 < k := by simp only [List.length_cons] at hk; omega
    have hne := cutAt_ne 32 r
    by_cases hc : x = 32
    · subst hc
      rw [wordE k i l w (r ++ [32]) (show _ = 32 :: (r ++ [32]) from h) hl hw]
      have ih2 := fun l' hl' => ih k (i + 1) l' [] h1 hk' hl' (by simp) (by simp)
      rw [cutAt, if_pos rfl]
      simp only [List.append_nil, foP]
      cases hq : cutAt 32 r with
      | nil => exact absurd hq hne
      | cons p q =>
        rw [hq] at ih2
        simp only [List.nil_append] at ih2
        simp only [List.map_cons]
        by_cases he : ((bs w).toList == (⟨#[]⟩ : ByteArray).toList) = true
        · rw [if_pos he, if_pos he, ih2 l hl]
        rw [if_neg he, if_neg he]
        have hb : (bs w).size < 1000 := by rw [bs_size]; omega
        obtain ⟨p', ok, n, n0, n1, h2, _⟩ := word_both (bs w) hb
        rw [stP_is h2]
        cases hs' : stW p' ok n l with
        | ret e => rfl
        | go l' => simp only; rw [ih2 l' (stW_go hs' n0 hl)]
    · have hx : (s ++ (⟨#[32]⟩ : ByteArray)).extract i (i + 1) = bs [x] := by
        apply sbl_inj
        rw [sbl_extract, h, sbl_bs (by intro y hy; simp at hy; subst hy; exact r1)]
        simp
      have hsz2 : (((bs w).size + (bs [x]).size : Nat) : Int) ≤ 9223372036854775807 := by rw [bs_size, bs_size]; simp only [List.length_cons, List.length_nil]; omega
      have w2 : IntKind.wrap .i64 ((i : Int) + 1) = ((i + 1 : Nat) : Int) := wrapS (by omega)
      rw [spinetref31_Parse_l4, if_pos (decide_eq_true g1.2), if_pos g1, e1, if_pos (by simpa using hc), w2, if_pos ⟨g1.1, by omega, by have := g1.2; omega⟩, Int.toNat_natCast, Int.toNat_natCast, hx, if_pos hsz2, ← bs_app]
      rw [ih k (i + 1) l (w ++ [x]) h1 hk' hl (by simp; omega) (by
        intro y hy
        rcases List.mem_append.1 hy with hy | hy
        · exact hB y hy
        · simp at hy; subst hy; exact r1)]
      rw [cutAt, if_neg hc]
      cases hq : cutAt 32 r with
      | nil => exact absurd hq hne
      | cons p q => simp

theorem eqP_l0 (l : List api_Pins) (hl : l.length < 2 ^ 40) : ∀ (r : List api_Pins) (k i : Nat), l.drop i = r → r.length < k → slices_Equal_sl_api_Pins_api_Pins_l0 l l k (i : Int) = some (.go ())
  | _, 0, _, _, hk => by omega
  | [], k + 1, i, h, _ => by
    rw [slices_Equal_sl_api_Pins_api_Pins_l0, if_neg (fun e => gtNil h (of_decide_eq_true e))]
  | x :: r, k + 1, i, h, hk => by
    obtain ⟨e1, g1, h1⟩ := gtCons h
    have hi := (dropAt h).2.2
    rw [slices_Equal_sl_api_Pins_api_Pins_l0, if_pos (decide_eq_true g1.2), if_pos g1, if_pos g1, if_neg (by simp), wrapS (by omega), eqP_l0 l hl r k (i + 1) h1 (by simp only [List.length_cons] at hk; omega)]
theorem eqP_refl (l : List api_Pins) (hl : l.length < 2 ^ 40) : slices_Equal_sl_api_Pins_api_Pins l l = some true := by
  unfold slices_Equal_sl_api_Pins_api_Pins
  rw [if_neg (by simp)]
  have := eqP_l0 l hl l BIG 0 rfl (by unfold BIG; omega)
  rw [show (((0 : Nat) : Int)) = 0 from rfl] at this
  rw [this]; rfl

theorem cut_mem_le (c : Int) : ∀ (l : List Int) (p : List Int), p ∈ cutAt c l → p.length ≤ l.length
  | [], p, h => by simp [cutAt] at h; subst h; simp
  | x :: r, p, h => by
    rw [cutAt] at h
    by_cases hc : x = c
    · rw [if_pos hc] at h
      rcases List.mem_cons.1 h with h | h
      · subst h; simp
      · have := cut_mem_le c r p h; simp only [List.length_cons]; omega
    · rw [if_neg hc] at h
      have hne := cutAt_ne c r
      cases hq : cutAt c r with
      | nil => exact absurd hq hne
      | cons y q =>
        rw [hq] at h
        rcases List.mem_cons.1 h with h | h
        · subst h
          have := cut_mem_le c r y (by rw [hq]; simp)
          simp only [List.length_cons]; omega
        · have := cut_mem_le c r p (by rw [hq]; simp [h])
          simp only [List.length_cons]; omega
theorem cut_len_le (c : Int) (l : List Int) : (cutAt c l).length ≤ l.length + 1 := by rw [cutAt_count]; have := List.count_le_length (a := c) (l := l); omega

theorem parse_both (s : ByteArray) (hz : s.size ≤ 200) : ∃ l e, l.length ≤ 4096 ∧ pins_Parse s = some (l, e) ∧ spinetref31_Parse s = some (l, e) := by
  have h32 : (((32 : UInt8).toNat : Nat) : Int) = 32 := rfl
  have hsp : strings_Split s (⟨#[32]⟩ : ByteArray) = some ((cutAt 32 (sbl s)).map bs) := by
    rw [show (⟨#[32]⟩ : ByteArray) = s1 32 from rfl, split_is s 32 (by omega)]
    unfold pieces
    rw [h32]
  have hN : ((cutAt 32 (sbl s)).map bs).length < 1000 := by
    rw [List.length_map]
    have := cut_len_le 32 (sbl s)
    rw [sbl_len] at this
    omega
  have hL : ∀ x ∈ (cutAt 32 (sbl s)).map bs, x.size < 1000 := fun x hx => by
    obtain ⟨p, hp, rfl⟩ := List.mem_map.1 hx
    have := cut_mem_le 32 (sbl s) p hp
    rw [sbl_len] at this
    rw [bs_size]; omega
  have h2 := p_l2 hL (by omega) ((cutAt 32 (sbl s)).map bs) BIG 0 [] rfl (by unfold BIG; omega) (by simp)
  have hS : (sbl (s ++ (⟨#[32]⟩ : ByteArray))).drop 0 = sbl s ++ [32] := by rw [List.drop_zero, sbl_app]; rfl
  have h4 := r_l4 (s := s) (by omega) (sbl s) BIG 0 [] [] hS (by rw [sbl_len]; unfold BIG; omega) (by simp) (by simp) (by simp)
  rw [show (((0 : Nat) : Int)) = 0 from rfl] at h2 h4
  have hne := cutAt_ne 32 (sbl s)
  have e : (match cutAt 32 (sbl s) with | [] => .go [] | p :: q => foP [] (bs ([] ++ p) :: q.map bs)) = foP [] ((cutAt 32 (sbl s)).map bs) := by
    cases hq : cutAt 32 (sbl s) with
    | nil => exact absurd hq hne
    | cons p q => rfl
  rw [e] at h4
  have hsz : ((s.size + (⟨#[32]⟩ : ByteArray).size : Nat) : Int) ≤ 9223372036854775807 := by
    have : (⟨#[32]⟩ : ByteArray).size = 1 := rfl
    rw [this]; omega
  unfold pins_Parse spinetref31_Parse
  rw [hsp, Option.bind_some, h2, if_pos hsz, show (⟨#[]⟩ : ByteArray) = bs [] from rfl, h4]
  rcases foP_len _ [] hL (by simp) with ⟨l', h5, h6⟩ | ⟨e', h5⟩
  · rw [h5]; exact ⟨l', 0, h6, rfl, rfl⟩
  · rw [h5]; exact ⟨[], e', by simp, rfl, rfl⟩

theorem pinsReads_true (s : ByteArray) : spinetlaw31_PinsReads s = some true := by
  unfold spinetlaw31_PinsReads
  by_cases h6 : 200 < sln s
  · rw [if_pos (decide_eq_true h6)]
  rw [if_neg (fun h => h6 (of_decide_eq_true h))]
  have hz : s.size ≤ 200 := by unfold sln at h6; omega
  obtain ⟨l, e, hl, p1, p2⟩ := parse_both s hz
  rw [p1, p2, one_is, rone_is]
  simp only [Option.bind_some]
  rw [eqP_refl l (by omega)]
  simp only [Option.bind_some, beq_self_eq_true, Bool.and_self, if_true, alive31]
end Go.Proofs.YthhjooegpjgicaaDoorK
