/- The law PinsReads: words, one word, counts. -/
import Derived.Test.YthhjooegpjgicaaDoorUSpl
namespace Go.Proofs.YthhjooegpjgicaaDoorK
set_option linter.unusedVariables false
set_option linter.unusedSimpArgs false
set_option maxHeartbeats 4000000
open Go.RowKit
attribute [local irreducible] dwv mops lops lqops lwops kont iter run runK rk okK ex E1 vals val chain chB sel resF

theorem alive31 : spinetlaw31_alive = some true := by decide +kernel
/-- The letters of a set of pins. -/
def plet (p : api_Pins) : List UInt8 :=
  (if p.Reset then [82] else []) ++ (if p.Nmi then [78] else []) ++ (if p.Firq then [70] else []) ++ (if p.Irq then [73] else []) ++ (if p.Halt then [72] else []) ++ (if p.Req then [81] else [])
def pword (p : api_Pins) : ByteArray := ⟨((if (plet p).isEmpty then [46] else plet p) : List UInt8).toArray⟩
theorem pword_all : ∀ a b c d e f : Bool, pins_Word ⟨a, b, c, d, e, f⟩ = some (pword ⟨a, b, c, d, e, f⟩) ∧ spinetref31_Word ⟨a, b, c, d, e, f⟩ = some (pword ⟨a, b, c, d, e, f⟩) := by decide +kernel
theorem pword_is (p : api_Pins) : pins_Word p = some (pword p) := by cases p; exact (pword_all _ _ _ _ _ _).1
theorem pword_ref (p : api_Pins) : spinetref31_Word p = some (pword p) := by cases p; exact (pword_all _ _ _ _ _ _).2
def has (s : ByteArray) (c : UInt8) : Bool := decide (0 ≤ ixB s.data.toList c)
theorem has_all : ∀ a b c d e f : Bool, has (pword ⟨a, b, c, d, e, f⟩) 82 = a ∧ has (pword ⟨a, b, c, d, e, f⟩) 78 = b ∧ has (pword ⟨a, b, c, d, e, f⟩) 70 = c ∧ has (pword ⟨a, b, c, d, e, f⟩) 73 = d ∧ has (pword ⟨a, b, c, d, e, f⟩) 72 = e ∧ has (pword ⟨a, b, c, d, e, f⟩) 81 = f := by decide +kernel
def pinsOf (s : ByteArray) : api_Pins := ⟨has s 82, has s 78, has s 70, has s 73, has s 72, has s 81⟩
theorem pinsOf_word (p : api_Pins) : pinsOf (pword p) = p := by
  cases p
  unfold pinsOf
  obtain ⟨h1, h2, h3, h4, h5, h6⟩ := has_all _ _ _ _ _ _
  rw [h1, h2, h3, h4, h5, h6]
def zeroPins : api_Pins := ⟨false, false, false, false, false, false⟩
def oneM (s : ByteArray) : api_Pins × Bool := if ((pword (pinsOf s)).toList == s.toList) = true then (pinsOf s, true) else (zeroPins, false)

theorem one_l0 (s : ByteArray) (k : Nat) : pins_One_l0 s (k + 7) [false, false, false, false, false, false] 0 = some [has s 82, has s 78, has s 70, has s 73, has s 72, has s 81] := rfl
theorem one_is (s : ByteArray) : pins_One s = some (oneM s) := by
  obtain ⟨k, hk⟩ := bigS 6 (by omega)
  unfold pins_One
  rw [hk, show k + 6 + 1 = k + 7 from rfl, one_l0, Option.bind_some]
  rw [if_pos (by decide), if_pos (by decide), if_pos (by decide), if_pos (by decide), if_pos (by decide), if_pos (by decide)]
  rw [pword_is, Option.bind_some]
  unfold oneM
  have e : pword (pinsOf s) = pword (api_Pins.mk (gt [has s 82, has s 78, has s 70, has s 73, has s 72, has s 81] 0) (gt [has s 82, has s 78, has s 70, has s 73, has s 72, has s 81] 1) (gt [has s 82, has s 78, has s 70, has s 73, has s 72, has s 81] 2) (gt [has s 82, has s 78, has s 70, has s 73, has s 72, has s 81] 3) (gt [has s 82, has s 78, has s 70, has s 73, has s 72, has s 81] 4) (gt [has s 82, has s 78, has s 70, has s 73, has s 72, has s 81] 5)) := rfl
  rw [← e]
  cases ((pword (pinsOf s)).toList == s.toList) <;> rfl

def pinI (n : Int) : api_Pins := api_Pins.mk ((Int.tmod n 2) == 1) ((Int.tmod (IntKind.wrap .i64 (Int.tdiv n 2)) 2) == 1) ((Int.tmod (IntKind.wrap .i64 (Int.tdiv n 4)) 2) == 1) ((Int.tmod (IntKind.wrap .i64 (Int.tdiv n 8)) 2) == 1) ((Int.tmod (IntKind.wrap .i64 (Int.tdiv n 16)) 2) == 1) ((Int.tmod (IntKind.wrap .i64 (Int.tdiv n 32)) 2) == 1)
theorem pinI_all : ∀ a b c d e f : Bool, ∃ m : Nat, m < 64 ∧ pinI (m : Int) = ⟨a, b, c, d, e, f⟩ := by
  intro a b c d e f
  refine ⟨a.toNat + 2 * b.toNat + 4 * c.toNat + 8 * d.toNat + 16 * e.toNat + 32 * f.toNat, ?_, ?_⟩
  · cases a <;> cases b <;> cases c <;> cases d <;> cases e <;> cases f <;> decide
  · cases a <;> cases b <;> cases c <;> cases d <;> cases e <;> cases f <;> rfl
def isW (s : ByteArray) (m : Nat) : Bool := (pword (pinI (m : Int))).toList == s.toList
theorem rone_l0 (s : ByteArray) : ∀ (j n k : Nat), n + j = 64 → j < k → spinetref31_One_l0 s k (n : Int) = some (match (List.range' n j).find? (isW s) with | some m => .ret (pinI (m : Int), true) | none => .go ())
  | _, _, 0, _, hk => by omega
  | 0, n, k + 1, h, _ => by
    rw [spinetref31_One_l0, if_neg (fun e => by have := of_decide_eq_true e; omega)]; rfl
  | j + 1, n, k + 1, h, hk => by
    rw [spinetref31_One_l0, if_pos (decide_eq_true (by omega)), pword_ref, Option.bind_some, wrapS (by omega), rone_l0 s j (n + 1) k (by omega) (by omega)]
    rw [List.range'_succ, List.find?_cons]
    have e : ((pword (pinI (n : Int))).toList == s.toList) = isW s n := rfl
    unfold pinI at e
    rw [e]
    cases isW s n with
    | true => rfl
    | false => rfl
theorem toList_eq {a b : ByteArray} (h : (a.toList == b.toList) = true) : a = b := by
  rw [teq, beq_iff_eq] at h; exact sbl_inj h
theorem rone_is (s : ByteArray) : spinetref31_One s = some (oneM s) := by
  unfold spinetref31_One
  have h := rone_l0 s 64 0 BIG (by omega) (by unfold BIG; omega)
  rw [show (((0 : Nat) : Int)) = 0 from rfl] at h
  rw [h, Option.bind_some]
  cases hf : (List.range' 0 64).find? (isW s) with
  | some m =>
    have h0 : isW s m = true := List.find?_some hf
    have h1 := toList_eq h0
    subst h1
    unfold oneM
    rw [pinsOf_word, if_pos (by rw [teq]; simp)]
  | none =>
    have h1 := List.find?_eq_none.1 hf
    unfold oneM
    rw [if_neg]
    · rfl
    · obtain ⟨m, hm, he⟩ := pinI_all (has s 82) (has s 78) (has s 70) (has s 73) (has s 72) (has s 81)
      have := h1 m (by rw [List.mem_range'_1]; omega)
      unfold isW at this
      rw [he] at this
      exact this

theorem count_l0 (s : ByteArray) (hs : s.size < 100000) : ∀ (k : Nat) (n : Int) (i : Nat), 0 ≤ n ∧ n ≤ 4097 → pins_count_l0 s k n (i : Int) = spinetref31_count_l0 s k n (i : Int)
  | 0, n, i, _ => rfl
  | k + 1, n, i, hn => by
    rw [pins_count_l0, spinetref31_count_l0]
    by_cases hi : (i : Int) < sln s
    · have hi' : i < 100000 := by unfold sln at hi; omega
      have g : 0 ≤ (i : Int) ∧ (i : Int) < sln s := ⟨by omega, hi⟩
      rw [if_pos (decide_eq_true hi), if_pos (decide_eq_true hi)]
      generalize bt s (i : Int) = b
      have gi : (!(decide (b < 48))) = true → 0 ≤ (i : Int) ∧ (i : Int) < sln s := fun _ => g
      simp only [if_pos gi, if_pos g]
      by_cases hd : b < 48 ∨ 57 < b
      · have hd' : (decide (b < 48) || decide (57 < b)) = true := by simpa using hd
        rw [if_pos hd', if_pos hd']
      · have hd' : ¬ (decide (b < 48) || decide (57 < b)) = true := by simpa using hd
        rw [if_neg hd', if_neg hd', wrapS (by omega)]
        have w1 : IntKind.wrap .i64 (10 * n) = 10 * n := wrap_i64 (by omega) (by omega)
        have w2 : IntKind.wrap .u8 (b - 48) = b - 48 := wrap_u8 (by omega) (by omega)
        have w3 : IntKind.wrap .i64 (b - 48) = b - 48 := wrap_i64 (by omega) (by omega)
        have w4 : IntKind.wrap .i64 b = b := wrap_i64 (by omega) (by omega)
        have w5 : IntKind.wrap .i64 (10 * n + b) = 10 * n + b := wrap_i64 (by omega) (by omega)
        have w6 : IntKind.wrap .i64 (10 * n + b - 48) = 10 * n + b - 48 := wrap_i64 (by omega) (by omega)
        have w7 : IntKind.wrap .i64 (10 * n + (b - 48)) = 10 * n + b - 48 := by rw [← w6]; congr 1; omega
        rw [w1, w2, w3, w4, w5, w6, w7]
        by_cases hb : 4097 < 10 * n + b - 48
        · rw [if_pos hb, if_pos (decide_eq_true hb), count_l0 s hs k _ _ (by omega)]
        · rw [if_neg hb, if_neg (fun h => hb (of_decide_eq_true h)), count_l0 s hs k _ _ (by omega)]
    · rw [if_neg (fun h => hi (of_decide_eq_true h)), if_neg (fun h => hi (of_decide_eq_true h))]
/-- What a count comes to: the same on both sides, and within the range. -/
theorem count_r (s : ByteArray) (hs : s.size < 100000) : ∀ (r : List Int) (k i : Nat) (n : Int), (sbl s).drop i = r → r.length < k → 0 ≤ n ∧ n ≤ 4097 → ∃ m, 0 ≤ m ∧ m ≤ 4097 ∧ (pins_count_l0 s k n (i : Int) = some (.ret (0, false)) ∨ pins_count_l0 s k n (i : Int) = some (.go m))
  | _, 0, _, _, _, hk, _ => by omega
  | [], k + 1, i, n, h, _, hn => by
    refine ⟨n, hn.1, hn.2, .inr ?_⟩
    rw [pins_count_l0, if_neg (fun e => btNil h (of_decide_eq_true e))]
  | b :: r, k + 1, i, n, h, hk, hn => by
    obtain ⟨e1, g, r1, h1⟩ := btCons h
    have hi' : i < 100000 := by have := g.2; unfold sln at this; omega
    rw [pins_count_l0, if_pos (decide_eq_true g.2), if_pos g, if_pos (fun _ => g), e1]
    by_cases hd : b < 48 ∨ 57 < b
    · have hd' : (decide (b < 48) || decide (57 < b)) = true := by simpa using hd
      rw [if_pos hd']
      exact ⟨0, by omega, by omega, .inl rfl⟩
    · have hd' : ¬ (decide (b < 48) || decide (57 < b)) = true := by simpa using hd
      rw [if_neg hd', if_pos g, wrapS (by omega)]
      refine count_r s hs r k (i + 1) _ h1 (by simp only [List.length_cons] at hk; omega) ?_
      have w1 : IntKind.wrap .i64 (10 * n) = 10 * n := wrap_i64 (by omega) (by omega)
      have w2 : IntKind.wrap .u8 (b - 48) = b - 48 := wrap_u8 (by omega) (by omega)
      have w3 : IntKind.wrap .i64 (b - 48) = b - 48 := wrap_i64 (by omega) (by omega)
      have w7 : IntKind.wrap .i64 (10 * n + (b - 48)) = 10 * n + (b - 48) := wrap_i64 (by omega) (by omega)
      rw [w1, w2, w3, w7]
      split <;> omega
theorem pcount_is (s : ByteArray) (hs : s.size < 100000) : ∃ n ok, 0 ≤ n ∧ n ≤ 4097 ∧ pins_count s = some (n, ok) ∧ spinetref31_count s = some (n, ok) := by
  have h1 := count_l0 s hs BIG 0 0 (by decide)
  obtain ⟨m, m0, m1, h2⟩ := count_r s hs (sbl s) BIG 0 0 rfl (by rw [sbl_len]; unfold BIG; omega) (by decide)
  rw [show (((0 : Nat) : Int)) = 0 from rfl] at h1 h2
  unfold pins_count spinetref31_count
  rw [← h1]
  have he : (!(s.toList == (⟨#[]⟩ : ByteArray).toList)) = decide (0 < sln s) := by
    rw [teq, ← sblLen]
    cases sbl s <;> simp [sbl]
  rw [he]
  rcases h2 with h2 | h2
  · rw [h2]; exact ⟨0, false, by omega, by omega, rfl, rfl⟩
  · rw [h2]; exact ⟨m, _, m0, m1, rfl, rfl⟩
end Go.Proofs.YthhjooegpjgicaaDoorK
