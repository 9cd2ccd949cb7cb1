/- The law PinsTexts. -/
import Derived.Test.YthhjooegpjgicaaDoorUPin3
import Derived.Test.YthhjooegpjgicaaDoorUJoin
namespace Go.Proofs.YthhjooegpjgicaaDoorK
set_option linter.unusedVariables false
set_option linter.unusedSimpArgs false
set_option maxHeartbeats 4000000
open Go.RowKit
attribute [local irreducible] dwv mops lops lqops lwops kont iter run runK rk okK ex E1 vals val chain chB sel resF

/-- The digits of a count. -/
def decB (n : Nat) : ByteArray := (digit_Dec (n : Int)).getD ⟨#[]⟩
theorem dec_range : ((List.range 301).all fun (n : Nat) => decide (digit_Dec (n : Int) = some (decB n)) && decide (spinetref02_Digits (n : Int) 10 1 = some (decB n)) && decide (pins_count (decB n) = some ((n : Int), true)) && ((sbl (decB n)).all fun x => x != 32 && x != 42) && decide ((decB n).size < 10)) = true := by decide +kernel
theorem dec_is {n : Nat} (h : n < 301) : digit_Dec (n : Int) = some (decB n) ∧ spinetref02_Digits (n : Int) 10 1 = some (decB n) ∧ pins_count (decB n) = some ((n : Int), true) ∧ (∀ x ∈ sbl (decB n), x ≠ 32 ∧ x ≠ 42) ∧ (decB n).size < 10 := by
  have := List.all_eq_true.1 dec_range n (List.mem_range.2 h)
  simp only [Bool.and_eq_true, beq_iff_eq, decide_eq_true_eq] at this
  obtain ⟨⟨⟨⟨h1, h2⟩, h3⟩, h4⟩, h5⟩ := this
  refine ⟨h1, h2, h3, fun x hx => ?_, h5⟩
  have := List.all_eq_true.1 h4 x hx
  simpa using this
theorem pw_range : ∀ a b c d e f : Bool, ((sbl (pword ⟨a, b, c, d, e, f⟩)).all fun x => x != 32 && x != 42) = true ∧ 0 < (pword ⟨a, b, c, d, e, f⟩).size ∧ (pword ⟨a, b, c, d, e, f⟩).size < 10 := by decide +kernel
theorem pw_is (p : api_Pins) : (∀ x ∈ sbl (pword p), x ≠ 32 ∧ x ≠ 42) ∧ 0 < (pword p).size ∧ (pword p).size < 10 := by
  cases p
  obtain ⟨h1, h2, h3⟩ := pw_range _ _ _ _ _ _
  refine ⟨fun x hx => ?_, h2, h3⟩
  have := List.all_eq_true.1 h1 x hx
  simpa using this
def wordB (q : api_Pins × Nat) : ByteArray := if 1 < q.2 then pword q.1 ++ ((⟨#[42]⟩ : ByteArray) ++ decB q.2) else pword q.1
theorem s42 : sbl (⟨#[42]⟩ : ByteArray) = [42] := rfl
theorem wordB_size (q : api_Pins × Nat) (h : q.2 < 301) : 0 < (wordB q).size ∧ (wordB q).size < 30 := by
  obtain ⟨_, h2, h3⟩ := pw_is q.1
  unfold wordB
  split
  · have e42 : (⟨#[42]⟩ : ByteArray).size = 1 := rfl
    rw [← sbl_len, sbl_app, sbl_app, List.length_append, List.length_append, sbl_len, sbl_len, sbl_len, e42]
    have := (dec_is h).2.2.2.2
    omega
  · omega
theorem wordB_sp (q : api_Pins × Nat) (h : q.2 < 301) : (32 : Int) ∉ sbl (wordB q) := by
  intro hx
  obtain ⟨h1, h2, h3⟩ := pw_is q.1
  unfold wordB at hx
  split at hx
  · rw [sbl_app, sbl_app, s42] at hx
    simp only [List.mem_append, List.mem_cons, List.not_mem_nil, or_false] at hx
    rcases hx with hx | hx | hx
    · exact (h1 _ hx).1 rfl
    · exact absurd hx (by decide)
    · exact ((dec_is h).2.2.2.1 _ hx).1 rfl
  · exact (h1 _ hx).1 rfl
theorem uniq {c : Int} : ∀ {A A' B B' : List Int}, c ∉ A → c ∉ A' → A ++ c :: B = A' ++ c :: B' → A = A' ∧ B = B'
  | [], [], B, B', _, _, h => by simpa using h
  | [], y :: A', B, B', _, h2, h => by
    simp only [List.nil_append, List.cons_append, List.cons.injEq] at h
    exact absurd (by simp [h.1]) h2
  | x :: A, [], B, B', h1, _, h => by
    simp only [List.nil_append, List.cons_append, List.cons.injEq] at h
    exact absurd (by simp [h.1]) h1
  | x :: A, y :: A', B, B', h1, h2, h => by
    simp only [List.cons_append, List.cons.injEq] at h
    obtain ⟨h3, h4⟩ := uniq (fun e => h1 (by simp [e])) (fun e => h2 (by simp [e])) h.2
    exact ⟨by rw [h.1, h3], h4⟩
theorem oneM_word (p : api_Pins) : oneM (pword p) = (p, true) := by
  unfold oneM
  rw [pinsOf_word, if_pos (by simp)]
theorem piece_word (q : api_Pins × Nat) (h0 : 0 < q.2) (h : q.2 < 301) : pins_piece (wordB q) = some (pieceW q.1 true (q.2 : Int)) := by
  have hs := (wordB_size q h).2
  have hz : ¬ ((q.2 : Int) = 0) := by omega
  have hp : pieceW q.1 true (q.2 : Int) = (q.1, (q.2 : Int), 0) := by
    unfold pieceW
    rw [if_neg (by simp), if_neg hz]
  have hn42 : ((42 : UInt8).toNat : Int) ∉ sbl (pword q.1) := fun e => ((pw_is q.1).1 _ e).2 rfl
  rw [hp]
  unfold pins_piece
  rw [show (⟨#[42]⟩ : ByteArray) = s1 42 from rfl]
  by_cases h1 : 1 < q.2
  · have hw : sbl (wordB q) = sbl (pword q.1) ++ ((42 : UInt8).toNat : Int) :: sbl (decB q.2) := by
      unfold wordB
      rw [if_pos h1, sbl_app, sbl_app, s42]; rfl
    rcases cut_spec (wordB q) 42 (by omega) with ⟨h2, _⟩ | ⟨A, B, h2, h3, h4⟩
    · exact absurd (by rw [hw]; simp) h2
    · rw [hw] at h2
      obtain ⟨rfl, rfl⟩ := uniq hn42 h3 h2
      rw [h4, Option.bind_some, bs_sbl, bs_sbl, one_is, oneM_word, Option.bind_some, if_neg (by simp), if_neg (by simp), (dec_is h).2.2.1, Option.bind_some, if_neg (by simp), if_neg (by simpa using hz)]
  · have h2 : q.2 = 1 := by omega
    have hw : wordB q = pword q.1 := by unfold wordB; rw [if_neg h1]
    rw [hw]
    rcases cut_spec (pword q.1) 42 (by have := (pw_is q.1).2.2; omega) with ⟨_, h4⟩ | ⟨A, B, h3, _, _⟩
    · rw [h4, Option.bind_some, one_is, oneM_word, Option.bind_some, if_neg (by simp), if_pos (by simp), h2]; rfl
    · exact absurd (by rw [h3]; simp) hn42

/-- How many of a list's first are one's like. -/
def peq (a b : api_Pins) : Bool := (a.Reset == b.Reset) && ((a.Nmi == b.Nmi) && ((a.Firq == b.Firq) && ((a.Irq == b.Irq) && ((a.Halt == b.Halt) && ((a.Req == b.Req) && true)))))
theorem peq_iff {a b : api_Pins} : peq a b = true ↔ a = b := by
  cases a; cases b
  simp [peq]
def runLen (x : api_Pins) : List api_Pins → Nat
  | [] => 0
  | y :: r => if peq y x then runLen x r + 1 else 0
theorem runLen_le (x : api_Pins) : ∀ r, runLen x r ≤ r.length
  | [] => Nat.le_refl _
  | y :: r => by
    have := runLen_le x r
    unfold runLen
    split <;> simp only [List.length_cons] <;> omega
theorem runLen_take (x : api_Pins) : ∀ r, r.take (runLen x r) = List.replicate (runLen x r) x
  | [] => rfl
  | y :: r => by
    unfold runLen
    split
    · rename_i h
      obtain rfl := peq_iff.1 h
      rw [List.take_succ_cons, runLen_take y r, List.replicate_succ]
    · rfl
def runs : Nat → List api_Pins → List (api_Pins × Nat)
  | 0, _ => []
  | _ + 1, [] => []
  | f + 1, x :: r => (x, 1 + runLen x r) :: runs f (r.drop (runLen x r))
def expand (L : List (api_Pins × Nat)) : List api_Pins := (L.map fun q => List.replicate q.2 q.1).flatten
theorem runs_expand : ∀ (f : Nat) (l : List api_Pins), l.length ≤ f → expand (runs f l) = l
  | 0, l, h => by
    obtain rfl : l = [] := List.eq_nil_of_length_eq_zero (by omega)
    rfl
  | f + 1, [], _ => rfl
  | f + 1, x :: r, h => by
    have ih := runs_expand f (r.drop (runLen x r)) (by simp only [List.length_cons, List.length_drop] at h ⊢; omega)
    unfold expand at ih ⊢
    rw [runs, List.map_cons, List.flatten_cons, ih]
    simp only
    rw [Nat.add_comm 1, List.replicate_succ, ← runLen_take, List.cons_append, List.take_append_drop]
theorem runs_small : ∀ (f : Nat) (l : List api_Pins) (q : api_Pins × Nat), q ∈ runs f l → 0 < q.2 ∧ q.2 ≤ l.length
  | 0, l, q, h => by simp [runs] at h
  | f + 1, [], q, h => by simp [runs] at h
  | f + 1, x :: r, q, h => by
    rw [runs] at h
    have hl := runLen_le x r
    rcases List.mem_cons.1 h with rfl | h
    · simp only [List.length_cons]; omega
    · have := runs_small f _ q h
      simp only [List.length_cons, List.length_drop] at this ⊢
      omega
theorem runs_len : ∀ (f : Nat) (l : List api_Pins), (runs f l).length ≤ l.length
  | 0, l => by simp [runs]
  | f + 1, [] => by simp [runs]
  | f + 1, x :: r => by
    rw [runs]
    have := runs_len f (r.drop (runLen x r))
    simp only [List.length_cons, List.length_drop] at this ⊢
    omega

theorem t_l3_same (l : List api_Pins) (i : Int) : ∀ (k : Nat) (n : Int), spinetref31_Text_l3 l i k n = pins_Text_l3 l i k n
  | 0, _ => rfl
  | k + 1, n => by
    rw [spinetref31_Text_l3, pins_Text_l3, t_l3_same l i k]

section
variable {l : List api_Pins} (hN : l.length ≤ 300)
include hN
theorem t_l3 {i : Nat} {x : api_Pins} (hx : gt l (i : Int) = x) (hi : i < l.length) : ∀ (r : List api_Pins) (k n : Nat), l.drop (i + n) = r → r.length < k → i + n ≤ l.length → ∃ a b c d e, pins_Text_l3 l (i : Int) k (n : Int) = some (((n + runLen x r : Nat) : Int), a, b, c, d, e)
  | _, 0, _, _, hk, _ => by omega
  | [], k + 1, n, h, _, hin => by
    have hn := gtNil h
    have hlen := List.drop_eq_nil_iff.1 h
    have w : IntKind.wrap .i64 ((i : Int) + (n : Int)) = ((i + n : Nat) : Int) := by rw [wrap_i64 (by omega) (by omega)]; rfl
    have hd : decide (((i + n : Nat) : Int) < ln l) = false := by simpa using hn
    rw [pins_Text_l3, w, hd, if_pos (by simp), if_pos (by simp), if_neg (by simp)]
    exact ⟨_, _, _, _, _, rfl⟩
  | y :: r, k + 1, n, h, hk, hin => by
    obtain ⟨e1, g1, h1⟩ := gtCons h
    have hi2 := (dropAt h).2.2
    have w : IntKind.wrap .i64 ((i : Int) + (n : Int)) = ((i + n : Nat) : Int) := by rw [wrap_i64 (by omega) (by omega)]; rfl
    have gi : 0 ≤ (i : Int) ∧ (i : Int) < ln l := by unfold ln; omega
    rw [pins_Text_l3, w, if_pos (fun _ => g1), if_pos (fun _ => gi), e1, hx, decide_eq_true g1.2, Bool.true_and]
    have hp : ((y.Reset == x.Reset) && ((y.Nmi == x.Nmi) && ((y.Firq == x.Firq) && ((y.Irq == x.Irq) && ((y.Halt == x.Halt) && ((y.Req == x.Req) && true)))))) = peq y x := rfl
    rw [hp]
    unfold runLen
    cases hq : peq y x with
    | true =>
      obtain ⟨a, b, c, d, e, ih⟩ := t_l3 hx hi r k (n + 1) (by rw [← h1]; congr 1) (by simp only [List.length_cons] at hk; omega) (by omega)
      rw [if_pos rfl, wrapS (by omega), ih, if_pos rfl]
      exact ⟨a, b, c, d, e, by rw [show n + 1 + runLen x r = n + (runLen x r + 1) by omega]⟩
    | false =>
      rw [if_neg (by simp), if_neg (by simp)]
      exact ⟨_, _, _, _, _, rfl⟩
theorem t_l2 : ∀ (f : Nat) (q : List api_Pins) (k i : Nat) (acc : List ByteArray), l.drop i = q → q.length ≤ f → f < k → acc.length ≤ i → pins_Text_l2 l k acc (i : Int) = some (acc ++ (runs f q).map wordB)
  | _, _, 0, _, _, _, _, hk, _ => by omega
  | f, [], k + 1, i, acc, h, _, _, _ => by
    rw [pins_Text_l2, if_neg (fun e => gtNil h (of_decide_eq_true e))]
    cases f <;> simp [runs]
  | 0, x :: r, k + 1, i, acc, h, hf, _, _ => by simp at hf
  | f + 1, x :: r, k + 1, i, acc, h, hf, hk, ha => by
    obtain ⟨e1, g1, h1⟩ := gtCons h
    have hi := (dropAt h).2.2
    have hl := runLen_le x r
    have hr : r.length + i + 1 = l.length := by rw [← h1, List.length_drop]; omega
    obtain ⟨a, b, c, d, e, h3⟩ := t_l3 hN e1 hi r BIG 1 h1 (by unfold BIG; omega) (by omega)
    have h4 := t_l2 f (r.drop (runLen x r)) k (i + (1 + runLen x r)) (acc ++ [wordB (x, 1 + runLen x r)]) (by rw [← h1, List.drop_drop]; congr 1; omega) (by simp only [List.length_cons, List.length_drop] at hf ⊢; omega) (by omega) (by simp; omega)
    have w : IntKind.wrap .i64 ((i : Int) + ((1 + runLen x r : Nat) : Int)) = ((i + (1 + runLen x r) : Nat) : Int) := by rw [wrap_i64 (by omega) (by omega)]; rfl
    have hj : ∀ W : ByteArray, W = wordB (x, 1 + runLen x r) → pins_Text_j0 (pins_Text_l2 l k) acc (i : Int) ((1 + runLen x r : Nat) : Int) W = some (acc ++ (runs (f + 1) (x :: r)).map wordB) := by
      intro W hW
      subst hW
      unfold pins_Text_j0
      rw [if_pos (by simp only [List.length_cons, List.length_nil]; omega), w, h4, runs, List.map_cons, List.append_assoc]
      rfl
    rw [pins_Text_l2, if_pos (decide_eq_true g1.2), show (1 : Int) = ((1 : Nat) : Int) from rfl, h3, Option.bind_some]
    simp only
    rw [if_pos g1, e1, pword_is, Option.bind_some]
    by_cases h2 : 1 < 1 + runLen x r
    · have hn : 1 + runLen x r < 301 := by omega
      have wu : IntKind.wrap .u64 ((1 + runLen x r : Nat) : Int) = ((1 + runLen x r : Nat) : Int) := by rw [wrap_u64 (by omega) (by omega)]
      have hd := dec_is hn
      have hs := (pw_is x).2.2
      have e42 : (⟨#[42]⟩ : ByteArray).size = 1 := rfl
      rw [if_pos (decide_eq_true (by omega)), wu, hd.1, Option.bind_some, if_pos (by rw [e42]; omega), if_pos (by rw [← sbl_len (_ ++ _), sbl_app, List.length_append, sbl_len, sbl_len, e42]; omega)]
      refine hj _ ?_
      unfold wordB
      rw [if_pos h2]
    · rw [if_neg (fun e => h2 (by have := of_decide_eq_true e; omega))]
      refine hj _ ?_
      unfold wordB
      rw [if_neg h2]
end
end Go.Proofs.YthhjooegpjgicaaDoorK
