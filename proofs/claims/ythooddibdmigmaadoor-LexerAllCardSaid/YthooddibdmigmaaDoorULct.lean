/- The parts of a line: the lexer and its reference by one model. -/
import Derived.Test.YthooddibdmigmaaDoorULnm
namespace Go.Proofs.YthooddibdmigmaaDoorK
set_option linter.unusedVariables false
set_option linter.unusedSimpArgs false
set_option maxHeartbeats 4000000
open Go.RowKit
attribute [local irreducible] dwv mops lops lqops lwops kont iter run runK rk okK ex E1 vals val chain chB sel resF

def ne59 (c : Int) : Bool := c != 59
def labB (c : Int) : Bool := nbB c && c != 58
def lineM (lab v : List Int) : lexer_Line := ⟨bs lab, bs (((v.dropWhile blB).takeWhile nbB).map capI), bs (((v.dropWhile blB).dropWhile nbB).filter nbB)⟩
def headNb : List Int → Bool
  | [] => false
  | x :: _ => nbB x
def behind : List Int → List Int
  | [] => []
  | x :: q => if x = 58 then q else x :: q
def zeroLn : lexer_Line := ⟨⟨#[]⟩, ⟨#[]⟩, ⟨#[]⟩⟩
def cutU (u : List Int) : lexer_Line × Int :=
  if headNb u = true then (if rightB (u.takeWhile labB) = true then (lineM (u.takeWhile labB) (behind (u.dropWhile labB)), 0) else (zeroLn, 40)) else (lineM [] u, 0)
/-- The parts of a line. -/
def cutM (l : List Int) : lexer_Line × Int := cutU (l.takeWhile ne59)

theorem tw_app {p : Int → Bool} {y : Int} (R : List Int) (hy : p y = false) : ∀ {A : List Int}, (∀ x ∈ A, p x = true) → (A ++ y :: R).takeWhile p = A ∧ (A ++ y :: R).dropWhile p = y :: R
  | [], _ => by simp [List.takeWhile_cons, List.dropWhile_cons, hy]
  | x :: A, h => by
    have hx := h x (by simp)
    obtain ⟨e1, e2⟩ := tw_app R hy (A := A) fun z hz => h z (by simp [hz])
    simp [List.takeWhile_cons, List.dropWhile_cons, hx, e1, e2]
theorem tw_eq {p q : Int → Bool} : ∀ {l : List Int}, (∀ x ∈ l, p x = q x) → l.takeWhile p = l.takeWhile q ∧ l.dropWhile p = l.dropWhile q
  | [], _ => ⟨rfl, rfl⟩
  | x :: r, h => by
    have hx := h x (by simp)
    obtain ⟨e1, e2⟩ := tw_eq (l := r) fun z hz => h z (by simp [hz])
    simp [List.takeWhile_cons, List.dropWhile_cons, hx, e1, e2]
theorem mem_tw {p : Int → Bool} : ∀ {l : List Int} {x : Int}, x ∈ l.takeWhile p → p x = true
  | [], x, h => by simp at h
  | y :: r, x, h => by
    rw [List.takeWhile_cons] at h
    cases hy : p y with
    | false => rw [hy] at h; simp at h
    | true =>
      rw [hy] at h
      rcases List.mem_cons.1 h with rfl | h
      · exact hy
      · exact mem_tw h
theorem dw_head {p : Int → Bool} : ∀ {l : List Int} {x : Int} {r : List Int}, l.dropWhile p = x :: r → p x = false
  | [], x, r, h => by simp at h
  | y :: q, x, r, h => by
    rw [List.dropWhile_cons] at h
    cases hy : p y with
    | true => rw [hy] at h; exact dw_head h
    | false => rw [hy] at h; simp at h; obtain ⟨rfl, _⟩ := h; exact hy
theorem tw_bytes {p : Int → Bool} {l : List Int} (h : ∀ x ∈ l, 0 ≤ x ∧ x < 256) : ∀ x ∈ l.takeWhile p, 0 ≤ x ∧ x < 256 := fun x hx => h x (List.takeWhile_subset _ hx)
theorem dw_bytes {p : Int → Bool} {l : List Int} (h : ∀ x ∈ l, 0 ≤ x ∧ x < 256) : ∀ x ∈ l.dropWhile p, 0 ≤ x ∧ x < 256 := fun x hx => h x (List.dropWhile_subset _ hx)
theorem sblB (s : ByteArray) : ∀ x ∈ sbl s, 0 ≤ x ∧ x < 256 := fun x hx => sblRange hx
theorem bsz {l : List Int} {n : Nat} (h : l.length < n) : (bs l).size < n := by rw [bs_size]; exact h

theorem cut_spec (s : ByteArray) (c : UInt8) (hs : s.size < 100000) : ((c.toNat : Int) ∉ sbl s ∧ strings_Cut s (s1 c) = some (s, ⟨#[]⟩, false)) ∨
    ∃ A B, sbl s = A ++ (c.toNat : Int) :: B ∧ (c.toNat : Int) ∉ A ∧ strings_Cut s (s1 c) = some (bs A, bs B, true) := by
  have hix : internal_stringslite_Index s (s1 c) = some (ixB s.data.toList c) := rfl
  rcases ixB_spec c s.data.toList with ⟨h1, h2⟩ | ⟨a, b, h1, h2, h3⟩
  · refine .inl ⟨by unfold sbl; exact notin_map h1, ?_⟩
    unfold strings_Cut internal_stringslite_Cut
    rw [hix, h2]; rfl
  · have hsz : s.size = a.length + (b.length + 1) := by rw [← data_size, h1]; simp
    refine .inr ⟨_, _, sbl_data h1, notin_map h2, ?_⟩
    unfold strings_Cut internal_stringslite_Cut
    rw [hix, h3, Option.bind_some, if_pos (by simp), if_pos ⟨by omega, by unfold sln; omega⟩, s1_size]
    have w : IntKind.wrap .i64 ((a.length : Int) + 1) = ((a.length + 1 : Nat) : Int) := wrapS (by omega)
    rw [w, if_pos ⟨by omega, by unfold sln; omega⟩, Int.toNat_natCast, Int.toNat_natCast, ext_pre h1, ext_post h1, bs_map, bs_map]
    rfl

theorem j0_is {t : ByteArray} (ht : t.size < 100000) (lab : List Int) : lexer_Cut_j0 (bs lab) t = some (lineM lab (sbl t), 0) := by
  have hB := sblB t
  have hl : (sbl t).length < 100000 := by rw [sbl_len]; exact ht
  have l1 : ((sbl t).dropWhile blB).length ≤ (sbl t).length := by
    have := congrArg List.length (List.takeWhile_append_dropWhile (p := blB) (l := sbl t)); rw [List.length_append] at this; omega
  have l2 : (((sbl t).dropWhile blB).takeWhile nbB).length ≤ ((sbl t).dropWhile blB).length := tw_len_le _
  have l3 : (((sbl t).dropWhile blB).dropWhile nbB).length ≤ ((sbl t).dropWhile blB).length := by
    have := congrArg List.length (List.takeWhile_append_dropWhile (p := nbB) (l := (sbl t).dropWhile blB)); rw [List.length_append] at this; omega
  unfold lexer_Cut_j0
  rw [skip_is ht, Option.bind_some, word_is (bsz (by omega)), Option.bind_some, sbl_bs (dw_bytes hB)]
  simp only
  rw [cap_is (bsz (by omega)), Option.bind_some, tight_is (bsz (by omega)), Option.bind_some, sbl_bs (tw_bytes (dw_bytes hB)), sbl_bs (dw_bytes (dw_bytes hB))]
  rfl

theorem label_is {t : ByteArray} (ht : t.size < 100000) : lexer_label t = some (bs ((sbl t).takeWhile labB), bs (behind ((sbl t).dropWhile labB))) := by
  have hB := sblB t
  have hl : (sbl t).length < 100000 := by rw [sbl_len]; exact ht
  have l1 : ((sbl t).takeWhile nbB).length ≤ (sbl t).length := tw_len_le _
  have hsplit := List.takeWhile_append_dropWhile (p := nbB) (l := sbl t)
  unfold lexer_label
  rw [word_is ht, Option.bind_some]
  simp only
  rw [show (⟨#[58]⟩ : ByteArray) = s1 58 from rfl]
  rcases cut_spec (bs ((sbl t).takeWhile nbB)) 58 (bsz (by omega)) with ⟨h1, h2⟩ | ⟨A, B, h1, h2, h3⟩
  · rw [sbl_bs (tw_bytes hB)] at h1
    rw [h2, Option.bind_some, if_neg (by simp)]
    have e : (sbl t).takeWhile labB = (sbl t).takeWhile nbB ∧ (sbl t).dropWhile labB = (sbl t).dropWhile nbB := by
      have hA : ∀ x ∈ (sbl t).takeWhile nbB, labB x = true := fun x hx => by
        have h58 : x ≠ 58 := fun e => h1 (by subst e; exact hx)
        simp [labB, mem_tw hx, h58]
      cases hr : (sbl t).dropWhile nbB with
      | nil =>
        rw [hr, List.append_nil] at hsplit
        have hall : (sbl t).all labB = true := List.all_eq_true.2 fun x hx => hA x (by rw [hsplit]; exact hx)
        have e1 := tw_all hall
        refine ⟨e1.trans hsplit.symm, ?_⟩
        have := List.takeWhile_append_dropWhile (p := labB) (l := sbl t)
        rw [e1] at this
        simpa using this
      | cons y R =>
        rw [hr] at hsplit
        have hy := dw_head hr
        have hy' : labB y = false := by simp [labB, hy]
        have := tw_app R hy' hA
        rw [hsplit] at this
        exact this
    rw [e.1, e.2]
    have hb : behind ((sbl t).dropWhile nbB) = (sbl t).dropWhile nbB := by
      cases hr : (sbl t).dropWhile nbB with
      | nil => rfl
      | cons y R =>
        have hy := dw_head hr
        have : y ≠ 58 := fun e => by subst e; revert hy; decide
        simp [behind, this]
    rw [hb]
  · rw [sbl_bs (tw_bytes hB)] at h1
    have hBA : ∀ x ∈ A ++ ((58 : UInt8).toNat : Int) :: B, 0 ≤ x ∧ x < 256 := by rw [← h1]; exact tw_bytes hB
    have hA : ∀ x ∈ A, labB x = true := fun x hx => by
      have hm : x ∈ (sbl t).takeWhile nbB := by rw [h1]; simp [hx]
      have h58 : x ≠ 58 := fun e => h2 (by subst e; exact hx)
      simp [labB, mem_tw hm, h58]
    have hu : sbl t = A ++ 58 :: (B ++ (sbl t).dropWhile nbB) := by
      conv => lhs; rw [← hsplit, h1]
      simp
    have := tw_app (B ++ (sbl t).dropWhile nbB) (show labB 58 = false by decide) hA
    rw [← hu] at this
    rw [h3, Option.bind_some, if_pos rfl]
    have hsz : (((bs B).size + (bs ((sbl t).dropWhile nbB)).size : Nat) : Int) ≤ 9223372036854775807 := by
      rw [bs_size, bs_size]
      have := congrArg List.length hu
      simp only [List.length_append, List.length_cons] at this
      omega
    rw [if_pos hsz, this.1, this.2]
    simp only [behind, if_true, bs_app]

theorem empty_iff (t : ByteArray) : (t.toList == (⟨#[]⟩ : ByteArray).toList) = (sbl t).isEmpty := by
  rw [teq]
  cases sbl t <;> rfl

theorem cutU_is {t : ByteArray} (ht : t.size < 100000) : (if (!(t.toList == (⟨#[]⟩ : ByteArray).toList)) = true → 0 ≤ (0 : Int) ∧ 0 < sln t then
  ((if (!(t.toList == (⟨#[]⟩ : ByteArray).toList)) = true then lexer_blank (bt t (0)) else some default)).bind fun r_1 =>
  if ((!(t.toList == (⟨#[]⟩ : ByteArray).toList)) && (!r_1)) = true then
    (lexer_label t).bind fun r_2 =>
    (symbols_Right r_2.1).bind fun r_3 =>
    if (!r_3) = true then
      some ((lexer_Line.mk (⟨#[]⟩ : ByteArray) (⟨#[]⟩ : ByteArray) (⟨#[]⟩ : ByteArray)), 40)
    else
      lexer_Cut_j0 r_2.1 r_2.2
  else
    lexer_Cut_j0 (⟨#[]⟩ : ByteArray) t
  else none) = some (cutU (sbl t)) := by
  have hB := sblB t
  have hl : (sbl t).length < 100000 := by rw [sbl_len]; exact ht
  have lb : (behind ((sbl t).dropWhile labB)).length ≤ (sbl t).length := by
    have := congrArg List.length (List.takeWhile_append_dropWhile (p := labB) (l := sbl t)); rw [List.length_append] at this
    have h2 : ∀ q : List Int, (behind q).length ≤ q.length := fun q => by
      cases q with
      | nil => simp [behind]
      | cons x q => simp only [behind]; split <;> simp
    have := h2 ((sbl t).dropWhile labB)
    omega
  have bb : ∀ x ∈ behind ((sbl t).dropWhile labB), 0 ≤ x ∧ x < 256 := by
    have h2 : ∀ q : List Int, (∀ x ∈ q, 0 ≤ x ∧ x < 256) → ∀ x ∈ behind q, 0 ≤ x ∧ x < 256 := fun q hq x hx => by
      cases q with
      | nil => simp [behind] at hx
      | cons y q =>
        simp only [behind] at hx
        split at hx
        · exact hq x (by simp [hx])
        · exact hq x hx
    exact h2 _ (dw_bytes hB)
  rw [empty_iff]
  have j0e : lexer_Cut_j0 (⟨#[]⟩ : ByteArray) t = some (lineM [] (sbl t), 0) := j0_is ht []
  match hc : sbl t with
  | [] =>
    simp only [List.isEmpty_nil, Bool.not_true, Bool.false_eq_true, false_implies, if_true, if_false, Bool.false_and, Option.bind_some]
    rw [j0e, hc]; rfl
  | x :: r =>
    have hd : (sbl t).drop 0 = x :: r := hc
    obtain ⟨e1, g1, r1, h1⟩ := btCons hd
    rw [show (((0 : Nat) : Int)) = 0 from rfl] at e1 g1
    rw [if_pos (fun _ => g1), e1]
    have eb : lexer_blank x = some (blB x) := rfl
    simp only [List.isEmpty_cons, Bool.not_false, if_true, eb, Option.bind_some, Bool.true_and]
    cases hx : blB x with
    | true =>
      rw [if_neg (by simp), j0e, hc]
      simp [cutU, headNb, nbB, hx]
    | false =>
      rw [if_pos (by rfl), label_is ht, Option.bind_some]
      simp only
      rw [right_is (bsz (by have := tw_len_le (p := labB) (sbl t); omega)), Option.bind_some, sbl_bs (tw_bytes hB)]
      have hh : headNb (x :: r) = true := by simp [headNb, nbB, hx]
      unfold cutU
      rw [if_pos hh, ← hc]
      cases hr : rightB ((sbl t).takeWhile labB) with
      | false => rfl
      | true =>
        rw [if_neg (by simp), j0_is (bsz (by omega)), sbl_bs bb, if_pos rfl]

theorem lexCut_is {s : ByteArray} (hs : s.size < 100000) : lexer_Cut s = some (cutM (sbl s)) := by
  have hB := sblB s
  have hl : (sbl s).length < 100000 := by rw [sbl_len]; exact hs
  unfold lexer_Cut cutM
  rw [show (⟨#[59]⟩ : ByteArray) = s1 59 from rfl]
  have hN : ∀ A : List Int, ((59 : UInt8).toNat : Int) ∉ A → ∀ x ∈ A, ne59 x = true := fun A hA x hx => by
    have : x ≠ 59 := fun e => hA (by subst e; exact hx)
    simp [ne59, this]
  rcases cut_spec s 59 hs with ⟨h1, h2⟩ | ⟨A, B, h1, h2, h3⟩
  · rw [h2, Option.bind_some]
    have e : (sbl s).takeWhile ne59 = sbl s := tw_all (List.all_eq_true.2 (hN _ h1))
    rw [e]
    exact cutU_is hs
  · rw [h3, Option.bind_some]
    have := (tw_app B (show ne59 59 = false by decide) (hN _ h2)).1
    have e : (sbl s).takeWhile ne59 = A := by rw [h1]; exact this
    have hA : ∀ x ∈ A, 0 ≤ x ∧ x < 256 := by rw [← e]; exact tw_bytes hB
    have hlA : A.length < 100000 := by rw [← e]; have := tw_len_le (p := ne59) (sbl s); omega
    have := cutU_is (t := bs A) (bsz hlA)
    rw [sbl_bs hA] at this
    rw [e]
    exact this
end Go.Proofs.YthooddibdmigmaaDoorK
