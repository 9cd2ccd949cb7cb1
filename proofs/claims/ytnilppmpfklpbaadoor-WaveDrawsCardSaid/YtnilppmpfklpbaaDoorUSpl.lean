/- Texts cut at a byte: strings.Split. -/
import Derived.Test.YtnilppmpfklpbaaDoorF
import Derived.Test.YtnilppmpfklpbaaDoorUB
namespace Go.Proofs.YtnilppmpfklpbaaDoorK
set_option linter.unusedVariables false
set_option linter.unusedSimpArgs false
set_option maxHeartbeats 4000000
open Go.RowKit
attribute [local irreducible] dwv mops lops lqops lwops kont iter run runK rk okK ex E1 vals val chain chB sel resF

/-- The pieces between such bytes. -/
def cutAt (c : Int) : List Int → List (List Int)
  | [] => [[]]
  | x :: r => if x = c then [] :: cutAt c r else match cutAt c r with
    | [] => [[x]]
    | p :: q => (x :: p) :: q
theorem cutAt_ne (c : Int) : ∀ l, cutAt c l ≠ []
  | [] => by simp [cutAt]
  | x :: r => by
    unfold cutAt
    split
    · simp
    · split <;> simp
/-- The first piece, and what is behind it. -/
theorem cutAt_none {c : Int} : ∀ {l : List Int}, c ∉ l → cutAt c l = [l]
  | [], _ => rfl
  | x :: r, h => by
    simp only [List.mem_cons, not_or] at h
    unfold cutAt
    rw [if_neg (fun e => h.1 e.symm), cutAt_none h.2]
theorem cutAt_app {c : Int} (b : List Int) : ∀ {a : List Int}, c ∉ a → cutAt c (a ++ c :: b) = a :: cutAt c b
  | [], _ => by simp [cutAt]
  | x :: r, h => by
    simp only [List.mem_cons, not_or] at h
    rw [List.cons_append, cutAt, if_neg (fun e => h.1 e.symm), cutAt_app b h.2]
theorem cutAt_count (c : Int) : ∀ l, (cutAt c l).length = l.count c + 1
  | [] => rfl
  | x :: r => by
    unfold cutAt
    by_cases h : x = c
    · rw [if_pos h, List.length_cons, cutAt_count c r, h, List.count_cons_self]
    · rw [if_neg h, List.count_cons_of_ne h]
      have := cutAt_count c r
      split
      · rename_i e; exact absurd e (cutAt_ne c r)
      · rename_i p q e; rw [e] at this; exact this

theorem ixB_spec (c : UInt8) : ∀ (l : List UInt8), (c ∉ l ∧ ixB l c = -1) ∨ ∃ a b, l = a ++ c :: b ∧ c ∉ a ∧ ixB l c = (a.length : Int)
  | [] => .inl ⟨by simp, rfl⟩
  | x :: r => by
    unfold ixB
    by_cases h : x = c
    · subst h
      exact .inr ⟨[], r, rfl, by simp, by simp⟩
    · have hb : (x == c) = false := by simpa using h
      rw [hb]
      rcases ixB_spec c r with ⟨h1, h2⟩ | ⟨a, b, h1, h2, h3⟩
      · exact .inl ⟨by simp only [List.mem_cons, not_or]; exact ⟨fun e => h e.symm, h1⟩, by rw [h2]; rfl⟩
      · refine .inr ⟨x :: a, b, by rw [h1]; rfl, by simp only [List.mem_cons, not_or]; exact ⟨fun e => h e.symm, h2⟩, ?_⟩
        rw [h3, if_neg (by decide), if_neg (by simp only [beq_iff_eq]; omega)]
        simp
def s1 (c : UInt8) : ByteArray := ⟨#[c]⟩
theorem s1_size (c : UInt8) : sln (s1 c) = 1 := rfl
theorem index_is (s : ByteArray) (c : UInt8) : strings_Index s (s1 c) = some (ixB s.data.toList c) := rfl
theorem count_is (s : ByteArray) (c : UInt8) : strings_Count s (s1 c) = some ((s.data.toList.count c : Nat) : Int) := rfl

theorem sbl_data {s : ByteArray} {a b : List UInt8} {c : UInt8} (h : s.data.toList = a ++ c :: b) : sbl s = a.map (fun x => (x.toNat : Int)) ++ (c.toNat : Int) :: b.map (fun x => (x.toNat : Int)) := by
  unfold sbl; rw [h]; simp
theorem nat_inj {x y : UInt8} (h : (x.toNat : Int) = (y.toNat : Int)) : x = y := UInt8.toNat_inj.1 (by omega)
theorem notin_map {c : UInt8} {a : List UInt8} (h : c ∉ a) : (c.toNat : Int) ∉ a.map (fun x => (x.toNat : Int)) := by
  intro hm
  obtain ⟨x, hx, e⟩ := List.mem_map.1 hm
  exact h (nat_inj e ▸ hx)
theorem count_map (c : UInt8) : ∀ (l : List UInt8), (l.map (fun x => (x.toNat : Int))).count (c.toNat : Int) = l.count c
  | [] => rfl
  | x :: r => by
    rw [List.map_cons]
    by_cases h : x = c
    · subst h; rw [List.count_cons_self, List.count_cons_self, count_map]
    · rw [List.count_cons_of_ne h, List.count_cons_of_ne (fun e => h (nat_inj e)), count_map]

/-- The pieces of a text. -/
def pieces (c : UInt8) (s : ByteArray) : List ByteArray := (cutAt (c.toNat : Int) (sbl s)).map bs

theorem bs_map (a : List UInt8) : bs (a.map fun x => (x.toNat : Int)) = ⟨a.toArray⟩ := by
  apply sbl_inj
  rw [sbl_bs (by intro x hx; obtain ⟨y, _, rfl⟩ := List.mem_map.1 hx; have := y.toNat_lt; omega)]
  unfold sbl; simp

theorem set_at {α : Type} (a : List α) (x y : α) (b : List α) : (a ++ x :: b).set a.length y = a ++ y :: b := by simp


theorem data_size (s : ByteArray) : s.data.toList.length = s.size := by rw [Array.length_toList]; rfl
theorem ext_pre {t : ByteArray} {a b : List UInt8} {c : UInt8} (h : t.data.toList = a ++ c :: b) : t.extract 0 a.length = ⟨a.toArray⟩ := by
  apply sbl_inj
  rw [sbl_extract, sbl_data h]
  simp [sbl]
theorem ext_post {t : ByteArray} {a b : List UInt8} {c : UInt8} (h : t.data.toList = a ++ c :: b) : t.extract (a.length + 1) t.size = ⟨b.toArray⟩ := by
  apply sbl_inj
  have hs : t.size = a.length + (b.length + 1) := by rw [← data_size, h]; simp
  rw [sbl_extract, sbl_data h, hs]
  have e1 : (List.map (fun x : UInt8 => (x.toNat : Int)) a ++ (c.toNat : Int) :: List.map (fun x : UInt8 => (x.toNat : Int)) b).drop (a.length + 1) = List.map (fun x : UInt8 => (x.toNat : Int)) b := by
    rw [← List.drop_drop, List.drop_left' (by simp)]; rfl
  rw [e1]
  have e2 : a.length + (b.length + 1) - (a.length + 1) = b.length := by omega
  rw [e2, List.take_of_length_le (by simp)]
  simp [sbl]
theorem pieces_one {c : UInt8} {t : ByteArray} (h : c ∉ t.data.toList) : pieces c t = [t] := by
  unfold pieces
  rw [cutAt_none (by unfold sbl; exact notin_map h)]
  simp [bs_sbl]
theorem pieces_app {c : UInt8} {t : ByteArray} {a b : List UInt8} (h : t.data.toList = a ++ c :: b) (ha : c ∉ a) : pieces c t = ⟨a.toArray⟩ :: pieces c ⟨b.toArray⟩ := by
  unfold pieces
  rw [sbl_data h, cutAt_app _ (notin_map ha), List.map_cons, bs_map]
  rfl

theorem split_l0 {s : ByteArray} {c : UInt8} {M : Int} {n : Nat} (hn : IntKind.wrap .i64 ((if (IntKind.wrap .i64 ((sln s) + 1)) < M then (IntKind.wrap .i64 ((sln s) + 1)) else M) - 1) = (n : Int) - 1) (hn' : n < 2 ^ 44) :
    ∀ (d k : Nat) (ps : List ByteArray) (t : ByteArray), t.data.toList.count c = d → ps.length + d + 1 = n → d < k → t.size < 2 ^ 44 →
      ∃ ps' t', strings_genSplit_l0 s (s1 c) 0 M k (ps ++ List.replicate (d + 1) (⟨#[]⟩ : ByteArray)) t ((ps.length : Nat) : Int) = some (ps' ++ [(⟨#[]⟩ : ByteArray)], t', ((ps'.length : Nat) : Int)) ∧ ps' ++ [t'] = ps ++ pieces c t ∧ ps'.length + 1 = n
  | _, 0, _, _, _, _, hk, _ => by omega
  | 0, k + 1, ps, t, hd, hl, hk, hs => by
    refine ⟨ps, t, ?_, ?_, by omega⟩
    · rw [strings_genSplit_l0, hn, if_neg (by simp; omega)]
      rfl
    · rw [pieces_one (List.count_eq_zero.1 hd)]
  | d + 1, k + 1, ps, t, hd, hl, hk, hs => by
    have hmem : c ∈ t.data.toList := by
      by_cases h : c ∈ t.data.toList
      · exact h
      · rw [List.count_eq_zero.2 h] at hd; omega
    rcases ixB_spec c t.data.toList with ⟨h1, _⟩ | ⟨a, b, h1, h2, h3⟩
    · exact absurd hmem h1
    have hsz : t.size = a.length + (b.length + 1) := by rw [← data_size, h1]; simp
    have hcb : b.count c = d := by
      rw [h1, List.count_append, List.count_eq_zero.2 h2, List.count_cons_self] at hd; omega
    obtain ⟨ps', t', e1, e2, e3⟩ := split_l0 hn hn' d k (ps ++ [⟨a.toArray⟩]) ⟨b.toArray⟩ (by simpa using hcb) (by simp; omega) (by omega) (by
      show b.toArray.size < _
      simp; omega)
    refine ⟨ps', t', ?_, ?_, e3⟩
    · have hln : sln t = ((a.length + (b.length + 1) : Nat) : Int) := by unfold sln; rw [hsz]
      have w1 : IntKind.wrap .i64 ((a.length : Int) + 0) = (a.length : Int) := wrap_i64 (by omega) (by omega)
      have w2 : IntKind.wrap .i64 ((a.length : Int) + 1) = ((a.length + 1 : Nat) : Int) := wrap_i64 (by omega) (by omega)
      have w3 : IntKind.wrap .i64 (((ps.length : Nat) : Int) + 1) = (((ps ++ [(⟨a.toArray⟩ : ByteArray)]).length : Nat) : Int) := by
        rw [wrap_i64 (by omega) (by omega), List.length_append]; rfl
      rw [strings_genSplit_l0, hn, if_pos (decide_eq_true (by omega)), index_is]
      simp only [Option.bind_some]
      rw [h3, if_neg (fun h => by have := of_decide_eq_true h; omega), w1, if_pos (by rw [hln]; omega), if_pos (by unfold ln; simp only [List.length_append, List.length_replicate]; omega), s1_size, w2, if_pos (by rw [hln]; omega), w3]
      rw [Int.toNat_natCast, Int.toNat_natCast, ext_pre h1, ext_post h1]
      have hst : st (ps ++ List.replicate (d + 1 + 1) (⟨#[]⟩ : ByteArray)) ((ps.length : Nat) : Int) ⟨a.toArray⟩ = (ps ++ [⟨a.toArray⟩]) ++ List.replicate (d + 1) (⟨#[]⟩ : ByteArray) := by
        unfold st
        rw [Int.toNat_natCast, List.replicate_succ, set_at]; simp
      rw [hst]
      exact e1
    · rw [e2, pieces_app h1 h2]; simp

theorem split_is (s : ByteArray) (c : UInt8) (hs : s.size < 2 ^ 40) : strings_Split s (s1 c) = some (pieces c s) := by
  have hcs : s.data.toList.count c ≤ s.size := by rw [← data_size]; exact List.count_le_length
  have hlen : sln s = (s.size : Int) := rfl
  have w0 : IntKind.wrap .i64 (((s.data.toList.count c : Nat) : Int) + 1) = ((s.data.toList.count c + 1 : Nat) : Int) := wrap_i64 (by omega) (by omega)
  have w1 : IntKind.wrap .i64 (sln s + 1) = ((s.size + 1 : Nat) : Int) := by rw [hlen]; exact wrap_i64 (by omega) (by omega)
  have hM : (if (IntKind.wrap .i64 ((sln s) + 1)) < ((s.data.toList.count c + 1 : Nat) : Int) then (IntKind.wrap .i64 ((sln s) + 1)) else ((s.data.toList.count c + 1 : Nat) : Int)) = ((s.data.toList.count c + 1 : Nat) : Int) := by
    rw [w1, if_neg (by omega)]
  have hn : IntKind.wrap .i64 ((if (IntKind.wrap .i64 ((sln s) + 1)) < ((s.data.toList.count c + 1 : Nat) : Int) then (IntKind.wrap .i64 ((sln s) + 1)) else ((s.data.toList.count c + 1 : Nat) : Int)) - 1) = ((s.data.toList.count c + 1 : Nat) : Int) - 1 := by
    rw [hM]; exact wrap_i64 (by omega) (by omega)
  obtain ⟨ps', t', e1, e2, e3⟩ := split_l0 hn (by omega) (s.data.toList.count c) BIG [] s rfl (by simp) (by unfold BIG; omega) (by omega)
  unfold strings_Split strings_genSplit
  rw [if_neg (by decide), if_neg (by rw [teq]; simp [s1, sbl]), if_pos (by decide), count_is]
  simp only [Option.bind_some]
  rw [w0]
  unfold strings_genSplit_j0
  rw [hM, if_pos ⟨by omega, by omega, by omega, by omega⟩]
  have hrp : rp ((s.data.toList.count c + 1 : Nat) : Int) ((⟨#[]⟩ : ByteArray) : ByteArray) = [] ++ List.replicate (s.data.toList.count c + 1) (⟨#[]⟩ : ByteArray) := by simp [rp]
  rw [hrp]
  have e1' : strings_genSplit_l0 s (s1 c) 0 ((s.data.toList.count c + 1 : Nat) : Int) BIG ([] ++ List.replicate (s.data.toList.count c + 1) (⟨#[]⟩ : ByteArray)) s 0 = some (ps' ++ [(⟨#[]⟩ : ByteArray)], t', ((ps'.length : Nat) : Int)) := e1
  rw [e1']
  simp only [Option.bind_some]
  have hst : st (ps' ++ [(⟨#[]⟩ : ByteArray)]) ((ps'.length : Nat) : Int) t' = ps' ++ [t'] := by unfold st; rw [Int.toNat_natCast, set_at]
  have w3 : IntKind.wrap .i64 (((ps'.length : Nat) : Int) + 1) = ((ps'.length + 1 : Nat) : Int) := wrap_i64 (by omega) (by omega)
  rw [if_pos (by unfold ln; simp only [List.length_append, List.length_cons, List.length_nil]; omega), hst, w3, if_pos (by unfold ln; simp only [List.length_append, List.length_cons, List.length_nil]; omega)]
  congr 1
  rw [e2]
  have hl2 : (pieces c s).length = ps'.length + 1 := by
    have := congrArg List.length e2
    simpa using this.symm
  simp only [List.nil_append, List.drop_zero, Int.toNat_natCast, Nat.sub_zero]
  rw [← hl2, List.take_length]
  rfl
end Go.Proofs.YtnilppmpfklpbaaDoorK
