/- Lists and strings, as the printed functions read them. No program in sight. -/
import Derived.Test.YtfdadnldlngmeaaRh
import Derived.Laws.BitsLemmas
import Derived.Laws.Strings
namespace Go.Proofs.YtfdadnldlngmeaaK
set_option linter.unusedVariables false
set_option linter.unusedSimpArgs false
open Go.RowKit

theorem opt_eta {α : Type} (o : Option α) : (o.bind fun x => some x) = o := by cases o <;> rfl
theorem gtAt {α : Type} [Inhabited α] {l : List α} {i : Nat} {x : α} (h : l[i]? = some x) : gt l (i : Int) = x := by
  simp [gt, List.getD, h]
theorem dropAt {α : Type} {l r : List α} {i : Nat} {x : α} (h : l.drop i = x :: r) : l[i]? = some x ∧ l.drop (i + 1) = r ∧ i < l.length := by
  have hi : i < l.length := by
    rcases Nat.lt_or_ge i l.length with h' | h'
    · exact h'
    · rw [List.drop_eq_nil_of_le h'] at h; cases h
  rw [List.drop_eq_getElem_cons hi] at h
  injection h with h1 h2
  exact ⟨by rw [List.getElem?_eq_getElem hi, h1], h2, hi⟩
theorem gtCons {α : Type} [Inhabited α] {l r : List α} {i : Nat} {x : α} (h : l.drop i = x :: r) : gt l (i : Int) = x ∧ (0 ≤ (i : Int) ∧ (i : Int) < ln l) ∧ l.drop (i + 1) = r := by
  obtain ⟨h1, h2, h3⟩ := dropAt h
  exact ⟨gtAt h1, ⟨by omega, by unfold ln; omega⟩, h2⟩
theorem gtNil {α : Type} {l : List α} {i : Nat} (h : l.drop i = []) : ¬ (i : Int) < ln l := by
  rw [List.drop_eq_nil_iff] at h; unfold ln; omega
theorem dropNil_len {α : Type} {l : List α} : l.drop l.length = [] := List.drop_eq_nil_iff.2 (Nat.le_refl _)

theorem sblLen (s : ByteArray) : ((sbl s).length : Int) = sln s := by unfold sln; rw [sbl_len]
theorem btAt {s : ByteArray} {i : Nat} {x : Int} (h : (sbl s)[i]? = some x) : bt s (i : Int) = x := by
  unfold sbl at h
  rw [List.getElem?_map] at h
  obtain ⟨b, hb, rfl⟩ := Option.map_eq_some_iff.1 h
  simp only [bt, Int.toNat_natCast]
  rw [Array.getElem?_toList] at hb
  rw [Array.getD_eq_getD_getElem?, hb]; rfl
theorem sblRange {s : ByteArray} {x : Int} (h : x ∈ sbl s) : 0 ≤ x ∧ x < 256 := by
  unfold sbl at h
  obtain ⟨b, _, rfl⟩ := List.mem_map.1 h
  have := b.toNat_lt
  omega
theorem btCons {s : ByteArray} {i : Nat} {x : Int} {r : List Int} (h : (sbl s).drop i = x :: r) : bt s (i : Int) = x ∧ (0 ≤ (i : Int) ∧ (i : Int) < sln s) ∧ (0 ≤ x ∧ x < 256) ∧ (sbl s).drop (i + 1) = r := by
  obtain ⟨h1, h2, h3⟩ := dropAt h
  exact ⟨btAt h1, ⟨by omega, by rw [← sblLen]; omega⟩, sblRange (List.mem_of_getElem? h1), h2⟩
theorem btNil {s : ByteArray} {i : Nat} (h : (sbl s).drop i = []) : ¬ (i : Int) < sln s := by
  rw [List.drop_eq_nil_iff] at h; rw [← sblLen]; omega

theorem sbl_inj {a b : ByteArray} (h : sbl a = sbl b) : a = b := by
  obtain ⟨⟨x⟩⟩ := a
  obtain ⟨⟨y⟩⟩ := b
  simp only [sbl] at h
  have : x = y := by
    have h2 := congrArg (List.map fun n : Int => UInt8.ofNat n.toNat) h
    simpa [Function.comp_def] using h2
  rw [this]
theorem sbl_bs {l : List Int} (h : ∀ x ∈ l, 0 ≤ x ∧ x < 256) : sbl (bs l) = l := by
  unfold sbl bs
  simp only [List.map_map]
  have e : ∀ x ∈ l, ((fun b : UInt8 => (b.toNat : Int)) ∘ fun b : Int => UInt8.ofNat b.toNat) x = x := by
    intro x hx
    have := h x hx
    simp [UInt8.toNat_ofNat]
    omega
  exact (List.map_congr_left e).trans (List.map_id l)
theorem bs_sbl (s : ByteArray) : bs (sbl s) = s := sbl_inj (sbl_bs fun x hx => sblRange hx)
theorem bs_app (a b : List Int) : bs (a ++ b) = bs a ++ bs b := by
  unfold bs
  apply ByteArray.ext
  simp [ByteArray.data_append]
theorem sbl_app (a b : ByteArray) : sbl (a ++ b) = sbl a ++ sbl b := by
  unfold sbl
  simp [ByteArray.data_append]
theorem sbl_extract (s : ByteArray) (a b : Nat) : sbl (s.extract a b) = ((sbl s).drop a).take (b - a) := by
  unfold sbl
  simp [ByteArray.data_extract, Array.toList_extract, List.extract_eq_take_drop, List.map_drop, List.map_take]
theorem bs_size (l : List Int) : (bs l).size = l.length := by simp [bs, ByteArray.size]
theorem toList_is (s : ByteArray) : s.toList = s.data.toList := ByteArray.toList_eq s
theorem teq (a b : ByteArray) : (a.toList == b.toList) = (sbl a == sbl b) := by
  rw [toList_is, toList_is, Bool.eq_iff_iff, beq_iff_eq, beq_iff_eq]
  constructor
  · intro h; unfold sbl; rw [h]
  · intro h; rw [sbl_inj h]
theorem teqs {a b : List Int} (ha : ∀ x ∈ a, 0 ≤ x ∧ x < 256) (hb : ∀ x ∈ b, 0 ≤ x ∧ x < 256) : ((bs a).toList == (bs b).toList) = (a == b) := by rw [teq, sbl_bs ha, sbl_bs hb]
theorem okBytes {l : List Int} (h : ∀ a ∈ l, okI .u8 a) : ∀ x ∈ l, 0 ≤ x ∧ x < 256 := fun x hx => okI_u8 (h x hx)

theorem wrapN {n : Nat} (h : n < 2 ^ 62) : IntKind.wrap .i64 (n : Int) = n := wrap_i64 (by omega) (by omega)
theorem wrapS {n : Nat} (h : n < 2 ^ 62) : IntKind.wrap .i64 ((n : Int) + 1) = ((n + 1 : Nat) : Int) := by rw [wrap_i64 (by omega) (by omega)]; rfl
theorem bigS (n : Nat) (h : n < 1000000) : ∃ k, BIG = k + n + 1 := ⟨BIG - n - 1, by unfold BIG; omega⟩

/-- Bits that lie apart. -/
theorem or_add {k : IntKind} (j : Nat) (hj : j ≤ k.bits) (hk : ∀ n : Int, 0 ≤ n → n < 2 ^ j → k.wrap n = n) (i : Nat) {a b : Int} (ha : 0 ≤ a) (hb : 0 ≤ b) (hb' : b < 2 ^ i) (hs : a * 2 ^ i + b < 2 ^ j) : bits .or k (a * 2 ^ i) b = a * 2 ^ i + b := by
  obtain ⟨x, rfl⟩ := Int.eq_ofNat_of_zero_le ha
  obtain ⟨y, rfl⟩ := Int.eq_ofNat_of_zero_le hb
  have hy : y < 2 ^ i := by exact_mod_cast hb'
  have hs' : x * 2 ^ i + y < 2 ^ j := by exact_mod_cast hs
  have h := (bits_nat k j hj hk (x * 2 ^ i) y (by omega) (by omega)).2
  have e : x * 2 ^ i ||| y = x * 2 ^ i + y := by
    rw [Nat.mul_comm]; exact (Nat.two_pow_add_eq_or_of_lt hy x).symm
  rw [e] at h
  push_cast at h ⊢
  exact h
theorem or_u8 (i : Nat) {a b : Int} (ha : 0 ≤ a) (hb : 0 ≤ b) (hb' : b < 2 ^ i) (hs : a * 2 ^ i + b < 256) : bits .or .u8 (a * 2 ^ i) b = a * 2 ^ i + b := or_add 8 (by decide) (fun n h h' => wrap_u8 h h') i ha hb hb' hs
theorem or_u16 (i : Nat) {a b : Int} (ha : 0 ≤ a) (hb : 0 ≤ b) (hb' : b < 2 ^ i) (hs : a * 2 ^ i + b < 65536) : bits .or .u16 (a * 2 ^ i) b = a * 2 ^ i + b := or_add 16 (by decide) (fun n h h' => wrap_u16 h h') i ha hb hb' hs
theorem and_u8 (i : Nat) (hi : i ≤ 8) {a : Int} (ha : 0 ≤ a) (ha' : a < 256) : bits .and .u8 a (2 ^ i - 1) = a % 2 ^ i := bits_mask .u8 8 (by decide) (fun n h h' => wrap_u8 h h') i hi a ha ha'
theorem and_u16 (i : Nat) (hi : i ≤ 16) {a : Int} (ha : 0 ≤ a) (ha' : a < 65536) : bits .and .u16 a (2 ^ i - 1) = a % 2 ^ i := bits_mask .u16 16 (by decide) (fun n h h' => wrap_u16 h h') i hi a ha ha'
end Go.Proofs.YtfdadnldlngmeaaK
