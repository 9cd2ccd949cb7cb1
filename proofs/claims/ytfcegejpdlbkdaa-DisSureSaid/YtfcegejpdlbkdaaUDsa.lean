/- Texts of numbers and of indexed operands tell them apart. -/
import Derived.Test.YtfcegejpdlbkdaaUDis4
namespace Go.Proofs.YtfcegejpdlbkdaaK
set_option linter.unusedVariables false
set_option linter.unusedSimpArgs false
set_option maxHeartbeats 1000000
open Go.RowKit
attribute [local irreducible] dwv mops lops lqops lwops kont iter run runK rk okK ex E1 vals val chain chB sel resF

theorem cut_inj {c : Int} : ∀ {a a' b b' : List Int}, c ∉ a → c ∉ a' → a ++ c :: b = a' ++ c :: b' → a = a' ∧ b = b'
  | [], [], b, b', _, _, h => ⟨rfl, by simpa using h⟩
  | [], x :: r, b, b', _, h2, h => by
    simp only [List.nil_append, List.cons_append, List.cons.injEq] at h
    exact absurd h.1 (fun e => h2 (by simp [e]))
  | x :: r, [], b, b', h1, _, h => by
    simp only [List.nil_append, List.cons_append, List.cons.injEq] at h
    exact absurd h.1 (fun e => h1 (by simp [e]))
  | x :: r, y :: s, b, b', h1, h2, h => by
    simp only [List.cons_append, List.cons.injEq] at h
    obtain ⟨rfl, h⟩ := h
    have := cut_inj (fun m => h1 (by simp [m])) (fun m => h2 (by simp [m])) h
    exact ⟨by rw [this.1], this.2⟩

/-! ### Numbers -/
def dvl (d : Int) : Int := if d < 58 then d - 48 else d - 55
def uv (b : Int) (l : List Int) : Int := l.foldl (fun a d => a * b + dvl d) 0
theorem uv_snoc (b : Int) (l : List Int) (d : Int) : uv b (l ++ [d]) = uv b l * b + dvl d := by simp [uv]
theorem dvl_dsg {n : Int} (h0 : 0 ≤ n) (h1 : n < 16) : dvl (dsg n) = n := by
  unfold dvl dsg
  by_cases h : n < 10
  · rw [if_pos h, if_pos (by omega)]; omega
  · rw [if_neg h, if_neg (by omega)]; omega
def dig (b x : Int) : Prop := (48 ≤ x ∧ x < 58) ∨ (b = 16 ∧ 65 ≤ x ∧ x < 71)
theorem dig_dsg {b n : Int} (hb : b = 10 ∨ b = 16) (h0 : 0 ≤ n) (h1 : n < b) : dig b (dsg n) := by
  unfold dig dsg
  by_cases h : n < 10
  · rw [if_pos h]; omega
  · rw [if_neg h]; omega
theorem digs_mono {base wd : Int} : ∀ (k : Nat) (n : Int) (s S : ByteArray), spinetref02_Digits_l0 base wd k n s = some S → s.size ≤ S.size
  | 0, _, _, _, h => by simp [spinetref02_Digits_l0] at h
  | k + 1, n, s, S, h => by
    rw [spinetref02_Digits_l0] at h
    split at h
    · obtain ⟨_, h⟩ := as_ok h
      obtain ⟨_, h⟩ := as_ok h
      obtain ⟨_, h⟩ := as_ok h
      obtain ⟨_, h⟩ := as_ok h
      have := digs_mono k _ _ _ h
      rw [sz_app] at this; omega
    · cases h; exact Nat.le_refl _
theorem digs_l0 {base : Int} (hb : base = 10 ∨ base = 16) {wd : Int} : ∀ (k : Nat) (n : Int) (s S : ByteArray), 0 ≤ n → n < 9223372036854775807 → S.size < 900 → spinetref02_Digits_l0 base wd k n s = some S → ∃ D : List Int, sbl S = D ++ sbl s ∧ uv base D = n ∧ ∀ x ∈ D, dig base x
  | 0, _, _, _, _, _, _, h => by simp [spinetref02_Digits_l0] at h
  | k + 1, n, s, S, h0, h1, hz, h => by
    have hs := digs_mono (k + 1) n s S h
    by_cases hc : (((decide (0 < n)) || (decide ((sln s) < wd))) || (s.toList == (⟨#[]⟩ : ByteArray).toList)) = true
    · rw [dg_step hb h0 h1 (by omega) hc] at h
      have hb0 : 0 < base := by omega
      have m0 : 0 ≤ n % base := Int.emod_nonneg _ (by omega)
      have m1 : n % base < base := Int.emod_lt_of_pos n hb0
      have d0 : 0 ≤ n / base := Int.ediv_nonneg h0 (by omega)
      have d1 : n / base ≤ n := Int.ediv_le_self _ h0
      obtain ⟨D, e1, e2, e3⟩ := digs_l0 hb k _ _ S d0 (by omega) hz h
      refine ⟨D ++ [dsg (n % base)], ?_, ?_, ?_⟩
      · rw [e1, sbl_app, sbl_bs (by
          intro x hx
          simp only [List.mem_singleton] at hx
          subst hx
          exact dsg_range m0 (by omega))]
        simp
      · rw [uv_snoc, e2, dvl_dsg m0 (by omega)]
        have := Int.mul_ediv_add_emod n base
        rw [Int.mul_comm] at this
        exact this
      · intro x hx
        rcases List.mem_append.1 hx with hx | hx
        · exact e3 x hx
        · simp only [List.mem_singleton] at hx
          subst hx
          exact dig_dsg hb m0 m1
    · rw [dg_stop hc] at h
      cases h
      refine ⟨[], rfl, ?_, by simp⟩
      have hn : ¬ 0 < n := fun h => hc (by rw [decide_eq_true h]; rfl)
      show (0 : Int) = n
      omega
theorem digs {base : Int} (hb : base = 10 ∨ base = 16) {n wd : Int} {S : ByteArray} (h0 : 0 ≤ n) (h1 : n < 9223372036854775807) (hz : S.size < 900) (h : spinetref02_Digits n base wd = some S) : uv base (sbl S) = n ∧ ∀ x ∈ sbl S, dig base x := by
  unfold spinetref02_Digits at h
  obtain ⟨S', h', h⟩ := Option.bind_eq_some_iff.1 h
  cases h
  obtain ⟨D, e1, e2, e3⟩ := digs_l0 hb BIG n _ S h0 h1 hz h'
  have e0 : sbl (⟨#[]⟩ : ByteArray) = [] := rfl
  rw [e0, List.append_nil] at e1
  rw [e1]
  exact ⟨e2, e3⟩
theorem hex_s {w wd : Int} (h0 : 0 ≤ w) (h1 : w < 65536) {W : ByteArray} (hz : W.size < 30) (h : spinetref42_Hex w wd = some W) : ∃ D, sbl W = 36 :: D ∧ uv 16 D = w ∧ ∀ x ∈ D, dig 16 x := by
  unfold spinetref42_Hex at h
  obtain ⟨S, hS, h⟩ := Option.bind_eq_some_iff.1 h
  obtain ⟨_, h⟩ := as_ok h
  cases h
  rw [wrap_u64 h0 (by omega)] at hS
  rw [sz_app, sz1] at hz
  obtain ⟨e1, e2⟩ := digs (.inr rfl) h0 (by omega) (by omega) hS
  exact ⟨sbl S, by rw [sbl_app]; rfl, e1, e2⟩
theorem word_s {w : Int} (h0 : 0 ≤ w) (h1 : w < 65536) {W : ByteArray} (h : dis_Word w = some W) : ∃ D, sbl W = 36 :: D ∧ uv 16 D = w ∧ ∀ x ∈ D, dig 16 x := by
  obtain ⟨W', q1, q2, q3, q4⟩ := word_t h0 h1
  rw [h] at q1; cases q1
  exact hex_s h0 h1 (by omega) q2
theorem bytes_s {w : Int} (h0 : 0 ≤ w) (h1 : w < 256) {W : ByteArray} (h : dis_Byte w = some W) : ∃ D, sbl W = 36 :: D ∧ uv 16 D = w ∧ ∀ x ∈ D, dig 16 x := by
  obtain ⟨W', q1, q2, q3⟩ := byte_t h0 h1
  rw [h] at q1; cases q1
  exact hex_s h0 (by omega) (by omega) q2
theorem signed_s {w : Int} (h0 : 0 ≤ w) (h1 : w < 65536) {S : ByteArray} (h : dis_signed w = some S) : ∃ D, (∀ x ∈ D, dig 10 x) ∧ (w ≤ 32767 ∧ sbl S = D ∧ uv 10 D = w ∧ D ≠ [] ∨ 32767 < w ∧ sbl S = 45 :: D ∧ uv 10 D = 65536 - w) := by
  have w1 : IntKind.wrap .u64 w = w := wrap_u64 (by omega) (by omega)
  unfold dis_signed at h
  rw [w1] at h
  by_cases hc : 32767 < w
  · have w3 : IntKind.wrap .u16 (0 - w) = 65536 - w := by rw [wrap_u16m]; omega
    have w4 : IntKind.wrap .u64 (65536 - w) = 65536 - w := wrap_u64 (by omega) (by omega)
    obtain ⟨S', q1, q2, q3, q4⟩ := dec_is (n := 65536 - w) (by omega) (by omega)
    rw [if_pos (decide_eq_true hc), w3, w4, q1, Option.bind_some, if_pos (by rw [sz1]; omega)] at h
    cases h
    obtain ⟨e1, e2⟩ := digs (.inl rfl) (by omega) (by omega) (by omega) q2
    exact ⟨sbl S', e2, .inr ⟨hc, by rw [sbl_app]; rfl, e1⟩⟩
  · obtain ⟨S', q1, q2, q3, q4⟩ := dec_is h0 (by omega)
    rw [if_neg (fun e => hc (of_decide_eq_true e)), q1, Option.bind_some] at h
    cases h
    obtain ⟨e1, e2⟩ := digs (.inl rfl) h0 (by omega) (by omega) q2
    exact ⟨sbl S, e2, .inl ⟨by omega, rfl, e1, fun e => by rw [← sbl_len, e] at q4; simp at q4⟩⟩
theorem word_i {v v' : Int} (h0 : 0 ≤ v) (h1 : v < 65536) (h0' : 0 ≤ v') (h1' : v' < 65536) {W W' : ByteArray} (h : dis_Word v = some W) (h' : dis_Word v' = some W') (e : sbl W = sbl W') : v = v' := by
  obtain ⟨D, a1, a2, _⟩ := word_s h0 h1 h
  obtain ⟨D', b1, b2, _⟩ := word_s h0' h1' h'
  rw [a1, b1, List.cons.injEq] at e
  rw [← a2, ← b2, e.2]
theorem byte_i {v v' : Int} (h0 : 0 ≤ v) (h1 : v < 256) (h0' : 0 ≤ v') (h1' : v' < 256) {W W' : ByteArray} (h : dis_Byte v = some W) (h' : dis_Byte v' = some W') (e : sbl W = sbl W') : v = v' := by
  obtain ⟨D, a1, a2, _⟩ := bytes_s h0 h1 h
  obtain ⟨D', b1, b2, _⟩ := bytes_s h0' h1' h'
  rw [a1, b1, List.cons.injEq] at e
  rw [← a2, ← b2, e.2]
theorem signed_i {v v' : Int} (h0 : 0 ≤ v) (h1 : v < 65536) (h0' : 0 ≤ v') (h1' : v' < 65536) {W W' : ByteArray} (h : dis_signed v = some W) (h' : dis_signed v' = some W') (e : sbl W = sbl W') : v = v' := by
  obtain ⟨D, d1, a⟩ := signed_s h0 h1 h
  obtain ⟨D', d1', b⟩ := signed_s h0' h1' h'
  rcases a with ⟨_, a1, a2, _⟩ | ⟨_, a1, a2⟩ <;> rcases b with ⟨_, b1, b2, _⟩ | ⟨_, b1, b2⟩ <;> rw [a1, b1] at e
  · rw [← a2, ← b2, e]
  · have := d1 45 (by rw [e]; simp)
    unfold dig at this; omega
  · have := d1' 45 (by rw [← e]; simp)
    unfold dig at this; omega
  · rw [List.cons.injEq] at e
    rw [e.2] at a2
    omega

/-! ### The texts of an indexed operand, as lists -/
def XL (k : Int) (R S0 S W : List Int) : List Int :=
  if k = 0 then 44 :: R else if k = 1 then S0 ++ 44 :: R else if k = 2 then 60 :: (S ++ 44 :: R) else if k = 3 then 62 :: (W ++ 44 :: R)
  else if k = 4 then 65 :: 44 :: R else if k = 5 then 66 :: 44 :: R else if k = 6 then 68 :: 44 :: R else if k = 7 then 44 :: (R ++ [43]) else if k = 8 then 44 :: (R ++ [43, 43])
  else if k = 9 then 44 :: 45 :: R else if k = 10 then 44 :: 45 :: 45 :: R else if k = 11 then 60 :: (S ++ 44 :: [80, 67]) else if k = 12 then 62 :: (W ++ 44 :: [80, 67]) else W
theorem idx_list {k : Int} (k0 : 0 ≤ k) (k1 : k < 14) (R S0 S W : ByteArray) : sbl (gt (idxT R S0 S W) k) = XL k (sbl R) (sbl S0) (sbl S) (sbl W) := by
  have c1 : sbl (⟨#[44]⟩ : ByteArray) = [44] := rfl
  have c2 : sbl (⟨#[60]⟩ : ByteArray) = [60] := rfl
  have c3 : sbl (⟨#[62]⟩ : ByteArray) = [62] := rfl
  have c4 : sbl (⟨#[65, 44]⟩ : ByteArray) = [65, 44] := rfl
  have c5 : sbl (⟨#[66, 44]⟩ : ByteArray) = [66, 44] := rfl
  have c6 : sbl (⟨#[68, 44]⟩ : ByteArray) = [68, 44] := rfl
  have c7 : sbl (⟨#[43]⟩ : ByteArray) = [43] := rfl
  have c8 : sbl (⟨#[43, 43]⟩ : ByteArray) = [43, 43] := rfl
  have c9 : sbl (⟨#[44, 45]⟩ : ByteArray) = [44, 45] := rfl
  have c10 : sbl (⟨#[44, 45, 45]⟩ : ByteArray) = [44, 45, 45] := rfl
  have c11 : sbl (⟨#[44, 80, 67]⟩ : ByteArray) = [44, 80, 67] := rfl
  have hk : k = 0 ∨ k = 1 ∨ k = 2 ∨ k = 3 ∨ k = 4 ∨ k = 5 ∨ k = 6 ∨ k = 7 ∨ k = 8 ∨ k = 9 ∨ k = 10 ∨ k = 11 ∨ k = 12 ∨ k = 13 := by omega
  have e : ∀ j : Nat, j < 14 → gt (idxT R S0 S W) (j : Int) = (idxT R S0 S W).getD j default := fun j _ => rfl
  rcases hk with rfl | rfl | rfl | rfl | rfl | rfl | rfl | rfl | rfl | rfl | rfl | rfl | rfl | rfl
  · show sbl ((⟨#[44]⟩ : ByteArray) ++ R) = _
    rw [sbl_app, c1]; rfl
  · show sbl ((S0 ++ (⟨#[44]⟩ : ByteArray)) ++ R) = _
    rw [sbl_app, sbl_app, c1, List.append_assoc]; rfl
  · show sbl ((((⟨#[60]⟩ : ByteArray) ++ S) ++ (⟨#[44]⟩ : ByteArray)) ++ R) = _
    rw [sbl_app, sbl_app, sbl_app, c1, c2, List.append_assoc, List.append_assoc]; rfl
  · show sbl ((((⟨#[62]⟩ : ByteArray) ++ W) ++ (⟨#[44]⟩ : ByteArray)) ++ R) = _
    rw [sbl_app, sbl_app, sbl_app, c1, c3, List.append_assoc, List.append_assoc]; rfl
  · show sbl ((⟨#[65, 44]⟩ : ByteArray) ++ R) = _
    rw [sbl_app, c4]; rfl
  · show sbl ((⟨#[66, 44]⟩ : ByteArray) ++ R) = _
    rw [sbl_app, c5]; rfl
  · show sbl ((⟨#[68, 44]⟩ : ByteArray) ++ R) = _
    rw [sbl_app, c6]; rfl
  · show sbl (((⟨#[44]⟩ : ByteArray) ++ R) ++ (⟨#[43]⟩ : ByteArray)) = _
    rw [sbl_app, sbl_app, c1, c7]; rfl
  · show sbl (((⟨#[44]⟩ : ByteArray) ++ R) ++ (⟨#[43, 43]⟩ : ByteArray)) = _
    rw [sbl_app, sbl_app, c1, c8]; rfl
  · show sbl ((⟨#[44, 45]⟩ : ByteArray) ++ R) = _
    rw [sbl_app, c9]; rfl
  · show sbl ((⟨#[44, 45, 45]⟩ : ByteArray) ++ R) = _
    rw [sbl_app, c10]; rfl
  · show sbl (((⟨#[60]⟩ : ByteArray) ++ S) ++ (⟨#[44, 80, 67]⟩ : ByteArray)) = _
    rw [sbl_app, sbl_app, c2, c11, List.append_assoc]; rfl
  · show sbl (((⟨#[62]⟩ : ByteArray) ++ W) ++ (⟨#[44, 80, 67]⟩ : ByteArray)) = _
    rw [sbl_app, sbl_app, c3, c11, List.append_assoc]; rfl
  · rfl

/-- What a text begins with. -/
def cls (l : List Int) : Nat := match l with
  | [] => 0
  | x :: _ => if x = 44 then 1 else if x = 60 then 2 else if x = 62 then 3 else if x = 65 then 4 else if x = 66 then 5 else if x = 68 then 6 else if x = 36 then 7 else if x = 91 then 9 else if x = 35 then 10 else 8
def kcls (k : Int) : Nat := if k = 0 ∨ k = 7 ∨ k = 8 ∨ k = 9 ∨ k = 10 then 1 else if k = 2 ∨ k = 11 then 2 else if k = 3 ∨ k = 12 then 3 else if k = 4 then 4 else if k = 5 then 5 else if k = 6 then 6 else if k = 13 then 7 else 8
/-- A number with a sign, as a list. -/
def isS (S : List Int) : Prop := ∃ D, (∀ x ∈ D, dig 10 x) ∧ (S = D ∧ D ≠ [] ∨ S = 45 :: D)
def isW (W : List Int) : Prop := ∃ D, W = 36 :: D ∧ ∀ x ∈ D, dig 16 x
theorem isS_no {S : List Int} (h : isS S) : (44 : Int) ∉ S := by
  obtain ⟨D, d, e | e⟩ := h
  · rw [e.1]; intro m; have := d 44 m; unfold dig at this; omega
  · rw [e]; intro m
    rcases List.mem_cons.1 m with m | m
    · omega
    · have := d 44 m; unfold dig at this; omega
theorem isW_no {W : List Int} (h : isW W) : (44 : Int) ∉ W := by
  obtain ⟨D, e, d⟩ := h
  rw [e]; intro m
  rcases List.mem_cons.1 m with m | m
  · omega
  · have := d 44 m; unfold dig at this; omega
theorem isS_cls {S : List Int} (h : isS S) (r : List Int) : cls (S ++ r) = 8 := by
  obtain ⟨D, d, e | e⟩ := h
  · obtain ⟨rfl, e⟩ := e
    cases S with
    | nil => exact absurd rfl e
    | cons x q =>
      have := d x (by simp)
      unfold dig at this
      simp only [List.cons_append, cls]
      rw [if_neg (by omega), if_neg (by omega), if_neg (by omega), if_neg (by omega), if_neg (by omega), if_neg (by omega), if_neg (by omega), if_neg (by omega), if_neg (by omega)]
  · rw [e]; rfl
theorem XL_cls {k : Int} (k0 : 0 ≤ k) (k1 : k < 14) {R S0 S W : List Int} (h0 : isS S0) (hW : isW W) : cls (XL k R S0 S W) = kcls k := by
  have hk : k = 0 ∨ k = 1 ∨ k = 2 ∨ k = 3 ∨ k = 4 ∨ k = 5 ∨ k = 6 ∨ k = 7 ∨ k = 8 ∨ k = 9 ∨ k = 10 ∨ k = 11 ∨ k = 12 ∨ k = 13 := by omega
  rcases hk with rfl | rfl | rfl | rfl | rfl | rfl | rfl | rfl | rfl | rfl | rfl | rfl | rfl | rfl
  case inr.inl => exact isS_cls h0 _
  case inr.inr.inr.inr.inr.inr.inr.inr.inr.inr.inr.inr.inr =>
    obtain ⟨D, e, _⟩ := hW
    show cls W = 7
    rw [e]; rfl
  all_goals rfl
def reg1 (R : List Int) : Prop := R = [88] ∨ R = [89] ∨ R = [85] ∨ R = [83]
theorem XL_inj {k k' : Int} (k0 : 0 ≤ k) (k1 : k < 14) (k0' : 0 ≤ k') (k1' : k' < 14) {R S0 S W R' S0' S' W' : List Int}
    (h0 : isS S0) (hS : isS S) (hW : isW W) (hR : k ≤ 10 → reg1 R) (h0' : isS S0') (hS' : isS S') (hW' : isW W') (hR' : k' ≤ 10 → reg1 R')
    (h : XL k R S0 S W = XL k' R' S0' S' W') : k = k' ∧ (k ≤ 10 → R = R') ∧ (k = 1 → S0 = S0') ∧ (k = 2 ∨ k = 11 → S = S') ∧ (k = 3 ∨ k = 12 ∨ k = 13 → W = W') := by
  have hc : kcls k = kcls k' := by rw [← XL_cls k0 k1 h0 hW, ← XL_cls k0' k1' h0' hW', h]
  have hk : k = 0 ∨ k = 1 ∨ k = 2 ∨ k = 3 ∨ k = 4 ∨ k = 5 ∨ k = 6 ∨ k = 7 ∨ k = 8 ∨ k = 9 ∨ k = 10 ∨ k = 11 ∨ k = 12 ∨ k = 13 := by omega
  have hk' : k' = 0 ∨ k' = 1 ∨ k' = 2 ∨ k' = 3 ∨ k' = 4 ∨ k' = 5 ∨ k' = 6 ∨ k' = 7 ∨ k' = 8 ∨ k' = 9 ∨ k' = 10 ∨ k' = 11 ∨ k' = 12 ∨ k' = 13 := by omega
  have nS := isS_no hS
  have nS' := isS_no hS'
  have n0 := isS_no h0
  have n0' := isS_no h0'
  have nW := isW_no hW
  have nW' := isW_no hW'
  rcases hk with rfl | rfl | rfl | rfl | rfl | rfl | rfl | rfl | rfl | rfl | rfl | rfl | rfl | rfl <;>
  rcases hk' with rfl | rfl | rfl | rfl | rfl | rfl | rfl | rfl | rfl | rfl | rfl | rfl | rfl | rfl <;>
  first
    | (exfalso; revert hc; decide)
    | (simp only [XL, if_true, if_false, reduceCtorEq, Int.reduceEq, List.cons.injEq, true_and] at h
       first
        | exact ⟨rfl, fun _ => h, fun e => absurd e (by decide), fun e => absurd e (by decide), fun e => absurd e (by decide)⟩
        | exact ⟨rfl, fun _ => List.append_cancel_right h, fun e => absurd e (by decide), fun e => absurd e (by decide), fun e => absurd e (by decide)⟩
        | exact ⟨rfl, fun e => absurd e (by decide), fun e => absurd e (by decide), fun e => absurd e (by decide), fun _ => h⟩
        | exact ⟨rfl, fun _ => (cut_inj n0 n0' h).2, fun _ => (cut_inj n0 n0' h).1, fun e => absurd e (by decide), fun e => absurd e (by decide)⟩
        | exact ⟨rfl, fun _ => (cut_inj nS nS' h).2, fun e => absurd e (by decide), fun _ => (cut_inj nS nS' h).1, fun e => absurd e (by decide)⟩
        | exact ⟨rfl, fun e => absurd e (by decide), fun e => absurd e (by decide), fun _ => (cut_inj nS nS' h).1, fun e => absurd e (by decide)⟩
        | exact ⟨rfl, fun _ => (cut_inj nW nW' h).2, fun e => absurd e (by decide), fun e => absurd e (by decide), fun _ => (cut_inj nW nW' h).1⟩
        | exact ⟨rfl, fun e => absurd e (by decide), fun e => absurd e (by decide), fun e => absurd e (by decide), fun _ => (cut_inj nW nW' h).1⟩
        | exact absurd (cut_inj nS nS' h).2 (by rcases hR (by decide) with e | e | e | e <;> rw [e] <;> simp)
        | exact absurd (cut_inj nS nS' h).2 (by rcases hR' (by decide) with e | e | e | e <;> rw [e] <;> simp)
        | exact absurd (cut_inj nW nW' h).2 (by rcases hR (by decide) with e | e | e | e <;> rw [e] <;> simp)
        | exact absurd (cut_inj nW nW' h).2 (by rcases hR' (by decide) with e | e | e | e <;> rw [e] <;> simp)
        | (exfalso; rcases hR (by decide) with e | e | e | e <;> rcases hR' (by decide) with e' | e' | e' | e' <;> rw [e, e'] at h <;> simp at h))
end Go.Proofs.YtfcegejpdlbkdaaK
