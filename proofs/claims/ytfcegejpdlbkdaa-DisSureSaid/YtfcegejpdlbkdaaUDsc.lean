/- The law DisSure: two instructions that are sure, and have one text at one address, are one. -/
import Derived.Test.YtfcegejpdlbkdaaUDsb
namespace Go.Proofs.YtfcegejpdlbkdaaK
set_option linter.unusedVariables false
set_option linter.unusedSimpArgs false
set_option maxHeartbeats 1000000
open Go.RowKit
attribute [local irreducible] dwv mops lops lqops lwops kont iter run runK rk okK ex E1 vals val chain chB sel resF

section
variable {i : api_Inst} {at_ : Int} {O : ByteArray} (h : dis_operand i at_ = some O)
include h
theorem f0 (hm : i.Entry.Mode = 0) : sbl O = [] := by
  unfold dis_operand dis_operand_j0 at h
  repeat first
    | rw [if_neg (by rw [hm]; decide)] at h
    | rw [if_pos (by rw [hm]; decide)] at h
  cases h; rfl
theorem f1 (hm : i.Entry.Mode = 1) (v0 : 0 ≤ i.Value) (v1 : i.Value < 256) : ∃ W, dis_Byte i.Value = some W ∧ sbl O = 35 :: sbl W := by
  unfold dis_operand at h
  rw [if_pos (by rw [hm]; decide), low_is, show i.Value % 256 = i.Value by omega, Option.bind_some] at h
  obtain ⟨W, hW, h⟩ := Option.bind_eq_some_iff.1 h
  obtain ⟨_, h⟩ := as_ok h
  cases h
  exact ⟨W, hW, by rw [sbl_app]; rfl⟩
theorem f2 (hm : i.Entry.Mode = 2) : ∃ W, dis_Word i.Value = some W ∧ sbl O = 35 :: sbl W := by
  unfold dis_operand at h
  rw [if_neg (by rw [hm]; decide), if_pos (by rw [hm]; decide)] at h
  obtain ⟨W, hW, h⟩ := Option.bind_eq_some_iff.1 h
  obtain ⟨_, h⟩ := as_ok h
  cases h
  exact ⟨W, hW, by rw [sbl_app]; rfl⟩
theorem f3 (hm : i.Entry.Mode = 3) (v0 : 0 ≤ i.Value) (v1 : i.Value < 256) : ∃ W, dis_Byte i.Value = some W ∧ sbl O = 60 :: sbl W := by
  unfold dis_operand at h
  rw [if_neg (by rw [hm]; decide), if_neg (by rw [hm]; decide), if_pos (by rw [hm]; decide), low_is, show i.Value % 256 = i.Value by omega, Option.bind_some] at h
  obtain ⟨W, hW, h⟩ := Option.bind_eq_some_iff.1 h
  obtain ⟨_, h⟩ := as_ok h
  cases h
  exact ⟨W, hW, by rw [sbl_app]; rfl⟩
theorem f5 (hm : i.Entry.Mode = 5) : ∃ W, dis_Word i.Value = some W ∧ sbl O = 62 :: sbl W := by
  unfold dis_operand at h
  rw [if_neg (by rw [hm]; decide), if_neg (by rw [hm]; decide), if_neg (by rw [hm]; decide), if_pos (by rw [hm]; decide)] at h
  obtain ⟨W, hW, h⟩ := Option.bind_eq_some_iff.1 h
  obtain ⟨_, h⟩ := as_ok h
  cases h
  exact ⟨W, hW, by rw [sbl_app]; rfl⟩
theorem f67 (hm : i.Entry.Mode = 6 ∨ i.Entry.Mode = 7) : dis_Word (IntKind.wrap .u16 ((IntKind.wrap .u16 (at_ + (IntKind.wrap .u16 i.Len))) + i.Value)) = some O := by
  have hg : inst_Target i at_ = some (IntKind.wrap .u16 ((IntKind.wrap .u16 (at_ + (IntKind.wrap .u16 i.Len))) + i.Value), true) := by
    unfold inst_Target inst_Next
    rw [if_neg (by rcases hm with e | e <;> rw [e] <;> decide), Option.bind_some]
  unfold dis_operand dis_operand_j0 at h
  rcases hm with hm | hm
  all_goals
    repeat first
      | rw [if_neg (by rw [hm]; decide)] at h
      | rw [if_pos (by rw [hm]; decide)] at h
    rw [hg, Option.bind_some] at h
    obtain ⟨W, hW, h⟩ := Option.bind_eq_some_iff.1 h
    cases h
    exact hW
theorem f8 (hm : i.Entry.Mode = 8) (p0 : 0 ≤ i.Post) (p1 : i.Post < 256) : ∃ A C, dis_Reg (i.Post / 16) = some A ∧ dis_Reg (i.Post % 16) = some C ∧ sbl O = sbl A ++ 44 :: sbl C := by
  have hh : IntKind.wrap .i64 (Int.fdiv i.Post (2 ^ (4))) = i.Post / 16 ∧ IntKind.wrap .i64 (bits .and .u8 i.Post 15) = i.Post % 16 := by
    obtain ⟨c, e, hc⟩ := upto hchk_all p0 p1
    simp only [hchk, Bool.and_eq_true, beq_iff_eq] at hc
    rw [e]; exact hc
  unfold dis_operand dis_operand_j0 at h
  repeat first
    | rw [if_neg (by rw [hm]; decide)] at h
    | rw [if_pos (by rw [hm]; decide)] at h
  rw [hh.1, hh.2] at h
  obtain ⟨A, hA, h⟩ := Option.bind_eq_some_iff.1 h
  obtain ⟨_, h⟩ := as_ok h
  obtain ⟨C, hC, h⟩ := Option.bind_eq_some_iff.1 h
  obtain ⟨_, h⟩ := as_ok h
  cases h
  refine ⟨A, C, hA, hC, ?_⟩
  have e44 : sbl (⟨#[44]⟩ : ByteArray) = [44] := rfl
  rw [sbl_app, sbl_app, e44, List.append_assoc]; rfl
theorem f9 (hm : i.Entry.Mode = 9) : lists_Text i.Post i.Entry.Reg = some O := by
  unfold dis_operand dis_operand_j0 at h
  repeat first
    | rw [if_neg (by rw [hm]; decide)] at h
    | rw [if_pos (by rw [hm]; decide)] at h
  obtain ⟨A, hA, h⟩ := Option.bind_eq_some_iff.1 h
  cases h
  exact hA
theorem f4 (hm : i.Entry.Mode = 4) : ∃ P X, post_Of i.Post = some P ∧ dis_indexed P i.Value = some X ∧ sbl O = if P.Indirect = true then 91 :: (sbl X ++ [93]) else sbl X := by
  unfold dis_operand dis_operand_j0 at h
  repeat first
    | rw [if_neg (by rw [hm]; decide)] at h
    | rw [if_pos (by rw [hm]; decide)] at h
  obtain ⟨P, hP, h⟩ := Option.bind_eq_some_iff.1 h
  obtain ⟨X, hX, h⟩ := Option.bind_eq_some_iff.1 h
  refine ⟨P, X, hP, hX, ?_⟩
  cases hi : P.Indirect with
  | true =>
    rw [hi, if_neg (by simp)] at h
    obtain ⟨Y, hY, h⟩ := Option.bind_eq_some_iff.1 h
    rw [hX] at hY; cases hY
    obtain ⟨_, h⟩ := as_ok h
    obtain ⟨_, h⟩ := as_ok h
    cases h
    rw [if_pos rfl, sbl_app, sbl_app]; rfl
  | false =>
    rw [hi, if_pos (show (!false) = true from rfl)] at h
    cases h
    rw [if_neg (by simp)]
end

/-- What an indexed operand's text is. -/
theorem x4 {p v : Int} (p0 : 0 ≤ p) (p1 : p < 256) (v0 : 0 ≤ v) (v1 : v < 65536) {P : post_Post} {X : ByteArray} (hP : post_Of p = some P) (hX : dis_indexed P v = some X) :
    ∃ R S0 S W, dis_signed P.Off = some S0 ∧ dis_signed v = some S ∧ dis_Word v = some W ∧ sbl X = XL P.Kind (sbl R) (sbl S0) (sbl S) (sbl W) ∧ isS (sbl S0) ∧ isS (sbl S) ∧ isW (sbl W) ∧ (P.Kind ≤ 10 → reg1 (sbl R)) ∧ 0 ≤ P.Kind ∧ P.Kind < 14 ∧
      (P.Kind ≠ 1 → P.Off = 0) ∧ P.Reg = (if P.Kind = 13 then 0 else if 10 < P.Kind then 5 else rinv (sbl R)) ∧ ((P.Kind = 2 ∨ P.Kind = 11) ∨ (P.Kind = 3 ∨ P.Kind = 12 ∨ P.Kind = 13) ∨ (behM 4 p).1 = 0) ∧ 0 ≤ P.Off ∧ P.Off < 65536 := by
  obtain ⟨P', Q, R, e1, e2, e3, e4, a2, a3, a4, a5, a6, a7, a8, a9, a10⟩ := post_f p0 p1
  rw [hP] at e1; cases e1
  obtain ⟨P', R', e1, b2, b3, b4, b5, b6⟩ := post_q p0 p1
  rw [hP] at e1; cases e1
  rw [e3] at b2; cases b2
  obtain ⟨S0, s1, s2, s3, _⟩ := signed_t a7 a8
  obtain ⟨S, t1, t2, t3, _⟩ := signed_t v0 v1
  obtain ⟨W, u1, u2, u3, u4⟩ := word_t v0 v1
  have hx := idx_dis a4 a5 e3 a2 s1 s3 t1 t3 u1 u3 a10
  rw [hX] at hx; cases hx
  have sg : ∀ {w : Int} {T : ByteArray}, 0 ≤ w → w < 65536 → dis_signed w = some T → isS (sbl T) := by
    intro w T w0 w1 hT
    obtain ⟨D, d, a⟩ := signed_s w0 w1 hT
    rcases a with ⟨_, a, _, b⟩ | ⟨_, a, _⟩
    · exact ⟨D, d, .inl ⟨a, b⟩⟩
    · exact ⟨D, d, .inr a⟩
  refine ⟨R, S0, S, W, s1, t1, u1, idx_list a4 a5 R S0 S W, sg a7 a8 s1, sg v0 v1 t1, ?_, b3, a4, a5, b4, b5, b6, a7, a8⟩
  obtain ⟨D, d1, _, d3⟩ := word_s v0 v1 u1
  exact ⟨D, d1, d3⟩

/-- The facts that hold of each instruction that bytes say. -/
structure IOk (i : api_Inst) : Prop where
  ent : i.Entry = refOf i.Page i.Code
  p0 : 0 ≤ i.Post
  p1 : i.Post < 256
  v0 : 0 ≤ i.Value
  v1 : i.Value < 65536
  m0 : 0 ≤ i.Entry.Mode
  m1 : i.Entry.Mode < 10
  one : i.Entry.Mode = 1 ∨ i.Entry.Mode = 3 → i.Value < 256
  nop : posM i.Entry.Mode = false → i.Post = 0
  nov : (behM i.Entry.Mode i.Post).1 = 0 → i.Value = 0
  len : i.Len = (if i.Page = 1 then 1 else 2) + (if posM i.Entry.Mode = true then 1 else 0) + (((behM i.Entry.Mode i.Post).1.toNat : Nat) : Int)

theorem modI_ok {b : List Int} (hb : ∀ a ∈ b, okI .u8 a) : IOk (modI b) := by
  have hm := modI_mode b
  have hp := modI_post hb
  have hv := modI_val hb
  have key : ∀ (pg c : Int) (k : Nat), ((k : Nat) : Int) = (if pg = 1 then 1 else 2) → (modAt b pg c k).Entry = refOf pg c ∧ (posM (modAt b pg c k).Entry.Mode = false → (modAt b pg c k).Post = 0) ∧ ((behM (modAt b pg c k).Entry.Mode (modAt b pg c k).Post).1 = 0 → (modAt b pg c k).Value = 0) ∧
      (modAt b pg c k).Len = (if pg = 1 then 1 else 2) + (if posM (modAt b pg c k).Entry.Mode = true then 1 else 0) + (((behM (modAt b pg c k).Entry.Mode (modAt b pg c k).Post).1.toNat : Nat) : Int) := by
    intro pg c k hk
    unfold modAt
    simp only
    refine ⟨trivial, fun e => by rw [if_neg (by rw [e]; simp)], fun e => ?_, ?_⟩
    · unfold valM
      rw [if_neg (by rw [e]; decide), if_neg (by rw [e]; decide)]
    · rw [← hk]
      split <;> omega
  have h2 : (modI b).Entry = refOf (modI b).Page (modI b).Code ∧ (posM (modI b).Entry.Mode = false → (modI b).Post = 0) ∧ ((behM (modI b).Entry.Mode (modI b).Post).1 = 0 → (modI b).Value = 0) ∧
      (modI b).Len = (if (modI b).Page = 1 then 1 else 2) + (if posM (modI b).Entry.Mode = true then 1 else 0) + (((behM (modI b).Entry.Mode (modI b).Post).1.toNat : Nat) : Int) := by
    by_cases hc : byteAt b 0 = 16 ∨ byteAt b 0 = 17
    · have e : modI b = modAt b (byteAt b 0 - 14) (byteAt b 1) 2 := by unfold modI; rw [if_pos hc]
      rw [e]
      exact key _ _ 2 (by rw [if_neg (by omega)]; rfl)
    · have e : modI b = modAt b 1 (byteAt b 0) 1 := by unfold modI; rw [if_neg hc]
      rw [e]
      exact key _ _ 1 (by rw [if_pos rfl]; rfl)
  exact ⟨h2.1, hp.1, hp.2, hv.1, hv.2, hm.1, hm.2, modI_one hb, h2.2.1, h2.2.2.1, h2.2.2.2⟩

theorem inst_eq {i k : api_Inst} (hi : IOk i) (hk : IOk k) (a : i.Page = k.Page) (b : i.Code = k.Code) (c : i.Post = k.Post) (d : i.Value = k.Value) : i = k := by
  have he : i.Entry = k.Entry := by rw [hi.ent, hk.ent, a, b]
  have hl : i.Len = k.Len := by rw [hi.len, hk.len, a, he, c]
  obtain ⟨i1, i2, i3, i4, i5, i6⟩ := i
  obtain ⟨k1, k2, k3, k4, k5, k6⟩ := k
  simp only at a b c d he hl
  subst a b c d he hl
  rfl

/-- Operands of one entry: the text tells what they are. -/
theorem opd_i {i k : api_Inst} {at_ : Int} {O O' : ByteArray} (hi : IOk i) (hk : IOk k) (hp : i.Page = k.Page) (hc : i.Code = k.Code) (h : dis_operand i at_ = some O) (h' : dis_operand k at_ = some O') (e : sbl O = sbl O')
    (si : i.Entry.Mode = 4 → ∃ P c, post_Of i.Post = some P ∧ post_Post_Code P = some c ∧ c.1 = i.Post) (sk : k.Entry.Mode = 4 → ∃ P c, post_Of k.Post = some P ∧ post_Post_Code P = some c ∧ c.1 = k.Post) : i.Post = k.Post ∧ i.Value = k.Value := by
  have he : i.Entry = k.Entry := by rw [hi.ent, hk.ent, hp, hc]
  have hm : i.Entry.Mode = 0 ∨ i.Entry.Mode = 1 ∨ i.Entry.Mode = 2 ∨ i.Entry.Mode = 3 ∨ i.Entry.Mode = 4 ∨ i.Entry.Mode = 5 ∨ (i.Entry.Mode = 6 ∨ i.Entry.Mode = 7) ∨ i.Entry.Mode = 8 ∨ i.Entry.Mode = 9 := by
    have := hi.m0; have := hi.m1; omega
  have np : posM i.Entry.Mode = false → i.Post = k.Post := fun hn => by rw [hi.nop hn, hk.nop (by rw [← he]; exact hn)]
  rcases hm with m | m | m | m | m | m | m | m | m
  · have q := np (by rw [m]; rfl)
    refine ⟨q, ?_⟩
    rw [hi.nov (by rw [m]; rfl), hk.nov (by rw [← he, m]; rfl)]
  · have q := np (by rw [m]; rfl)
    have m' : k.Entry.Mode = 1 := by rw [← he]; exact m
    obtain ⟨W, w1, w2⟩ := f1 h m hi.v0 (hi.one (.inl m))
    obtain ⟨W', w1', w2'⟩ := f1 h' m' hk.v0 (hk.one (.inl m'))
    rw [w2, w2', List.cons.injEq] at e
    exact ⟨q, byte_i hi.v0 (hi.one (.inl m)) hk.v0 (hk.one (.inl m')) w1 w1' e.2⟩
  · have q := np (by rw [m]; rfl)
    have m' : k.Entry.Mode = 2 := by rw [← he]; exact m
    obtain ⟨W, w1, w2⟩ := f2 h m
    obtain ⟨W', w1', w2'⟩ := f2 h' m'
    rw [w2, w2', List.cons.injEq] at e
    exact ⟨q, word_i hi.v0 hi.v1 hk.v0 hk.v1 w1 w1' e.2⟩
  · have q := np (by rw [m]; rfl)
    have m' : k.Entry.Mode = 3 := by rw [← he]; exact m
    obtain ⟨W, w1, w2⟩ := f3 h m hi.v0 (hi.one (.inr m))
    obtain ⟨W', w1', w2'⟩ := f3 h' m' hk.v0 (hk.one (.inr m'))
    rw [w2, w2', List.cons.injEq] at e
    exact ⟨q, byte_i hi.v0 (hi.one (.inr m)) hk.v0 (hk.one (.inr m')) w1 w1' e.2⟩
  · have m' : k.Entry.Mode = 4 := by rw [← he]; exact m
    obtain ⟨P, X, o1, o2, o3⟩ := f4 h m
    obtain ⟨P', X', o1', o2', o3'⟩ := f4 h' m'
    obtain ⟨R, S0, S, W, a1, a2, a3, a4, a5, a6, a7, a8, a9, a10, a11, a12, a13, a14, a15⟩ := x4 hi.p0 hi.p1 hi.v0 hi.v1 o1 o2
    obtain ⟨R', S0', S', W', b1, b2, b3, b4, b5, b6, b7, b8, b9, b10, b11, b12, b13, b14, b15⟩ := x4 hk.p0 hk.p1 hk.v0 hk.v1 o1' o2'
    have k9 : ∀ q : Int, kcls q ≠ 9 := by
      intro q; unfold kcls
      repeat (first | (split <;> first | decide | skip))
    have c1 : cls (sbl X) ≠ 9 := by rw [a4, XL_cls a9 a10 a5 a7]; exact k9 _
    have c2 : cls (sbl X') ≠ 9 := by rw [b4, XL_cls b9 b10 b5 b7]; exact k9 _
    rw [o3, o3'] at e
    have hX : P.Indirect = P'.Indirect ∧ sbl X = sbl X' := by
      cases hI : P.Indirect <;> cases hI' : P'.Indirect <;> rw [hI, hI'] at e
      · exact ⟨rfl, by simpa using e⟩
      · exact absurd (by rw [show sbl X = 91 :: (sbl X' ++ [93]) by simpa using e]; rfl) c1
      · exact absurd (by rw [← show 91 :: (sbl X ++ [93]) = sbl X' by simpa using e]; rfl) c2
      · exact ⟨rfl, by simpa using e⟩
    obtain ⟨hI, hX⟩ := hX
    rw [a4, b4] at hX
    obtain ⟨z1, z2, z3, z4, z5⟩ := XL_inj a9 a10 b9 b10 a5 a6 a7 a8 b5 b6 b7 b8 hX
    have hO : P.Off = P'.Off := by
      by_cases k1 : P.Kind = 1
      · exact signed_i a14 a15 b14 b15 a1 b1 (z3 k1)
      · rw [a11 k1, b11 (by rw [← z1]; exact k1)]
    have hR : P.Reg = P'.Reg := by
      rw [a12, b12, ← z1]
      by_cases k10 : P.Kind ≤ 10
      · rw [z2 k10]
      · rw [if_pos (show 10 < P.Kind by omega), if_pos (show 10 < P.Kind by omega)]
    have hP : P = P' := by
      obtain ⟨q1, q2, q3, q4⟩ := P
      obtain ⟨r1, r2, r3, r4⟩ := P'
      simp only at z1 hR hO hI
      subst z1 hR hO hI
      rfl
    obtain ⟨Q, c, s1, s2, s3⟩ := si m
    obtain ⟨Q', c', s1', s2', s3'⟩ := sk m'
    rw [o1] at s1; cases s1
    rw [o1'] at s1'; cases s1'
    rw [← hP, s2] at s2'; cases s2'
    have hpo : i.Post = k.Post := by rw [← s3, ← s3']
    refine ⟨hpo, ?_⟩
    rcases a13 with t | t | t
    · exact signed_i hi.v0 hi.v1 hk.v0 hk.v1 a2 b2 (z4 t)
    · exact word_i hi.v0 hi.v1 hk.v0 hk.v1 a3 b3 (z5 t)
    · rw [hi.nov (by rw [m]; exact t), hk.nov (by rw [m', ← hpo]; exact t)]
  · have q := np (by rw [m]; rfl)
    have m' : k.Entry.Mode = 5 := by rw [← he]; exact m
    obtain ⟨W, w1, w2⟩ := f5 h m
    obtain ⟨W', w1', w2'⟩ := f5 h' m'
    rw [w2, w2', List.cons.injEq] at e
    exact ⟨q, word_i hi.v0 hi.v1 hk.v0 hk.v1 w1 w1' e.2⟩
  · have q := np (by rcases m with m | m <;> rw [m] <;> rfl)
    have m' : k.Entry.Mode = 6 ∨ k.Entry.Mode = 7 := by rw [← he]; exact m
    have hl : i.Len = k.Len := by rw [hi.len, hk.len, hp, he, q]
    have w := f67 h m
    have w' := f67 h' m'
    have := word_i (by rw [wrap_u16m]; omega) (by rw [wrap_u16m]; omega) (by rw [wrap_u16m]; omega) (by rw [wrap_u16m]; omega) w w' e
    rw [hl] at this
    simp only [wrap_u16m] at this
    have := hi.v0; have := hi.v1; have := hk.v0; have := hk.v1
    exact ⟨q, by omega⟩
  · have m' : k.Entry.Mode = 8 := by rw [← he]; exact m
    obtain ⟨A, C, w1, w2, w3⟩ := f8 h m hi.p0 hi.p1
    obtain ⟨A', C', w1', w2', w3'⟩ := f8 h' m' hk.p0 hk.p1
    have := hi.p0; have := hi.p1; have := hk.p0; have := hk.p1
    rw [w3, w3'] at e
    obtain ⟨x, y⟩ := cut_inj (r16_at (by omega) (by omega) w1) (r16_at (by omega) (by omega) w1') e
    have g1 := r16_inj (by omega) (by omega) (by omega) (by omega) w1 w1' x
    have g2 := r16_inj (by omega) (by omega) (by omega) (by omega) w2 w2' y
    have q : i.Post = k.Post := by omega
    refine ⟨q, ?_⟩
    rw [hi.nov (by rw [m]; rfl), hk.nov (by rw [m']; rfl)]
  · have m' : k.Entry.Mode = 9 := by rw [← he]; exact m
    have q : i.Post = k.Post := by rw [← list_inv hi.p0 hi.p1 (f9 h m), ← list_inv hk.p0 hk.p1 (f9 h' m'), e]
    refine ⟨q, ?_⟩
    rw [hi.nov (by rw [m]; rfl), hk.nov (by rw [m']; rfl)]

/-- Operands of two modes, of those that one name may have, are not the same. -/
theorem opd_ne {i k : api_Inst} {at_ : Int} {O O' : ByteArray} (hi : IOk i) (hk : IOk k) (h : dis_operand i at_ = some O) (h' : dis_operand k at_ = some O') (m : 1 ≤ i.Entry.Mode ∧ i.Entry.Mode ≤ 5) (m' : 1 ≤ k.Entry.Mode ∧ k.Entry.Mode ≤ 5)
    (hlt : i.Entry.Mode < k.Entry.Mode) (n12 : ¬ (i.Entry.Mode = 1 ∧ k.Entry.Mode = 2)) : sbl O ≠ sbl O' := by
  intro e
  have k9 : ∀ q : Int, kcls q ≠ 10 := by
    intro q; unfold kcls
    repeat (first | (split <;> first | decide | skip))
  have form4 : ∀ {j : api_Inst} {Q : ByteArray}, IOk j → dis_operand j at_ = some Q → j.Entry.Mode = 4 → cls (sbl Q) ≠ 10 ∧ (∀ D, sbl Q ≠ 60 :: 36 :: D) ∧ (∀ D, (∀ x ∈ D, dig 16 x) → sbl Q ≠ 62 :: 36 :: D) := by
    intro j Q hj hQ mj
    obtain ⟨P, X, o1, o2, o3⟩ := f4 hQ mj
    obtain ⟨R, S0, S, W, a1, a2, a3, a4, a5, a6, a7, a8, a9, a10, a11, a12, a13, a14, a15⟩ := x4 hj.p0 hj.p1 hj.v0 hj.v1 o1 o2
    have hc := XL_cls (k := P.Kind) (R := sbl R) (S := sbl S) a9 a10 a5 a7
    rw [← a4] at hc
    rw [o3]
    cases hI : P.Indirect with
    | true =>
      rw [if_pos rfl]
      exact ⟨by simp [cls], fun D e => by simp at e, fun D _ e => by simp at e⟩
    | false =>
      rw [if_neg (by simp)]
      refine ⟨by rw [hc]; exact k9 _, fun D e => ?_, fun D d e => ?_⟩
      · have hk2 : kcls P.Kind = 2 := by rw [← hc, e]; rfl
        have hS : ∃ r, XL P.Kind (sbl R) (sbl S0) (sbl S) (sbl W) = 60 :: (sbl S ++ r) := by
          have hk : P.Kind = 0 ∨ P.Kind = 1 ∨ P.Kind = 2 ∨ P.Kind = 3 ∨ P.Kind = 4 ∨ P.Kind = 5 ∨ P.Kind = 6 ∨ P.Kind = 7 ∨ P.Kind = 8 ∨ P.Kind = 9 ∨ P.Kind = 10 ∨ P.Kind = 11 ∨ P.Kind = 12 ∨ P.Kind = 13 := by omega
          rcases hk with q | q | q | q | q | q | q | q | q | q | q | q | q | q <;> rw [q] at hk2 ⊢ <;> first | exact ⟨_, rfl⟩ | (exfalso; revert hk2; decide)
        obtain ⟨r, hS⟩ := hS
        rw [a4, hS, List.cons.injEq] at e
        have := isS_cls a6 r
        rw [e.2] at this
        exact absurd this (by simp [cls])
      · have hk2 : kcls P.Kind = 3 := by rw [← hc, e]; rfl
        have hS : ∃ r, XL P.Kind (sbl R) (sbl S0) (sbl S) (sbl W) = 62 :: (sbl W ++ 44 :: r) := by
          have hk : P.Kind = 0 ∨ P.Kind = 1 ∨ P.Kind = 2 ∨ P.Kind = 3 ∨ P.Kind = 4 ∨ P.Kind = 5 ∨ P.Kind = 6 ∨ P.Kind = 7 ∨ P.Kind = 8 ∨ P.Kind = 9 ∨ P.Kind = 10 ∨ P.Kind = 11 ∨ P.Kind = 12 ∨ P.Kind = 13 := by omega
          rcases hk with q | q | q | q | q | q | q | q | q | q | q | q | q | q <;> rw [q] at hk2 ⊢ <;> first | exact ⟨_, rfl⟩ | (exfalso; revert hk2; decide)
        obtain ⟨r, hS⟩ := hS
        rw [a4, hS, List.cons.injEq] at e
        have hno := isW_no (W := 36 :: D) ⟨D, rfl, d⟩
        exact hno (by rw [← e.2]; simp)
  have hj : i.Entry.Mode = 1 ∨ i.Entry.Mode = 2 ∨ i.Entry.Mode = 3 ∨ i.Entry.Mode = 4 := by omega
  rcases hj with q | q | q | q
  · obtain ⟨W, w1, w2⟩ := f1 h q hi.v0 (hi.one (.inl q))
    have c1 : cls (sbl O') = 10 := by rw [← e, w2]; rfl
    have hq : k.Entry.Mode = 3 ∨ k.Entry.Mode = 4 ∨ k.Entry.Mode = 5 := by omega
    rcases hq with q' | q' | q'
    · obtain ⟨W', w1', w2'⟩ := f3 h' q' hk.v0 (hk.one (.inr q'))
      rw [w2'] at c1; exact absurd c1 (by simp [cls])
    · exact (form4 hk h' q').1 c1
    · obtain ⟨W', w1', w2'⟩ := f5 h' q'
      rw [w2'] at c1; exact absurd c1 (by simp [cls])
  · obtain ⟨W, w1, w2⟩ := f2 h q
    have c1 : cls (sbl O') = 10 := by rw [← e, w2]; rfl
    have hq : k.Entry.Mode = 3 ∨ k.Entry.Mode = 4 ∨ k.Entry.Mode = 5 := by omega
    rcases hq with q' | q' | q'
    · obtain ⟨W', w1', w2'⟩ := f3 h' q' hk.v0 (hk.one (.inr q'))
      rw [w2'] at c1; exact absurd c1 (by simp [cls])
    · exact (form4 hk h' q').1 c1
    · obtain ⟨W', w1', w2'⟩ := f5 h' q'
      rw [w2'] at c1; exact absurd c1 (by simp [cls])
  · obtain ⟨W, w1, w2⟩ := f3 h q hi.v0 (hi.one (.inr q))
    obtain ⟨D, d1, d2, d3⟩ := bytes_s hi.v0 (hi.one (.inr q)) w1
    have hq : k.Entry.Mode = 4 ∨ k.Entry.Mode = 5 := by omega
    rcases hq with q' | q'
    · exact (form4 hk h' q').2.1 D (by rw [← e, w2, d1])
    · obtain ⟨W', w1', w2'⟩ := f5 h' q'
      rw [w2, w2'] at e; simp at e
  · have q' : k.Entry.Mode = 5 := by omega
    obtain ⟨W', w1', w2'⟩ := f5 h' q'
    obtain ⟨D, d1, d2, d3⟩ := word_s hk.v0 hk.v1 w1'
    exact (form4 hi h q).2.2 D d3 (by rw [e, w2', d1])
end Go.Proofs.YtfcegejpdlbkdaaK
