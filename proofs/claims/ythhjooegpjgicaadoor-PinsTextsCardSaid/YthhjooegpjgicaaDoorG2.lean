/- The Go functions come to the functions over typed data. Printed by a program of this work. -/
import Derived.Test.YthhjooegpjgicaaDoorF
import Derived.Test.YthhjooegpjgicaaDoorProg
import Derived.Test.YthhjooegpjgicaaDoorSf
import Derived.Test.YthhjooegpjgicaaDoorG0
import Derived.Test.YthhjooegpjgicaaDoorG1
namespace Go.Proofs.YthhjooegpjgicaaDoorK
set_option linter.unusedVariables false
set_option linter.unusedSimpArgs false
set_option maxHeartbeats 4000000
open Go.RowKit
attribute [local irreducible] dwv mops lops lqops lwops kont iter run runK rk okK ex E1 vals val chain chB sel resF
def unicode_utf8_DecodeRuneInString_i0 : List Op1 := [(oM 2 (.k (.int .i32 0)) []), (oM 3 (.k (.int .i64 0)) [0])]
def unicode_utf8_DecodeRuneInString_i1 : List Op1 := [(oM 4 (.t 0) []), (oE 5 (.bin .neq (.t 4) (.k (.string ⟨#[]⟩))) [0]), (oM 6 (.t 5) [1]), (oG 7 (.mv (.t 0)) 6 true [2]), (oG 8 (.ixs (.t 7) (.k (.int .i64 0))) 6 true [3, 2]), (oG 9 (.bin .lss (.t 8) (.k (.int .u8 128))) 6 true [4, 2]), (oE 10 (.pick (.t 6) (.t 9) (.k (.bool false))) [2, 5])]
def unicode_utf8_DecodeRuneInString_i2 : List Op1 := [(oM 11 (.t 0) []), (oE 12 (.ixs (.t 11) (.k (.int .i64 0))) [0]), (oE 13 (.cint .i32 (.t 12)) [1]), (oM 2 (.t 13) [2, 0, 1, 2]), (oM 3 (.k (.int .i64 1)) [3, 0, 1, 2, 3])]
def unicode_utf8_DecodeRuneInString_i3 : IR := .ret
def unicode_utf8_DecodeRuneInString_i4 : List Op1 := [(oM 15 (.t 0) []), (oC 16 44 [(.t 15)] [0]), (oM 14 (.t 16) [1]), (oE 17 (.ext 0 (.t 14)) [2]), (oE 18 (.ext 1 (.t 14)) [2]), (oM 2 (.t 17) [3, 1, 0, 1, 2, 3]), (oM 3 (.t 18) [4, 5, 0, 1, 2, 3, 4, 5])]
def unicode_utf8_DecodeRuneInString_i5 : IR := (.cond (.t 10) (.seq (.reg false unicode_utf8_DecodeRuneInString_i2) unicode_utf8_DecodeRuneInString_i3) (.reg false unicode_utf8_DecodeRuneInString_i4))
def unicode_utf8_DecodeRuneInString_i6 : IR := .ret
def unicode_utf8_DecodeRuneInString_i7 : IR := (.seq (.seq (.reg false unicode_utf8_DecodeRuneInString_i1) unicode_utf8_DecodeRuneInString_i5) unicode_utf8_DecodeRuneInString_i6)
def unicode_utf8_DecodeRuneInString_ir : IR := (.seq (.reg false unicode_utf8_DecodeRuneInString_i0) unicode_utf8_DecodeRuneInString_i7)
theorem unicode_utf8_DecodeRuneInString_cfn : cFn Tryd.prog 39 = some (unicode_utf8_DecodeRuneInString_ir, [(.t 2), (.t 3)], 19) := by kernel_rfl
def unicode_utf8_DecodeRuneInString_V (r : (Int × Int)) : V := .tup [.s (.int .i32 r.1), .s (.int .i64 r.2)]
def unicode_utf8_DecodeRuneInString_C (r : (Int × Int)) : X → Fr → Hp → Prop := FinL [(.t 2), (.t 3)] [] (unicode_utf8_DecodeRuneInString_V r) []
theorem unicode_utf8_DecodeRuneInString_ok (s_ : ByteArray) (r : (Int × Int)) (h : unicode_utf8_DecodeRuneInString s_ = some r) : Pure Tryd.prog 39 [.s (.string s_)] (unicode_utf8_DecodeRuneInString_V r) := by
  refine ConL.of unicode_utf8_DecodeRuneInString_cfn (Nat.le_of_ble_eq_true (by kernel_rfl)) (Nat.le_of_ble_eq_true (by kernel_rfl)) ?_
  refine k_start ?_
  show dwv Tryd.prog [] unicode_utf8_DecodeRuneInString_ir (kont Tryd.prog [] (unicode_utf8_DecodeRuneInString_C r) []) (fr0 [.s (.string s_)]) []
  have hf : FOk (fr0 [.s (.string s_)]) [⟨0, [], .s (.string s_)⟩] := ⟨⟨fun _ => rfl, fun h => (h trivial).elim⟩, trivial⟩
  generalize fr0 [.s (.string s_)] = f at hf ⊢
  unfold unicode_utf8_DecodeRuneInString at h
  refine k_seq ?_
  refine k_reg ?_
  refine mops_en hf (by kernel_rfl) fun f1 hf1 => ?_
  refine k_c ?_
  refine k_seq ?_
  refine k_seq ?_
  refine k_reg ?_
  refine mops_sg 4 hf1 (by kernel_rfl) fun f2 hf2 => ?_
  obtain ⟨c1, h⟩ := as_ok h
  refine mops_gadv (dst := (some 8)) (op := (.ixs (.t 7) (.k (.int .i64 0)))) (aft := [3, 2]) (t := 6) (w := true) (ch := [(6, true)]) (b := (!(s_.toList == (⟨#[]⟩ : ByteArray).toList))) (v := .s (.int .u8 (bt s_ (0)))) (by kernel_rfl) hf2 (by kernel_rfl) (by kernel_rfl) (by kernel_rfl) (fun hb2 => e_ixs (t := s_) (k := .i64) (iv := 0) (by kernel_rfl) (by kernel_rfl) (c1 hb2)) fun f3 hf3 => ?_
  refine mops_en hf3 (by kernel_rfl) fun f4 hf4 => ?_
  refine k_c ?_
  refine k_cond hf4 (t := ((!(s_.toList == (⟨#[]⟩ : ByteArray).toList)) && (decide ((bt s_ (0)) < 128)))) (by kernel_rfl) (fun hc3 => ?_) (fun hc3 => ?_)
  · have h := if_t h hc3
    refine k_seq ?_
    refine k_reg ?_
    refine mops_sg 1 hf4 (by kernel_rfl) fun f5 hf5 => ?_
    obtain ⟨c4, h⟩ := as_ok h
    refine mops_adv rfl (v := .s (.int .u8 (bt s_ (0)))) hf5 (by kernel_rfl) (e_ixs (t := s_) (k := .i64) (iv := 0) (by kernel_rfl) (by kernel_rfl) c4) fun f6 hf6 => ?_
    refine mops_en hf6 (by kernel_rfl) fun f7 hf7 => ?_
    refine k_c ?_
    refine k_ret ?_
    refine x_c nofun ?_
    obtain rfl := Option.some.inj h
    exact k_fin (fin_ret (.inl rfl) hf7 (vs := [.s (.int .i32 (IntKind.wrap .i32 (bt s_ (0)))), .s (.int .i64 1)]) (by kernel_rfl) (SettL.pure (FzL.tup (FzsL.cons (FzL.stat rfl) (FzsL.cons (FzL.stat rfl) FzsL.nil)))))
  · have h := if_f h hc3
    refine k_reg ?_
    refine mops_sg 1 hf4 (by kernel_rfl) fun f5 hf5 => ?_
    obtain ⟨r_, hx_r_, h⟩ := Option.bind_eq_some_iff.1 h
    refine mops_call rfl hf5 (av := [.s (.string s_)]) (by kernel_rfl) (v := .tup [.s (.int .i32 r_.1), .s (.int .i64 r_.2)]) (CalL.pure (unicode_utf8_decodeRuneInStringSlow_ok s_ r_ hx_r_) rfl rfl (Nat.le_of_ble_eq_true (by kernel_rfl))) (fun _ => rfl) fun f6 hf6 => ?_
    refine mops_en hf6 (by kernel_rfl) fun f7 hf7 => ?_
    refine k_c ?_
    refine k_ret ?_
    obtain rfl := Option.some.inj h
    exact k_fin (fin_ret (.inl rfl) hf7 (vs := [.s (.int .i32 r_.1), .s (.int .i64 r_.2)]) (by kernel_rfl) (SettL.pure (FzL.tup (FzsL.cons (FzL.stat rfl) (FzsL.cons (FzL.stat rfl) FzsL.nil)))))
def strings_genSplit_i0 : List Op1 := [(oE 8 (.nilg 1) [])]
def strings_genSplit_i1 : List Op1 := [(oM 12 (.t 3) []), (oE 13 (.bin .eql (.t 12) (.k (.int .i64 0))) [0])]
def strings_genSplit_i2 : List Op1 := [(oE 8 (.nilg 1) [])]
def strings_genSplit_i3 : IR := .ret
def strings_genSplit_i4 : IR := (.cond (.t 13) (.seq (.reg false strings_genSplit_i2) strings_genSplit_i3) .skip)
def strings_genSplit_i5 : List Op1 := [(oM 14 (.t 1) []), (oE 15 (.bin .eql (.t 14) (.k (.string ⟨#[]⟩))) [0])]
def strings_genSplit_i6 : List Op1 := [(oM 16 (.t 0) []), (oM 17 (.t 3) []), (oC 18 31 [(.t 16), (.t 17)] [0, 1]), (oM 8 (.t 18) [2, 2, 0, 1, 2])]
def strings_genSplit_i7 : IR := .ret
def strings_genSplit_i8 : IR := (.cond (.t 15) (.seq (.reg false strings_genSplit_i6) strings_genSplit_i7) .skip)
def strings_genSplit_i9 : List Op1 := [(oM 19 (.t 3) []), (oE 20 (.bin .lss (.t 19) (.k (.int .i64 0))) [0])]
def strings_genSplit_i10 : List Op1 := [(oM 21 (.t 0) []), (oM 22 (.t 1) []), (oC 23 32 [(.t 21), (.t 22)] [0, 1]), (oE 24 (.bin .add (.t 23) (.k (.int .i64 1))) [2]), (oM 3 (.t 24) [3, 2, 0, 1, 2, 3])]
def strings_genSplit_i11 : IR := (.cond (.t 20) (.reg false strings_genSplit_i10) .skip)
def strings_genSplit_i12 : List Op1 := [(oM 25 (.t 3) []), (oM 26 (.t 0) []), (oE 27 (.lens (.t 26)) [1]), (oE 28 (.bin .add (.t 27) (.k (.int .i64 1))) [2]), (oE 29 (.mnx false (.t 25) (.t 28)) [0, 3]), (oM 3 (.t 29) [4, 0, 1, 2, 3, 4])]
def strings_genSplit_i13 : List Op1 := [(oM 30 (.t 3) []), (oE 31 (.mks [(.string ⟨#[]⟩)] 16 (.t 30) (.t 30)) [0, 0]), (oM 9 (.t 31) [1, 0, 1])]
def strings_genSplit_i14 : List Op1 := [(oM 32 (.t 3) []), (oE 33 (.bin .sub (.t 32) (.k (.int .i64 1))) [0]), (oM 3 (.t 33) [1, 0, 1])]
def strings_genSplit_i15 : List Op1 := [(oM 10 (.k (.int .i64 0)) [])]
def strings_genSplit_i16 : List Op1 := [(oM 34 (.t 10) []), (oM 35 (.t 3) []), (oE 36 (.bin .lss (.t 34) (.t 35)) [0, 1])]
def strings_genSplit_i17 : IR := (.cond (.t 36) .skip (.exit 0))
def strings_genSplit_i18 : List Op1 := [(oM 37 (.t 0) []), (oM 38 (.t 1) []), (oC 39 33 [(.t 37), (.t 38)] [0, 1]), (oM 11 (.t 39) [2, 2, 0, 1, 2])]
def strings_genSplit_i19 : List Op1 := [(oM 40 (.t 11) []), (oE 41 (.bin .lss (.t 40) (.k (.int .i64 0))) [0])]
def strings_genSplit_i20 : IR := (.cond (.t 41) (.exit 0) .skip)
def strings_genSplit_i21 : List Op1 := [(oM 42 (.t 9) []), (oM 43 (.t 10) []), (oM 44 (.t 0) []), (oM 45 (.t 11) []), (oM 46 (.t 2) []), (oE 47 (.bin .add (.t 45) (.t 46)) [3, 4]), (oE 48 (.sstr (.t 44) none (some (.t 47))) [2, 5]), (oE 49 (.ias 1 (.t 42) (.t 43)) [0, 1, 0, 1, 2, 3, 4, 5, 6]), (oN (.store 1 (.t 49) (.t 48)) [7, 6, 0, 1, 2, 3, 4, 5, 6])]
def strings_genSplit_i22 : List Op1 := [(oM 50 (.t 0) []), (oM 51 (.t 11) []), (oM 52 (.t 1) []), (oE 53 (.lens (.t 52)) [2]), (oE 54 (.bin .add (.t 51) (.t 53)) [1, 3]), (oE 55 (.sstr (.t 50) (some (.t 54)) none) [0, 4]), (oM 0 (.t 55) [5, 0, 1, 2, 3, 4, 5])]
def strings_genSplit_i23 : List Op1 := [(oM 56 (.t 10) []), (oE 57 (.bin .add (.t 56) (.k (.int .i64 1))) [0]), (oM 10 (.t 57) [1, 0, 1])]
def strings_genSplit_i24 : IR := (.reg false strings_genSplit_i23)
def strings_genSplit_i25 : IR := (.seq (.reg false strings_genSplit_i22) strings_genSplit_i24)
def strings_genSplit_i26 : IR := (.seq (.reg false strings_genSplit_i21) strings_genSplit_i25)
def strings_genSplit_i27 : IR := (.seq (.seq (.reg false strings_genSplit_i19) strings_genSplit_i20) strings_genSplit_i26)
def strings_genSplit_i28 : IR := (.block 1 (.seq (.reg false strings_genSplit_i18) strings_genSplit_i27))
def strings_genSplit_i29 : IR := (.seq (.seq (.reg false strings_genSplit_i16) strings_genSplit_i17) strings_genSplit_i28)
def strings_genSplit_i30 : List Op1 := [(oM 58 (.t 9) []), (oM 59 (.t 10) []), (oM 60 (.t 0) []), (oE 61 (.ias 1 (.t 58) (.t 59)) [0, 1, 0, 1, 2]), (oN (.store 1 (.t 61) (.t 60)) [3, 2, 0, 1, 2])]
def strings_genSplit_i31 : List Op1 := [(oM 62 (.t 9) []), (oM 63 (.t 10) []), (oE 64 (.bin .add (.t 63) (.k (.int .i64 1))) [1]), (oE 65 (.slice 1 (.t 62) none (some (.t 64))) [0, 2]), (oM 8 (.t 65) [3, 0, 1, 2, 3])]
def strings_genSplit_i32 : IR := .ret
def strings_genSplit_i33 : IR := (.seq (.reg false strings_genSplit_i31) strings_genSplit_i32)
def strings_genSplit_i34 : IR := (.seq (.reg false strings_genSplit_i30) strings_genSplit_i33)
def strings_genSplit_i35 : IR := (.seq (.block 0 (.loop strings_genSplit_i29)) strings_genSplit_i34)
def strings_genSplit_i36 : IR := (.seq (.reg false strings_genSplit_i15) strings_genSplit_i35)
def strings_genSplit_i37 : IR := (.seq (.reg false strings_genSplit_i14) strings_genSplit_i36)
def strings_genSplit_i38 : IR := (.seq (.reg false strings_genSplit_i13) strings_genSplit_i37)
def strings_genSplit_i39 : IR := (.seq (.reg false strings_genSplit_i12) strings_genSplit_i38)
def strings_genSplit_i40 : IR := (.seq (.seq (.reg false strings_genSplit_i9) strings_genSplit_i11) strings_genSplit_i39)
def strings_genSplit_i41 : IR := (.seq (.seq (.reg false strings_genSplit_i5) strings_genSplit_i8) strings_genSplit_i40)
def strings_genSplit_i42 : IR := (.seq (.seq (.reg false strings_genSplit_i1) strings_genSplit_i4) strings_genSplit_i41)
def strings_genSplit_ir : IR := (.seq (.reg false strings_genSplit_i0) strings_genSplit_i42)
theorem strings_genSplit_cfn : cFn Tryd.prog 23 = some (strings_genSplit_ir, [(.t 8)], 66) := by kernel_rfl
def strings_genSplit_V (r : ((List ByteArray))) : V := .sl false r.length (cat nS r)
def strings_genSplit_C (r : ((List ByteArray))) : X → Fr → Hp → Prop := FinL [(.t 8)] [] (strings_genSplit_V r) []
theorem strings_genSplit_ok (s_ : ByteArray) (sep_ : ByteArray) (sepSave_ : Int) (n_ : Int) (r : ((List ByteArray))) (h : strings_genSplit s_ sep_ sepSave_ n_ = some r) : Pure Tryd.prog 23 [.s (.string s_), .s (.string sep_), .s (.int .i64 sepSave_), .s (.int .i64 n_)] (strings_genSplit_V r) := by
  refine ConL.of strings_genSplit_cfn (Nat.le_of_ble_eq_true (by kernel_rfl)) (Nat.le_of_ble_eq_true (by kernel_rfl)) ?_
  refine k_start ?_
  show dwv Tryd.prog [] strings_genSplit_ir (kont Tryd.prog [] (strings_genSplit_C r) []) (fr0 [.s (.string s_), .s (.string sep_), .s (.int .i64 sepSave_), .s (.int .i64 n_)]) []
  have hf : FOk (fr0 [.s (.string s_), .s (.string sep_), .s (.int .i64 sepSave_), .s (.int .i64 n_)]) [⟨0, [], .s (.string s_)⟩, ⟨1, [], .s (.string sep_)⟩, ⟨2, [], .s (.int .i64 sepSave_)⟩, ⟨3, [], .s (.int .i64 n_)⟩] := ⟨⟨fun _ => rfl, fun h => (h trivial).elim⟩, ⟨fun _ => rfl, fun h => (h trivial).elim⟩, ⟨fun _ => rfl, fun h => (h trivial).elim⟩, ⟨fun _ => rfl, fun h => (h trivial).elim⟩, trivial⟩
  generalize fr0 [.s (.string s_), .s (.string sep_), .s (.int .i64 sepSave_), .s (.int .i64 n_)] = f at hf ⊢
  unfold strings_genSplit at h
  refine k_seq ?_
  refine k_reg ?_
  refine mops_en hf (by kernel_rfl) fun f1 hf1 => ?_
  refine k_c ?_
  refine k_seq ?_
  refine k_seq ?_
  refine k_reg ?_
  refine mops_en hf1 (by kernel_rfl) fun f2 hf2 => ?_
  refine k_c ?_
  refine k_cond hf2 (t := (n_ == 0)) (by kernel_rfl) (fun hc1 => ?_) (fun hc1 => ?_)
  · have h := if_t h hc1
    refine k_seq ?_
    refine k_reg ?_
    refine mops_en hf2 (by kernel_rfl) fun f3 hf3 => ?_
    refine k_c ?_
    refine k_ret ?_
    refine x_c nofun ?_
    obtain rfl := Option.some.inj h
    exact k_fin (fin_ret (.inl rfl) hf3 (vs := [.ref 1 0 0 0]) (by kernel_rfl) (SettL.pure (FzL.whole (g := nS) (kd := .grow) (l := ([] : List ByteArray)) (by kernel_rfl) rfl (live_grow (by kernel_rfl)))))
  · have h := if_f h hc1
    refine k_skip ?_
    refine k_c ?_
    refine k_seq ?_
    refine k_seq ?_
    refine k_reg ?_
    refine mops_en hf2 (by kernel_rfl) fun f3 hf3 => ?_
    refine k_c ?_
    refine k_cond hf3 (t := (sep_.toList == (⟨#[]⟩ : ByteArray).toList)) (by kernel_rfl) (fun hc2 => ?_) (fun hc2 => ?_)
    · have h := if_t h hc2
      cases h
    · have h := if_f h hc2
      refine k_skip ?_
      refine k_c ?_
      refine k_seq ?_
      refine k_seq ?_
      refine k_reg ?_
      refine mops_en hf3 (by kernel_rfl) fun f4 hf4 => ?_
      refine k_c ?_
      have hj1 : ∀ (t_ : Int), strings_genSplit_j0 s_ sep_ sepSave_ t_ = some r → ∀ f, FOk f [⟨0, [], .s (.string s_)⟩, ⟨1, [], .s (.string sep_)⟩, ⟨2, [], .s (.int .i64 sepSave_)⟩, ⟨3, [], .s (.int .i64 t_)⟩, ⟨8, [], .ref 0 0 0 0⟩] → kont Tryd.prog [] (strings_genSplit_C r) ((.c strings_genSplit_i39) :: []) .normal f [⟨0, .grow, 1, cat nS ([] : List ByteArray)⟩] := by
        intro t_ h f hf
        unfold strings_genSplit_j0 at h
        refine k_c ?_
        refine k_seq ?_
        refine k_reg ?_
        refine mops_en hf (by kernel_rfl) fun f1 hf1 => ?_
        refine k_c ?_
        refine k_seq ?_
        refine k_reg ?_
        refine mops_sg 1 hf1 (by kernel_rfl) fun f2 hf2 => ?_
        obtain ⟨c4, h⟩ := as_ok h
        refine mops_adv rfl (v := .ref 1 0 0 (rp (if (IntKind.wrap .i64 ((sln s_) + 1)) < t_ then (IntKind.wrap .i64 ((sln s_) + 1)) else t_) ((⟨#[]⟩ : ByteArray) : ByteArray)).length) hf2 (by kernel_rfl) (e_mks (g := nS) (a := (⟨#[]⟩ : ByteArray)) (k := .i64) (k' := .i64) (iv := (if (IntKind.wrap .i64 ((sln s_) + 1)) < t_ then (IntKind.wrap .i64 ((sln s_) + 1)) else t_)) (jv := (if (IntKind.wrap .i64 ((sln s_) + 1)) < t_ then (IntKind.wrap .i64 ((sln s_) + 1)) else t_)) (by kernel_rfl) (by kernel_rfl) (by kernel_rfl) c4 (by kernel_rfl)) fun f3 hf3 => ?_
        refine mops_en hf3 (by kernel_rfl) fun f4 hf4 => ?_
        refine k_c ?_
        refine k_seq ?_
        refine k_reg ?_
        refine mops_en hf4 (by kernel_rfl) fun f5 hf5 => ?_
        refine k_c ?_
        refine k_seq ?_
        refine k_reg ?_
        refine mops_en hf5 (by kernel_rfl) fun f6 hf6 => ?_
        refine k_c ?_
        refine k_seq ?_
        refine k_block ?_
        obtain ⟨o0, hx0, h⟩ := Option.bind_eq_some_iff.1 h
        have hgo0 : ∀ (l_2 : (List ByteArray)) (t_3 : ByteArray) (i_2 : Int) (m_2 : Nat) (hn_2 : l_2.length = m_2), (l_2, t_3, i_2) = o0 → ∀ f, FOk f [⟨0, [], .s (.string t_3)⟩, ⟨8, [], .ref 0 0 0 0⟩, ⟨9, [], .ref 1 0 0 m_2⟩, ⟨10, [], .s (.int .i64 i_2)⟩] → kont Tryd.prog [] (strings_genSplit_C r) ((.c strings_genSplit_i34) :: []) .normal f [⟨0, .grow, 1, cat nS ([] : List ByteArray)⟩, ⟨0, .grow, 1, cat nS l_2⟩] := by
          intro l_2 t_3 i_2 m_2 hn_2 e f hf
          subst e
          refine k_c ?_
          refine k_seq ?_
          refine k_reg ?_
          refine mops_sg 3 hf (by kernel_rfl) fun f1 hf1 => ?_
          obtain ⟨c10, h⟩ := as_ok h
          refine mops_adv rfl (v := .ptr 1 0 (0 + (i_2 : Int).toNat * 1)) hf1 (by kernel_rfl) (e_ias_ref (l := l_2) (B := ⟨0, .grow, 1, cat nS l_2⟩) (b := 1) (ver := 0) (n := m_2) (k := .i64) (iv := i_2) (by kernel_rfl) (by kernel_rfl) hn_2 (live_grow (by kernel_rfl)) c10) fun f2 hf2 => ?_
          refine mops_adv rfl (v := .s undef) hf2 (by kernel_rfl) (e_store_pe (g := nS) (l := l_2) (iv := i_2) (kd := .grow) (q := 1) (b := 1) (ver := 0) (ys := [.s (.string t_3)]) (a := t_3) [] (by kernel_rfl) (live_grow (by kernel_rfl)) (by kernel_rfl) (by kernel_rfl) (by kernel_rfl) c10 (by kernel_rfl) (by kernel_rfl)) fun f3 hf3 => ?_
          refine mops_en hf3 (by kernel_rfl) fun f4 hf4 => ?_
          refine k_c ?_
          refine k_seq ?_
          refine k_reg ?_
          refine mops_sg 3 hf4 (by kernel_rfl) fun f5 hf5 => ?_
          obtain ⟨c11, h⟩ := as_ok h
          refine mops_adv rfl (v := .ref 1 0 (0 + 0 * 1) (((IntKind.wrap .i64 (i_2 + 1)) : Int).toNat - 0)) hf5 (by kernel_rfl) (e_slice_ref (B := ⟨0, .grow, 1, cat nS (st l_2 i_2 t_3)⟩) (n := m_2) (o := 0) (by kernel_rfl) (live_grow (by kernel_rfl)) rfl (b_ns (k := .i64) (iv := (IntKind.wrap .i64 (i_2 + 1))) (by kernel_rfl) (ln_ns (st_len.trans hn_2) c11))) fun f6 hf6 => ?_
          refine mops_en hf6 (by kernel_rfl) fun f7 hf7 => ?_
          refine k_c ?_
          refine k_ret ?_
          obtain rfl := Option.some.inj h
          exact k_fin (fin_ret (.inl rfl) hf7 (vs := [.ref 1 0 (0 + 0 * 1) (((IntKind.wrap .i64 (i_2 + 1)) : Int).toNat - 0)]) (by kernel_rfl) (SettL.pure (FzL.partr (g := nS) (kd := .grow) (l := (st l_2 i_2 t_3)) (n := m_2) (a := 0) (b := ((IntKind.wrap .i64 (i_2 + 1)) : Int).toNat) (by kernel_rfl) (cut_ns (n := m_2) (ln_ns (st_len.trans hn_2) c11)) (st_len.trans hn_2) (live_grow (by kernel_rfl)))))
        refine k_loop BIG ?_
        refine loop_ind (fun n f L => ∃ (l_1 : (List ByteArray)) (t_2 : ByteArray) (i_1 : Int) (m_1 : Nat) (hn_1 : l_1.length = m_1), strings_genSplit_l0 s_ sep_ sepSave_ t_ n l_1 t_2 i_1 = some o0 ∧ FOk f [⟨0, [], .s (.string t_2)⟩, ⟨1, [], .s (.string sep_)⟩, ⟨2, [], .s (.int .i64 sepSave_)⟩, ⟨3, [], .s (.int .i64 (IntKind.wrap .i64 ((if (IntKind.wrap .i64 ((sln s_) + 1)) < t_ then (IntKind.wrap .i64 ((sln s_) + 1)) else t_) - 1)))⟩, ⟨8, [], .ref 0 0 0 0⟩, ⟨9, [], .ref 1 0 0 m_1⟩, ⟨10, [], .s (.int .i64 i_1)⟩] ∧ L = [⟨0, .grow, 1, cat nS ([] : List ByteArray)⟩, ⟨0, .grow, 1, cat nS l_1⟩]) ?_ ?_ BIG _ _ ⟨(rp (if (IntKind.wrap .i64 ((sln s_) + 1)) < t_ then (IntKind.wrap .i64 ((sln s_) + 1)) else t_) ((⟨#[]⟩ : ByteArray) : ByteArray)), s_, (0), ((rp (if (IntKind.wrap .i64 ((sln s_) + 1)) < t_ then (IntKind.wrap .i64 ((sln s_) + 1)) else t_) ((⟨#[]⟩ : ByteArray) : ByteArray)).length), rfl, hx0, FOk_of [0, 1, 2, 3, 8, 9, 10] hf6 (by kernel_rfl), (by kernel_rfl)⟩
        · rintro f L ⟨l_1, t_2, i_1, m_1, hn_1, h, _⟩
          cases (show (none : Option _) = some _ from h)
        · rintro n0 R0 ih f L ⟨l_1, t_2, i_1, m_1, hn_1, h, hf, rfl⟩
          rw [strings_genSplit_l0] at h
          refine k_seq ?_
          refine k_seq ?_
          refine k_reg ?_
          refine mops_en hf (by kernel_rfl) fun f1 hf1 => ?_
          refine k_c ?_
          refine k_cond hf1 (t := (decide (i_1 < (IntKind.wrap .i64 ((if (IntKind.wrap .i64 ((sln s_) + 1)) < t_ then (IntKind.wrap .i64 ((sln s_) + 1)) else t_) - 1))))) (by kernel_rfl) (fun hc5 => ?_) (fun hc5 => ?_)
          · have h := if_t h hc5
            refine k_skip ?_
            refine k_c ?_
            refine k_block ?_
            refine k_seq ?_
            refine k_reg ?_
            refine mops_sg 2 hf1 (by kernel_rfl) fun f2 hf2 => ?_
            obtain ⟨r_3, hx_r_3, h⟩ := Option.bind_eq_some_iff.1 h
            refine mops_call rfl hf2 (av := [.s (.string t_2), .s (.string sep_)]) (by kernel_rfl) (v := .s (.int .i64 r_3)) (CalL.pure (strings_Index_ok t_2 sep_ r_3 hx_r_3) rfl rfl (Nat.le_of_ble_eq_true (by kernel_rfl))) (fun _ => rfl) fun f3 hf3 => ?_
            refine mops_en hf3 (by kernel_rfl) fun f4 hf4 => ?_
            refine k_c ?_
            refine k_seq ?_
            refine k_seq ?_
            refine k_reg ?_
            refine mops_en hf4 (by kernel_rfl) fun f5 hf5 => ?_
            refine k_c ?_
            refine k_cond hf5 (t := (decide (r_3 < 0))) (by kernel_rfl) (fun hc6 => ?_) (fun hc6 => ?_)
            · have h := if_t h hc6
              refine k_exit ?_
              refine x_c nofun ?_
              refine x_b' (by kernel_rfl) ?_
              refine x_l nofun ?_
              refine x_b ?_
              refine k_hp (L' := [⟨0, .grow, 1, cat nS ([] : List ByteArray)⟩, ⟨0, .grow, 1, cat nS l_1⟩]) (by kernel_rfl) ?_
              exact hgo0 l_1 t_2 i_1 m_1 hn_1 (Option.some.inj h) _ (FOk_of [0, 8, 9, 10] hf5 (by kernel_rfl))
            · have h := if_f h hc6
              refine k_skip ?_
              refine k_c ?_
              refine k_seq ?_
              refine k_reg ?_
              refine mops_sg 6 hf5 (by kernel_rfl) fun f6 hf6 => ?_
              obtain ⟨c7, h⟩ := as_ok h
              refine mops_adv rfl (v := .s (.string (t_2.extract 0 ((IntKind.wrap .i64 (r_3 + sepSave_)) : Int).toNat))) hf6 (by kernel_rfl) (e_sstr (t := t_2) (by kernel_rfl) (b_ns (k := .i64) (iv := (IntKind.wrap .i64 (r_3 + sepSave_))) (by kernel_rfl) c7)) fun f7 hf7 => ?_
              obtain ⟨c8, h⟩ := as_ok h
              refine mops_adv rfl (v := .ptr 1 0 (0 + (i_1 : Int).toNat * 1)) hf7 (by kernel_rfl) (e_ias_ref (l := l_1) (B := ⟨0, .grow, 1, cat nS l_1⟩) (b := 1) (ver := 0) (n := m_1) (k := .i64) (iv := i_1) (by kernel_rfl) (by kernel_rfl) hn_1 (live_grow (by kernel_rfl)) c8) fun f8 hf8 => ?_
              refine mops_adv rfl (v := .s undef) hf8 (by kernel_rfl) (e_store_pe (g := nS) (l := l_1) (iv := i_1) (kd := .grow) (q := 1) (b := 1) (ver := 0) (ys := [.s (.string (t_2.extract 0 ((IntKind.wrap .i64 (r_3 + sepSave_)) : Int).toNat))]) (a := (t_2.extract 0 ((IntKind.wrap .i64 (r_3 + sepSave_)) : Int).toNat)) [] (by kernel_rfl) (live_grow (by kernel_rfl)) (by kernel_rfl) (by kernel_rfl) (by kernel_rfl) c8 (by kernel_rfl) (by kernel_rfl)) fun f9 hf9 => ?_
              refine mops_en hf9 (by kernel_rfl) fun f10 hf10 => ?_
              refine k_c ?_
              refine k_seq ?_
              refine k_reg ?_
              refine mops_sg 5 hf10 (by kernel_rfl) fun f11 hf11 => ?_
              obtain ⟨c9, h⟩ := as_ok h
              refine mops_adv rfl (v := .s (.string (t_2.extract ((IntKind.wrap .i64 (r_3 + (sln sep_))) : Int).toNat t_2.size))) hf11 (by kernel_rfl) (e_sstr (t := t_2) (by kernel_rfl) (b_sn (k := .i64) (iv := (IntKind.wrap .i64 (r_3 + (sln sep_)))) (by kernel_rfl) c9)) fun f12 hf12 => ?_
              refine mops_en hf12 (by kernel_rfl) fun f13 hf13 => ?_
              refine k_c ?_
              refine k_reg ?_
              refine mops_en hf13 (by kernel_rfl) fun f14 hf14 => ?_
              refine k_b ?_
              refine k_l ?_
              exact ih _ _ ⟨(st l_1 i_1 (t_2.extract 0 ((IntKind.wrap .i64 (r_3 + sepSave_)) : Int).toNat)), (t_2.extract ((IntKind.wrap .i64 (r_3 + (sln sep_))) : Int).toNat t_2.size), (IntKind.wrap .i64 (i_1 + 1)), m_1, (st_len.trans hn_1), h, FOk_of [0, 1, 2, 3, 8, 9, 10] hf14 (by kernel_rfl), (by kernel_rfl)⟩
          · have h := if_f h hc5
            refine k_exit ?_
            refine x_c nofun ?_
            refine x_l nofun ?_
            refine x_b ?_
            refine k_hp (L' := [⟨0, .grow, 1, cat nS ([] : List ByteArray)⟩, ⟨0, .grow, 1, cat nS l_1⟩]) (by kernel_rfl) ?_
            exact hgo0 l_1 t_2 i_1 m_1 hn_1 (Option.some.inj h) _ (FOk_of [0, 8, 9, 10] hf1 (by kernel_rfl))
      refine k_cond hf4 (t := (decide (n_ < 0))) (by kernel_rfl) (fun hc3 => ?_) (fun hc3 => ?_)
      · have h := if_t h hc3
        refine k_reg ?_
        refine mops_sg 2 hf4 (by kernel_rfl) fun f5 hf5 => ?_
        obtain ⟨r_, hx_r_, h⟩ := Option.bind_eq_some_iff.1 h
        refine mops_call rfl hf5 (av := [.s (.string s_), .s (.string sep_)]) (by kernel_rfl) (v := .s (.int .i64 r_)) (CalL.pure (strings_Count_ok s_ sep_ r_ hx_r_) rfl rfl (Nat.le_of_ble_eq_true (by kernel_rfl))) (fun _ => rfl) fun f6 hf6 => ?_
        refine mops_en hf6 (by kernel_rfl) fun f7 hf7 => ?_
        refine k_hp (L' := [⟨0, .grow, 1, cat nS ([] : List ByteArray)⟩]) (by kernel_rfl) ?_
        exact hj1 (IntKind.wrap .i64 (r_ + 1)) h _ (FOk_of [0, 1, 2, 3, 8] hf7 (by kernel_rfl))
      · have h := if_f h hc3
        refine k_skip ?_
        refine k_hp (L' := [⟨0, .grow, 1, cat nS ([] : List ByteArray)⟩]) (by kernel_rfl) ?_
        exact hj1 n_ h _ (FOk_of [0, 1, 2, 3, 8] hf4 (by kernel_rfl))
def pins_Word_i0 : List Op1 := [(oE 1 (.box (.t 0)) []), (oM 2 (.k (.string ⟨#[]⟩)) [])]
def pins_Word_i1 : List Op1 := [(oM 3 (.k (.string ⟨#[]⟩)) [])]
def pins_Word_i2 : List Op1 := [(oE 6 (.load true 6 (.t 1)) []), (oC 7 19 [(.t 6)] [0]), (oM 8 (.k (.int .i64 0)) [])]
def pins_Word_i3 : List Op1 := [(oE 9 (.bin .lss (.t 8) (.k (.int .i64 6))) [])]
def pins_Word_i4 : List Op1 := [(oM 10 (.t 8) []), (oE 11 (.ixa false 6 1 (.t 7) (.t 8)) []), (oM 4 (.t 10) [0, 0, 1]), (oM 5 (.t 11) [1, 2, 0, 1, 2])]
def pins_Word_i5 : List Op1 := [(oM 12 (.t 5) [])]
def pins_Word_i6 : List Op1 := [(oM 13 (.t 3) []), (oM 14 (.t 4) []), (oM 15 (.t 4) []), (oE 16 (.bin .add (.t 15) (.k (.int .i64 1))) [2]), (oE 17 (.sstr (.k (.string ⟨#[82, 78, 70, 73, 72, 81]⟩)) (some (.t 14)) (some (.t 16))) [1, 3]), (oE 18 (.bin .add (.t 13) (.t 17)) [0, 4]), (oM 3 (.t 18) [5, 0, 1, 2, 3, 4, 5])]
def pins_Word_i7 : IR := (.cond (.t 12) (.reg false pins_Word_i6) .skip)
def pins_Word_i8 : IR := (.seq (.reg false pins_Word_i5) pins_Word_i7)
def pins_Word_i9 : List Op1 := [(oE 19 (.bin .add (.t 8) (.k (.int .i64 1))) []), (oM 8 (.t 19) [0])]
def pins_Word_i10 : IR := (.reg false pins_Word_i9)
def pins_Word_i11 : IR := (.seq (.block 1 (.seq (.reg false pins_Word_i4) pins_Word_i8)) pins_Word_i10)
def pins_Word_i12 : IR := (.seq (.cond (.t 9) .skip (.exit 0)) pins_Word_i11)
def pins_Word_i13 : IR := (.seq (.reg false pins_Word_i3) pins_Word_i12)
def pins_Word_i14 : IR := (.block 0 (.loop pins_Word_i13))
def pins_Word_i15 : List Op1 := [(oM 20 (.t 3) []), (oE 21 (.bin .eql (.t 20) (.k (.string ⟨#[]⟩))) [0])]
def pins_Word_i16 : List Op1 := [(oM 2 (.k (.string ⟨#[46]⟩)) [])]
def pins_Word_i17 : IR := .ret
def pins_Word_i18 : IR := (.cond (.t 21) (.seq (.reg false pins_Word_i16) pins_Word_i17) .skip)
def pins_Word_i19 : List Op1 := [(oM 22 (.t 3) []), (oM 2 (.t 22) [0, 0])]
def pins_Word_i20 : IR := .ret
def pins_Word_i21 : IR := (.seq (.reg false pins_Word_i19) pins_Word_i20)
def pins_Word_i22 : IR := (.seq (.seq (.reg false pins_Word_i15) pins_Word_i18) pins_Word_i21)
def pins_Word_i23 : IR := (.seq (.seq (.reg false pins_Word_i2) pins_Word_i14) pins_Word_i22)
def pins_Word_i24 : IR := (.seq (.reg false pins_Word_i1) pins_Word_i23)
def pins_Word_ir : IR := (.seq (.reg false pins_Word_i0) pins_Word_i24)
theorem pins_Word_cfn : cFn Tryd.prog 11 = some (pins_Word_ir, [(.t 2)], 23) := by kernel_rfl
def pins_Word_V (r : (ByteArray)) : V := .s (.string r)
def pins_Word_C (r : (ByteArray)) : X → Fr → Hp → Prop := FinL [(.t 2)] [] (pins_Word_V r) []
theorem pins_Word_ok (p_ : api_Pins) (r : (ByteArray)) (h : pins_Word p_ = some r) : Pure Tryd.prog 11 [.agg [.s (.bool p_.Reset), .s (.bool p_.Nmi), .s (.bool p_.Firq), .s (.bool p_.Irq), .s (.bool p_.Halt), .s (.bool p_.Req)]] (pins_Word_V r) := by
  refine ConL.of pins_Word_cfn (Nat.le_of_ble_eq_true (by kernel_rfl)) (Nat.le_of_ble_eq_true (by kernel_rfl)) ?_
  refine k_start ?_
  show dwv Tryd.prog [] pins_Word_ir (kont Tryd.prog [] (pins_Word_C r) []) (fr0 [.agg [.s (.bool p_.Reset), .s (.bool p_.Nmi), .s (.bool p_.Firq), .s (.bool p_.Irq), .s (.bool p_.Halt), .s (.bool p_.Req)]]) []
  have hf : FOk (fr0 [.agg [.s (.bool p_.Reset), .s (.bool p_.Nmi), .s (.bool p_.Firq), .s (.bool p_.Irq), .s (.bool p_.Halt), .s (.bool p_.Req)]]) [⟨0, [], .agg [.s (.bool p_.Reset), .s (.bool p_.Nmi), .s (.bool p_.Firq), .s (.bool p_.Irq), .s (.bool p_.Halt), .s (.bool p_.Req)]⟩] := ⟨⟨fun _ => rfl, fun h => (h trivial).elim⟩, trivial⟩
  generalize fr0 [.agg [.s (.bool p_.Reset), .s (.bool p_.Nmi), .s (.bool p_.Firq), .s (.bool p_.Irq), .s (.bool p_.Halt), .s (.bool p_.Req)]] = f at hf ⊢
  unfold pins_Word at h
  refine k_seq ?_
  refine k_reg ?_
  refine mops_en hf (by kernel_rfl) fun f1 hf1 => ?_
  refine k_c ?_
  refine k_seq ?_
  refine k_reg ?_
  refine mops_en hf1 (by kernel_rfl) fun f2 hf2 => ?_
  refine k_c ?_
  refine k_seq ?_
  refine k_seq ?_
  refine k_reg ?_
  refine mops_sg 1 hf2 (by kernel_rfl) fun f3 hf3 => ?_
  obtain ⟨r_, hx_r_, h⟩ := Option.bind_eq_some_iff.1 h
  refine mops_call rfl hf3 (av := [.agg [.s (.bool p_.Reset), .s (.bool p_.Nmi), .s (.bool p_.Firq), .s (.bool p_.Irq), .s (.bool p_.Halt), .s (.bool p_.Req)]]) (by kernel_rfl) (v := .agg [.s (.bool r_.a0), .s (.bool r_.a1), .s (.bool r_.a2), .s (.bool r_.a3), .s (.bool r_.a4), .s (.bool r_.a5)]) (CalL.pure (pins_levels_ok p_ r_ hx_r_) rfl rfl (Nat.le_of_ble_eq_true (by kernel_rfl))) (fun _ => rfl) fun f4 hf4 => ?_
  refine mops_en hf4 (by kernel_rfl) fun f5 hf5 => ?_
  refine k_c ?_
  refine k_block ?_
  obtain ⟨o0, hx0, h⟩ := Option.bind_eq_some_iff.1 h
  have hgo0 : ∀ (s_2 : ByteArray), s_2 = o0 → ∀ f, FOk f [⟨2, [], .s (.string (⟨#[]⟩ : ByteArray))⟩, ⟨3, [], .s (.string s_2)⟩] → kont Tryd.prog [] (pins_Word_C r) ((.c pins_Word_i22) :: []) .normal f [⟨0, .mem, 1, [.s (.bool p_.Reset), .s (.bool p_.Nmi), .s (.bool p_.Firq), .s (.bool p_.Irq), .s (.bool p_.Halt), .s (.bool p_.Req)]⟩] := by
    intro s_2 e f hf
    subst e
    refine k_c ?_
    refine k_seq ?_
    refine k_seq ?_
    refine k_reg ?_
    refine mops_en hf (by kernel_rfl) fun f1 hf1 => ?_
    refine k_c ?_
    refine k_cond hf1 (t := (s_2.toList == (⟨#[]⟩ : ByteArray).toList)) (by kernel_rfl) (fun hc6 => ?_) (fun hc6 => ?_)
    · have h := if_t h hc6
      refine k_seq ?_
      refine k_reg ?_
      refine mops_en hf1 (by kernel_rfl) fun f2 hf2 => ?_
      refine k_c ?_
      refine k_ret ?_
      refine x_c nofun ?_
      obtain rfl := Option.some.inj h
      exact k_fin (fin_ret (.inl rfl) hf2 (vs := [.s (.string (⟨#[46]⟩ : ByteArray))]) (by kernel_rfl) (SettL.pure (FzL.stat rfl)))
    · have h := if_f h hc6
      refine k_skip ?_
      refine k_c ?_
      refine k_seq ?_
      refine k_reg ?_
      refine mops_en hf1 (by kernel_rfl) fun f2 hf2 => ?_
      refine k_c ?_
      refine k_ret ?_
      obtain rfl := Option.some.inj h
      exact k_fin (fin_ret (.inl rfl) hf2 (vs := [.s (.string s_2)]) (by kernel_rfl) (SettL.pure (FzL.stat rfl)))
  refine k_loop BIG ?_
  refine loop_ind (fun n f L => ∃ (s_1 : ByteArray) (t_1 : Int), pins_Word_l0 r_ n s_1 t_1 = some o0 ∧ FOk f [⟨2, [], .s (.string (⟨#[]⟩ : ByteArray))⟩, ⟨3, [], .s (.string s_1)⟩, ⟨7, [], .agg [.s (.bool r_.a0), .s (.bool r_.a1), .s (.bool r_.a2), .s (.bool r_.a3), .s (.bool r_.a4), .s (.bool r_.a5)]⟩, ⟨8, [], .s (.int .i64 t_1)⟩] ∧ L = [⟨0, .mem, 1, [.s (.bool p_.Reset), .s (.bool p_.Nmi), .s (.bool p_.Firq), .s (.bool p_.Irq), .s (.bool p_.Halt), .s (.bool p_.Req)]⟩]) ?_ ?_ BIG _ _ ⟨(⟨#[]⟩ : ByteArray), (0), hx0, FOk_of [2, 3, 7, 8] hf5 (by kernel_rfl), (by kernel_rfl)⟩
  · rintro f L ⟨s_1, t_1, h, _⟩
    cases (show (none : Option _) = some _ from h)
  · rintro n0 R0 ih f L ⟨s_1, t_1, h, hf, rfl⟩
    rw [pins_Word_l0] at h
    refine k_seq ?_
    refine k_reg ?_
    refine mops_en hf (by kernel_rfl) fun f1 hf1 => ?_
    refine k_c ?_
    refine k_seq ?_
    refine k_cond hf1 (t := (decide (t_1 < 6))) (by kernel_rfl) (fun hc1 => ?_) (fun hc1 => ?_)
    · have h := if_t h hc1
      refine k_skip ?_
      refine k_c ?_
      refine k_seq ?_
      refine k_block ?_
      refine k_seq ?_
      refine k_reg ?_
      refine mops_sg 1 hf1 (by kernel_rfl) fun f2 hf2 => ?_
      obtain ⟨c2, h⟩ := as_ok h
      refine mops_adv rfl (v := .s (.bool (gt [r_.a0, r_.a1, r_.a2, r_.a3, r_.a4, r_.a5] t_1))) hf2 (by kernel_rfl) (e_ixa (g := nB) (l := [r_.a0, r_.a1, r_.a2, r_.a3, r_.a4, r_.a5]) (n := 6) (k := .i64) (iv := t_1) (by kernel_rfl) (by kernel_rfl) c2 (by kernel_rfl) (by kernel_rfl)) fun f3 hf3 => ?_
      refine mops_en hf3 (by kernel_rfl) fun f4 hf4 => ?_
      refine k_c ?_
      refine k_seq ?_
      refine k_reg ?_
      refine mops_en hf4 (by kernel_rfl) fun f5 hf5 => ?_
      refine k_c ?_
      refine k_cond hf5 (t := (gt [r_.a0, r_.a1, r_.a2, r_.a3, r_.a4, r_.a5] t_1)) (by kernel_rfl) (fun hc3 => ?_) (fun hc3 => ?_)
      · have h := if_t h hc3
        refine k_reg ?_
        refine mops_sg 4 hf5 (by kernel_rfl) fun f6 hf6 => ?_
        obtain ⟨c4, h⟩ := as_ok h
        refine mops_adv rfl (v := .s (.string ((⟨#[82, 78, 70, 73, 72, 81]⟩ : ByteArray).extract (t_1 : Int).toNat ((IntKind.wrap .i64 (t_1 + 1)) : Int).toNat))) hf6 (by kernel_rfl) (e_sstr (t := (⟨#[82, 78, 70, 73, 72, 81]⟩ : ByteArray)) (by kernel_rfl) (b_ss (k := .i64) (k' := .i64) (iv := t_1) (jv := (IntKind.wrap .i64 (t_1 + 1))) (by kernel_rfl) (by kernel_rfl) c4)) fun f7 hf7 => ?_
        obtain ⟨c5, h⟩ := as_ok h
        refine mops_adv rfl (v := .s (.string (s_1 ++ ((⟨#[82, 78, 70, 73, 72, 81]⟩ : ByteArray).extract (t_1 : Int).toNat ((IntKind.wrap .i64 (t_1 + 1)) : Int).toNat)))) hf7 (by kernel_rfl) (e_sadd (t := s_1) (t' := ((⟨#[82, 78, 70, 73, 72, 81]⟩ : ByteArray).extract (t_1 : Int).toNat ((IntKind.wrap .i64 (t_1 + 1)) : Int).toNat)) (by kernel_rfl) (by kernel_rfl) c5) fun f8 hf8 => ?_
        refine mops_en hf8 (by kernel_rfl) fun f9 hf9 => ?_
        refine k_b ?_
        refine k_c ?_
        refine k_reg ?_
        refine mops_en hf9 (by kernel_rfl) fun f10 hf10 => ?_
        refine k_l ?_
        exact ih _ _ ⟨(s_1 ++ ((⟨#[82, 78, 70, 73, 72, 81]⟩ : ByteArray).extract (t_1 : Int).toNat ((IntKind.wrap .i64 (t_1 + 1)) : Int).toNat)), (IntKind.wrap .i64 (t_1 + 1)), h, FOk_of [2, 3, 7, 8] hf10 (by kernel_rfl), (by kernel_rfl)⟩
      · have h := if_f h hc3
        refine k_skip ?_
        refine k_b ?_
        refine k_c ?_
        refine k_reg ?_
        refine mops_en hf5 (by kernel_rfl) fun f6 hf6 => ?_
        refine k_l ?_
        exact ih _ _ ⟨s_1, (IntKind.wrap .i64 (t_1 + 1)), h, FOk_of [2, 3, 7, 8] hf6 (by kernel_rfl), (by kernel_rfl)⟩
    · have h := if_f h hc1
      refine k_exit ?_
      refine x_c nofun ?_
      refine x_l nofun ?_
      refine x_b ?_
      refine k_hp (L' := [⟨0, .mem, 1, [.s (.bool p_.Reset), .s (.bool p_.Nmi), .s (.bool p_.Firq), .s (.bool p_.Irq), .s (.bool p_.Halt), .s (.bool p_.Req)]⟩]) (by kernel_rfl) ?_
      exact hgo0 s_1 (Option.some.inj h) _ (FOk_of [2, 3] hf1 (by kernel_rfl))
def strings_Cut_i0 : List Op1 := [(oM 4 (.k (.string ⟨#[]⟩)) []), (oM 5 (.k (.string ⟨#[]⟩)) [0]), (oM 6 (.k (.bool false)) [1])]
def strings_Cut_i1 : List Op1 := [(oM 7 (.t 0) []), (oM 8 (.t 1) []), (oC 9 34 [(.t 7), (.t 8)] [0, 1]), (oE 10 (.ext 0 (.t 9)) [2]), (oE 11 (.ext 1 (.t 9)) [2]), (oE 12 (.ext 2 (.t 9)) [2]), (oM 4 (.t 10) [3, 2, 0, 1, 2, 3, 4, 5]), (oM 5 (.t 11) [4, 6, 0, 1, 2, 3, 4, 5, 6]), (oM 6 (.t 12) [5, 7, 0, 1, 2, 3, 4, 5, 6, 7])]
def strings_Cut_i2 : IR := .ret
def strings_Cut_i3 : IR := (.seq (.reg false strings_Cut_i1) strings_Cut_i2)
def strings_Cut_ir : IR := (.seq (.reg false strings_Cut_i0) strings_Cut_i3)
theorem strings_Cut_cfn : cFn Tryd.prog 24 = some (strings_Cut_ir, [(.t 4), (.t 5), (.t 6)], 13) := by kernel_rfl
def strings_Cut_V (r : (ByteArray × ByteArray × Bool)) : V := .tup [.s (.string r.1), .s (.string r.2.1), .s (.bool r.2.2)]
def strings_Cut_C (r : (ByteArray × ByteArray × Bool)) : X → Fr → Hp → Prop := FinL [(.t 4), (.t 5), (.t 6)] [] (strings_Cut_V r) []
theorem strings_Cut_ok (s_ : ByteArray) (sep_ : ByteArray) (r : (ByteArray × ByteArray × Bool)) (h : strings_Cut s_ sep_ = some r) : Pure Tryd.prog 24 [.s (.string s_), .s (.string sep_)] (strings_Cut_V r) := by
  refine ConL.of strings_Cut_cfn (Nat.le_of_ble_eq_true (by kernel_rfl)) (Nat.le_of_ble_eq_true (by kernel_rfl)) ?_
  refine k_start ?_
  show dwv Tryd.prog [] strings_Cut_ir (kont Tryd.prog [] (strings_Cut_C r) []) (fr0 [.s (.string s_), .s (.string sep_)]) []
  have hf : FOk (fr0 [.s (.string s_), .s (.string sep_)]) [⟨0, [], .s (.string s_)⟩, ⟨1, [], .s (.string sep_)⟩] := ⟨⟨fun _ => rfl, fun h => (h trivial).elim⟩, ⟨fun _ => rfl, fun h => (h trivial).elim⟩, trivial⟩
  generalize fr0 [.s (.string s_), .s (.string sep_)] = f at hf ⊢
  unfold strings_Cut at h
  refine k_seq ?_
  refine k_reg ?_
  refine mops_en hf (by kernel_rfl) fun f1 hf1 => ?_
  refine k_c ?_
  refine k_seq ?_
  refine k_reg ?_
  refine mops_sg 2 hf1 (by kernel_rfl) fun f2 hf2 => ?_
  obtain ⟨r_, hx_r_, h⟩ := Option.bind_eq_some_iff.1 h
  refine mops_call rfl hf2 (av := [.s (.string s_), .s (.string sep_)]) (by kernel_rfl) (v := .tup [.s (.string r_.1), .s (.string r_.2.1), .s (.bool r_.2.2)]) (CalL.pure (internal_stringslite_Cut_ok s_ sep_ r_ hx_r_) rfl rfl (Nat.le_of_ble_eq_true (by kernel_rfl))) (fun _ => rfl) fun f3 hf3 => ?_
  refine mops_en hf3 (by kernel_rfl) fun f4 hf4 => ?_
  refine k_c ?_
  refine k_ret ?_
  obtain rfl := Option.some.inj h
  exact k_fin (fin_ret (.inl rfl) hf4 (vs := [.s (.string r_.1), .s (.string r_.2.1), .s (.bool r_.2.2)]) (by kernel_rfl) (SettL.pure (FzL.tup (FzsL.cons (FzL.stat rfl) (FzsL.cons (FzL.stat rfl) (FzsL.cons (FzL.stat rfl) FzsL.nil))))))
def spinetref31_One_i0 : List Op1 := [(oE 2 (.zero [(.bool false), (.bool false), (.bool false), (.bool false), (.bool false), (.bool false)]) []), (oM 3 (.k (.bool false)) [])]
def spinetref31_One_i1 : List Op1 := [(oM 4 (.k (.int .i64 0)) [])]
def spinetref31_One_i2 : List Op1 := [(oM 6 (.t 4) []), (oE 7 (.bin .lss (.t 6) (.k (.int .i64 64))) [0])]
def spinetref31_One_i3 : IR := (.cond (.t 7) .skip (.exit 0))
def spinetref31_One_i4 : List Op1 := [(oM 10 (.t 4) []), (oE 11 (.bin .rem (.t 10) (.k (.int .i64 2))) [0]), (oE 12 (.bin .eql (.t 11) (.k (.int .i64 1))) [1]), (oM 13 (.t 4) []), (oE 14 (.bin .quo (.t 13) (.k (.int .i64 2))) [3]), (oE 15 (.bin .rem (.t 14) (.k (.int .i64 2))) [4]), (oE 16 (.bin .eql (.t 15) (.k (.int .i64 1))) [5]), (oM 17 (.t 4) []), (oE 18 (.bin .quo (.t 17) (.k (.int .i64 4))) [7]), (oE 19 (.bin .rem (.t 18) (.k (.int .i64 2))) [8]), (oE 20 (.bin .eql (.t 19) (.k (.int .i64 1))) [9]), (oM 21 (.t 4) []), (oE 22 (.bin .quo (.t 21) (.k (.int .i64 8))) [11]), (oE 23 (.bin .rem (.t 22) (.k (.int .i64 2))) [12]), (oE 24 (.bin .eql (.t 23) (.k (.int .i64 1))) [13]), (oM 25 (.t 4) []), (oE 26 (.bin .quo (.t 25) (.k (.int .i64 16))) [15]), (oE 27 (.bin .rem (.t 26) (.k (.int .i64 2))) [16]), (oE 28 (.bin .eql (.t 27) (.k (.int .i64 1))) [17]), (oM 29 (.t 4) []), (oE 30 (.bin .quo (.t 29) (.k (.int .i64 32))) [19]), (oE 31 (.bin .rem (.t 30) (.k (.int .i64 2))) [20]), (oE 32 (.bin .eql (.t 31) (.k (.int .i64 1))) [21]), (oE 33 (.build [(.bool false), (.bool false), (.bool false), (.bool false), (.bool false), (.bool false)] [(0, (1, (.t 12))), (1, (1, (.t 16))), (2, (1, (.t 20))), (3, (1, (.t 24))), (4, (1, (.t 28))), (5, (1, (.t 32)))]) [2, 6, 10, 14, 18, 22]), (oE 5 (.zero [(.bool false), (.bool false), (.bool false), (.bool false), (.bool false), (.bool false)]) []), (oN (.store 6 (.t 5) (.t 33)) [24, 23, 0, 1, 2, 3, 4, 5, 6, 7, 8, 9, 10, 11, 12, 13, 14, 15, 16, 17, 18, 19, 20, 21, 22, 23, 24])]
def spinetref31_One_i5 : List Op1 := [(oE 34 (.load true 6 (.t 5)) []), (oC 35 12 [(.t 34)] [0]), (oM 36 (.t 0) []), (oE 37 (.bin .eql (.t 35) (.t 36)) [1, 2])]
def spinetref31_One_i6 : List Op1 := [(oE 38 (.load true 6 (.t 5)) []), (oN (.store 6 (.t 2) (.t 38)) [0, 0]), (oM 3 (.k (.bool true)) [1, 0, 1])]
def spinetref31_One_i7 : IR := .ret
def spinetref31_One_i8 : IR := (.cond (.t 37) (.seq (.reg false spinetref31_One_i6) spinetref31_One_i7) .skip)
def spinetref31_One_i9 : IR := (.seq (.reg false spinetref31_One_i5) spinetref31_One_i8)
def spinetref31_One_i10 : List Op1 := [(oM 8 (.t 4) []), (oE 9 (.bin .add (.t 8) (.k (.int .i64 1))) [0]), (oM 4 (.t 9) [1, 0, 1])]
def spinetref31_One_i11 : IR := (.reg false spinetref31_One_i10)
def spinetref31_One_i12 : IR := (.seq (.block 1 (.seq (.reg false spinetref31_One_i4) spinetref31_One_i9)) spinetref31_One_i11)
def spinetref31_One_i13 : IR := (.seq (.seq (.reg false spinetref31_One_i2) spinetref31_One_i3) spinetref31_One_i12)
def spinetref31_One_i14 : IR := (.block 0 (.loop spinetref31_One_i13))
def spinetref31_One_i15 : List Op1 := [(oE 39 (.build [(.bool false), (.bool false), (.bool false), (.bool false), (.bool false), (.bool false)] []) []), (oN (.store 6 (.t 2) (.t 39)) [0, 0]), (oM 3 (.k (.bool false)) [1, 0, 1])]
def spinetref31_One_i16 : IR := .ret
def spinetref31_One_i17 : IR := (.seq (.reg false spinetref31_One_i15) spinetref31_One_i16)
def spinetref31_One_i18 : IR := (.seq (.seq (.reg false spinetref31_One_i1) spinetref31_One_i14) spinetref31_One_i17)
def spinetref31_One_ir : IR := (.seq (.reg false spinetref31_One_i0) spinetref31_One_i18)
theorem spinetref31_One_cfn : cFn Tryd.prog 8 = some (spinetref31_One_ir, [(.c 2 true 6), (.t 3)], 40) := by kernel_rfl
def spinetref31_One_V (r : (api_Pins × Bool)) : V := .tup [.agg [.s (.bool r.1.Reset), .s (.bool r.1.Nmi), .s (.bool r.1.Firq), .s (.bool r.1.Irq), .s (.bool r.1.Halt), .s (.bool r.1.Req)], .s (.bool r.2)]
def spinetref31_One_C (r : (api_Pins × Bool)) : X → Fr → Hp → Prop := FinL [(.c 2 true 6), (.t 3)] [] (spinetref31_One_V r) []
theorem spinetref31_One_ok (s_ : ByteArray) (r : (api_Pins × Bool)) (h : spinetref31_One s_ = some r) : Pure Tryd.prog 8 [.s (.string s_)] (spinetref31_One_V r) := by
  refine ConL.of spinetref31_One_cfn (Nat.le_of_ble_eq_true (by kernel_rfl)) (Nat.le_of_ble_eq_true (by kernel_rfl)) ?_
  refine k_start ?_
  show dwv Tryd.prog [] spinetref31_One_ir (kont Tryd.prog [] (spinetref31_One_C r) []) (fr0 [.s (.string s_)]) []
  have hf : FOk (fr0 [.s (.string s_)]) [⟨0, [], .s (.string s_)⟩] := ⟨⟨fun _ => rfl, fun h => (h trivial).elim⟩, trivial⟩
  generalize fr0 [.s (.string s_)] = f at hf ⊢
  unfold spinetref31_One at h
  refine k_seq ?_
  refine k_reg ?_
  refine mops_en hf (by kernel_rfl) fun f1 hf1 => ?_
  refine k_c ?_
  refine k_seq ?_
  refine k_seq ?_
  refine k_reg ?_
  refine mops_en hf1 (by kernel_rfl) fun f2 hf2 => ?_
  refine k_c ?_
  refine k_block ?_
  obtain ⟨o0, hx0, h⟩ := Option.bind_eq_some_iff.1 h
  have hret0 : ∀ r0, .ret r0 = o0 → r0 = r := fun r0 e => by subst e; exact Option.some.inj h
  have hgo0 : .go () = o0 → ∀ f, FOk f [⟨2, [], .ptr 0 0 0⟩, ⟨3, [], .s (.bool false)⟩] → kont Tryd.prog [] (spinetref31_One_C r) ((.c spinetref31_One_i17) :: []) .normal f [⟨0, .mem, 1, [.s (.bool false), .s (.bool false), .s (.bool false), .s (.bool false), .s (.bool false), .s (.bool false)]⟩] := by
    intro  e f hf
    subst e
    refine k_c ?_
    refine k_seq ?_
    refine k_reg ?_
    refine mops_en hf (by kernel_rfl) fun f1 hf1 => ?_
    refine k_c ?_
    refine k_ret ?_
    obtain rfl := Option.some.inj h
    exact k_fin (fin_ret (.inl rfl) hf1 (vs := [.agg [.s (.bool false), .s (.bool false), .s (.bool false), .s (.bool false), .s (.bool false), .s (.bool false)], .s (.bool false)]) (by kernel_rfl) (SettL.pure (FzL.tup (FzsL.cons (FzL.stat rfl) (FzsL.cons (FzL.stat rfl) FzsL.nil)))))
  refine k_loop BIG ?_
  refine loop_ind (fun n f L => ∃ (n_1 : Int), spinetref31_One_l0 s_ n n_1 = some o0 ∧ FOk f [⟨0, [], .s (.string s_)⟩, ⟨2, [], .ptr 0 0 0⟩, ⟨3, [], .s (.bool false)⟩, ⟨4, [], .s (.int .i64 n_1)⟩] ∧ L = [⟨0, .mem, 1, [.s (.bool false), .s (.bool false), .s (.bool false), .s (.bool false), .s (.bool false), .s (.bool false)]⟩]) ?_ ?_ BIG _ _ ⟨(0), hx0, FOk_of [0, 2, 3, 4] hf2 (by kernel_rfl), (by kernel_rfl)⟩
  · rintro f L ⟨n_1, h, _⟩
    cases (show (none : Option _) = some _ from h)
  · rintro n0 R0 ih f L ⟨n_1, h, hf, rfl⟩
    rw [spinetref31_One_l0] at h
    refine k_seq ?_
    refine k_seq ?_
    refine k_reg ?_
    refine mops_en hf (by kernel_rfl) fun f1 hf1 => ?_
    refine k_c ?_
    refine k_cond hf1 (t := (decide (n_1 < 64))) (by kernel_rfl) (fun hc1 => ?_) (fun hc1 => ?_)
    · have h := if_t h hc1
      refine k_skip ?_
      refine k_c ?_
      refine k_seq ?_
      refine k_block ?_
      refine k_seq ?_
      refine k_reg ?_
      refine mops_en hf1 (by kernel_rfl) fun f2 hf2 => ?_
      refine k_c ?_
      refine k_seq ?_
      refine k_reg ?_
      refine mops_sg 1 hf2 (by kernel_rfl) fun f3 hf3 => ?_
      obtain ⟨r_2, hx_r_2, h⟩ := Option.bind_eq_some_iff.1 h
      refine mops_call rfl hf3 (av := [.agg [.s (.bool ((Int.tmod n_1 2) == 1)), .s (.bool ((Int.tmod (IntKind.wrap .i64 (Int.tdiv n_1 2)) 2) == 1)), .s (.bool ((Int.tmod (IntKind.wrap .i64 (Int.tdiv n_1 4)) 2) == 1)), .s (.bool ((Int.tmod (IntKind.wrap .i64 (Int.tdiv n_1 8)) 2) == 1)), .s (.bool ((Int.tmod (IntKind.wrap .i64 (Int.tdiv n_1 16)) 2) == 1)), .s (.bool ((Int.tmod (IntKind.wrap .i64 (Int.tdiv n_1 32)) 2) == 1))]]) (by kernel_rfl) (v := .s (.string r_2)) (CalL.pure (spinetref31_Word_ok (api_Pins.mk ((Int.tmod n_1 2) == 1) ((Int.tmod (IntKind.wrap .i64 (Int.tdiv n_1 2)) 2) == 1) ((Int.tmod (IntKind.wrap .i64 (Int.tdiv n_1 4)) 2) == 1) ((Int.tmod (IntKind.wrap .i64 (Int.tdiv n_1 8)) 2) == 1) ((Int.tmod (IntKind.wrap .i64 (Int.tdiv n_1 16)) 2) == 1) ((Int.tmod (IntKind.wrap .i64 (Int.tdiv n_1 32)) 2) == 1)) r_2 hx_r_2) rfl rfl (Nat.le_of_ble_eq_true (by kernel_rfl))) (fun _ => rfl) fun f4 hf4 => ?_
      refine mops_en hf4 (by kernel_rfl) fun f5 hf5 => ?_
      refine k_c ?_
      refine k_cond hf5 (t := (r_2.toList == s_.toList)) (by kernel_rfl) (fun hc2 => ?_) (fun hc2 => ?_)
      · have h := if_t h hc2
        refine k_seq ?_
        refine k_reg ?_
        refine mops_en hf5 (by kernel_rfl) fun f6 hf6 => ?_
        refine k_c ?_
        refine k_ret ?_
        refine x_br ?_
        refine x_c nofun ?_
        refine x_l nofun ?_
        refine x_br ?_
        refine x_c nofun ?_
        obtain rfl := hret0 _ (Option.some.inj h)
        exact k_fin (fin_ret (.inl rfl) hf6 (vs := [.agg [.s (.bool ((Int.tmod n_1 2) == 1)), .s (.bool ((Int.tmod (IntKind.wrap .i64 (Int.tdiv n_1 2)) 2) == 1)), .s (.bool ((Int.tmod (IntKind.wrap .i64 (Int.tdiv n_1 4)) 2) == 1)), .s (.bool ((Int.tmod (IntKind.wrap .i64 (Int.tdiv n_1 8)) 2) == 1)), .s (.bool ((Int.tmod (IntKind.wrap .i64 (Int.tdiv n_1 16)) 2) == 1)), .s (.bool ((Int.tmod (IntKind.wrap .i64 (Int.tdiv n_1 32)) 2) == 1))], .s (.bool true)]) (by kernel_rfl) (SettL.pure (FzL.tup (FzsL.cons (FzL.stat rfl) (FzsL.cons (FzL.stat rfl) FzsL.nil)))))
      · have h := if_f h hc2
        refine k_skip ?_
        refine k_b ?_
        refine k_c ?_
        refine k_reg ?_
        refine mops_en hf5 (by kernel_rfl) fun f6 hf6 => ?_
        refine k_l' (vs_cut (l := [⟨0, [], .s (.string s_)⟩, ⟨2, [], .ptr 0 0 0⟩, ⟨3, [], .s (.bool false)⟩, ⟨4, [], .s (.int .i64 (IntKind.wrap .i64 (n_1 + 1)))⟩]) 1 (by kernel_rfl) (by kernel_rfl) (L' := [⟨0, .mem, 1, [.s (.bool false), .s (.bool false), .s (.bool false), .s (.bool false), .s (.bool false), .s (.bool false)]⟩]) (by kernel_rfl) ⟨⟨rfl, rfl⟩, ⟨rfl, rfl⟩, ⟨rfl, rfl⟩, ⟨rfl, rfl⟩, trivial⟩ ⟨.inr (.inr rfl), trivial⟩ (FOk_of [0, 2, 3, 4] hf6 (by kernel_rfl)) fun f hf => ?_)
        exact ih _ _ ⟨(IntKind.wrap .i64 (n_1 + 1)), h, hf, rfl⟩
    · have h := if_f h hc1
      refine k_exit ?_
      refine x_c nofun ?_
      refine x_l nofun ?_
      refine x_b ?_
      refine k_hp (L' := [⟨0, .mem, 1, [.s (.bool false), .s (.bool false), .s (.bool false), .s (.bool false), .s (.bool false), .s (.bool false)]⟩]) (by kernel_rfl) ?_
      exact hgo0  (Option.some.inj h) _ (FOk_of [2, 3] hf1 (by kernel_rfl))
def digit_Dec_i0 : List Op1 := [(oM 2 (.k (.string ⟨#[]⟩)) [])]
def digit_Dec_i1 : List Op1 := [(oE 3 (.zero [(.int .u8 0), (.int .u8 0), (.int .u8 0), (.int .u8 0), (.int .u8 0), (.int .u8 0), (.int .u8 0), (.int .u8 0), (.int .u8 0), (.int .u8 0), (.int .u8 0), (.int .u8 0), (.int .u8 0), (.int .u8 0), (.int .u8 0), (.int .u8 0), (.int .u8 0), (.int .u8 0), (.int .u8 0), (.int .u8 0)]) [])]
def digit_Dec_i2 : List Op1 := [(oM 4 (.k (.int .i64 20)) [])]
def digit_Dec_i3 : List Op1 := [(oM 5 (.t 0) []), (oE 6 (.bin .gtr (.t 5) (.k (.int .u64 0))) [0]), (oM 7 (.t 6) [1]), (oG 8 (.mv (.t 4)) 7 false [2]), (oG 9 (.bin .eql (.t 8) (.k (.int .i64 20))) 7 false [3, 2]), (oE 10 (.pick (.t 7) (.k (.bool true)) (.t 9)) [2, 4])]
def digit_Dec_i4 : IR := (.cond (.t 10) .skip (.exit 0))
def digit_Dec_i5 : List Op1 := [(oM 11 (.t 4) []), (oE 12 (.bin .sub (.t 11) (.k (.int .i64 1))) [0]), (oM 4 (.t 12) [1, 0, 1])]
def digit_Dec_i6 : List Op1 := [(oM 13 (.t 4) []), (oM 14 (.t 0) []), (oE 15 (.bin .rem (.t 14) (.k (.int .u64 10))) [1]), (oE 16 (.cint .u8 (.t 15)) [2]), (oC 17 27 [(.t 16)] [3]), (oE 18 (.iaa 20 1 (.t 3) (.t 13)) [0, 0, 1, 2, 3, 4]), (oN (.store 1 (.t 18) (.t 17)) [5, 4, 4, 0, 1, 2, 3, 4])]
def digit_Dec_i7 : List Op1 := [(oM 19 (.t 0) []), (oE 20 (.bin .quo (.t 19) (.k (.int .u64 10))) [0]), (oM 0 (.t 20) [1, 0, 1])]
def digit_Dec_i8 : IR := (.reg false digit_Dec_i7)
def digit_Dec_i9 : IR := (.seq (.reg false digit_Dec_i6) digit_Dec_i8)
def digit_Dec_i10 : IR := (.block 1 (.seq (.reg false digit_Dec_i5) digit_Dec_i9))
def digit_Dec_i11 : IR := (.seq (.seq (.reg false digit_Dec_i3) digit_Dec_i4) digit_Dec_i10)
def digit_Dec_i12 : List Op1 := [(oM 21 (.t 4) []), (oE 22 (.sarr 20 1 (.t 3) (some (.t 21)) none) [0]), (oE 23 (.bstr (.t 22)) [1]), (oM 2 (.t 23) [2, 0, 1, 2])]
def digit_Dec_i13 : IR := .ret
def digit_Dec_i14 : IR := (.seq (.reg false digit_Dec_i12) digit_Dec_i13)
def digit_Dec_i15 : IR := (.seq (.block 0 (.loop digit_Dec_i11)) digit_Dec_i14)
def digit_Dec_i16 : IR := (.seq (.reg false digit_Dec_i2) digit_Dec_i15)
def digit_Dec_i17 : IR := (.seq (.reg false digit_Dec_i1) digit_Dec_i16)
def digit_Dec_ir : IR := (.seq (.reg false digit_Dec_i0) digit_Dec_i17)
theorem digit_Dec_cfn : cFn Tryd.prog 20 = some (digit_Dec_ir, [(.t 2)], 24) := by kernel_rfl
def digit_Dec_V (r : (ByteArray)) : V := .s (.string r)
def digit_Dec_C (r : (ByteArray)) : X → Fr → Hp → Prop := FinL [(.t 2)] [] (digit_Dec_V r) []
theorem digit_Dec_ok (n_ : Int) (r : (ByteArray)) (h : digit_Dec n_ = some r) : Pure Tryd.prog 20 [.s (.int .u64 n_)] (digit_Dec_V r) := by
  refine ConL.of digit_Dec_cfn (Nat.le_of_ble_eq_true (by kernel_rfl)) (Nat.le_of_ble_eq_true (by kernel_rfl)) ?_
  refine k_start ?_
  show dwv Tryd.prog [] digit_Dec_ir (kont Tryd.prog [] (digit_Dec_C r) []) (fr0 [.s (.int .u64 n_)]) []
  have hf : FOk (fr0 [.s (.int .u64 n_)]) [⟨0, [], .s (.int .u64 n_)⟩] := ⟨⟨fun _ => rfl, fun h => (h trivial).elim⟩, trivial⟩
  generalize fr0 [.s (.int .u64 n_)] = f at hf ⊢
  unfold digit_Dec at h
  refine k_seq ?_
  refine k_reg ?_
  refine mops_en hf (by kernel_rfl) fun f1 hf1 => ?_
  refine k_c ?_
  refine k_seq ?_
  refine k_reg ?_
  refine mops_en hf1 (by kernel_rfl) fun f2 hf2 => ?_
  refine k_c ?_
  refine k_seq ?_
  refine k_reg ?_
  refine mops_en hf2 (by kernel_rfl) fun f3 hf3 => ?_
  refine k_c ?_
  refine k_seq ?_
  refine k_block ?_
  obtain ⟨o0, hx0, h⟩ := Option.bind_eq_some_iff.1 h
  have hgo0 : ∀ (l_2 : (List Int)) (i_2 : Int) (hn_2 : l_2.length = 20), (l_2, i_2) = o0 → ∀ f, FOk f [⟨2, [], .s (.string (⟨#[]⟩ : ByteArray))⟩, ⟨3, [], .ptr 0 0 0⟩, ⟨4, [], .s (.int .i64 i_2)⟩] → kont Tryd.prog [] (digit_Dec_C r) ((.c digit_Dec_i14) :: []) .normal f [⟨0, .mem, 1, cat (nI .u8) l_2⟩] := by
    intro l_2 i_2 hn_2 e f hf
    subst e
    refine k_c ?_
    refine k_seq ?_
    refine k_reg ?_
    refine mops_sg 1 hf (by kernel_rfl) fun f1 hf1 => ?_
    obtain ⟨c3, h⟩ := as_ok h
    refine mops_adv rfl (v := .ref 0 0 (0 + (i_2 : Int).toNat * 1) (20 - (i_2 : Int).toNat)) hf1 (by kernel_rfl) (e_sarr (g := (nI .u8)) (l := l_2) (q := 0) (ver := 0) (n := 20) (kd := .mem) (by kernel_rfl) (live_mem (by kernel_rfl)) hn_2 (b_sn (k := .i64) (iv := i_2) (by kernel_rfl) c3)) fun f2 hf2 => ?_
    refine mops_adv rfl (v := .s (.string (bs ((l_2.drop (i_2 : Int).toNat).take (20 - (i_2 : Int).toNat))))) hf2 (by kernel_rfl) (e_bstr (q := ((l_2.drop (i_2 : Int).toNat).take (20 - (i_2 : Int).toNat))) (slc_ev (v := .ref 0 0 (0 + (i_2 : Int).toNat * 1) (20 - (i_2 : Int).toNat)) (by kernel_rfl) (slc_refp (g := (nI .u8)) (l := l_2) (q := 0) (n := 20) (a := (i_2 : Int).toNat) (b := 20) (kd := .mem) (z := 1) (cut_sn (n := 20) c3) hn_2 (live_mem (by kernel_rfl))))) fun f3 hf3 => ?_
    refine mops_en hf3 (by kernel_rfl) fun f4 hf4 => ?_
    refine k_c ?_
    refine k_ret ?_
    obtain rfl := Option.some.inj h
    exact k_fin (fin_ret (.inl rfl) hf4 (vs := [.s (.string (bs ((l_2.drop (i_2 : Int).toNat).take (20 - (i_2 : Int).toNat))))]) (by kernel_rfl) (SettL.pure (FzL.stat rfl)))
  refine k_loop BIG ?_
  refine loop_ind (fun n f L => ∃ (l_1 : (List Int)) (t_1 : Int) (i_1 : Int) (hn_1 : l_1.length = 20), digit_Dec_l0 n l_1 t_1 i_1 = some o0 ∧ FOk f [⟨0, [], .s (.int .u64 t_1)⟩, ⟨2, [], .s (.string (⟨#[]⟩ : ByteArray))⟩, ⟨3, [], .ptr 0 0 0⟩, ⟨4, [], .s (.int .i64 i_1)⟩] ∧ L = [⟨0, .mem, 1, cat (nI .u8) l_1⟩]) ?_ ?_ BIG _ _ ⟨[0, 0, 0, 0, 0, 0, 0, 0, 0, 0, 0, 0, 0, 0, 0, 0, 0, 0, 0, 0], n_, (20), (by kernel_rfl), hx0, FOk_of [0, 2, 3, 4] hf3 (by kernel_rfl), (by kernel_rfl)⟩
  · rintro f L ⟨l_1, t_1, i_1, hn_1, h, _⟩
    cases (show (none : Option _) = some _ from h)
  · rintro n0 R0 ih f L ⟨l_1, t_1, i_1, hn_1, h, hf, rfl⟩
    rw [digit_Dec_l0] at h
    refine k_seq ?_
    refine k_seq ?_
    refine k_reg ?_
    refine mops_en hf (by kernel_rfl) fun f1 hf1 => ?_
    refine k_c ?_
    refine k_cond hf1 (t := ((decide (0 < t_1)) || (i_1 == 20))) (by kernel_rfl) (fun hc1 => ?_) (fun hc1 => ?_)
    · have h := if_t h hc1
      refine k_skip ?_
      refine k_c ?_
      refine k_block ?_
      refine k_seq ?_
      refine k_reg ?_
      refine mops_en hf1 (by kernel_rfl) fun f2 hf2 => ?_
      refine k_c ?_
      refine k_seq ?_
      refine k_reg ?_
      refine mops_sg 4 hf2 (by kernel_rfl) fun f3 hf3 => ?_
      obtain ⟨r_2, hx_r_2, h⟩ := Option.bind_eq_some_iff.1 h
      refine mops_call rfl hf3 (av := [.s (.int .u8 (IntKind.wrap .u8 (Int.tmod t_1 10)))]) (by kernel_rfl) (v := .s (.int .u8 r_2)) (CalL.pure (digit_sign_ok (IntKind.wrap .u8 (Int.tmod t_1 10)) r_2 hx_r_2) rfl rfl (Nat.le_of_ble_eq_true (by kernel_rfl))) (fun _ => rfl) fun f4 hf4 => ?_
      obtain ⟨c2, h⟩ := as_ok h
      refine mops_adv rfl (v := .ptr 0 0 (0 + ((IntKind.wrap .i64 (i_1 - 1)) : Int).toNat * 1)) hf4 (by kernel_rfl) (e_iaa (n := 20) (xv := .ptr 0 0 0) (k := .i64) (iv := (IntKind.wrap .i64 (i_1 - 1))) (p := .ptr 0 0 (0 + ((IntKind.wrap .i64 (i_1 - 1)) : Int).toNat * 1)) (by kernel_rfl) (by kernel_rfl) (by kernel_rfl) (by kernel_rfl) c2) fun f5 hf5 => ?_
      refine mops_adv rfl (v := .s undef) hf5 (by kernel_rfl) (e_store_pe (g := (nI .u8)) (l := l_1) (iv := (IntKind.wrap .i64 (i_1 - 1))) (kd := .mem) (q := 1) (b := 0) (ver := 0) (ys := [.s (.int .u8 r_2)]) (a := r_2) [] (by kernel_rfl) (live_mem (by kernel_rfl)) (by kernel_rfl) (by kernel_rfl) (by kernel_rfl) (arr_h (l := l_1) c2 hn_1) (by kernel_rfl) (by kernel_rfl)) fun f6 hf6 => ?_
      refine mops_en hf6 (by kernel_rfl) fun f7 hf7 => ?_
      refine k_c ?_
      refine k_reg ?_
      refine mops_en hf7 (by kernel_rfl) fun f8 hf8 => ?_
      refine k_b ?_
      refine k_l ?_
      exact ih _ _ ⟨(st l_1 (IntKind.wrap .i64 (i_1 - 1)) r_2), (IntKind.wrap .u64 (Int.tdiv t_1 10)), (IntKind.wrap .i64 (i_1 - 1)), (st_len.trans hn_1), h, FOk_of [0, 2, 3, 4] hf8 (by kernel_rfl), (by kernel_rfl)⟩
    · have h := if_f h hc1
      refine k_exit ?_
      refine x_c nofun ?_
      refine x_l nofun ?_
      refine x_b ?_
      refine k_hp (L' := [⟨0, .mem, 1, cat (nI .u8) l_1⟩]) (by kernel_rfl) ?_
      exact hgo0 l_1 i_1 hn_1 (Option.some.inj h) _ (FOk_of [2, 3, 4] hf1 (by kernel_rfl))
def spinetref31_Text_i0 : List Op1 := [(oM 2 (.k (.string ⟨#[]⟩)) [])]
def spinetref31_Text_i1 : List Op1 := [(oM 3 (.k (.string ⟨#[]⟩)) [])]
def spinetref31_Text_i2 : List Op1 := [(oM 4 (.k (.int .i64 0)) [])]
def spinetref31_Text_i3 : List Op1 := [(oM 6 (.t 4) []), (oM 7 (.t 0) []), (oE 8 (.len (.t 7)) [1]), (oE 9 (.bin .lss (.t 6) (.t 8)) [0, 2])]
def spinetref31_Text_i4 : IR := (.cond (.t 9) .skip (.exit 0))
def spinetref31_Text_i5 : List Op1 := [(oM 5 (.k (.int .i64 1)) [])]
def spinetref31_Text_i6 : List Op1 := [(oM 10 (.t 4) []), (oM 11 (.t 5) []), (oE 12 (.bin .add (.t 10) (.t 11)) [0, 1]), (oM 13 (.t 0) []), (oE 14 (.len (.t 13)) [3]), (oE 15 (.bin .lss (.t 12) (.t 14)) [2, 4]), (oM 16 (.t 15) [5]), (oG 17 (.mv (.t 0)) 16 true [6]), (oG 18 (.mv (.t 4)) 16 true [6]), (oG 19 (.mv (.t 5)) 16 true [6]), (oG 20 (.bin .add (.t 18) (.t 19)) 16 true [8, 9, 6]), (oG 21 (.ias 6 (.t 17) (.t 20)) 16 true [7, 10, 6]), (oG 22 (.load true 6 (.t 21)) 16 true [11, 6]), (oG 23 (.mv (.t 0)) 16 true [6]), (oG 24 (.mv (.t 4)) 16 true [6]), (oG 25 (.ias 6 (.t 23) (.t 24)) 16 true [13, 14, 6]), (oG 26 (.load true 6 (.t 25)) 16 true [15, 6]), (oG 27 (.eqa false [.bool, .bool, .bool, .bool, .bool, .bool] (.t 22) (.t 26)) 16 true [12, 16, 6]), (oE 28 (.pick (.t 16) (.t 27) (.k (.bool false))) [6, 17])]
def spinetref31_Text_i7 : IR := (.cond (.t 28) .skip (.exit 2))
def spinetref31_Text_i8 : List Op1 := [(oM 29 (.t 5) []), (oE 30 (.bin .add (.t 29) (.k (.int .i64 1))) [0]), (oM 5 (.t 30) [1, 0, 1])]
def spinetref31_Text_i9 : IR := (.block 3 (.reg false spinetref31_Text_i8))
def spinetref31_Text_i10 : IR := (.seq (.seq (.reg true spinetref31_Text_i6) spinetref31_Text_i7) spinetref31_Text_i9)
def spinetref31_Text_i11 : List Op1 := [(oM 31 (.t 3) []), (oE 32 (.bin .neq (.t 31) (.k (.string ⟨#[]⟩))) [0])]
def spinetref31_Text_i12 : List Op1 := [(oM 33 (.t 3) []), (oE 34 (.bin .add (.t 33) (.k (.string ⟨#[32]⟩))) [0]), (oM 3 (.t 34) [1, 0, 1])]
def spinetref31_Text_i13 : IR := (.cond (.t 32) (.reg false spinetref31_Text_i12) .skip)
def spinetref31_Text_i14 : List Op1 := [(oM 35 (.t 3) []), (oM 36 (.t 0) []), (oM 37 (.t 4) []), (oE 38 (.ias 6 (.t 36) (.t 37)) [1, 2]), (oE 39 (.load true 6 (.t 38)) [3]), (oC 40 12 [(.t 39)] [4]), (oE 41 (.bin .add (.t 35) (.t 40)) [0, 5]), (oM 3 (.t 41) [6, 5, 0, 1, 2, 3, 4, 5, 6])]
def spinetref31_Text_i15 : List Op1 := [(oM 42 (.t 5) []), (oE 43 (.bin .gtr (.t 42) (.k (.int .i64 1))) [0])]
def spinetref31_Text_i16 : List Op1 := [(oM 44 (.t 3) []), (oM 45 (.t 5) []), (oE 46 (.cint .u64 (.t 45)) [1]), (oC 47 22 [(.t 46), (.k (.int .u64 10)), (.k (.int .i64 1))] [2]), (oE 48 (.bin .add (.k (.string ⟨#[42]⟩)) (.t 47)) [3]), (oE 49 (.bin .add (.t 44) (.t 48)) [0, 4]), (oM 3 (.t 49) [5, 3, 0, 1, 2, 3, 4, 5])]
def spinetref31_Text_i17 : IR := (.cond (.t 43) (.reg false spinetref31_Text_i16) .skip)
def spinetref31_Text_i18 : List Op1 := [(oM 50 (.t 4) []), (oM 51 (.t 5) []), (oE 52 (.bin .add (.t 50) (.t 51)) [0, 1]), (oM 4 (.t 52) [2, 0, 1, 2])]
def spinetref31_Text_i19 : IR := (.reg false spinetref31_Text_i18)
def spinetref31_Text_i20 : IR := (.seq (.seq (.reg false spinetref31_Text_i15) spinetref31_Text_i17) spinetref31_Text_i19)
def spinetref31_Text_i21 : IR := (.seq (.reg false spinetref31_Text_i14) spinetref31_Text_i20)
def spinetref31_Text_i22 : IR := (.seq (.seq (.reg false spinetref31_Text_i11) spinetref31_Text_i13) spinetref31_Text_i21)
def spinetref31_Text_i23 : IR := (.seq (.block 2 (.loop spinetref31_Text_i10)) spinetref31_Text_i22)
def spinetref31_Text_i24 : IR := (.block 1 (.seq (.reg false spinetref31_Text_i5) spinetref31_Text_i23))
def spinetref31_Text_i25 : IR := (.seq (.seq (.reg false spinetref31_Text_i3) spinetref31_Text_i4) spinetref31_Text_i24)
def spinetref31_Text_i26 : IR := (.block 0 (.loop spinetref31_Text_i25))
def spinetref31_Text_i27 : List Op1 := [(oM 53 (.t 3) []), (oM 2 (.t 53) [0, 0])]
def spinetref31_Text_i28 : IR := .ret
def spinetref31_Text_i29 : IR := (.seq (.reg false spinetref31_Text_i27) spinetref31_Text_i28)
def spinetref31_Text_i30 : IR := (.seq (.seq (.reg false spinetref31_Text_i2) spinetref31_Text_i26) spinetref31_Text_i29)
def spinetref31_Text_i31 : IR := (.seq (.reg false spinetref31_Text_i1) spinetref31_Text_i30)
def spinetref31_Text_ir : IR := (.seq (.reg false spinetref31_Text_i0) spinetref31_Text_i31)
theorem spinetref31_Text_cfn : cFn Tryd.prog 14 = some (spinetref31_Text_ir, [(.t 2)], 54) := by kernel_rfl
def spinetref31_Text_V (r : (ByteArray)) : V := .s (.string r)
def spinetref31_Text_C (r : (ByteArray)) : X → Fr → Hp → Prop := FinL [(.t 2)] [] (spinetref31_Text_V r) []
theorem spinetref31_Text_ok (l_ : (List api_Pins)) (r : (ByteArray)) (h : spinetref31_Text l_ = some r) : Pure Tryd.prog 14 [.sl false l_.length (cat api_Pins.v l_)] (spinetref31_Text_V r) := by
  refine ConL.of spinetref31_Text_cfn (Nat.le_of_ble_eq_true (by kernel_rfl)) (Nat.le_of_ble_eq_true (by kernel_rfl)) ?_
  refine k_start ?_
  show dwv Tryd.prog [] spinetref31_Text_ir (kont Tryd.prog [] (spinetref31_Text_C r) []) (fr0 [.sl false l_.length (cat api_Pins.v l_)]) []
  have hf : FOk (fr0 [.sl false l_.length (cat api_Pins.v l_)]) [⟨0, [], .sl false l_.length (cat api_Pins.v l_)⟩] := ⟨⟨fun _ => rfl, fun h => (h trivial).elim⟩, trivial⟩
  generalize fr0 [.sl false l_.length (cat api_Pins.v l_)] = f at hf ⊢
  unfold spinetref31_Text at h
  refine k_seq ?_
  refine k_reg ?_
  refine mops_en hf (by kernel_rfl) fun f1 hf1 => ?_
  refine k_c ?_
  refine k_seq ?_
  refine k_reg ?_
  refine mops_en hf1 (by kernel_rfl) fun f2 hf2 => ?_
  refine k_c ?_
  refine k_seq ?_
  refine k_seq ?_
  refine k_reg ?_
  refine mops_en hf2 (by kernel_rfl) fun f3 hf3 => ?_
  refine k_c ?_
  refine k_block ?_
  obtain ⟨o0, hx0, h⟩ := Option.bind_eq_some_iff.1 h
  have hgo0 : ∀ (s_4 : ByteArray), s_4 = o0 → ∀ f, FOk f [⟨2, [], .s (.string (⟨#[]⟩ : ByteArray))⟩, ⟨3, [], .s (.string s_4)⟩] → kont Tryd.prog [] (spinetref31_Text_C r) ((.c spinetref31_Text_i29) :: []) .normal f [] := by
    intro s_4 e f hf
    subst e
    refine k_c ?_
    refine k_seq ?_
    refine k_reg ?_
    refine mops_en hf (by kernel_rfl) fun f1 hf1 => ?_
    refine k_c ?_
    refine k_ret ?_
    obtain rfl := Option.some.inj h
    exact k_fin (fin_ret (.inl rfl) hf1 (vs := [.s (.string s_4)]) (by kernel_rfl) (SettL.pure (FzL.stat rfl)))
  refine k_loop BIG ?_
  refine loop_ind (fun n f L => ∃ (s_3 : ByteArray) (i_1 : Int), spinetref31_Text_l2 l_ n s_3 i_1 = some o0 ∧ FOk f [⟨0, [], .sl false l_.length (cat api_Pins.v l_)⟩, ⟨2, [], .s (.string (⟨#[]⟩ : ByteArray))⟩, ⟨3, [], .s (.string s_3)⟩, ⟨4, [], .s (.int .i64 i_1)⟩] ∧ L = []) ?_ ?_ BIG _ _ ⟨(⟨#[]⟩ : ByteArray), (0), hx0, FOk_of [0, 2, 3, 4] hf3 (by kernel_rfl), (by kernel_rfl)⟩
  · rintro f L ⟨s_3, i_1, h, _⟩
    cases (show (none : Option _) = some _ from h)
  · rintro n0 R0 ih f L ⟨s_3, i_1, h, hf, rfl⟩
    rw [spinetref31_Text_l2] at h
    refine k_seq ?_
    refine k_seq ?_
    refine k_reg ?_
    refine mops_en hf (by kernel_rfl) fun f1 hf1 => ?_
    refine k_c ?_
    refine k_cond hf1 (t := (decide (i_1 < (ln l_)))) (by kernel_rfl) (fun hc1 => ?_) (fun hc1 => ?_)
    · have h := if_t h hc1
      refine k_skip ?_
      refine k_c ?_
      refine k_block ?_
      refine k_seq ?_
      refine k_reg ?_
      refine mops_en hf1 (by kernel_rfl) fun f2 hf2 => ?_
      refine k_c ?_
      refine k_seq ?_
      refine k_block ?_
      obtain ⟨o1, hx1, h⟩ := Option.bind_eq_some_iff.1 h
      have hgo1 : ∀ (n_8 : Int) (t_10 : Int) (t_11 : Int) (t_12 : Bool) (t_13 : Bool) (t_14 : Bool), (n_8, t_10, t_11, t_12, t_13, t_14) = o1 → ∀ f, FOk f [⟨0, [], .sl false l_.length (cat api_Pins.v l_)⟩, ⟨2, [], .s (.string (⟨#[]⟩ : ByteArray))⟩, ⟨3, [], .s (.string s_3)⟩, ⟨4, [], .s (.int .i64 i_1)⟩, ⟨5, [], .s (.int .i64 n_8)⟩, ⟨6, [], .s (.int .i64 i_1)⟩, ⟨7, [], .sl false l_.length (cat api_Pins.v l_)⟩, ⟨8, [], .s (.int .i64 (ln l_))⟩, ⟨9, [], .s (.bool (decide (i_1 < (ln l_))))⟩, ⟨10, [], .s (.int .i64 i_1)⟩, ⟨11, [], .s (.int .i64 t_10)⟩, ⟨12, [], .s (.int .i64 t_11)⟩, ⟨13, [], .sl false l_.length (cat api_Pins.v l_)⟩, ⟨14, [], .s (.int .i64 (ln l_))⟩, ⟨15, [], .s (.bool t_12)⟩, ⟨16, [], .s (.bool t_13)⟩, ⟨28, [], .s (.bool t_14)⟩] → kont Tryd.prog [] (spinetref31_Text_C r) ((.c spinetref31_Text_i22) :: (.b 1) :: (.l R0) :: (.b 0) :: (.c spinetref31_Text_i29) :: []) .normal f [] := by
        intro n_8 t_10 t_11 t_12 t_13 t_14 e f hf
        subst e
        refine k_c ?_
        refine k_seq ?_
        refine k_seq ?_
        refine k_reg ?_
        refine mops_en hf (by kernel_rfl) fun f1 hf1 => ?_
        refine k_c ?_
        have hj1 : ∀ (s_5 : ByteArray), spinetref31_Text_j0 ((spinetref31_Text_l2 l_ n0)) l_ i_1 n_8 s_5 = some o0 → ∀ f, FOk f [⟨0, [], .sl false l_.length (cat api_Pins.v l_)⟩, ⟨2, [], .s (.string (⟨#[]⟩ : ByteArray))⟩, ⟨3, [], .s (.string s_5)⟩, ⟨4, [], .s (.int .i64 i_1)⟩, ⟨5, [], .s (.int .i64 n_8)⟩, ⟨6, [], .s (.int .i64 i_1)⟩, ⟨7, [], .sl false l_.length (cat api_Pins.v l_)⟩, ⟨8, [], .s (.int .i64 (ln l_))⟩, ⟨9, [], .s (.bool (decide (i_1 < (ln l_))))⟩, ⟨10, [], .s (.int .i64 i_1)⟩, ⟨11, [], .s (.int .i64 t_10)⟩, ⟨12, [], .s (.int .i64 t_11)⟩, ⟨13, [], .sl false l_.length (cat api_Pins.v l_)⟩, ⟨14, [], .s (.int .i64 (ln l_))⟩, ⟨15, [], .s (.bool t_12)⟩, ⟨16, [], .s (.bool t_13)⟩, ⟨28, [], .s (.bool t_14)⟩, ⟨31, [], .s (.string s_3)⟩, ⟨32, [], .s (.bool (!(s_3.toList == (⟨#[]⟩ : ByteArray).toList)))⟩] → kont Tryd.prog [] (spinetref31_Text_C r) ((.c spinetref31_Text_i21) :: (.b 1) :: (.l R0) :: (.b 0) :: (.c spinetref31_Text_i29) :: []) .normal f [] := by
          intro s_5 h f hf
          unfold spinetref31_Text_j0 at h
          refine k_c ?_
          refine k_seq ?_
          refine k_reg ?_
          refine mops_sg 3 hf (by kernel_rfl) fun f1 hf1 => ?_
          obtain ⟨c11, h⟩ := as_ok h
          refine mops_adv rfl (v := .ip ((cat api_Pins.v l_).drop ((i_1 : Int).toNat * 6))) hf1 (by kernel_rfl) (e_ias (n := l_.length) (xv := .sl false l_.length (cat api_Pins.v l_)) (k := .i64) (iv := i_1) (p := .ip ((cat api_Pins.v l_).drop ((i_1 : Int).toNat * 6))) (by kernel_rfl) (by kernel_rfl) (by kernel_rfl) (by kernel_rfl) c11) fun f2 hf2 => ?_
          refine mops_adv rfl (v := .agg [.s (.bool (gt l_ i_1).Reset), .s (.bool (gt l_ i_1).Nmi), .s (.bool (gt l_ i_1).Firq), .s (.bool (gt l_ i_1).Irq), .s (.bool (gt l_ i_1).Halt), .s (.bool (gt l_ i_1).Req)]) hf2 (by kernel_rfl) (e_load_ip (g := api_Pins.v) (l := l_) (iv := i_1) [] (by kernel_rfl) c11 (by kernel_rfl) (by kernel_rfl)) fun f3 hf3 => ?_
          obtain ⟨r_4, hx_r_4, h⟩ := Option.bind_eq_some_iff.1 h
          refine mops_call rfl hf3 (av := [.agg [.s (.bool (gt l_ i_1).Reset), .s (.bool (gt l_ i_1).Nmi), .s (.bool (gt l_ i_1).Firq), .s (.bool (gt l_ i_1).Irq), .s (.bool (gt l_ i_1).Halt), .s (.bool (gt l_ i_1).Req)]]) (by kernel_rfl) (v := .s (.string r_4)) (CalL.pure (spinetref31_Word_ok (gt l_ i_1) r_4 hx_r_4) rfl rfl (Nat.le_of_ble_eq_true (by kernel_rfl))) (fun _ => rfl) fun f4 hf4 => ?_
          obtain ⟨c12, h⟩ := as_ok h
          refine mops_adv rfl (v := .s (.string (s_5 ++ r_4))) hf4 (by kernel_rfl) (e_sadd (t := s_5) (t' := r_4) (by kernel_rfl) (by kernel_rfl) c12) fun f5 hf5 => ?_
          refine mops_en hf5 (by kernel_rfl) fun f6 hf6 => ?_
          refine k_c ?_
          refine k_seq ?_
          refine k_seq ?_
          refine k_reg ?_
          refine mops_en hf6 (by kernel_rfl) fun f7 hf7 => ?_
          refine k_c ?_
          refine k_cond hf7 (t := (decide (1 < n_8))) (by kernel_rfl) (fun hc13 => ?_) (fun hc13 => ?_)
          · have h := if_t h hc13
            refine k_reg ?_
            refine mops_sg 3 hf7 (by kernel_rfl) fun f8 hf8 => ?_
            obtain ⟨r_5, hx_r_5, h⟩ := Option.bind_eq_some_iff.1 h
            refine mops_call rfl hf8 (av := [.s (.int .u64 (IntKind.wrap .u64 n_8)), .s (.int .u64 10), .s (.int .i64 1)]) (by kernel_rfl) (v := .s (.string r_5)) (CalL.pure (spinetref02_Digits_ok (IntKind.wrap .u64 n_8) (10) (1) r_5 hx_r_5) rfl rfl (Nat.le_of_ble_eq_true (by kernel_rfl))) (fun _ => rfl) fun f9 hf9 => ?_
            obtain ⟨c14, h⟩ := as_ok h
            refine mops_adv rfl (v := .s (.string ((⟨#[42]⟩ : ByteArray) ++ r_5))) hf9 (by kernel_rfl) (e_sadd (t := (⟨#[42]⟩ : ByteArray)) (t' := r_5) (by kernel_rfl) (by kernel_rfl) c14) fun f10 hf10 => ?_
            obtain ⟨c15, h⟩ := as_ok h
            refine mops_adv rfl (v := .s (.string ((s_5 ++ r_4) ++ ((⟨#[42]⟩ : ByteArray) ++ r_5)))) hf10 (by kernel_rfl) (e_sadd (t := (s_5 ++ r_4)) (t' := ((⟨#[42]⟩ : ByteArray) ++ r_5)) (by kernel_rfl) (by kernel_rfl) c15) fun f11 hf11 => ?_
            refine mops_en hf11 (by kernel_rfl) fun f12 hf12 => ?_
            refine k_c ?_
            refine k_reg ?_
            refine mops_en hf12 (by kernel_rfl) fun f13 hf13 => ?_
            refine k_b ?_
            refine k_l ?_
            exact ih _ _ ⟨((s_5 ++ r_4) ++ ((⟨#[42]⟩ : ByteArray) ++ r_5)), (IntKind.wrap .i64 (i_1 + n_8)), h, FOk_of [0, 2, 3, 4] hf13 (by kernel_rfl), (by kernel_rfl)⟩
          · have h := if_f h hc13
            refine k_skip ?_
            refine k_c ?_
            refine k_reg ?_
            refine mops_en hf7 (by kernel_rfl) fun f8 hf8 => ?_
            refine k_b ?_
            refine k_l ?_
            exact ih _ _ ⟨(s_5 ++ r_4), (IntKind.wrap .i64 (i_1 + n_8)), h, FOk_of [0, 2, 3, 4] hf8 (by kernel_rfl), (by kernel_rfl)⟩
        refine k_cond hf1 (t := (!(s_3.toList == (⟨#[]⟩ : ByteArray).toList))) (by kernel_rfl) (fun hc9 => ?_) (fun hc9 => ?_)
        · have h := if_t h hc9
          refine k_reg ?_
          refine mops_sg 1 hf1 (by kernel_rfl) fun f2 hf2 => ?_
          obtain ⟨c10, h⟩ := as_ok h
          refine mops_adv rfl (v := .s (.string (s_3 ++ (⟨#[32]⟩ : ByteArray)))) hf2 (by kernel_rfl) (e_sadd (t := s_3) (t' := (⟨#[32]⟩ : ByteArray)) (by kernel_rfl) (by kernel_rfl) c10) fun f3 hf3 => ?_
          refine mops_en hf3 (by kernel_rfl) fun f4 hf4 => ?_
          refine k_hp (L' := []) (by kernel_rfl) ?_
          exact hj1 (s_3 ++ (⟨#[32]⟩ : ByteArray)) h _ (FOk_of [0, 2, 3, 4, 5, 6, 7, 8, 9, 10, 11, 12, 13, 14, 15, 16, 28, 31, 32] hf4 (by kernel_rfl))
        · have h := if_f h hc9
          refine k_skip ?_
          refine k_hp (L' := []) (by kernel_rfl) ?_
          exact hj1 s_3 h _ (FOk_of [0, 2, 3, 4, 5, 6, 7, 8, 9, 10, 11, 12, 13, 14, 15, 16, 28, 31, 32] hf1 (by kernel_rfl))
      refine k_loop BIG ?_
      refine loop_ind (fun n f L => ∃ (n_7 : Int), spinetref31_Text_l3 l_ i_1 n n_7 = some o1 ∧ FOk f [⟨0, [], .sl false l_.length (cat api_Pins.v l_)⟩, ⟨2, [], .s (.string (⟨#[]⟩ : ByteArray))⟩, ⟨3, [], .s (.string s_3)⟩, ⟨4, [], .s (.int .i64 i_1)⟩, ⟨5, [], .s (.int .i64 n_7)⟩, ⟨6, [], .s (.int .i64 i_1)⟩, ⟨7, [], .sl false l_.length (cat api_Pins.v l_)⟩, ⟨8, [], .s (.int .i64 (ln l_))⟩, ⟨9, [], .s (.bool (decide (i_1 < (ln l_))))⟩] ∧ L = []) ?_ ?_ BIG _ _ ⟨(1), hx1, FOk_of [0, 2, 3, 4, 5, 6, 7, 8, 9] hf2 (by kernel_rfl), (by kernel_rfl)⟩
      · rintro f L ⟨n_7, h, _⟩
        cases (show (none : Option _) = some _ from h)
      · rintro n1 R1 ih f L ⟨n_7, h, hf, rfl⟩
        rw [spinetref31_Text_l3] at h
        refine k_seq ?_
        refine k_seq ?_
        refine k_regq ?_
        refine mops_sg 11 hf (by kernel_rfl) fun f1 hf1 => ?_
        obtain ⟨c2, h⟩ := as_ok h
        refine mops_gadv (dst := (some 21)) (op := (.ias 6 (.t 17) (.t 20))) (aft := [7, 10, 6]) (t := 16) (w := true) (ch := [(16, true)]) (b := (decide ((IntKind.wrap .i64 (i_1 + n_7)) < (ln l_)))) (v := .ip ((cat api_Pins.v l_).drop (((IntKind.wrap .i64 (i_1 + n_7)) : Int).toNat * 6))) (by kernel_rfl) hf1 (by kernel_rfl) (by kernel_rfl) (by kernel_rfl) (fun hb3 => e_ias (n := l_.length) (xv := .sl false l_.length (cat api_Pins.v l_)) (k := .i64) (iv := (IntKind.wrap .i64 (i_1 + n_7))) (p := .ip ((cat api_Pins.v l_).drop (((IntKind.wrap .i64 (i_1 + n_7)) : Int).toNat * 6))) (by kernel_rfl) (by kernel_rfl) (by kernel_rfl) (by kernel_rfl) (c2 hb3)) fun f2 hf2 => ?_
        refine mops_gadv (dst := (some 22)) (op := (.load true 6 (.t 21))) (aft := [11, 6]) (t := 16) (w := true) (ch := [(16, true)]) (b := (decide ((IntKind.wrap .i64 (i_1 + n_7)) < (ln l_)))) (v := .agg [.s (.bool (gt l_ (IntKind.wrap .i64 (i_1 + n_7))).Reset), .s (.bool (gt l_ (IntKind.wrap .i64 (i_1 + n_7))).Nmi), .s (.bool (gt l_ (IntKind.wrap .i64 (i_1 + n_7))).Firq), .s (.bool (gt l_ (IntKind.wrap .i64 (i_1 + n_7))).Irq), .s (.bool (gt l_ (IntKind.wrap .i64 (i_1 + n_7))).Halt), .s (.bool (gt l_ (IntKind.wrap .i64 (i_1 + n_7))).Req)]) (by kernel_rfl) hf2 (by kernel_rfl) (by kernel_rfl) (by kernel_rfl) (fun hb4 => e_load_ip (g := api_Pins.v) (l := l_) (iv := (IntKind.wrap .i64 (i_1 + n_7))) [] (by kernel_rfl) (c2 hb4) (by kernel_rfl) (by kernel_rfl)) fun f3 hf3 => ?_
        refine mops_sg 2 hf3 (by kernel_rfl) fun f4 hf4 => ?_
        obtain ⟨c5, h⟩ := as_ok h
        refine mops_gadv (dst := (some 25)) (op := (.ias 6 (.t 23) (.t 24))) (aft := [13, 14, 6]) (t := 16) (w := true) (ch := [(16, true)]) (b := (decide ((IntKind.wrap .i64 (i_1 + n_7)) < (ln l_)))) (v := .ip ((cat api_Pins.v l_).drop ((i_1 : Int).toNat * 6))) (by kernel_rfl) hf4 (by kernel_rfl) (by kernel_rfl) (by kernel_rfl) (fun hb6 => e_ias (n := l_.length) (xv := .sl false l_.length (cat api_Pins.v l_)) (k := .i64) (iv := i_1) (p := .ip ((cat api_Pins.v l_).drop ((i_1 : Int).toNat * 6))) (by kernel_rfl) (by kernel_rfl) (by kernel_rfl) (by kernel_rfl) (c5 hb6)) fun f5 hf5 => ?_
        refine mops_gadv (dst := (some 26)) (op := (.load true 6 (.t 25))) (aft := [15, 6]) (t := 16) (w := true) (ch := [(16, true)]) (b := (decide ((IntKind.wrap .i64 (i_1 + n_7)) < (ln l_)))) (v := .agg [.s (.bool (gt l_ i_1).Reset), .s (.bool (gt l_ i_1).Nmi), .s (.bool (gt l_ i_1).Firq), .s (.bool (gt l_ i_1).Irq), .s (.bool (gt l_ i_1).Halt), .s (.bool (gt l_ i_1).Req)]) (by kernel_rfl) hf5 (by kernel_rfl) (by kernel_rfl) (by kernel_rfl) (fun hb7 => e_load_ip (g := api_Pins.v) (l := l_) (iv := i_1) [] (by kernel_rfl) (c5 hb7) (by kernel_rfl) (by kernel_rfl)) fun f6 hf6 => ?_
        refine mops_en hf6 (by kernel_rfl) fun f7 hf7 => ?_
        refine k_c ?_
        refine k_cond hf7 (t := ((decide ((IntKind.wrap .i64 (i_1 + n_7)) < (ln l_))) && (((gt l_ (IntKind.wrap .i64 (i_1 + n_7))).Reset == (gt l_ i_1).Reset) && (((gt l_ (IntKind.wrap .i64 (i_1 + n_7))).Nmi == (gt l_ i_1).Nmi) && (((gt l_ (IntKind.wrap .i64 (i_1 + n_7))).Firq == (gt l_ i_1).Firq) && (((gt l_ (IntKind.wrap .i64 (i_1 + n_7))).Irq == (gt l_ i_1).Irq) && (((gt l_ (IntKind.wrap .i64 (i_1 + n_7))).Halt == (gt l_ i_1).Halt) && (((gt l_ (IntKind.wrap .i64 (i_1 + n_7))).Req == (gt l_ i_1).Req) && true)))))))) (by kernel_rfl) (fun hc8 => ?_) (fun hc8 => ?_)
        · have h := if_t h hc8
          refine k_skip ?_
          refine k_c ?_
          refine k_block ?_
          refine k_reg ?_
          refine mops_en hf7 (by kernel_rfl) fun f8 hf8 => ?_
          refine k_b ?_
          refine k_l ?_
          exact ih _ _ ⟨(IntKind.wrap .i64 (n_7 + 1)), h, FOk_of [0, 2, 3, 4, 5, 6, 7, 8, 9] hf8 (by kernel_rfl), (by kernel_rfl)⟩
        · have h := if_f h hc8
          refine k_exit ?_
          refine x_c nofun ?_
          refine x_l nofun ?_
          refine x_b ?_
          refine k_hp (L' := []) (by kernel_rfl) ?_
          exact hgo1 n_7 n_7 (IntKind.wrap .i64 (i_1 + n_7)) (decide ((IntKind.wrap .i64 (i_1 + n_7)) < (ln l_))) (decide ((IntKind.wrap .i64 (i_1 + n_7)) < (ln l_))) ((decide ((IntKind.wrap .i64 (i_1 + n_7)) < (ln l_))) && (((gt l_ (IntKind.wrap .i64 (i_1 + n_7))).Reset == (gt l_ i_1).Reset) && (((gt l_ (IntKind.wrap .i64 (i_1 + n_7))).Nmi == (gt l_ i_1).Nmi) && (((gt l_ (IntKind.wrap .i64 (i_1 + n_7))).Firq == (gt l_ i_1).Firq) && (((gt l_ (IntKind.wrap .i64 (i_1 + n_7))).Irq == (gt l_ i_1).Irq) && (((gt l_ (IntKind.wrap .i64 (i_1 + n_7))).Halt == (gt l_ i_1).Halt) && (((gt l_ (IntKind.wrap .i64 (i_1 + n_7))).Req == (gt l_ i_1).Req) && true))))))) (Option.some.inj h) _ (FOk_of [0, 2, 3, 4, 5, 6, 7, 8, 9, 10, 11, 12, 13, 14, 15, 16, 28] hf7 (by kernel_rfl))
    · have h := if_f h hc1
      refine k_exit ?_
      refine x_c nofun ?_
      refine x_l nofun ?_
      refine x_b ?_
      refine k_hp (L' := []) (by kernel_rfl) ?_
      exact hgo0 s_3 (Option.some.inj h) _ (FOk_of [2, 3] hf1 (by kernel_rfl))
end Go.Proofs.YthhjooegpjgicaaDoorK
