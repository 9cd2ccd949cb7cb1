/- The Go functions come to the functions over typed data. Printed by a program of this work. -/
import Derived.Test.YtiedenhkailolaaDoorF
import Derived.Test.YtiedenhkailolaaDoorProg
import Derived.Test.YtiedenhkailolaaDoorSf
import Derived.Test.YtiedenhkailolaaDoorG0
namespace Go.Proofs.YtiedenhkailolaaDoorK
set_option linter.unusedVariables false
set_option linter.unusedSimpArgs false
set_option maxHeartbeats 4000000
open Go.RowKit
attribute [local irreducible] dwv mops lops lqops lwops kont iter run runK rk okK ex E1 vals val chain chB sel resF
def spinetref17_Code_i0 : List Op1 := [(oM 4 (.k (.int .i64 0)) [])]
def spinetref17_Code_i1 : List Op1 := [(oE 6 (.build [(.int .i64 0), (.int .i64 0), (.int .i64 0), (.int .i64 0), (.int .i64 0), (.int .i64 0), (.int .i64 0), (.int .i64 0)] [(0, (1, (.k (.int .i64 10)))), (1, (1, (.k (.int .i64 8)))), (2, (1, (.k (.int .i64 9)))), (3, (1, (.k (.int .i64 11)))), (4, (1, (.k (.int .i64 1)))), (5, (1, (.k (.int .i64 2)))), (6, (1, (.k (.int .i64 3)))), (7, (1, (.k (.int .i64 5))))]) []), (oE 5 (.zero [(.int .i64 0), (.int .i64 0), (.int .i64 0), (.int .i64 0), (.int .i64 0), (.int .i64 0), (.int .i64 0), (.int .i64 0)]) []), (oN (.store 8 (.t 5) (.t 6)) [1, 0, 0, 1])]
def spinetref17_Code_i2 : List Op1 := [(oM 7 (.t 1) []), (oM 8 (.t 7) [0]), (oG 9 (.mv (.t 0)) 8 true [1]), (oG 10 (.bin .eql (.t 9) (.k (.int .i64 6))) 8 true [2, 1]), (oE 11 (.pick (.t 8) (.t 10) (.k (.bool false))) [1, 3])]
def spinetref17_Code_i3 : List Op1 := [(oM 4 (.k (.int .i64 4)) [])]
def spinetref17_Code_i4 : IR := .ret
def spinetref17_Code_i5 : IR := (.cond (.t 11) (.seq (.reg false spinetref17_Code_i3) spinetref17_Code_i4) .skip)
def spinetref17_Code_i6 : List Op1 := [(oM 12 (.t 0) []), (oE 13 (.iaa 8 1 (.t 5) (.t 12)) [0]), (oE 14 (.load false 1 (.t 13)) [1]), (oM 4 (.t 14) [2, 0, 1, 2])]
def spinetref17_Code_i7 : IR := .ret
def spinetref17_Code_i8 : IR := (.seq (.reg false spinetref17_Code_i6) spinetref17_Code_i7)
def spinetref17_Code_i9 : IR := (.seq (.seq (.reg false spinetref17_Code_i2) spinetref17_Code_i5) spinetref17_Code_i8)
def spinetref17_Code_i10 : IR := (.seq (.reg false spinetref17_Code_i1) spinetref17_Code_i9)
def spinetref17_Code_ir : IR := (.seq (.reg false spinetref17_Code_i0) spinetref17_Code_i10)
theorem spinetref17_Code_cfn : cFn Tryd.prog 10 = some (spinetref17_Code_ir, [(.t 4)], 15) := by kernel_rfl
def spinetref17_Code_V (r : (Int)) : V := .s (.int .i64 r)
def spinetref17_Code_C (r : (Int)) : X → Fr → Hp → Prop := FinL [(.t 4)] [] (spinetref17_Code_V r) []
theorem spinetref17_Code_ok (place_ : Int) (user_ : Bool) (r : (Int)) (h : spinetref17_Code place_ user_ = some r) : Pure Tryd.prog 10 [.s (.int .i64 place_), .s (.bool user_)] (spinetref17_Code_V r) := by
  refine ConL.of spinetref17_Code_cfn (Nat.le_of_ble_eq_true (by kernel_rfl)) (Nat.le_of_ble_eq_true (by kernel_rfl)) ?_
  refine k_start ?_
  show dwv Tryd.prog [] spinetref17_Code_ir (kont Tryd.prog [] (spinetref17_Code_C r) []) (fr0 [.s (.int .i64 place_), .s (.bool user_)]) []
  have hf : FOk (fr0 [.s (.int .i64 place_), .s (.bool user_)]) [⟨0, [], .s (.int .i64 place_)⟩, ⟨1, [], .s (.bool user_)⟩] := ⟨⟨fun _ => rfl, fun h => (h trivial).elim⟩, ⟨fun _ => rfl, fun h => (h trivial).elim⟩, trivial⟩
  generalize fr0 [.s (.int .i64 place_), .s (.bool user_)] = f at hf ⊢
  unfold spinetref17_Code at h
  refine k_seq ?_
  refine k_reg ?_
  refine mops_en hf (by kernel_rfl) fun f1 hf1 => ?_
  refine k_c ?_
  refine k_seq ?_
  refine k_reg ?_
  refine mops_en hf1 (by kernel_rfl) fun f2 hf2 => ?_
  refine k_c ?_
  refine k_seq ?_
  refine k_seq ?_
  refine k_reg ?_
  refine mops_en hf2 (by kernel_rfl) fun f3 hf3 => ?_
  refine k_c ?_
  refine k_cond hf3 (t := (user_ && (place_ == 6))) (by kernel_rfl) (fun hc1 => ?_) (fun hc1 => ?_)
  · have h := if_t h hc1
    refine k_seq ?_
    refine k_reg ?_
    refine mops_en hf3 (by kernel_rfl) fun f4 hf4 => ?_
    refine k_c ?_
    refine k_ret ?_
    refine x_c nofun ?_
    obtain rfl := Option.some.inj h
    exact k_fin (fin_ret (.inl rfl) hf4 (vs := [.s (.int .i64 4)]) (by kernel_rfl) (SettL.pure (FzL.stat rfl)))
  · have h := if_f h hc1
    refine k_skip ?_
    refine k_c ?_
    refine k_seq ?_
    refine k_reg ?_
    refine mops_sg 1 hf3 (by kernel_rfl) fun f4 hf4 => ?_
    obtain ⟨c2, h⟩ := as_ok h
    refine mops_adv rfl (v := .ptr 0 0 (0 + (place_ : Int).toNat * 1)) hf4 (by kernel_rfl) (e_iaa (n := 8) (xv := .ptr 0 0 0) (k := .i64) (iv := place_) (p := .ptr 0 0 (0 + (place_ : Int).toNat * 1)) (by kernel_rfl) (by kernel_rfl) (by kernel_rfl) (by kernel_rfl) c2) fun f5 hf5 => ?_
    refine mops_adv rfl (v := .s (.int .i64 (gt [10, 8, 9, 11, 1, 2, 3, 5] place_))) hf5 (by kernel_rfl) (e_load_pe (g := (nI .i64)) (l := [10, 8, 9, 11, 1, 2, 3, 5]) (iv := place_) (kd := .mem) (q := 1) (b := 0) (ver := 0) [] (by kernel_rfl) (live_mem (by kernel_rfl)) (arr_h (l := [10, 8, 9, 11, 1, 2, 3, 5]) c2 (by kernel_rfl)) (by kernel_rfl) (by kernel_rfl)) fun f6 hf6 => ?_
    refine mops_en hf6 (by kernel_rfl) fun f7 hf7 => ?_
    refine k_c ?_
    refine k_ret ?_
    obtain rfl := Option.some.inj h
    exact k_fin (fin_ret (.inl rfl) hf7 (vs := [.s (.int .i64 (gt [10, 8, 9, 11, 1, 2, 3, 5] place_))]) (by kernel_rfl) (SettL.pure (FzL.stat rfl)))
def unicode_utf8_DecodeRuneInString_i0 : List Op1 := [(oM 2 (.k (.int .i32 0)) []), (oM 3 (.k (.int .i64 0)) [0])]
def unicode_utf8_DecodeRuneInString_i1 : List Op1 := [(oM 4 (.t 0) []), (oE 5 (.bin .neq (.t 4) (.k (.string ⟨#[]⟩))) [0]), (oM 6 (.t 5) [1]), (oG 7 (.mv (.t 0)) 6 true [2]), (oG 8 (.ixs (.t 7) (.k (.int .i64 0))) 6 true [3, 2]), (oG 9 (.bin .lss (.t 8) (.k (.int .u8 128))) 6 true [4, 2]), (oE 10 (.pick (.t 6) (.t 9) (.k (.bool false))) [2, 5])]
def unicode_utf8_DecodeRuneInString_i2 : List Op1 := [(oM 11 (.t 0) []), (oE 12 (.ixs (.t 11) (.k (.int .i64 0))) [0]), (oE 13 (.cint .i32 (.t 12)) [1]), (oM 2 (.t 13) [2, 0, 1, 2]), (oM 3 (.k (.int .i64 1)) [3, 0, 1, 2, 3])]
def unicode_utf8_DecodeRuneInString_i3 : IR := .ret
def unicode_utf8_DecodeRuneInString_i4 : List Op1 := [(oM 15 (.t 0) []), (oC 16 50 [(.t 15)] [0]), (oM 14 (.t 16) [1]), (oE 17 (.ext 0 (.t 14)) [2]), (oE 18 (.ext 1 (.t 14)) [2]), (oM 2 (.t 17) [3, 1, 0, 1, 2, 3]), (oM 3 (.t 18) [4, 5, 0, 1, 2, 3, 4, 5])]
def unicode_utf8_DecodeRuneInString_i5 : IR := (.cond (.t 10) (.seq (.reg false unicode_utf8_DecodeRuneInString_i2) unicode_utf8_DecodeRuneInString_i3) (.reg false unicode_utf8_DecodeRuneInString_i4))
def unicode_utf8_DecodeRuneInString_i6 : IR := .ret
def unicode_utf8_DecodeRuneInString_i7 : IR := (.seq (.seq (.reg false unicode_utf8_DecodeRuneInString_i1) unicode_utf8_DecodeRuneInString_i5) unicode_utf8_DecodeRuneInString_i6)
def unicode_utf8_DecodeRuneInString_ir : IR := (.seq (.reg false unicode_utf8_DecodeRuneInString_i0) unicode_utf8_DecodeRuneInString_i7)
theorem unicode_utf8_DecodeRuneInString_cfn : cFn Tryd.prog 45 = some (unicode_utf8_DecodeRuneInString_ir, [(.t 2), (.t 3)], 19) := by kernel_rfl
def unicode_utf8_DecodeRuneInString_V (r : (Int × Int)) : V := .tup [.s (.int .i32 r.1), .s (.int .i64 r.2)]
def unicode_utf8_DecodeRuneInString_C (r : (Int × Int)) : X → Fr → Hp → Prop := FinL [(.t 2), (.t 3)] [] (unicode_utf8_DecodeRuneInString_V r) []
theorem unicode_utf8_DecodeRuneInString_ok (s_ : ByteArray) (r : (Int × Int)) (h : unicode_utf8_DecodeRuneInString s_ = some r) : Pure Tryd.prog 45 [.s (.string s_)] (unicode_utf8_DecodeRuneInString_V r) := by
  refine ConL.of unicode_utf8_DecodeRuneInString_cfn (Nat.le_of_ble_eq_true (by kernel_rfl)) (Nat.le_of_ble_eq_true (by kernel_rfl)) ?_
  refine k_start ?_
  show dwv Tryd.prog [] unicode_utf8_DecodeRuneInString_ir (kont Tryd.prog [] (unicode_utf8_DecodeRuneInString_C r) []) (fr0 [.s (.string s_)]) []
  have hf : FOk (fr0 [.s (.string s_)]) [⟨0, [], .s (.string s_)⟩] := ⟨⟨fun _ => rfl, fun h => (h trivial).elim⟩, trivial⟩
  generalize fr0 [.s (.string s_)] = f at hf ⊢
  unfold unicode_utf8_DecodeRuneInString at h
  refine k_seq ?_
  refine k_reg ?_
  refine mops_en hf (by kernel_rfl) fun f1 hf1 => ?_
  refine k_c ?_
  refine k_seq ?_
  refine k_seq ?_
  refine k_reg ?_
  refine mops_sg 4 hf1 (by kernel_rfl) fun f2 hf2 => ?_
  obtain ⟨c1, h⟩ := as_ok h
  refine mops_gadv (dst := (some 8)) (op := (.ixs (.t 7) (.k (.int .i64 0)))) (aft := [3, 2]) (t := 6) (w := true) (ch := [(6, true)]) (b := (!(s_.toList == (⟨#[]⟩ : ByteArray).toList))) (v := .s (.int .u8 (bt s_ (0)))) (by kernel_rfl) hf2 (by kernel_rfl) (by kernel_rfl) (by kernel_rfl) (fun hb2 => e_ixs (t := s_) (k := .i64) (iv := 0) (by kernel_rfl) (by kernel_rfl) (c1 hb2)) fun f3 hf3 => ?_
  refine mops_en hf3 (by kernel_rfl) fun f4 hf4 => ?_
  refine k_c ?_
  refine k_cond hf4 (t := ((!(s_.toList == (⟨#[]⟩ : ByteArray).toList)) && (decide ((bt s_ (0)) < 128)))) (by kernel_rfl) (fun hc3 => ?_) (fun hc3 => ?_)
  · have h := if_t h hc3
    refine k_seq ?_
    refine k_reg ?_
    refine mops_sg 1 hf4 (by kernel_rfl) fun f5 hf5 => ?_
    obtain ⟨c4, h⟩ := as_ok h
    refine mops_adv rfl (v := .s (.int .u8 (bt s_ (0)))) hf5 (by kernel_rfl) (e_ixs (t := s_) (k := .i64) (iv := 0) (by kernel_rfl) (by kernel_rfl) c4) fun f6 hf6 => ?_
    refine mops_en hf6 (by kernel_rfl) fun f7 hf7 => ?_
    refine k_c ?_
    refine k_ret ?_
    refine x_c nofun ?_
    obtain rfl := Option.some.inj h
    exact k_fin (fin_ret (.inl rfl) hf7 (vs := [.s (.int .i32 (IntKind.wrap .i32 (bt s_ (0)))), .s (.int .i64 1)]) (by kernel_rfl) (SettL.pure (FzL.tup (FzsL.cons (FzL.stat rfl) (FzsL.cons (FzL.stat rfl) FzsL.nil)))))
  · have h := if_f h hc3
    refine k_reg ?_
    refine mops_sg 1 hf4 (by kernel_rfl) fun f5 hf5 => ?_
    obtain ⟨r_, hx_r_, h⟩ := Option.bind_eq_some_iff.1 h
    refine mops_call rfl hf5 (av := [.s (.string s_)]) (by kernel_rfl) (v := .tup [.s (.int .i32 r_.1), .s (.int .i64 r_.2)]) (CalL.pure (unicode_utf8_decodeRuneInStringSlow_ok s_ r_ hx_r_) rfl rfl (Nat.le_of_ble_eq_true (by kernel_rfl))) (fun _ => rfl) fun f6 hf6 => ?_
    refine mops_en hf6 (by kernel_rfl) fun f7 hf7 => ?_
    refine k_c ?_
    refine k_ret ?_
    obtain rfl := Option.some.inj h
    exact k_fin (fin_ret (.inl rfl) hf7 (vs := [.s (.int .i32 r_.1), .s (.int .i64 r_.2)]) (by kernel_rfl) (SettL.pure (FzL.tup (FzsL.cons (FzL.stat rfl) (FzsL.cons (FzL.stat rfl) FzsL.nil)))))
def strings_genSplit_i0 : List Op1 := [(oE 8 (.nilg 1) [])]
def strings_genSplit_i1 : List Op1 := [(oM 12 (.t 3) []), (oE 13 (.bin .eql (.t 12) (.k (.int .i64 0))) [0])]
def strings_genSplit_i2 : List Op1 := [(oE 8 (.nilg 1) [])]
def strings_genSplit_i3 : IR := .ret
def strings_genSplit_i4 : IR := (.cond (.t 13) (.seq (.reg false strings_genSplit_i2) strings_genSplit_i3) .skip)
def strings_genSplit_i5 : List Op1 := [(oM 14 (.t 1) []), (oE 15 (.bin .eql (.t 14) (.k (.string ⟨#[]⟩))) [0])]
def strings_genSplit_i6 : List Op1 := [(oM 16 (.t 0) []), (oM 17 (.t 3) []), (oC 18 39 [(.t 16), (.t 17)] [0, 1]), (oM 8 (.t 18) [2, 2, 0, 1, 2])]
def strings_genSplit_i7 : IR := .ret
def strings_genSplit_i8 : IR := (.cond (.t 15) (.seq (.reg false strings_genSplit_i6) strings_genSplit_i7) .skip)
def strings_genSplit_i9 : List Op1 := [(oM 19 (.t 3) []), (oE 20 (.bin .lss (.t 19) (.k (.int .i64 0))) [0])]
def strings_genSplit_i10 : List Op1 := [(oM 21 (.t 0) []), (oM 22 (.t 1) []), (oC 23 40 [(.t 21), (.t 22)] [0, 1]), (oE 24 (.bin .add (.t 23) (.k (.int .i64 1))) [2]), (oM 3 (.t 24) [3, 2, 0, 1, 2, 3])]
def strings_genSplit_i11 : IR := (.cond (.t 20) (.reg false strings_genSplit_i10) .skip)
def strings_genSplit_i12 : List Op1 := [(oM 25 (.t 3) []), (oM 26 (.t 0) []), (oE 27 (.lens (.t 26)) [1]), (oE 28 (.bin .add (.t 27) (.k (.int .i64 1))) [2]), (oE 29 (.mnx false (.t 25) (.t 28)) [0, 3]), (oM 3 (.t 29) [4, 0, 1, 2, 3, 4])]
def strings_genSplit_i13 : List Op1 := [(oM 30 (.t 3) []), (oE 31 (.mks [(.string ⟨#[]⟩)] 16 (.t 30) (.t 30)) [0, 0]), (oM 9 (.t 31) [1, 0, 1])]
def strings_genSplit_i14 : List Op1 := [(oM 32 (.t 3) []), (oE 33 (.bin .sub (.t 32) (.k (.int .i64 1))) [0]), (oM 3 (.t 33) [1, 0, 1])]
def strings_genSplit_i15 : List Op1 := [(oM 10 (.k (.int .i64 0)) [])]
def strings_genSplit_i16 : List Op1 := [(oM 34 (.t 10) []), (oM 35 (.t 3) []), (oE 36 (.bin .lss (.t 34) (.t 35)) [0, 1])]
def strings_genSplit_i17 : IR := (.cond (.t 36) .skip (.exit 0))
def strings_genSplit_i18 : List Op1 := [(oM 37 (.t 0) []), (oM 38 (.t 1) []), (oC 39 41 [(.t 37), (.t 38)] [0, 1]), (oM 11 (.t 39) [2, 2, 0, 1, 2])]
def strings_genSplit_i19 : List Op1 := [(oM 40 (.t 11) []), (oE 41 (.bin .lss (.t 40) (.k (.int .i64 0))) [0])]
def strings_genSplit_i20 : IR := (.cond (.t 41) (.exit 0) .skip)
def strings_genSplit_i21 : List Op1 := [(oM 42 (.t 9) []), (oM 43 (.t 10) []), (oM 44 (.t 0) []), (oM 45 (.t 11) []), (oM 46 (.t 2) []), (oE 47 (.bin .add (.t 45) (.t 46)) [3, 4]), (oE 48 (.sstr (.t 44) none (some (.t 47))) [2, 5]), (oE 49 (.ias 1 (.t 42) (.t 43)) [0, 1, 0, 1, 2, 3, 4, 5, 6]), (oN (.store 1 (.t 49) (.t 48)) [7, 6, 0, 1, 2, 3, 4, 5, 6])]
def strings_genSplit_i22 : List Op1 := [(oM 50 (.t 0) []), (oM 51 (.t 11) []), (oM 52 (.t 1) []), (oE 53 (.lens (.t 52)) [2]), (oE 54 (.bin .add (.t 51) (.t 53)) [1, 3]), (oE 55 (.sstr (.t 50) (some (.t 54)) none) [0, 4]), (oM 0 (.t 55) [5, 0, 1, 2, 3, 4, 5])]
def strings_genSplit_i23 : List Op1 := [(oM 56 (.t 10) []), (oE 57 (.bin .add (.t 56) (.k (.int .i64 1))) [0]), (oM 10 (.t 57) [1, 0, 1])]
def strings_genSplit_i24 : IR := (.reg false strings_genSplit_i23)
def strings_genSplit_i25 : IR := (.seq (.reg false strings_genSplit_i22) strings_genSplit_i24)
def strings_genSplit_i26 : IR := (.seq (.reg false strings_genSplit_i21) strings_genSplit_i25)
def strings_genSplit_i27 : IR := (.seq (.seq (.reg false strings_genSplit_i19) strings_genSplit_i20) strings_genSplit_i26)
def strings_genSplit_i28 : IR := (.block 1 (.seq (.reg false strings_genSplit_i18) strings_genSplit_i27))
def strings_genSplit_i29 : IR := (.seq (.seq (.reg false strings_genSplit_i16) strings_genSplit_i17) strings_genSplit_i28)
def strings_genSplit_i30 : List Op1 := [(oM 58 (.t 9) []), (oM 59 (.t 10) []), (oM 60 (.t 0) []), (oE 61 (.ias 1 (.t 58) (.t 59)) [0, 1, 0, 1, 2]), (oN (.store 1 (.t 61) (.t 60)) [3, 2, 0, 1, 2])]
def strings_genSplit_i31 : List Op1 := [(oM 62 (.t 9) []), (oM 63 (.t 10) []), (oE 64 (.bin .add (.t 63) (.k (.int .i64 1))) [1]), (oE 65 (.slice 1 (.t 62) none (some (.t 64))) [0, 2]), (oM 8 (.t 65) [3, 0, 1, 2, 3])]
def strings_genSplit_i32 : IR := .ret
def strings_genSplit_i33 : IR := (.seq (.reg false strings_genSplit_i31) strings_genSplit_i32)
def strings_genSplit_i34 : IR := (.seq (.reg false strings_genSplit_i30) strings_genSplit_i33)
def strings_genSplit_i35 : IR := (.seq (.block 0 (.loop strings_genSplit_i29)) strings_genSplit_i34)
def strings_genSplit_i36 : IR := (.seq (.reg false strings_genSplit_i15) strings_genSplit_i35)
def strings_genSplit_i37 : IR := (.seq (.reg false strings_genSplit_i14) strings_genSplit_i36)
def strings_genSplit_i38 : IR := (.seq (.reg false strings_genSplit_i13) strings_genSplit_i37)
def strings_genSplit_i39 : IR := (.seq (.reg false strings_genSplit_i12) strings_genSplit_i38)
def strings_genSplit_i40 : IR := (.seq (.seq (.reg false strings_genSplit_i9) strings_genSplit_i11) strings_genSplit_i39)
def strings_genSplit_i41 : IR := (.seq (.seq (.reg false strings_genSplit_i5) strings_genSplit_i8) strings_genSplit_i40)
def strings_genSplit_i42 : IR := (.seq (.seq (.reg false strings_genSplit_i1) strings_genSplit_i4) strings_genSplit_i41)
def strings_genSplit_ir : IR := (.seq (.reg false strings_genSplit_i0) strings_genSplit_i42)
theorem strings_genSplit_cfn : cFn Tryd.prog 34 = some (strings_genSplit_ir, [(.t 8)], 66) := by kernel_rfl
def strings_genSplit_V (r : ((List ByteArray))) : V := .sl false r.length (cat nS r)
def strings_genSplit_C (r : ((List ByteArray))) : X → Fr → Hp → Prop := FinL [(.t 8)] [] (strings_genSplit_V r) []
theorem strings_genSplit_ok (s_ : ByteArray) (sep_ : ByteArray) (sepSave_ : Int) (n_ : Int) (r : ((List ByteArray))) (h : strings_genSplit s_ sep_ sepSave_ n_ = some r) : Pure Tryd.prog 34 [.s (.string s_), .s (.string sep_), .s (.int .i64 sepSave_), .s (.int .i64 n_)] (strings_genSplit_V r) := by
  refine ConL.of strings_genSplit_cfn (Nat.le_of_ble_eq_true (by kernel_rfl)) (Nat.le_of_ble_eq_true (by kernel_rfl)) ?_
  refine k_start ?_
  show dwv Tryd.prog [] strings_genSplit_ir (kont Tryd.prog [] (strings_genSplit_C r) []) (fr0 [.s (.string s_), .s (.string sep_), .s (.int .i64 sepSave_), .s (.int .i64 n_)]) []
  have hf : FOk (fr0 [.s (.string s_), .s (.string sep_), .s (.int .i64 sepSave_), .s (.int .i64 n_)]) [⟨0, [], .s (.string s_)⟩, ⟨1, [], .s (.string sep_)⟩, ⟨2, [], .s (.int .i64 sepSave_)⟩, ⟨3, [], .s (.int .i64 n_)⟩] := ⟨⟨fun _ => rfl, fun h => (h trivial).elim⟩, ⟨fun _ => rfl, fun h => (h trivial).elim⟩, ⟨fun _ => rfl, fun h => (h trivial).elim⟩, ⟨fun _ => rfl, fun h => (h trivial).elim⟩, trivial⟩
  generalize fr0 [.s (.string s_), .s (.string sep_), .s (.int .i64 sepSave_), .s (.int .i64 n_)] = f at hf ⊢
  unfold strings_genSplit at h
  refine k_seq ?_
  refine k_reg ?_
  refine mops_en hf (by kernel_rfl) fun f1 hf1 => ?_
  refine k_c ?_
  refine k_seq ?_
  refine k_seq ?_
  refine k_reg ?_
  refine mops_en hf1 (by kernel_rfl) fun f2 hf2 => ?_
  refine k_c ?_
  refine k_cond hf2 (t := (n_ == 0)) (by kernel_rfl) (fun hc1 => ?_) (fun hc1 => ?_)
  · have h := if_t h hc1
    refine k_seq ?_
    refine k_reg ?_
    refine mops_en hf2 (by kernel_rfl) fun f3 hf3 => ?_
    refine k_c ?_
    refine k_ret ?_
    refine x_c nofun ?_
    obtain rfl := Option.some.inj h
    exact k_fin (fin_ret (.inl rfl) hf3 (vs := [.ref 1 0 0 0]) (by kernel_rfl) (SettL.pure (FzL.whole (g := nS) (kd := .grow) (l := ([] : List ByteArray)) (by kernel_rfl) rfl (live_grow (by kernel_rfl)))))
  · have h := if_f h hc1
    refine k_skip ?_
    refine k_c ?_
    refine k_seq ?_
    refine k_seq ?_
    refine k_reg ?_
    refine mops_en hf2 (by kernel_rfl) fun f3 hf3 => ?_
    refine k_c ?_
    refine k_cond hf3 (t := (sep_.toList == (⟨#[]⟩ : ByteArray).toList)) (by kernel_rfl) (fun hc2 => ?_) (fun hc2 => ?_)
    · have h := if_t h hc2
      cases h
    · have h := if_f h hc2
      refine k_skip ?_
      refine k_c ?_
      refine k_seq ?_
      refine k_seq ?_
      refine k_reg ?_
      refine mops_en hf3 (by kernel_rfl) fun f4 hf4 => ?_
      refine k_c ?_
      have hj1 : ∀ (t_ : Int), strings_genSplit_j0 s_ sep_ sepSave_ t_ = some r → ∀ f, FOk f [⟨0, [], .s (.string s_)⟩, ⟨1, [], .s (.string sep_)⟩, ⟨2, [], .s (.int .i64 sepSave_)⟩, ⟨3, [], .s (.int .i64 t_)⟩, ⟨8, [], .ref 0 0 0 0⟩] → kont Tryd.prog [] (strings_genSplit_C r) ((.c strings_genSplit_i39) :: []) .normal f [⟨0, .grow, 1, cat nS ([] : List ByteArray)⟩] := by
        intro t_ h f hf
        unfold strings_genSplit_j0 at h
        refine k_c ?_
        refine k_seq ?_
        refine k_reg ?_
        refine mops_en hf (by kernel_rfl) fun f1 hf1 => ?_
        refine k_c ?_
        refine k_seq ?_
        refine k_reg ?_
        refine mops_sg 1 hf1 (by kernel_rfl) fun f2 hf2 => ?_
        obtain ⟨c4, h⟩ := as_ok h
        refine mops_adv rfl (v := .ref 1 0 0 (rp (if (IntKind.wrap .i64 ((sln s_) + 1)) < t_ then (IntKind.wrap .i64 ((sln s_) + 1)) else t_) ((⟨#[]⟩ : ByteArray) : ByteArray)).length) hf2 (by kernel_rfl) (e_mks (g := nS) (a := (⟨#[]⟩ : ByteArray)) (k := .i64) (k' := .i64) (iv := (if (IntKind.wrap .i64 ((sln s_) + 1)) < t_ then (IntKind.wrap .i64 ((sln s_) + 1)) else t_)) (jv := (if (IntKind.wrap .i64 ((sln s_) + 1)) < t_ then (IntKind.wrap .i64 ((sln s_) + 1)) else t_)) (by kernel_rfl) (by kernel_rfl) (by kernel_rfl) c4 (by kernel_rfl)) fun f3 hf3 => ?_
        refine mops_en hf3 (by kernel_rfl) fun f4 hf4 => ?_
        refine k_c ?_
        refine k_seq ?_
        refine k_reg ?_
        refine mops_en hf4 (by kernel_rfl) fun f5 hf5 => ?_
        refine k_c ?_
        refine k_seq ?_
        refine k_reg ?_
        refine mops_en hf5 (by kernel_rfl) fun f6 hf6 => ?_
        refine k_c ?_
        refine k_seq ?_
        refine k_block ?_
        obtain ⟨o0, hx0, h⟩ := Option.bind_eq_some_iff.1 h
        have hgo0 : ∀ (l_2 : (List ByteArray)) (t_3 : ByteArray) (i_2 : Int) (m_2 : Nat) (hn_2 : l_2.length = m_2), (l_2, t_3, i_2) = o0 → ∀ f, FOk f [⟨0, [], .s (.string t_3)⟩, ⟨8, [], .ref 0 0 0 0⟩, ⟨9, [], .ref 1 0 0 m_2⟩, ⟨10, [], .s (.int .i64 i_2)⟩] → kont Tryd.prog [] (strings_genSplit_C r) ((.c strings_genSplit_i34) :: []) .normal f [⟨0, .grow, 1, cat nS ([] : List ByteArray)⟩, ⟨0, .grow, 1, cat nS l_2⟩] := by
          intro l_2 t_3 i_2 m_2 hn_2 e f hf
          subst e
          refine k_c ?_
          refine k_seq ?_
          refine k_reg ?_
          refine mops_sg 3 hf (by kernel_rfl) fun f1 hf1 => ?_
          obtain ⟨c10, h⟩ := as_ok h
          refine mops_adv rfl (v := .ptr 1 0 (0 + (i_2 : Int).toNat * 1)) hf1 (by kernel_rfl) (e_ias_ref (l := l_2) (B := ⟨0, .grow, 1, cat nS l_2⟩) (b := 1) (ver := 0) (n := m_2) (k := .i64) (iv := i_2) (by kernel_rfl) (by kernel_rfl) hn_2 (live_grow (by kernel_rfl)) c10) fun f2 hf2 => ?_
          refine mops_adv rfl (v := .s undef) hf2 (by kernel_rfl) (e_store_pe (g := nS) (l := l_2) (iv := i_2) (kd := .grow) (q := 1) (b := 1) (ver := 0) (ys := [.s (.string t_3)]) (a := t_3) [] (by kernel_rfl) (live_grow (by kernel_rfl)) (by kernel_rfl) (by kernel_rfl) (by kernel_rfl) c10 (by kernel_rfl) (by kernel_rfl)) fun f3 hf3 => ?_
          refine mops_en hf3 (by kernel_rfl) fun f4 hf4 => ?_
          refine k_c ?_
          refine k_seq ?_
          refine k_reg ?_
          refine mops_sg 3 hf4 (by kernel_rfl) fun f5 hf5 => ?_
          obtain ⟨c11, h⟩ := as_ok h
          refine mops_adv rfl (v := .ref 1 0 (0 + 0 * 1) (((IntKind.wrap .i64 (i_2 + 1)) : Int).toNat - 0)) hf5 (by kernel_rfl) (e_slice_ref (B := ⟨0, .grow, 1, cat nS (st l_2 i_2 t_3)⟩) (n := m_2) (o := 0) (by kernel_rfl) (live_grow (by kernel_rfl)) rfl (b_ns (k := .i64) (iv := (IntKind.wrap .i64 (i_2 + 1))) (by kernel_rfl) (ln_ns (st_len.trans hn_2) c11))) fun f6 hf6 => ?_
          refine mops_en hf6 (by kernel_rfl) fun f7 hf7 => ?_
          refine k_c ?_
          refine k_ret ?_
          obtain rfl := Option.some.inj h
          exact k_fin (fin_ret (.inl rfl) hf7 (vs := [.ref 1 0 (0 + 0 * 1) (((IntKind.wrap .i64 (i_2 + 1)) : Int).toNat - 0)]) (by kernel_rfl) (SettL.pure (FzL.partr (g := nS) (kd := .grow) (l := (st l_2 i_2 t_3)) (n := m_2) (a := 0) (b := ((IntKind.wrap .i64 (i_2 + 1)) : Int).toNat) (by kernel_rfl) (cut_ns (n := m_2) (ln_ns (st_len.trans hn_2) c11)) (st_len.trans hn_2) (live_grow (by kernel_rfl)))))
        refine k_loop BIG ?_
        refine loop_ind (fun n f L => ∃ (l_1 : (List ByteArray)) (t_2 : ByteArray) (i_1 : Int) (m_1 : Nat) (hn_1 : l_1.length = m_1), strings_genSplit_l0 s_ sep_ sepSave_ t_ n l_1 t_2 i_1 = some o0 ∧ FOk f [⟨0, [], .s (.string t_2)⟩, ⟨1, [], .s (.string sep_)⟩, ⟨2, [], .s (.int .i64 sepSave_)⟩, ⟨3, [], .s (.int .i64 (IntKind.wrap .i64 ((if (IntKind.wrap .i64 ((sln s_) + 1)) < t_ then (IntKind.wrap .i64 ((sln s_) + 1)) else t_) - 1)))⟩, ⟨8, [], .ref 0 0 0 0⟩, ⟨9, [], .ref 1 0 0 m_1⟩, ⟨10, [], .s (.int .i64 i_1)⟩] ∧ L = [⟨0, .grow, 1, cat nS ([] : List ByteArray)⟩, ⟨0, .grow, 1, cat nS l_1⟩]) ?_ ?_ BIG _ _ ⟨(rp (if (IntKind.wrap .i64 ((sln s_) + 1)) < t_ then (IntKind.wrap .i64 ((sln s_) + 1)) else t_) ((⟨#[]⟩ : ByteArray) : ByteArray)), s_, (0), ((rp (if (IntKind.wrap .i64 ((sln s_) + 1)) < t_ then (IntKind.wrap .i64 ((sln s_) + 1)) else t_) ((⟨#[]⟩ : ByteArray) : ByteArray)).length), rfl, hx0, FOk_of [0, 1, 2, 3, 8, 9, 10] hf6 (by kernel_rfl), (by kernel_rfl)⟩
        · rintro f L ⟨l_1, t_2, i_1, m_1, hn_1, h, _⟩
          cases (show (none : Option _) = some _ from h)
        · rintro n0 R0 ih f L ⟨l_1, t_2, i_1, m_1, hn_1, h, hf, rfl⟩
          rw [strings_genSplit_l0] at h
          refine k_seq ?_
          refine k_seq ?_
          refine k_reg ?_
          refine mops_en hf (by kernel_rfl) fun f1 hf1 => ?_
          refine k_c ?_
          refine k_cond hf1 (t := (decide (i_1 < (IntKind.wrap .i64 ((if (IntKind.wrap .i64 ((sln s_) + 1)) < t_ then (IntKind.wrap .i64 ((sln s_) + 1)) else t_) - 1))))) (by kernel_rfl) (fun hc5 => ?_) (fun hc5 => ?_)
          · have h := if_t h hc5
            refine k_skip ?_
            refine k_c ?_
            refine k_block ?_
            refine k_seq ?_
            refine k_reg ?_
            refine mops_sg 2 hf1 (by kernel_rfl) fun f2 hf2 => ?_
            obtain ⟨r_3, hx_r_3, h⟩ := Option.bind_eq_some_iff.1 h
            refine mops_call rfl hf2 (av := [.s (.string t_2), .s (.string sep_)]) (by kernel_rfl) (v := .s (.int .i64 r_3)) (CalL.pure (strings_Index_ok t_2 sep_ r_3 hx_r_3) rfl rfl (Nat.le_of_ble_eq_true (by kernel_rfl))) (fun _ => rfl) fun f3 hf3 => ?_
            refine mops_en hf3 (by kernel_rfl) fun f4 hf4 => ?_
            refine k_c ?_
            refine k_seq ?_
            refine k_seq ?_
            refine k_reg ?_
            refine mops_en hf4 (by kernel_rfl) fun f5 hf5 => ?_
            refine k_c ?_
            refine k_cond hf5 (t := (decide (r_3 < 0))) (by kernel_rfl) (fun hc6 => ?_) (fun hc6 => ?_)
            · have h := if_t h hc6
              refine k_exit ?_
              refine x_c nofun ?_
              refine x_b' (by kernel_rfl) ?_
              refine x_l nofun ?_
              refine x_b ?_
              refine k_hp (L' := [⟨0, .grow, 1, cat nS ([] : List ByteArray)⟩, ⟨0, .grow, 1, cat nS l_1⟩]) (by kernel_rfl) ?_
              exact hgo0 l_1 t_2 i_1 m_1 hn_1 (Option.some.inj h) _ (FOk_of [0, 8, 9, 10] hf5 (by kernel_rfl))
            · have h := if_f h hc6
              refine k_skip ?_
              refine k_c ?_
              refine k_seq ?_
              refine k_reg ?_
              refine mops_sg 6 hf5 (by kernel_rfl) fun f6 hf6 => ?_
              obtain ⟨c7, h⟩ := as_ok h
              refine mops_adv rfl (v := .s (.string (t_2.extract 0 ((IntKind.wrap .i64 (r_3 + sepSave_)) : Int).toNat))) hf6 (by kernel_rfl) (e_sstr (t := t_2) (by kernel_rfl) (b_ns (k := .i64) (iv := (IntKind.wrap .i64 (r_3 + sepSave_))) (by kernel_rfl) c7)) fun f7 hf7 => ?_
              obtain ⟨c8, h⟩ := as_ok h
              refine mops_adv rfl (v := .ptr 1 0 (0 + (i_1 : Int).toNat * 1)) hf7 (by kernel_rfl) (e_ias_ref (l := l_1) (B := ⟨0, .grow, 1, cat nS l_1⟩) (b := 1) (ver := 0) (n := m_1) (k := .i64) (iv := i_1) (by kernel_rfl) (by kernel_rfl) hn_1 (live_grow (by kernel_rfl)) c8) fun f8 hf8 => ?_
              refine mops_adv rfl (v := .s undef) hf8 (by kernel_rfl) (e_store_pe (g := nS) (l := l_1) (iv := i_1) (kd := .grow) (q := 1) (b := 1) (ver := 0) (ys := [.s (.string (t_2.extract 0 ((IntKind.wrap .i64 (r_3 + sepSave_)) : Int).toNat))]) (a := (t_2.extract 0 ((IntKind.wrap .i64 (r_3 + sepSave_)) : Int).toNat)) [] (by kernel_rfl) (live_grow (by kernel_rfl)) (by kernel_rfl) (by kernel_rfl) (by kernel_rfl) c8 (by kernel_rfl) (by kernel_rfl)) fun f9 hf9 => ?_
              refine mops_en hf9 (by kernel_rfl) fun f10 hf10 => ?_
              refine k_c ?_
              refine k_seq ?_
              refine k_reg ?_
              refine mops_sg 5 hf10 (by kernel_rfl) fun f11 hf11 => ?_
              obtain ⟨c9, h⟩ := as_ok h
              refine mops_adv rfl (v := .s (.string (t_2.extract ((IntKind.wrap .i64 (r_3 + (sln sep_))) : Int).toNat t_2.size))) hf11 (by kernel_rfl) (e_sstr (t := t_2) (by kernel_rfl) (b_sn (k := .i64) (iv := (IntKind.wrap .i64 (r_3 + (sln sep_)))) (by kernel_rfl) c9)) fun f12 hf12 => ?_
              refine mops_en hf12 (by kernel_rfl) fun f13 hf13 => ?_
              refine k_c ?_
              refine k_reg ?_
              refine mops_en hf13 (by kernel_rfl) fun f14 hf14 => ?_
              refine k_b ?_
              refine k_l ?_
              exact ih _ _ ⟨(st l_1 i_1 (t_2.extract 0 ((IntKind.wrap .i64 (r_3 + sepSave_)) : Int).toNat)), (t_2.extract ((IntKind.wrap .i64 (r_3 + (sln sep_))) : Int).toNat t_2.size), (IntKind.wrap .i64 (i_1 + 1)), m_1, (st_len.trans hn_1), h, FOk_of [0, 1, 2, 3, 8, 9, 10] hf14 (by kernel_rfl), (by kernel_rfl)⟩
          · have h := if_f h hc5
            refine k_exit ?_
            refine x_c nofun ?_
            refine x_l nofun ?_
            refine x_b ?_
            refine k_hp (L' := [⟨0, .grow, 1, cat nS ([] : List ByteArray)⟩, ⟨0, .grow, 1, cat nS l_1⟩]) (by kernel_rfl) ?_
            exact hgo0 l_1 t_2 i_1 m_1 hn_1 (Option.some.inj h) _ (FOk_of [0, 8, 9, 10] hf1 (by kernel_rfl))
      refine k_cond hf4 (t := (decide (n_ < 0))) (by kernel_rfl) (fun hc3 => ?_) (fun hc3 => ?_)
      · have h := if_t h hc3
        refine k_reg ?_
        refine mops_sg 2 hf4 (by kernel_rfl) fun f5 hf5 => ?_
        obtain ⟨r_, hx_r_, h⟩ := Option.bind_eq_some_iff.1 h
        refine mops_call rfl hf5 (av := [.s (.string s_), .s (.string sep_)]) (by kernel_rfl) (v := .s (.int .i64 r_)) (CalL.pure (strings_Count_ok s_ sep_ r_ hx_r_) rfl rfl (Nat.le_of_ble_eq_true (by kernel_rfl))) (fun _ => rfl) fun f6 hf6 => ?_
        refine mops_en hf6 (by kernel_rfl) fun f7 hf7 => ?_
        refine k_hp (L' := [⟨0, .grow, 1, cat nS ([] : List ByteArray)⟩]) (by kernel_rfl) ?_
        exact hj1 (IntKind.wrap .i64 (r_ + 1)) h _ (FOk_of [0, 1, 2, 3, 8] hf7 (by kernel_rfl))
      · have h := if_f h hc3
        refine k_skip ?_
        refine k_hp (L' := [⟨0, .grow, 1, cat nS ([] : List ByteArray)⟩]) (by kernel_rfl) ?_
        exact hj1 n_ h _ (FOk_of [0, 1, 2, 3, 8] hf4 (by kernel_rfl))
def lists_bits_i0 : List Op1 := [(oM 4 (.k (.int .u8 0)) [])]
def lists_bits_i1 : List Op1 := [(oM 7 (.t 0) []), (oE 8 (.bin .eql (.t 7) (.k (.string ⟨#[68]⟩))) [0])]
def lists_bits_i2 : List Op1 := [(oM 4 (.k (.int .u8 6)) [])]
def lists_bits_i3 : IR := .ret
def lists_bits_i4 : IR := (.cond (.t 8) (.seq (.reg false lists_bits_i2) lists_bits_i3) .skip)
def lists_bits_i5 : List Op1 := [(oM 9 (.t 1) []), (oC 10 23 [(.t 9)] [0]), (oM 11 (.k (.int .i64 0)) [])]
def lists_bits_i6 : List Op1 := [(oE 12 (.bin .lss (.t 11) (.k (.int .i64 8))) [])]
def lists_bits_i7 : List Op1 := [(oM 13 (.t 11) []), (oE 14 (.ixa false 8 1 (.t 10) (.t 11)) []), (oM 5 (.t 13) [0, 0, 1]), (oM 6 (.t 14) [1, 2, 0, 1, 2])]
def lists_bits_i8 : List Op1 := [(oM 15 (.t 6) []), (oC 16 32 [(.t 15)] [0]), (oM 17 (.t 0) []), (oE 18 (.bin .eql (.t 16) (.t 17)) [1, 2])]
def lists_bits_i9 : List Op1 := [(oM 19 (.t 5) []), (oE 20 (.bin .shl (.k (.int .u8 1)) (.t 19)) [0]), (oM 4 (.t 20) [1, 0, 1])]
def lists_bits_i10 : IR := .ret
def lists_bits_i11 : IR := (.cond (.t 18) (.seq (.reg false lists_bits_i9) lists_bits_i10) .skip)
def lists_bits_i12 : IR := (.seq (.reg false lists_bits_i8) lists_bits_i11)
def lists_bits_i13 : List Op1 := [(oE 21 (.bin .add (.t 11) (.k (.int .i64 1))) []), (oM 11 (.t 21) [0])]
def lists_bits_i14 : IR := (.reg false lists_bits_i13)
def lists_bits_i15 : IR := (.seq (.block 1 (.seq (.reg false lists_bits_i7) lists_bits_i12)) lists_bits_i14)
def lists_bits_i16 : IR := (.seq (.cond (.t 12) .skip (.exit 0)) lists_bits_i15)
def lists_bits_i17 : IR := (.seq (.reg false lists_bits_i6) lists_bits_i16)
def lists_bits_i18 : IR := (.block 0 (.loop lists_bits_i17))
def lists_bits_i19 : List Op1 := [(oM 4 (.k (.int .u8 0)) [])]
def lists_bits_i20 : IR := .ret
def lists_bits_i21 : IR := (.seq (.reg false lists_bits_i19) lists_bits_i20)
def lists_bits_i22 : IR := (.seq (.seq (.reg false lists_bits_i5) lists_bits_i18) lists_bits_i21)
def lists_bits_i23 : IR := (.seq (.seq (.reg false lists_bits_i1) lists_bits_i4) lists_bits_i22)
def lists_bits_ir : IR := (.seq (.reg false lists_bits_i0) lists_bits_i23)
theorem lists_bits_cfn : cFn Tryd.prog 22 = some (lists_bits_ir, [(.t 4)], 22) := by kernel_rfl
def lists_bits_V (r : (Int)) : V := .s (.int .u8 r)
def lists_bits_C (r : (Int)) : X → Fr → Hp → Prop := FinL [(.t 4)] [] (lists_bits_V r) []
theorem lists_bits_ok (s_ : ByteArray) (stack_ : Int) (r : (Int)) (h : lists_bits s_ stack_ = some r) : Pure Tryd.prog 22 [.s (.string s_), .s (.int .i64 stack_)] (lists_bits_V r) := by
  refine ConL.of lists_bits_cfn (Nat.le_of_ble_eq_true (by kernel_rfl)) (Nat.le_of_ble_eq_true (by kernel_rfl)) ?_
  refine k_start ?_
  show dwv Tryd.prog [] lists_bits_ir (kont Tryd.prog [] (lists_bits_C r) []) (fr0 [.s (.string s_), .s (.int .i64 stack_)]) []
  have hf : FOk (fr0 [.s (.string s_), .s (.int .i64 stack_)]) [⟨0, [], .s (.string s_)⟩, ⟨1, [], .s (.int .i64 stack_)⟩] := ⟨⟨fun _ => rfl, fun h => (h trivial).elim⟩, ⟨fun _ => rfl, fun h => (h trivial).elim⟩, trivial⟩
  generalize fr0 [.s (.string s_), .s (.int .i64 stack_)] = f at hf ⊢
  unfold lists_bits at h
  refine k_seq ?_
  refine k_reg ?_
  refine mops_en hf (by kernel_rfl) fun f1 hf1 => ?_
  refine k_c ?_
  refine k_seq ?_
  refine k_seq ?_
  refine k_reg ?_
  refine mops_en hf1 (by kernel_rfl) fun f2 hf2 => ?_
  refine k_c ?_
  refine k_cond hf2 (t := (s_.toList == (⟨#[68]⟩ : ByteArray).toList)) (by kernel_rfl) (fun hc1 => ?_) (fun hc1 => ?_)
  · have h := if_t h hc1
    refine k_seq ?_
    refine k_reg ?_
    refine mops_en hf2 (by kernel_rfl) fun f3 hf3 => ?_
    refine k_c ?_
    refine k_ret ?_
    refine x_c nofun ?_
    obtain rfl := Option.some.inj h
    exact k_fin (fin_ret (.inl rfl) hf3 (vs := [.s (.int .u8 6)]) (by kernel_rfl) (SettL.pure (FzL.stat rfl)))
  · have h := if_f h hc1
    refine k_skip ?_
    refine k_c ?_
    refine k_seq ?_
    refine k_seq ?_
    refine k_reg ?_
    refine mops_sg 1 hf2 (by kernel_rfl) fun f3 hf3 => ?_
    obtain ⟨r_, hx_r_, h⟩ := Option.bind_eq_some_iff.1 h
    refine mops_call rfl hf3 (av := [.s (.int .i64 stack_)]) (by kernel_rfl) (v := .agg [.s (.int .i64 r_.a0), .s (.int .i64 r_.a1), .s (.int .i64 r_.a2), .s (.int .i64 r_.a3), .s (.int .i64 r_.a4), .s (.int .i64 r_.a5), .s (.int .i64 r_.a6), .s (.int .i64 r_.a7)]) (CalL.pure (lists_regs_ok stack_ r_ hx_r_) rfl rfl (Nat.le_of_ble_eq_true (by kernel_rfl))) (fun _ => rfl) fun f4 hf4 => ?_
    refine mops_en hf4 (by kernel_rfl) fun f5 hf5 => ?_
    refine k_c ?_
    refine k_block ?_
    obtain ⟨o0, hx0, h⟩ := Option.bind_eq_some_iff.1 h
    have hret0 : ∀ r0, .ret r0 = o0 → r0 = r := fun r0 e => by subst e; exact Option.some.inj h
    have hgo0 : .go () = o0 → ∀ f, FOk f [⟨4, [], .s (.int .u8 0)⟩] → kont Tryd.prog [] (lists_bits_C r) ((.c lists_bits_i21) :: []) .normal f [] := by
      intro  e f hf
      subst e
      refine k_c ?_
      refine k_seq ?_
      refine k_reg ?_
      refine mops_en hf (by kernel_rfl) fun f1 hf1 => ?_
      refine k_c ?_
      refine k_ret ?_
      obtain rfl := Option.some.inj h
      exact k_fin (fin_ret (.inl rfl) hf1 (vs := [.s (.int .u8 0)]) (by kernel_rfl) (SettL.pure (FzL.stat rfl)))
    refine k_loop BIG ?_
    refine loop_ind (fun n f L => ∃ (t_1 : Int), lists_bits_l0 s_ r_ n t_1 = some o0 ∧ FOk f [⟨0, [], .s (.string s_)⟩, ⟨4, [], .s (.int .u8 0)⟩, ⟨10, [], .agg [.s (.int .i64 r_.a0), .s (.int .i64 r_.a1), .s (.int .i64 r_.a2), .s (.int .i64 r_.a3), .s (.int .i64 r_.a4), .s (.int .i64 r_.a5), .s (.int .i64 r_.a6), .s (.int .i64 r_.a7)]⟩, ⟨11, [], .s (.int .i64 t_1)⟩] ∧ L = []) ?_ ?_ BIG _ _ ⟨(0), hx0, FOk_of [0, 4, 10, 11] hf5 (by kernel_rfl), (by kernel_rfl)⟩
    · rintro f L ⟨t_1, h, _⟩
      cases (show (none : Option _) = some _ from h)
    · rintro n0 R0 ih f L ⟨t_1, h, hf, rfl⟩
      rw [lists_bits_l0] at h
      refine k_seq ?_
      refine k_reg ?_
      refine mops_en hf (by kernel_rfl) fun f1 hf1 => ?_
      refine k_c ?_
      refine k_seq ?_
      refine k_cond hf1 (t := (decide (t_1 < 8))) (by kernel_rfl) (fun hc2 => ?_) (fun hc2 => ?_)
      · have h := if_t h hc2
        refine k_skip ?_
        refine k_c ?_
        refine k_seq ?_
        refine k_block ?_
        refine k_seq ?_
        refine k_reg ?_
        refine mops_sg 1 hf1 (by kernel_rfl) fun f2 hf2 => ?_
        obtain ⟨c3, h⟩ := as_ok h
        refine mops_adv rfl (v := .s (.int .i64 (gt [r_.a0, r_.a1, r_.a2, r_.a3, r_.a4, r_.a5, r_.a6, r_.a7] t_1))) hf2 (by kernel_rfl) (e_ixa (g := (nI .i64)) (l := [r_.a0, r_.a1, r_.a2, r_.a3, r_.a4, r_.a5, r_.a6, r_.a7]) (n := 8) (k := .i64) (iv := t_1) (by kernel_rfl) (by kernel_rfl) c3 (by kernel_rfl) (by kernel_rfl)) fun f3 hf3 => ?_
        refine mops_en hf3 (by kernel_rfl) fun f4 hf4 => ?_
        refine k_c ?_
        refine k_seq ?_
        refine k_reg ?_
        refine mops_sg 1 hf4 (by kernel_rfl) fun f5 hf5 => ?_
        obtain ⟨r_3, hx_r_3, h⟩ := Option.bind_eq_some_iff.1 h
        refine mops_call rfl hf5 (av := [.s (.int .i64 (gt [r_.a0, r_.a1, r_.a2, r_.a3, r_.a4, r_.a5, r_.a6, r_.a7] t_1))]) (by kernel_rfl) (v := .s (.string r_3)) (CalL.pure (ops_Reg_ok (gt [r_.a0, r_.a1, r_.a2, r_.a3, r_.a4, r_.a5, r_.a6, r_.a7] t_1) r_3 hx_r_3) rfl rfl (Nat.le_of_ble_eq_true (by kernel_rfl))) (fun _ => rfl) fun f6 hf6 => ?_
        refine mops_en hf6 (by kernel_rfl) fun f7 hf7 => ?_
        refine k_c ?_
        refine k_cond hf7 (t := (r_3.toList == s_.toList)) (by kernel_rfl) (fun hc4 => ?_) (fun hc4 => ?_)
        · have h := if_t h hc4
          refine k_seq ?_
          refine k_reg ?_
          refine mops_sg 1 hf7 (by kernel_rfl) fun f8 hf8 => ?_
          obtain ⟨c5, h⟩ := as_ok h
          refine mops_adv rfl (v := .s (.int .u8 (IntKind.wrap .u8 (1 * 2 ^ (min (t_1 : Int).toNat (IntKind.bits .u8)))))) hf8 (by kernel_rfl) (e_shl (k := .u8) (k' := .i64) (iv := 1) (jv := t_1) (by kernel_rfl) (by kernel_rfl) c5) fun f9 hf9 => ?_
          refine mops_en hf9 (by kernel_rfl) fun f10 hf10 => ?_
          refine k_c ?_
          refine k_ret ?_
          refine x_br ?_
          refine x_c nofun ?_
          refine x_l nofun ?_
          refine x_br ?_
          refine x_c nofun ?_
          obtain rfl := hret0 _ (Option.some.inj h)
          exact k_fin (fin_ret (.inl rfl) hf10 (vs := [.s (.int .u8 (IntKind.wrap .u8 (1 * 2 ^ (min (t_1 : Int).toNat (IntKind.bits .u8)))))]) (by kernel_rfl) (SettL.pure (FzL.stat rfl)))
        · have h := if_f h hc4
          refine k_skip ?_
          refine k_b ?_
          refine k_c ?_
          refine k_reg ?_
          refine mops_en hf7 (by kernel_rfl) fun f8 hf8 => ?_
          refine k_l ?_
          exact ih _ _ ⟨(IntKind.wrap .i64 (t_1 + 1)), h, FOk_of [0, 4, 10, 11] hf8 (by kernel_rfl), (by kernel_rfl)⟩
      · have h := if_f h hc2
        refine k_exit ?_
        refine x_c nofun ?_
        refine x_l nofun ?_
        refine x_b ?_
        refine k_hp (L' := []) (by kernel_rfl) ?_
        exact hgo0  (Option.some.inj h) _ (FOk_of [4] hf1 (by kernel_rfl))
def lists_Order_i0 : List Op1 := [(oE 4 (.nilg 2) [])]
def lists_Order_i1 : List Op1 := [(oE 5 (.nilg 2) [])]
def lists_Order_i2 : List Op1 := [(oM 8 (.t 1) []), (oC 9 23 [(.t 8)] [0]), (oM 10 (.k (.int .i64 0)) [])]
def lists_Order_i3 : List Op1 := [(oE 11 (.bin .lss (.t 10) (.k (.int .i64 8))) [])]
def lists_Order_i4 : List Op1 := [(oM 12 (.t 10) []), (oE 13 (.ixa false 8 1 (.t 9) (.t 10)) []), (oM 6 (.t 12) [0, 0, 1]), (oM 7 (.t 13) [1, 2, 0, 1, 2])]
def lists_Order_i5 : List Op1 := [(oM 14 (.t 0) []), (oM 15 (.t 6) []), (oE 16 (.bin .shr (.t 14) (.t 15)) [0, 1]), (oE 17 (.bin .and (.t 16) (.k (.int .u8 1))) [2]), (oE 18 (.bin .eql (.t 17) (.k (.int .u8 0))) [3])]
def lists_Order_i6 : IR := (.cond (.t 18) (.exit 1) .skip)
def lists_Order_i7 : List Op1 := [(oM 19 (.t 6) []), (oE 20 (.bin .gtr (.t 19) (.k (.int .i64 3))) [0])]
def lists_Order_i8 : List Op1 := [(oM 21 (.t 5) []), (oM 22 (.t 7) []), (oE 23 (.build [(.int .i64 0), (.bool false)] [(0, (1, (.t 22))), (1, (1, (.k (.bool true))))]) [1]), (oE 24 (.bslo 2 1 [(.int .i64 0), (.bool false)] [(0, (2, (.t 23)))]) [2]), (oE 25 (.app 37 2 16 (.t 21) (.t 24)) [0, 3]), (oM 5 (.t 25) [4, 4, 0, 1, 2, 3, 4])]
def lists_Order_i9 : IR := (.cond (.t 20) (.reg false lists_Order_i8) .skip)
def lists_Order_i10 : List Op1 := [(oM 26 (.t 5) []), (oM 27 (.t 7) []), (oE 28 (.build [(.int .i64 0), (.bool false)] [(0, (1, (.t 27))), (1, (1, (.k (.bool false))))]) [1]), (oE 29 (.bslo 2 1 [(.int .i64 0), (.bool false)] [(0, (2, (.t 28)))]) [2]), (oE 30 (.app 37 2 16 (.t 26) (.t 29)) [0, 3]), (oM 5 (.t 30) [4, 4, 0, 1, 2, 3, 4])]
def lists_Order_i11 : IR := (.reg false lists_Order_i10)
def lists_Order_i12 : IR := (.seq (.seq (.reg false lists_Order_i7) lists_Order_i9) lists_Order_i11)
def lists_Order_i13 : IR := (.seq (.seq (.reg false lists_Order_i5) lists_Order_i6) lists_Order_i12)
def lists_Order_i14 : List Op1 := [(oE 31 (.bin .add (.t 10) (.k (.int .i64 1))) []), (oM 10 (.t 31) [0])]
def lists_Order_i15 : IR := (.reg false lists_Order_i14)
def lists_Order_i16 : IR := (.seq (.block 1 (.seq (.reg false lists_Order_i4) lists_Order_i13)) lists_Order_i15)
def lists_Order_i17 : IR := (.seq (.cond (.t 11) .skip (.exit 0)) lists_Order_i16)
def lists_Order_i18 : IR := (.seq (.reg false lists_Order_i3) lists_Order_i17)
def lists_Order_i19 : IR := (.block 0 (.loop lists_Order_i18))
def lists_Order_i20 : List Op1 := [(oM 32 (.t 5) []), (oM 4 (.t 32) [0, 0])]
def lists_Order_i21 : IR := .ret
def lists_Order_i22 : IR := (.seq (.reg false lists_Order_i20) lists_Order_i21)
def lists_Order_i23 : IR := (.seq (.seq (.reg false lists_Order_i2) lists_Order_i19) lists_Order_i22)
def lists_Order_i24 : IR := (.seq (.reg false lists_Order_i1) lists_Order_i23)
def lists_Order_ir : IR := (.seq (.reg false lists_Order_i0) lists_Order_i24)
theorem lists_Order_cfn : cFn Tryd.prog 12 = some (lists_Order_ir, [(.t 4)], 33) := by kernel_rfl
def lists_Order_V (r : ((List lists_Part))) : V := .sl false r.length (cat lists_Part.v r)
def lists_Order_C (r : ((List lists_Part))) : X → Fr → Hp → Prop := FinL [(.t 4)] [] (lists_Order_V r) []
theorem lists_Order_ok (post_ : Int) (stack_ : Int) (r : ((List lists_Part))) (h : lists_Order post_ stack_ = some r) : Pure Tryd.prog 12 [.s (.int .u8 post_), .s (.int .i64 stack_)] (lists_Order_V r) := by
  refine ConL.of lists_Order_cfn (Nat.le_of_ble_eq_true (by kernel_rfl)) (Nat.le_of_ble_eq_true (by kernel_rfl)) ?_
  refine k_start ?_
  show dwv Tryd.prog [] lists_Order_ir (kont Tryd.prog [] (lists_Order_C r) []) (fr0 [.s (.int .u8 post_), .s (.int .i64 stack_)]) []
  have hf : FOk (fr0 [.s (.int .u8 post_), .s (.int .i64 stack_)]) [⟨0, [], .s (.int .u8 post_)⟩, ⟨1, [], .s (.int .i64 stack_)⟩] := ⟨⟨fun _ => rfl, fun h => (h trivial).elim⟩, ⟨fun _ => rfl, fun h => (h trivial).elim⟩, trivial⟩
  generalize fr0 [.s (.int .u8 post_), .s (.int .i64 stack_)] = f at hf ⊢
  unfold lists_Order at h
  refine k_seq ?_
  refine k_reg ?_
  refine mops_en hf (by kernel_rfl) fun f1 hf1 => ?_
  refine k_c ?_
  refine k_seq ?_
  refine k_reg ?_
  refine mops_en hf1 (by kernel_rfl) fun f2 hf2 => ?_
  refine k_c ?_
  refine k_seq ?_
  refine k_seq ?_
  refine k_reg ?_
  refine mops_sg 1 hf2 (by kernel_rfl) fun f3 hf3 => ?_
  obtain ⟨r_, hx_r_, h⟩ := Option.bind_eq_some_iff.1 h
  refine mops_call rfl hf3 (av := [.s (.int .i64 stack_)]) (by kernel_rfl) (v := .agg [.s (.int .i64 r_.a0), .s (.int .i64 r_.a1), .s (.int .i64 r_.a2), .s (.int .i64 r_.a3), .s (.int .i64 r_.a4), .s (.int .i64 r_.a5), .s (.int .i64 r_.a6), .s (.int .i64 r_.a7)]) (CalL.pure (lists_regs_ok stack_ r_ hx_r_) rfl rfl (Nat.le_of_ble_eq_true (by kernel_rfl))) (fun _ => rfl) fun f4 hf4 => ?_
  refine mops_en hf4 (by kernel_rfl) fun f5 hf5 => ?_
  refine k_c ?_
  refine k_block ?_
  obtain ⟨o0, hx0, h⟩ := Option.bind_eq_some_iff.1 h
  have hgo0 : ∀ (l_4 : (List lists_Part)) (v_4 : Nat), l_4 = o0 → ∀ f, FOk f [⟨4, [], .ref 0 0 0 0⟩, ⟨5, [], .ref 1 v_4 0 l_4.length⟩] → kont Tryd.prog [] (lists_Order_C r) ((.c lists_Order_i22) :: []) .normal f [⟨0, .grow, 2, cat lists_Part.v ([] : List lists_Part)⟩, ⟨v_4, .grow, 2, cat lists_Part.v l_4⟩] := by
    intro l_4 v_4 e f hf
    subst e
    refine k_c ?_
    refine k_seq ?_
    refine k_reg ?_
    refine mops_en hf (by kernel_rfl) fun f1 hf1 => ?_
    refine k_c ?_
    refine k_ret ?_
    obtain rfl := Option.some.inj h
    exact k_fin (fin_ret (.inl rfl) hf1 (vs := [.ref 1 v_4 0 l_4.length]) (by kernel_rfl) (SettL.pure (FzL.whole (g := lists_Part.v) (kd := .grow) (l := l_4) (by kernel_rfl) rfl (live_grow (by kernel_rfl)))))
  refine k_loop BIG ?_
  refine loop_ind (fun n f L => ∃ (l_3 : (List lists_Part)) (t_1 : Int) (v_3 : Nat), lists_Order_l0 post_ r_ n l_3 t_1 = some o0 ∧ FOk f [⟨0, [], .s (.int .u8 post_)⟩, ⟨4, [], .ref 0 0 0 0⟩, ⟨5, [], .ref 1 v_3 0 l_3.length⟩, ⟨9, [], .agg [.s (.int .i64 r_.a0), .s (.int .i64 r_.a1), .s (.int .i64 r_.a2), .s (.int .i64 r_.a3), .s (.int .i64 r_.a4), .s (.int .i64 r_.a5), .s (.int .i64 r_.a6), .s (.int .i64 r_.a7)]⟩, ⟨10, [], .s (.int .i64 t_1)⟩] ∧ L = [⟨0, .grow, 2, cat lists_Part.v ([] : List lists_Part)⟩, ⟨v_3, .grow, 2, cat lists_Part.v l_3⟩]) ?_ ?_ BIG _ _ ⟨([] : List lists_Part), (0), (0), hx0, FOk_of [0, 4, 5, 9, 10] hf5 (by kernel_rfl), (by kernel_rfl)⟩
  · rintro f L ⟨l_3, t_1, v_3, h, _⟩
    cases (show (none : Option _) = some _ from h)
  · rintro n0 R0 ih f L ⟨l_3, t_1, v_3, h, hf, rfl⟩
    rw [lists_Order_l0] at h
    refine k_seq ?_
    refine k_reg ?_
    refine mops_en hf (by kernel_rfl) fun f1 hf1 => ?_
    refine k_c ?_
    refine k_seq ?_
    refine k_cond hf1 (t := (decide (t_1 < 8))) (by kernel_rfl) (fun hc1 => ?_) (fun hc1 => ?_)
    · have h := if_t h hc1
      refine k_skip ?_
      refine k_c ?_
      refine k_seq ?_
      refine k_block ?_
      refine k_seq ?_
      refine k_reg ?_
      refine mops_sg 1 hf1 (by kernel_rfl) fun f2 hf2 => ?_
      obtain ⟨c2, h⟩ := as_ok h
      refine mops_adv rfl (v := .s (.int .i64 (gt [r_.a0, r_.a1, r_.a2, r_.a3, r_.a4, r_.a5, r_.a6, r_.a7] t_1))) hf2 (by kernel_rfl) (e_ixa (g := (nI .i64)) (l := [r_.a0, r_.a1, r_.a2, r_.a3, r_.a4, r_.a5, r_.a6, r_.a7]) (n := 8) (k := .i64) (iv := t_1) (by kernel_rfl) (by kernel_rfl) c2 (by kernel_rfl) (by kernel_rfl)) fun f3 hf3 => ?_
      refine mops_en hf3 (by kernel_rfl) fun f4 hf4 => ?_
      refine k_c ?_
      refine k_seq ?_
      refine k_seq ?_
      refine k_reg ?_
      refine mops_sg 2 hf4 (by kernel_rfl) fun f5 hf5 => ?_
      obtain ⟨c3, h⟩ := as_ok h
      refine mops_adv rfl (v := .s (.int .u8 (Int.fdiv post_ (2 ^ (min (t_1 : Int).toNat (IntKind.bits .u8)))))) hf5 (by kernel_rfl) (e_shr (k := .u8) (k' := .i64) (iv := post_) (jv := t_1) (by kernel_rfl) (by kernel_rfl) c3) fun f6 hf6 => ?_
      refine mops_en hf6 (by kernel_rfl) fun f7 hf7 => ?_
      refine k_c ?_
      refine k_cond hf7 (t := ((bits .and .u8 (Int.fdiv post_ (2 ^ (min (t_1 : Int).toNat (IntKind.bits .u8)))) 1) == 0)) (by kernel_rfl) (fun hc4 => ?_) (fun hc4 => ?_)
      · have h := if_t h hc4
        refine k_exit ?_
        refine x_c nofun ?_
        refine x_b ?_
        refine k_c ?_
        refine k_reg ?_
        refine mops_en hf7 (by kernel_rfl) fun f8 hf8 => ?_
        refine k_l ?_
        exact ih _ _ ⟨l_3, (IntKind.wrap .i64 (t_1 + 1)), v_3, h, FOk_of [0, 4, 5, 9, 10] hf8 (by kernel_rfl), (by kernel_rfl)⟩
      · have h := if_f h hc4
        refine k_skip ?_
        refine k_c ?_
        refine k_seq ?_
        refine k_seq ?_
        refine k_reg ?_
        refine mops_en hf7 (by kernel_rfl) fun f8 hf8 => ?_
        refine k_c ?_
        have hj1 : ∀ (l_5 : (List lists_Part)) (v_5 : Nat), lists_Order_j0 ((lists_Order_l0 post_ r_ n0)) r_ t_1 l_5 = some o0 → ∀ f, FOk f [⟨0, [], .s (.int .u8 post_)⟩, ⟨4, [], .ref 0 0 0 0⟩, ⟨5, [], .ref 1 v_5 0 l_5.length⟩, ⟨6, [], .s (.int .i64 t_1)⟩, ⟨7, [], .s (.int .i64 (gt [r_.a0, r_.a1, r_.a2, r_.a3, r_.a4, r_.a5, r_.a6, r_.a7] t_1))⟩, ⟨9, [], .agg [.s (.int .i64 r_.a0), .s (.int .i64 r_.a1), .s (.int .i64 r_.a2), .s (.int .i64 r_.a3), .s (.int .i64 r_.a4), .s (.int .i64 r_.a5), .s (.int .i64 r_.a6), .s (.int .i64 r_.a7)]⟩, ⟨10, [], .s (.int .i64 t_1)⟩, ⟨11, [], .s (.bool (decide (t_1 < 8)))⟩, ⟨12, [], .s (.int .i64 t_1)⟩, ⟨13, [], .s (.int .i64 (gt [r_.a0, r_.a1, r_.a2, r_.a3, r_.a4, r_.a5, r_.a6, r_.a7] t_1))⟩, ⟨14, [], .s (.int .u8 post_)⟩, ⟨15, [], .s (.int .i64 t_1)⟩, ⟨16, [], .s (.int .u8 (Int.fdiv post_ (2 ^ (min (t_1 : Int).toNat (IntKind.bits .u8)))))⟩, ⟨17, [], .s (.int .u8 (bits .and .u8 (Int.fdiv post_ (2 ^ (min (t_1 : Int).toNat (IntKind.bits .u8)))) 1))⟩, ⟨18, [], .s (.bool ((bits .and .u8 (Int.fdiv post_ (2 ^ (min (t_1 : Int).toNat (IntKind.bits .u8)))) 1) == 0))⟩, ⟨19, [], .s (.int .i64 t_1)⟩, ⟨20, [], .s (.bool (decide (3 < t_1)))⟩] → kont Tryd.prog [] (lists_Order_C r) ((.c lists_Order_i11) :: (.b 1) :: (.c lists_Order_i15) :: (.l R0) :: (.b 0) :: (.c lists_Order_i22) :: []) .normal f [⟨0, .grow, 2, cat lists_Part.v ([] : List lists_Part)⟩, ⟨v_5, .grow, 2, cat lists_Part.v l_5⟩] := by
          intro l_5 v_5 h f hf
          unfold lists_Order_j0 at h
          refine k_c ?_
          refine k_reg ?_
          refine mops_sg 4 hf (by kernel_rfl) fun f1 hf1 => ?_
          obtain ⟨c7, h⟩ := as_ok h
          refine mops_adv rfl (v := .ref 1 (v_5 + 1) 0 (l_5 ++ [(lists_Part.mk (gt [r_.a0, r_.a1, r_.a2, r_.a3, r_.a4, r_.a5, r_.a6, r_.a7] t_1) false)]).length) hf1 (by kernel_rfl) (e_app (g := lists_Part.v) (l := l_5) (l' := [(lists_Part.mk (gt [r_.a0, r_.a1, r_.a2, r_.a3, r_.a4, r_.a5, r_.a6, r_.a7] t_1) false)]) (b := 1) (ver := v_5) (n := l_5.length) rfl (by kernel_rfl) rfl (live_grow (by kernel_rfl)) (sll_ev (v := .ref 2 0 0 1) (by kernel_rfl) (sll_ref (B := ⟨0, .grow, 2, cat lists_Part.v [(lists_Part.mk (gt [r_.a0, r_.a1, r_.a2, r_.a3, r_.a4, r_.a5, r_.a6, r_.a7] t_1) false)]⟩) (by kernel_rfl) (live_grow (by kernel_rfl)))) (slc_ev (v := .ref 2 0 0 1) (by kernel_rfl) (slc_ref (g := lists_Part.v) (l := [(lists_Part.mk (gt [r_.a0, r_.a1, r_.a2, r_.a3, r_.a4, r_.a5, r_.a6, r_.a7] t_1) false)]) (kd := .grow) (q := 2) (by kernel_rfl) (live_grow (by kernel_rfl)))) c7) fun f2 hf2 => ?_
          refine mops_en hf2 (by kernel_rfl) fun f3 hf3 => ?_
          refine k_b ?_
          refine k_c ?_
          refine k_reg ?_
          refine mops_en hf3 (by kernel_rfl) fun f4 hf4 => ?_
          refine k_l' (vs_cut (l := [⟨0, [], .s (.int .u8 post_)⟩, ⟨4, [], .ref 0 0 0 0⟩, ⟨5, [], .ref 1 (v_5 + 1) 0 (l_5 ++ [(lists_Part.mk (gt [r_.a0, r_.a1, r_.a2, r_.a3, r_.a4, r_.a5, r_.a6, r_.a7] t_1) false)]).length⟩, ⟨9, [], .agg [.s (.int .i64 r_.a0), .s (.int .i64 r_.a1), .s (.int .i64 r_.a2), .s (.int .i64 r_.a3), .s (.int .i64 r_.a4), .s (.int .i64 r_.a5), .s (.int .i64 r_.a6), .s (.int .i64 r_.a7)]⟩, ⟨10, [], .s (.int .i64 (IntKind.wrap .i64 (t_1 + 1)))⟩]) 2 (by kernel_rfl) (by kernel_rfl) (L' := [⟨0, .grow, 2, cat lists_Part.v ([] : List lists_Part)⟩, ⟨(v_5 + 1), .grow, 2, cat lists_Part.v (l_5 ++ [(lists_Part.mk (gt [r_.a0, r_.a1, r_.a2, r_.a3, r_.a4, r_.a5, r_.a6, r_.a7] t_1) false)])⟩]) (by kernel_rfl) ⟨⟨rfl, rfl⟩, ⟨rfl, rfl⟩, ⟨rfl, rfl⟩, ⟨rfl, rfl⟩, ⟨rfl, rfl⟩, trivial⟩ ⟨.inr (.inr (statics_unders _ _ (cat_stat _))), .inr (.inr (statics_unders _ _ (cat_stat _))), trivial⟩ (FOk_of [0, 4, 5, 9, 10] hf4 (by kernel_rfl)) fun f hf => ?_)
          exact ih _ _ ⟨(l_5 ++ [(lists_Part.mk (gt [r_.a0, r_.a1, r_.a2, r_.a3, r_.a4, r_.a5, r_.a6, r_.a7] t_1) false)]), (IntKind.wrap .i64 (t_1 + 1)), (v_5 + 1), h, hf, rfl⟩
        refine k_cond hf8 (t := (decide (3 < t_1))) (by kernel_rfl) (fun hc5 => ?_) (fun hc5 => ?_)
        · have h := if_t h hc5
          refine k_reg ?_
          refine mops_sg 4 hf8 (by kernel_rfl) fun f9 hf9 => ?_
          obtain ⟨c6, h⟩ := as_ok h
          refine mops_adv rfl (v := .ref 1 (v_3 + 1) 0 (l_3 ++ [(lists_Part.mk (gt [r_.a0, r_.a1, r_.a2, r_.a3, r_.a4, r_.a5, r_.a6, r_.a7] t_1) true)]).length) hf9 (by kernel_rfl) (e_app (g := lists_Part.v) (l := l_3) (l' := [(lists_Part.mk (gt [r_.a0, r_.a1, r_.a2, r_.a3, r_.a4, r_.a5, r_.a6, r_.a7] t_1) true)]) (b := 1) (ver := v_3) (n := l_3.length) rfl (by kernel_rfl) rfl (live_grow (by kernel_rfl)) (sll_ev (v := .ref 2 0 0 1) (by kernel_rfl) (sll_ref (B := ⟨0, .grow, 2, cat lists_Part.v [(lists_Part.mk (gt [r_.a0, r_.a1, r_.a2, r_.a3, r_.a4, r_.a5, r_.a6, r_.a7] t_1) true)]⟩) (by kernel_rfl) (live_grow (by kernel_rfl)))) (slc_ev (v := .ref 2 0 0 1) (by kernel_rfl) (slc_ref (g := lists_Part.v) (l := [(lists_Part.mk (gt [r_.a0, r_.a1, r_.a2, r_.a3, r_.a4, r_.a5, r_.a6, r_.a7] t_1) true)]) (kd := .grow) (q := 2) (by kernel_rfl) (live_grow (by kernel_rfl)))) c6) fun f10 hf10 => ?_
          refine mops_en hf10 (by kernel_rfl) fun f11 hf11 => ?_
          refine k_c' (vs_vs (vs_cut (l := [⟨0, [], .s (.int .u8 post_)⟩, ⟨4, [], .ref 0 0 0 0⟩, ⟨5, [], .ref 1 (v_3 + 1) 0 (l_3 ++ [(lists_Part.mk (gt [r_.a0, r_.a1, r_.a2, r_.a3, r_.a4, r_.a5, r_.a6, r_.a7] t_1) true)]).length⟩, ⟨6, [], .s (.int .i64 t_1)⟩, ⟨7, [], .s (.int .i64 (gt [r_.a0, r_.a1, r_.a2, r_.a3, r_.a4, r_.a5, r_.a6, r_.a7] t_1))⟩, ⟨9, [], .agg [.s (.int .i64 r_.a0), .s (.int .i64 r_.a1), .s (.int .i64 r_.a2), .s (.int .i64 r_.a3), .s (.int .i64 r_.a4), .s (.int .i64 r_.a5), .s (.int .i64 r_.a6), .s (.int .i64 r_.a7)]⟩, ⟨10, [], .s (.int .i64 t_1)⟩, ⟨11, [], .s (.bool (decide (t_1 < 8)))⟩, ⟨12, [], .s (.int .i64 t_1)⟩, ⟨13, [], .s (.int .i64 (gt [r_.a0, r_.a1, r_.a2, r_.a3, r_.a4, r_.a5, r_.a6, r_.a7] t_1))⟩, ⟨14, [], .s (.int .u8 post_)⟩, ⟨15, [], .s (.int .i64 t_1)⟩, ⟨16, [], .s (.int .u8 (Int.fdiv post_ (2 ^ (min (t_1 : Int).toNat (IntKind.bits .u8)))))⟩, ⟨17, [], .s (.int .u8 (bits .and .u8 (Int.fdiv post_ (2 ^ (min (t_1 : Int).toNat (IntKind.bits .u8)))) 1))⟩, ⟨18, [], .s (.bool ((bits .and .u8 (Int.fdiv post_ (2 ^ (min (t_1 : Int).toNat (IntKind.bits .u8)))) 1) == 0))⟩, ⟨19, [], .s (.int .i64 t_1)⟩, ⟨20, [], .s (.bool (decide (3 < t_1)))⟩]) 2 (by kernel_rfl) (by kernel_rfl) (L' := [⟨0, .grow, 2, cat lists_Part.v ([] : List lists_Part)⟩, ⟨(v_3 + 1), .grow, 2, cat lists_Part.v (l_3 ++ [(lists_Part.mk (gt [r_.a0, r_.a1, r_.a2, r_.a3, r_.a4, r_.a5, r_.a6, r_.a7] t_1) true)])⟩]) (by kernel_rfl) ⟨⟨rfl, rfl⟩, ⟨rfl, rfl⟩, ⟨rfl, rfl⟩, ⟨rfl, rfl⟩, ⟨rfl, rfl⟩, ⟨rfl, rfl⟩, ⟨rfl, rfl⟩, ⟨rfl, rfl⟩, ⟨rfl, rfl⟩, ⟨rfl, rfl⟩, ⟨rfl, rfl⟩, ⟨rfl, rfl⟩, ⟨rfl, rfl⟩, ⟨rfl, rfl⟩, ⟨rfl, rfl⟩, ⟨rfl, rfl⟩, ⟨rfl, rfl⟩, trivial⟩ ⟨.inr (.inr (statics_unders _ _ (cat_stat _))), .inr (.inr (statics_unders _ _ (cat_stat _))), trivial⟩ (FOk_of [0, 4, 5, 6, 7, 9, 10, 11, 12, 13, 14, 15, 16, 17, 18, 19, 20] hf11 (by kernel_rfl)) fun f hf => ?_))
          exact k_un (hj1 (l_3 ++ [(lists_Part.mk (gt [r_.a0, r_.a1, r_.a2, r_.a3, r_.a4, r_.a5, r_.a6, r_.a7] t_1) true)]) (v_3 + 1) h _ hf)
        · have h := if_f h hc5
          refine k_skip ?_
          refine k_hp (L' := [⟨0, .grow, 2, cat lists_Part.v ([] : List lists_Part)⟩, ⟨v_3, .grow, 2, cat lists_Part.v l_3⟩]) (by kernel_rfl) ?_
          exact hj1 l_3 v_3 h _ (FOk_of [0, 4, 5, 6, 7, 9, 10, 11, 12, 13, 14, 15, 16, 17, 18, 19, 20] hf8 (by kernel_rfl))
    · have h := if_f h hc1
      refine k_exit ?_
      refine x_c nofun ?_
      refine x_l nofun ?_
      refine x_b ?_
      refine k_hp (L' := [⟨0, .grow, 2, cat lists_Part.v ([] : List lists_Part)⟩, ⟨v_3, .grow, 2, cat lists_Part.v l_3⟩]) (by kernel_rfl) ?_
      exact hgo0 l_3 v_3 (Option.some.inj h) _ (FOk_of [4, 5] hf1 (by kernel_rfl))
def lists_Text_i0 : List Op1 := [(oM 4 (.k (.string ⟨#[]⟩)) [])]
def lists_Text_i1 : List Op1 := [(oE 5 (.nilg 1) [])]
def lists_Text_i2 : List Op1 := [(oM 8 (.t 1) []), (oC 9 23 [(.t 8)] [0]), (oM 10 (.k (.int .i64 0)) [])]
def lists_Text_i3 : List Op1 := [(oE 11 (.bin .lss (.t 10) (.k (.int .i64 8))) [])]
def lists_Text_i4 : List Op1 := [(oM 12 (.t 10) []), (oE 13 (.ixa false 8 1 (.t 9) (.t 10)) []), (oM 6 (.t 12) [0, 0, 1]), (oM 7 (.t 13) [1, 2, 0, 1, 2])]
def lists_Text_i5 : List Op1 := [(oM 14 (.t 0) []), (oM 15 (.t 6) []), (oE 16 (.bin .shr (.t 14) (.t 15)) [0, 1]), (oE 17 (.bin .and (.t 16) (.k (.int .u8 1))) [2]), (oE 18 (.bin .eql (.t 17) (.k (.int .u8 1))) [3])]
def lists_Text_i6 : List Op1 := [(oM 19 (.t 5) []), (oM 20 (.t 7) []), (oC 21 32 [(.t 20)] [1]), (oE 22 (.bslo 1 1 [(.string ⟨#[]⟩)] [(0, (1, (.t 21)))]) [2]), (oE 23 (.app 9 1 16 (.t 19) (.t 22)) [0, 3, 2]), (oM 5 (.t 23) [4, 4, 0, 1, 2, 3, 4])]
def lists_Text_i7 : IR := (.cond (.t 18) (.reg false lists_Text_i6) .skip)
def lists_Text_i8 : IR := (.seq (.reg false lists_Text_i5) lists_Text_i7)
def lists_Text_i9 : List Op1 := [(oE 24 (.bin .add (.t 10) (.k (.int .i64 1))) []), (oM 10 (.t 24) [0])]
def lists_Text_i10 : IR := (.reg false lists_Text_i9)
def lists_Text_i11 : IR := (.seq (.block 1 (.seq (.reg false lists_Text_i4) lists_Text_i8)) lists_Text_i10)
def lists_Text_i12 : IR := (.seq (.cond (.t 11) .skip (.exit 0)) lists_Text_i11)
def lists_Text_i13 : IR := (.seq (.reg false lists_Text_i3) lists_Text_i12)
def lists_Text_i14 : IR := (.block 0 (.loop lists_Text_i13))
def lists_Text_i15 : List Op1 := [(oM 25 (.t 5) []), (oC 26 33 [(.t 25), (.k (.string ⟨#[44]⟩))] [0]), (oM 4 (.t 26) [1, 1, 0, 1])]
def lists_Text_i16 : IR := .ret
def lists_Text_i17 : IR := (.seq (.reg false lists_Text_i15) lists_Text_i16)
def lists_Text_i18 : IR := (.seq (.seq (.reg false lists_Text_i2) lists_Text_i14) lists_Text_i17)
def lists_Text_i19 : IR := (.seq (.reg false lists_Text_i1) lists_Text_i18)
def lists_Text_ir : IR := (.seq (.reg false lists_Text_i0) lists_Text_i19)
theorem lists_Text_cfn : cFn Tryd.prog 19 = some (lists_Text_ir, [(.t 4)], 27) := by kernel_rfl
def lists_Text_V (r : (ByteArray)) : V := .s (.string r)
def lists_Text_C (r : (ByteArray)) : X → Fr → Hp → Prop := FinL [(.t 4)] [] (lists_Text_V r) []
theorem lists_Text_ok (post_ : Int) (stack_ : Int) (r : (ByteArray)) (h : lists_Text post_ stack_ = some r) : Pure Tryd.prog 19 [.s (.int .u8 post_), .s (.int .i64 stack_)] (lists_Text_V r) := by
  refine ConL.of lists_Text_cfn (Nat.le_of_ble_eq_true (by kernel_rfl)) (Nat.le_of_ble_eq_true (by kernel_rfl)) ?_
  refine k_start ?_
  show dwv Tryd.prog [] lists_Text_ir (kont Tryd.prog [] (lists_Text_C r) []) (fr0 [.s (.int .u8 post_), .s (.int .i64 stack_)]) []
  have hf : FOk (fr0 [.s (.int .u8 post_), .s (.int .i64 stack_)]) [⟨0, [], .s (.int .u8 post_)⟩, ⟨1, [], .s (.int .i64 stack_)⟩] := ⟨⟨fun _ => rfl, fun h => (h trivial).elim⟩, ⟨fun _ => rfl, fun h => (h trivial).elim⟩, trivial⟩
  generalize fr0 [.s (.int .u8 post_), .s (.int .i64 stack_)] = f at hf ⊢
  unfold lists_Text at h
  refine k_seq ?_
  refine k_reg ?_
  refine mops_en hf (by kernel_rfl) fun f1 hf1 => ?_
  refine k_c ?_
  refine k_seq ?_
  refine k_reg ?_
  refine mops_en hf1 (by kernel_rfl) fun f2 hf2 => ?_
  refine k_c ?_
  refine k_seq ?_
  refine k_seq ?_
  refine k_reg ?_
  refine mops_sg 1 hf2 (by kernel_rfl) fun f3 hf3 => ?_
  obtain ⟨r_, hx_r_, h⟩ := Option.bind_eq_some_iff.1 h
  refine mops_call rfl hf3 (av := [.s (.int .i64 stack_)]) (by kernel_rfl) (v := .agg [.s (.int .i64 r_.a0), .s (.int .i64 r_.a1), .s (.int .i64 r_.a2), .s (.int .i64 r_.a3), .s (.int .i64 r_.a4), .s (.int .i64 r_.a5), .s (.int .i64 r_.a6), .s (.int .i64 r_.a7)]) (CalL.pure (lists_regs_ok stack_ r_ hx_r_) rfl rfl (Nat.le_of_ble_eq_true (by kernel_rfl))) (fun _ => rfl) fun f4 hf4 => ?_
  refine mops_en hf4 (by kernel_rfl) fun f5 hf5 => ?_
  refine k_c ?_
  refine k_block ?_
  obtain ⟨o0, hx0, h⟩ := Option.bind_eq_some_iff.1 h
  have hgo0 : ∀ (l_2 : (List ByteArray)) (v_2 : Nat), l_2 = o0 → ∀ f, FOk f [⟨4, [], .s (.string (⟨#[]⟩ : ByteArray))⟩, ⟨5, [], .ref 0 v_2 0 l_2.length⟩] → kont Tryd.prog [] (lists_Text_C r) ((.c lists_Text_i17) :: []) .normal f [⟨v_2, .grow, 1, cat nS l_2⟩] := by
    intro l_2 v_2 e f hf
    subst e
    refine k_c ?_
    refine k_seq ?_
    refine k_reg ?_
    refine mops_sg 1 hf (by kernel_rfl) fun f1 hf1 => ?_
    obtain ⟨r_4, hx_r_4, h⟩ := Option.bind_eq_some_iff.1 h
    refine mops_call rfl hf1 (av := [.ref 0 v_2 0 l_2.length, .s (.string (⟨#[44]⟩ : ByteArray))]) (by kernel_rfl) (v := .s (.string r_4)) (CalL.lend (strings_Join_ok l_2 (⟨#[44]⟩ : ByteArray) r_4 hx_r_4) rfl (Lends.cons (Lend.whole (g := nS) (kd := .grow) (l := l_2) rfl (live_grow (by kernel_rfl))) (Lends.cons (Lend.stat rfl) Lends.nil)) (by kernel_rfl)) (fun _ => rfl) fun f2 hf2 => ?_
    refine mops_en hf2 (by kernel_rfl) fun f3 hf3 => ?_
    refine k_c ?_
    refine k_ret ?_
    obtain rfl := Option.some.inj h
    exact k_fin (fin_ret (.inl rfl) hf3 (vs := [.s (.string r_4)]) (by kernel_rfl) (SettL.pure (FzL.stat rfl)))
  refine k_loop BIG ?_
  refine loop_ind (fun n f L => ∃ (l_1 : (List ByteArray)) (t_1 : Int) (v_1 : Nat), lists_Text_l0 post_ r_ n l_1 t_1 = some o0 ∧ FOk f [⟨0, [], .s (.int .u8 post_)⟩, ⟨4, [], .s (.string (⟨#[]⟩ : ByteArray))⟩, ⟨5, [], .ref 0 v_1 0 l_1.length⟩, ⟨9, [], .agg [.s (.int .i64 r_.a0), .s (.int .i64 r_.a1), .s (.int .i64 r_.a2), .s (.int .i64 r_.a3), .s (.int .i64 r_.a4), .s (.int .i64 r_.a5), .s (.int .i64 r_.a6), .s (.int .i64 r_.a7)]⟩, ⟨10, [], .s (.int .i64 t_1)⟩] ∧ L = [⟨v_1, .grow, 1, cat nS l_1⟩]) ?_ ?_ BIG _ _ ⟨([] : List ByteArray), (0), (0), hx0, FOk_of [0, 4, 5, 9, 10] hf5 (by kernel_rfl), (by kernel_rfl)⟩
  · rintro f L ⟨l_1, t_1, v_1, h, _⟩
    cases (show (none : Option _) = some _ from h)
  · rintro n0 R0 ih f L ⟨l_1, t_1, v_1, h, hf, rfl⟩
    rw [lists_Text_l0] at h
    refine k_seq ?_
    refine k_reg ?_
    refine mops_en hf (by kernel_rfl) fun f1 hf1 => ?_
    refine k_c ?_
    refine k_seq ?_
    refine k_cond hf1 (t := (decide (t_1 < 8))) (by kernel_rfl) (fun hc1 => ?_) (fun hc1 => ?_)
    · have h := if_t h hc1
      refine k_skip ?_
      refine k_c ?_
      refine k_seq ?_
      refine k_block ?_
      refine k_seq ?_
      refine k_reg ?_
      refine mops_sg 1 hf1 (by kernel_rfl) fun f2 hf2 => ?_
      obtain ⟨c2, h⟩ := as_ok h
      refine mops_adv rfl (v := .s (.int .i64 (gt [r_.a0, r_.a1, r_.a2, r_.a3, r_.a4, r_.a5, r_.a6, r_.a7] t_1))) hf2 (by kernel_rfl) (e_ixa (g := (nI .i64)) (l := [r_.a0, r_.a1, r_.a2, r_.a3, r_.a4, r_.a5, r_.a6, r_.a7]) (n := 8) (k := .i64) (iv := t_1) (by kernel_rfl) (by kernel_rfl) c2 (by kernel_rfl) (by kernel_rfl)) fun f3 hf3 => ?_
      refine mops_en hf3 (by kernel_rfl) fun f4 hf4 => ?_
      refine k_c ?_
      refine k_seq ?_
      refine k_reg ?_
      refine mops_sg 2 hf4 (by kernel_rfl) fun f5 hf5 => ?_
      obtain ⟨c3, h⟩ := as_ok h
      refine mops_adv rfl (v := .s (.int .u8 (Int.fdiv post_ (2 ^ (min (t_1 : Int).toNat (IntKind.bits .u8)))))) hf5 (by kernel_rfl) (e_shr (k := .u8) (k' := .i64) (iv := post_) (jv := t_1) (by kernel_rfl) (by kernel_rfl) c3) fun f6 hf6 => ?_
      refine mops_en hf6 (by kernel_rfl) fun f7 hf7 => ?_
      refine k_c ?_
      refine k_cond hf7 (t := ((bits .and .u8 (Int.fdiv post_ (2 ^ (min (t_1 : Int).toNat (IntKind.bits .u8)))) 1) == 1)) (by kernel_rfl) (fun hc4 => ?_) (fun hc4 => ?_)
      · have h := if_t h hc4
        refine k_reg ?_
        refine mops_sg 2 hf7 (by kernel_rfl) fun f8 hf8 => ?_
        obtain ⟨r_3, hx_r_3, h⟩ := Option.bind_eq_some_iff.1 h
        refine mops_call rfl hf8 (av := [.s (.int .i64 (gt [r_.a0, r_.a1, r_.a2, r_.a3, r_.a4, r_.a5, r_.a6, r_.a7] t_1))]) (by kernel_rfl) (v := .s (.string r_3)) (CalL.pure (ops_Reg_ok (gt [r_.a0, r_.a1, r_.a2, r_.a3, r_.a4, r_.a5, r_.a6, r_.a7] t_1) r_3 hx_r_3) rfl rfl (Nat.le_of_ble_eq_true (by kernel_rfl))) (fun _ => rfl) fun f9 hf9 => ?_
        refine mops_sg 1 hf9 (by kernel_rfl) fun f10 hf10 => ?_
        obtain ⟨c5, h⟩ := as_ok h
        refine mops_adv rfl (v := .ref 0 (v_1 + 1) 0 (l_1 ++ [r_3]).length) hf10 (by kernel_rfl) (e_app (g := nS) (l := l_1) (l' := [r_3]) (b := 0) (ver := v_1) (n := l_1.length) rfl (by kernel_rfl) rfl (live_grow (by kernel_rfl)) (sll_ev (v := .ref 1 0 0 1) (by kernel_rfl) (sll_ref (B := ⟨0, .grow, 1, cat nS [r_3]⟩) (by kernel_rfl) (live_grow (by kernel_rfl)))) (slc_ev (v := .ref 1 0 0 1) (by kernel_rfl) (slc_ref (g := nS) (l := [r_3]) (kd := .grow) (q := 1) (by kernel_rfl) (live_grow (by kernel_rfl)))) c5) fun f11 hf11 => ?_
        refine mops_en hf11 (by kernel_rfl) fun f12 hf12 => ?_
        refine k_b ?_
        refine k_c ?_
        refine k_reg ?_
        refine mops_en hf12 (by kernel_rfl) fun f13 hf13 => ?_
        refine k_l' (vs_cut (l := [⟨0, [], .s (.int .u8 post_)⟩, ⟨4, [], .s (.string (⟨#[]⟩ : ByteArray))⟩, ⟨5, [], .ref 0 (v_1 + 1) 0 (l_1 ++ [r_3]).length⟩, ⟨9, [], .agg [.s (.int .i64 r_.a0), .s (.int .i64 r_.a1), .s (.int .i64 r_.a2), .s (.int .i64 r_.a3), .s (.int .i64 r_.a4), .s (.int .i64 r_.a5), .s (.int .i64 r_.a6), .s (.int .i64 r_.a7)]⟩, ⟨10, [], .s (.int .i64 (IntKind.wrap .i64 (t_1 + 1)))⟩]) 1 (by kernel_rfl) (by kernel_rfl) (L' := [⟨(v_1 + 1), .grow, 1, cat nS (l_1 ++ [r_3])⟩]) (by kernel_rfl) ⟨⟨rfl, rfl⟩, ⟨rfl, rfl⟩, ⟨rfl, rfl⟩, ⟨rfl, rfl⟩, ⟨rfl, rfl⟩, trivial⟩ ⟨.inr (.inr (statics_unders _ _ (cat_stat _))), trivial⟩ (FOk_of [0, 4, 5, 9, 10] hf13 (by kernel_rfl)) fun f hf => ?_)
        exact ih _ _ ⟨(l_1 ++ [r_3]), (IntKind.wrap .i64 (t_1 + 1)), (v_1 + 1), h, hf, rfl⟩
      · have h := if_f h hc4
        refine k_skip ?_
        refine k_b ?_
        refine k_c ?_
        refine k_reg ?_
        refine mops_en hf7 (by kernel_rfl) fun f8 hf8 => ?_
        refine k_l ?_
        exact ih _ _ ⟨l_1, (IntKind.wrap .i64 (t_1 + 1)), v_1, h, FOk_of [0, 4, 5, 9, 10] hf8 (by kernel_rfl), (by kernel_rfl)⟩
    · have h := if_f h hc1
      refine k_exit ?_
      refine x_c nofun ?_
      refine x_l nofun ?_
      refine x_b ?_
      refine k_hp (L' := [⟨v_1, .grow, 1, cat nS l_1⟩]) (by kernel_rfl) ?_
      exact hgo0 l_1 v_1 (Option.some.inj h) _ (FOk_of [4, 5] hf1 (by kernel_rfl))
end Go.Proofs.YtiedenhkailolaaDoorK
