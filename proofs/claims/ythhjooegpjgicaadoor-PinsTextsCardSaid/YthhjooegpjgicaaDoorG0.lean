/- The Go functions come to the functions over typed data. Printed by a program of this work. -/
import Derived.Test.YthhjooegpjgicaaDoorF
import Derived.Test.YthhjooegpjgicaaDoorProg
import Derived.Test.YthhjooegpjgicaaDoorSf
namespace Go.Proofs.YthhjooegpjgicaaDoorK
set_option linter.unusedVariables false
set_option linter.unusedSimpArgs false
set_option maxHeartbeats 4000000
open Go.RowKit
attribute [local irreducible] dwv mops lops lqops lwops kont iter run runK rk okK ex E1 vals val chain chB sel resF
def unicode_utf8_decodeRuneInStringSlow_i0 : List Op1 := [(oM 2 (.k (.int .i32 0)) []), (oM 3 (.k (.int .i64 0)) [0])]
def unicode_utf8_decodeRuneInStringSlow_i1 : List Op1 := [(oM 13 (.t 0) []), (oE 14 (.lens (.t 13)) [0]), (oM 4 (.t 14) [1, 0, 1])]
def unicode_utf8_decodeRuneInStringSlow_i2 : List Op1 := [(oM 15 (.t 4) []), (oE 16 (.bin .lss (.t 15) (.k (.int .i64 1))) [0])]
def unicode_utf8_decodeRuneInStringSlow_i3 : List Op1 := [(oM 2 (.k (.int .i32 65533)) []), (oM 3 (.k (.int .i64 0)) [0, 0])]
def unicode_utf8_decodeRuneInStringSlow_i4 : IR := .ret
def unicode_utf8_decodeRuneInStringSlow_i5 : IR := (.cond (.t 16) (.seq (.reg false unicode_utf8_decodeRuneInStringSlow_i3) unicode_utf8_decodeRuneInStringSlow_i4) .skip)
def unicode_utf8_decodeRuneInStringSlow_i6 : List Op1 := [(oM 17 (.t 0) []), (oE 18 (.ixs (.t 17) (.k (.int .i64 0))) [0]), (oM 5 (.t 18) [1, 0, 1])]
def unicode_utf8_decodeRuneInStringSlow_i7 : List Op1 := [(oM 19 (.t 5) []), (oE 20 (.lens (.k (.bool false))) [0]), (oE 21 (.load false 1 (.t 20)) [1]), (oM 6 (.t 21) [2, 0, 1, 2])]
def unicode_utf8_decodeRuneInStringSlow_i8 : List Op1 := [(oM 22 (.t 6) []), (oE 23 (.bin .geq (.t 22) (.k (.int .u8 240))) [0])]
def unicode_utf8_decodeRuneInStringSlow_i9 : List Op1 := [(oM 24 (.t 6) []), (oE 25 (.cint .i32 (.t 24)) [0]), (oE 26 (.bin .shl (.t 25) (.k (.int .u64 31))) [1]), (oE 27 (.bin .shr (.t 26) (.k (.int .u64 31))) [2]), (oM 7 (.t 27) [3, 0, 1, 2, 3])]
def unicode_utf8_decodeRuneInStringSlow_i10 : List Op1 := [(oM 28 (.t 0) []), (oE 29 (.ixs (.t 28) (.k (.int .i64 0))) [0]), (oE 30 (.cint .i32 (.t 29)) [1]), (oM 31 (.t 7) []), (oE 32 (.bin .andNot (.t 30) (.t 31)) [2, 3]), (oM 33 (.t 7) []), (oE 34 (.bin .and (.k (.int .i32 65533)) (.t 33)) [5]), (oE 35 (.bin .or (.t 32) (.t 34)) [4, 6]), (oM 2 (.t 35) [7, 0, 1, 2, 3, 4, 5, 6, 7]), (oM 3 (.k (.int .i64 1)) [8, 0, 1, 2, 3, 4, 5, 6, 7, 8])]
def unicode_utf8_decodeRuneInStringSlow_i11 : IR := .ret
def unicode_utf8_decodeRuneInStringSlow_i12 : IR := (.seq (.reg false unicode_utf8_decodeRuneInStringSlow_i10) unicode_utf8_decodeRuneInStringSlow_i11)
def unicode_utf8_decodeRuneInStringSlow_i13 : IR := (.cond (.t 23) (.seq (.reg false unicode_utf8_decodeRuneInStringSlow_i9) unicode_utf8_decodeRuneInStringSlow_i12) .skip)
def unicode_utf8_decodeRuneInStringSlow_i14 : List Op1 := [(oM 36 (.t 6) []), (oE 37 (.bin .and (.t 36) (.k (.int .u8 7))) [0]), (oE 38 (.cint .i64 (.t 37)) [1]), (oM 8 (.t 38) [2, 0, 1, 2])]
def unicode_utf8_decodeRuneInStringSlow_i15 : List Op1 := [(oM 39 (.t 6) []), (oE 40 (.bin .shr (.t 39) (.k (.int .u64 4))) [0]), (oE 41 (.lens (.k (.bool false))) [1]), (oE 42 (.load true 2 (.t 41)) [2]), (oE 9 (.zero [(.int .u8 0), (.int .u8 0)]) []), (oN (.store 2 (.t 9) (.t 42)) [4, 3, 0, 1, 2, 3, 4])]
def unicode_utf8_decodeRuneInStringSlow_i16 : List Op1 := [(oM 43 (.t 4) []), (oM 44 (.t 8) []), (oE 45 (.bin .lss (.t 43) (.t 44)) [0, 1])]
def unicode_utf8_decodeRuneInStringSlow_i17 : List Op1 := [(oM 2 (.k (.int .i32 65533)) []), (oM 3 (.k (.int .i64 1)) [0, 0])]
def unicode_utf8_decodeRuneInStringSlow_i18 : IR := .ret
def unicode_utf8_decodeRuneInStringSlow_i19 : IR := (.cond (.t 45) (.seq (.reg false unicode_utf8_decodeRuneInStringSlow_i17) unicode_utf8_decodeRuneInStringSlow_i18) .skip)
def unicode_utf8_decodeRuneInStringSlow_i20 : List Op1 := [(oM 46 (.t 0) []), (oE 47 (.ixs (.t 46) (.k (.int .i64 1))) [0]), (oM 10 (.t 47) [1, 0, 1])]
def unicode_utf8_decodeRuneInStringSlow_i21 : List Op1 := [(oM 48 (.t 10) []), (oE 49 (.fld 0 (.t 9)) []), (oE 50 (.load false 1 (.t 49)) [1]), (oE 51 (.bin .lss (.t 48) (.t 50)) [0, 2]), (oM 52 (.t 51) [3]), (oG 53 (.fld 1 (.t 9)) 52 false [4]), (oG 54 (.load false 1 (.t 53)) 52 false [5, 4]), (oG 55 (.mv (.t 10)) 52 false [4]), (oG 56 (.bin .lss (.t 54) (.t 55)) 52 false [6, 7, 4]), (oE 57 (.pick (.t 52) (.k (.bool true)) (.t 56)) [4, 8])]
def unicode_utf8_decodeRuneInStringSlow_i22 : List Op1 := [(oM 2 (.k (.int .i32 65533)) []), (oM 3 (.k (.int .i64 1)) [0, 0])]
def unicode_utf8_decodeRuneInStringSlow_i23 : IR := .ret
def unicode_utf8_decodeRuneInStringSlow_i24 : IR := (.cond (.t 57) (.seq (.reg false unicode_utf8_decodeRuneInStringSlow_i22) unicode_utf8_decodeRuneInStringSlow_i23) .skip)
def unicode_utf8_decodeRuneInStringSlow_i25 : List Op1 := [(oM 58 (.t 8) []), (oE 59 (.bin .leq (.t 58) (.k (.int .i64 2))) [0])]
def unicode_utf8_decodeRuneInStringSlow_i26 : List Op1 := [(oM 60 (.t 5) []), (oE 61 (.bin .and (.t 60) (.k (.int .u8 31))) [0]), (oE 62 (.cint .i32 (.t 61)) [1]), (oE 63 (.bin .shl (.t 62) (.k (.int .u64 6))) [2]), (oM 64 (.t 10) []), (oE 65 (.bin .and (.t 64) (.k (.int .u8 63))) [4]), (oE 66 (.cint .i32 (.t 65)) [5]), (oE 67 (.bin .or (.t 63) (.t 66)) [3, 6]), (oM 2 (.t 67) [7, 0, 1, 2, 3, 4, 5, 6, 7]), (oM 3 (.k (.int .i64 2)) [8, 0, 1, 2, 3, 4, 5, 6, 7, 8])]
def unicode_utf8_decodeRuneInStringSlow_i27 : IR := .ret
def unicode_utf8_decodeRuneInStringSlow_i28 : IR := (.cond (.t 59) (.seq (.reg false unicode_utf8_decodeRuneInStringSlow_i26) unicode_utf8_decodeRuneInStringSlow_i27) .skip)
def unicode_utf8_decodeRuneInStringSlow_i29 : List Op1 := [(oM 68 (.t 0) []), (oE 69 (.ixs (.t 68) (.k (.int .i64 2))) [0]), (oM 11 (.t 69) [1, 0, 1])]
def unicode_utf8_decodeRuneInStringSlow_i30 : List Op1 := [(oM 70 (.t 11) []), (oE 71 (.bin .lss (.t 70) (.k (.int .u8 128))) [0]), (oM 72 (.t 71) [1]), (oG 73 (.mv (.t 11)) 72 false [2]), (oG 74 (.bin .lss (.k (.int .u8 191)) (.t 73)) 72 false [3, 2]), (oE 75 (.pick (.t 72) (.k (.bool true)) (.t 74)) [2, 4])]
def unicode_utf8_decodeRuneInStringSlow_i31 : List Op1 := [(oM 2 (.k (.int .i32 65533)) []), (oM 3 (.k (.int .i64 1)) [0, 0])]
def unicode_utf8_decodeRuneInStringSlow_i32 : IR := .ret
def unicode_utf8_decodeRuneInStringSlow_i33 : IR := (.cond (.t 75) (.seq (.reg false unicode_utf8_decodeRuneInStringSlow_i31) unicode_utf8_decodeRuneInStringSlow_i32) .skip)
def unicode_utf8_decodeRuneInStringSlow_i34 : List Op1 := [(oM 76 (.t 8) []), (oE 77 (.bin .leq (.t 76) (.k (.int .i64 3))) [0])]
def unicode_utf8_decodeRuneInStringSlow_i35 : List Op1 := [(oM 78 (.t 5) []), (oE 79 (.bin .and (.t 78) (.k (.int .u8 15))) [0]), (oE 80 (.cint .i32 (.t 79)) [1]), (oE 81 (.bin .shl (.t 80) (.k (.int .u64 12))) [2]), (oM 82 (.t 10) []), (oE 83 (.bin .and (.t 82) (.k (.int .u8 63))) [4]), (oE 84 (.cint .i32 (.t 83)) [5]), (oE 85 (.bin .shl (.t 84) (.k (.int .u64 6))) [6]), (oE 86 (.bin .or (.t 81) (.t 85)) [3, 7]), (oM 87 (.t 11) []), (oE 88 (.bin .and (.t 87) (.k (.int .u8 63))) [9]), (oE 89 (.cint .i32 (.t 88)) [10]), (oE 90 (.bin .or (.t 86) (.t 89)) [8, 11]), (oM 2 (.t 90) [12, 0, 1, 2, 3, 4, 5, 6, 7, 8, 9, 10, 11, 12]), (oM 3 (.k (.int .i64 3)) [13, 0, 1, 2, 3, 4, 5, 6, 7, 8, 9, 10, 11, 12, 13])]
def unicode_utf8_decodeRuneInStringSlow_i36 : IR := .ret
def unicode_utf8_decodeRuneInStringSlow_i37 : IR := (.cond (.t 77) (.seq (.reg false unicode_utf8_decodeRuneInStringSlow_i35) unicode_utf8_decodeRuneInStringSlow_i36) .skip)
def unicode_utf8_decodeRuneInStringSlow_i38 : List Op1 := [(oM 91 (.t 0) []), (oE 92 (.ixs (.t 91) (.k (.int .i64 3))) [0]), (oM 12 (.t 92) [1, 0, 1])]
def unicode_utf8_decodeRuneInStringSlow_i39 : List Op1 := [(oM 93 (.t 12) []), (oE 94 (.bin .lss (.t 93) (.k (.int .u8 128))) [0]), (oM 95 (.t 94) [1]), (oG 96 (.mv (.t 12)) 95 false [2]), (oG 97 (.bin .lss (.k (.int .u8 191)) (.t 96)) 95 false [3, 2]), (oE 98 (.pick (.t 95) (.k (.bool true)) (.t 97)) [2, 4])]
def unicode_utf8_decodeRuneInStringSlow_i40 : List Op1 := [(oM 2 (.k (.int .i32 65533)) []), (oM 3 (.k (.int .i64 1)) [0, 0])]
def unicode_utf8_decodeRuneInStringSlow_i41 : IR := .ret
def unicode_utf8_decodeRuneInStringSlow_i42 : IR := (.cond (.t 98) (.seq (.reg false unicode_utf8_decodeRuneInStringSlow_i40) unicode_utf8_decodeRuneInStringSlow_i41) .skip)
def unicode_utf8_decodeRuneInStringSlow_i43 : List Op1 := [(oM 99 (.t 5) []), (oE 100 (.bin .and (.t 99) (.k (.int .u8 7))) [0]), (oE 101 (.cint .i32 (.t 100)) [1]), (oE 102 (.bin .shl (.t 101) (.k (.int .u64 18))) [2]), (oM 103 (.t 10) []), (oE 104 (.bin .and (.t 103) (.k (.int .u8 63))) [4]), (oE 105 (.cint .i32 (.t 104)) [5]), (oE 106 (.bin .shl (.t 105) (.k (.int .u64 12))) [6]), (oE 107 (.bin .or (.t 102) (.t 106)) [3, 7]), (oM 108 (.t 11) []), (oE 109 (.bin .and (.t 108) (.k (.int .u8 63))) [9]), (oE 110 (.cint .i32 (.t 109)) [10]), (oE 111 (.bin .shl (.t 110) (.k (.int .u64 6))) [11]), (oE 112 (.bin .or (.t 107) (.t 111)) [8, 12]), (oM 113 (.t 12) []), (oE 114 (.bin .and (.t 113) (.k (.int .u8 63))) [14]), (oE 115 (.cint .i32 (.t 114)) [15]), (oE 116 (.bin .or (.t 112) (.t 115)) [13, 16]), (oM 2 (.t 116) [17, 0, 1, 2, 3, 4, 5, 6, 7, 8, 9, 10, 11, 12, 13, 14, 15, 16, 17]), (oM 3 (.k (.int .i64 4)) [18, 0, 1, 2, 3, 4, 5, 6, 7, 8, 9, 10, 11, 12, 13, 14, 15, 16, 17, 18])]
def unicode_utf8_decodeRuneInStringSlow_i44 : IR := .ret
def unicode_utf8_decodeRuneInStringSlow_i45 : IR := (.seq (.reg false unicode_utf8_decodeRuneInStringSlow_i43) unicode_utf8_decodeRuneInStringSlow_i44)
def unicode_utf8_decodeRuneInStringSlow_i46 : IR := (.seq (.seq (.reg false unicode_utf8_decodeRuneInStringSlow_i39) unicode_utf8_decodeRuneInStringSlow_i42) unicode_utf8_decodeRuneInStringSlow_i45)
def unicode_utf8_decodeRuneInStringSlow_i47 : IR := (.seq (.reg false unicode_utf8_decodeRuneInStringSlow_i38) unicode_utf8_decodeRuneInStringSlow_i46)
def unicode_utf8_decodeRuneInStringSlow_i48 : IR := (.seq (.seq (.reg false unicode_utf8_decodeRuneInStringSlow_i34) unicode_utf8_decodeRuneInStringSlow_i37) unicode_utf8_decodeRuneInStringSlow_i47)
def unicode_utf8_decodeRuneInStringSlow_i49 : IR := (.seq (.seq (.reg false unicode_utf8_decodeRuneInStringSlow_i30) unicode_utf8_decodeRuneInStringSlow_i33) unicode_utf8_decodeRuneInStringSlow_i48)
def unicode_utf8_decodeRuneInStringSlow_i50 : IR := (.seq (.reg false unicode_utf8_decodeRuneInStringSlow_i29) unicode_utf8_decodeRuneInStringSlow_i49)
def unicode_utf8_decodeRuneInStringSlow_i51 : IR := (.seq (.seq (.reg false unicode_utf8_decodeRuneInStringSlow_i25) unicode_utf8_decodeRuneInStringSlow_i28) unicode_utf8_decodeRuneInStringSlow_i50)
def unicode_utf8_decodeRuneInStringSlow_i52 : IR := (.seq (.seq (.reg false unicode_utf8_decodeRuneInStringSlow_i21) unicode_utf8_decodeRuneInStringSlow_i24) unicode_utf8_decodeRuneInStringSlow_i51)
def unicode_utf8_decodeRuneInStringSlow_i53 : IR := (.seq (.reg false unicode_utf8_decodeRuneInStringSlow_i20) unicode_utf8_decodeRuneInStringSlow_i52)
def unicode_utf8_decodeRuneInStringSlow_i54 : IR := (.seq (.seq (.reg false unicode_utf8_decodeRuneInStringSlow_i16) unicode_utf8_decodeRuneInStringSlow_i19) unicode_utf8_decodeRuneInStringSlow_i53)
def unicode_utf8_decodeRuneInStringSlow_i55 : IR := (.seq (.reg false unicode_utf8_decodeRuneInStringSlow_i15) unicode_utf8_decodeRuneInStringSlow_i54)
def unicode_utf8_decodeRuneInStringSlow_i56 : IR := (.seq (.reg false unicode_utf8_decodeRuneInStringSlow_i14) unicode_utf8_decodeRuneInStringSlow_i55)
def unicode_utf8_decodeRuneInStringSlow_i57 : IR := (.seq (.seq (.reg false unicode_utf8_decodeRuneInStringSlow_i8) unicode_utf8_decodeRuneInStringSlow_i13) unicode_utf8_decodeRuneInStringSlow_i56)
def unicode_utf8_decodeRuneInStringSlow_i58 : IR := (.seq (.reg false unicode_utf8_decodeRuneInStringSlow_i7) unicode_utf8_decodeRuneInStringSlow_i57)
def unicode_utf8_decodeRuneInStringSlow_i59 : IR := (.seq (.reg false unicode_utf8_decodeRuneInStringSlow_i6) unicode_utf8_decodeRuneInStringSlow_i58)
def unicode_utf8_decodeRuneInStringSlow_i60 : IR := (.seq (.seq (.reg false unicode_utf8_decodeRuneInStringSlow_i2) unicode_utf8_decodeRuneInStringSlow_i5) unicode_utf8_decodeRuneInStringSlow_i59)
def unicode_utf8_decodeRuneInStringSlow_i61 : IR := (.seq (.reg false unicode_utf8_decodeRuneInStringSlow_i1) unicode_utf8_decodeRuneInStringSlow_i60)
def unicode_utf8_decodeRuneInStringSlow_ir : IR := (.seq (.reg false unicode_utf8_decodeRuneInStringSlow_i0) unicode_utf8_decodeRuneInStringSlow_i61)
theorem unicode_utf8_decodeRuneInStringSlow_cfn : cFn Tryd.prog 44 = some (unicode_utf8_decodeRuneInStringSlow_ir, [(.t 2), (.t 3)], 117) := by kernel_rfl
def unicode_utf8_decodeRuneInStringSlow_V (r : (Int × Int)) : V := .tup [.s (.int .i32 r.1), .s (.int .i64 r.2)]
def unicode_utf8_decodeRuneInStringSlow_C (r : (Int × Int)) : X → Fr → Hp → Prop := FinL [(.t 2), (.t 3)] [] (unicode_utf8_decodeRuneInStringSlow_V r) []
theorem unicode_utf8_decodeRuneInStringSlow_ok (s_ : ByteArray) (r : (Int × Int)) (h : unicode_utf8_decodeRuneInStringSlow s_ = some r) : Pure Tryd.prog 44 [.s (.string s_)] (unicode_utf8_decodeRuneInStringSlow_V r) := by
  refine ConL.of unicode_utf8_decodeRuneInStringSlow_cfn (Nat.le_of_ble_eq_true (by kernel_rfl)) (Nat.le_of_ble_eq_true (by kernel_rfl)) ?_
  refine k_start ?_
  show dwv Tryd.prog [] unicode_utf8_decodeRuneInStringSlow_ir (kont Tryd.prog [] (unicode_utf8_decodeRuneInStringSlow_C r) []) (fr0 [.s (.string s_)]) []
  have hf : FOk (fr0 [.s (.string s_)]) [⟨0, [], .s (.string s_)⟩] := ⟨⟨fun _ => rfl, fun h => (h trivial).elim⟩, trivial⟩
  generalize fr0 [.s (.string s_)] = f at hf ⊢
  unfold unicode_utf8_decodeRuneInStringSlow at h
  refine k_seq ?_
  refine k_reg ?_
  refine mops_en hf (by kernel_rfl) fun f1 hf1 => ?_
  refine k_c ?_
  refine k_seq ?_
  refine k_reg ?_
  refine mops_en hf1 (by kernel_rfl) fun f2 hf2 => ?_
  refine k_c ?_
  refine k_seq ?_
  refine k_seq ?_
  refine k_reg ?_
  refine mops_en hf2 (by kernel_rfl) fun f3 hf3 => ?_
  refine k_c ?_
  refine k_cond hf3 (t := (decide ((sln s_) < 1))) (by kernel_rfl) (fun hc1 => ?_) (fun hc1 => ?_)
  · have h := if_t h hc1
    refine k_seq ?_
    refine k_reg ?_
    refine mops_en hf3 (by kernel_rfl) fun f4 hf4 => ?_
    refine k_c ?_
    refine k_ret ?_
    refine x_c nofun ?_
    obtain rfl := Option.some.inj h
    exact k_fin (fin_ret (.inl rfl) hf4 (vs := [.s (.int .i32 65533), .s (.int .i64 0)]) (by kernel_rfl) (SettL.pure (FzL.tup (FzsL.cons (FzL.stat rfl) (FzsL.cons (FzL.stat rfl) FzsL.nil)))))
  · have h := if_f h hc1
    cases h
def strings_Index_i0 : List Op1 := [(oM 4 (.k (.int .i64 0)) [])]
def strings_Index_i1 : List Op1 := [(oM 5 (.t 0) []), (oM 6 (.t 1) []), (oC 7 41 [(.t 5), (.t 6)] [0, 1]), (oM 4 (.t 7) [2, 2, 0, 1, 2])]
def strings_Index_i2 : IR := .ret
def strings_Index_i3 : IR := (.seq (.reg false strings_Index_i1) strings_Index_i2)
def strings_Index_ir : IR := (.seq (.reg false strings_Index_i0) strings_Index_i3)
theorem strings_Index_cfn : cFn Tryd.prog 33 = some (strings_Index_ir, [(.t 4)], 8) := by kernel_rfl
def strings_Index_V (r : (Int)) : V := .s (.int .i64 r)
def strings_Index_C (r : (Int)) : X → Fr → Hp → Prop := FinL [(.t 4)] [] (strings_Index_V r) []
theorem strings_Index_ok (s_ : ByteArray) (substr_ : ByteArray) (r : (Int)) (h : strings_Index s_ substr_ = some r) : Pure Tryd.prog 33 [.s (.string s_), .s (.string substr_)] (strings_Index_V r) := by
  refine ConL.of strings_Index_cfn (Nat.le_of_ble_eq_true (by kernel_rfl)) (Nat.le_of_ble_eq_true (by kernel_rfl)) ?_
  refine k_start ?_
  show dwv Tryd.prog [] strings_Index_ir (kont Tryd.prog [] (strings_Index_C r) []) (fr0 [.s (.string s_), .s (.string substr_)]) []
  have hf : FOk (fr0 [.s (.string s_), .s (.string substr_)]) [⟨0, [], .s (.string s_)⟩, ⟨1, [], .s (.string substr_)⟩] := ⟨⟨fun _ => rfl, fun h => (h trivial).elim⟩, ⟨fun _ => rfl, fun h => (h trivial).elim⟩, trivial⟩
  generalize fr0 [.s (.string s_), .s (.string substr_)] = f at hf ⊢
  unfold strings_Index at h
  refine k_seq ?_
  refine k_reg ?_
  refine mops_en hf (by kernel_rfl) fun f1 hf1 => ?_
  refine k_c ?_
  refine k_seq ?_
  refine k_reg ?_
  refine mops_sg 2 hf1 (by kernel_rfl) fun f2 hf2 => ?_
  obtain ⟨r_, hx_r_, h⟩ := Option.bind_eq_some_iff.1 h
  refine mops_call rfl hf2 (av := [.s (.string s_), .s (.string substr_)]) (by kernel_rfl) (v := .s (.int .i64 r_)) (CalL.pure (internal_stringslite_Index_ok s_ substr_ r_ hx_r_) rfl rfl (Nat.le_of_ble_eq_true (by kernel_rfl))) (fun _ => rfl) fun f3 hf3 => ?_
  refine mops_en hf3 (by kernel_rfl) fun f4 hf4 => ?_
  refine k_c ?_
  refine k_ret ?_
  obtain rfl := Option.some.inj h
  exact k_fin (fin_ret (.inl rfl) hf4 (vs := [.s (.int .i64 r_)]) (by kernel_rfl) (SettL.pure (FzL.stat rfl)))
def pins_levels_i0 : List Op1 := [(oE 1 (.box (.t 0)) []), (oE 2 (.zero [(.bool false), (.bool false), (.bool false), (.bool false), (.bool false), (.bool false)]) [])]
def pins_levels_i1 : List Op1 := [(oE 3 (.fld 0 (.t 1)) []), (oE 4 (.load false 1 (.t 3)) [0]), (oE 5 (.fld 1 (.t 1)) []), (oE 6 (.load false 1 (.t 5)) [2]), (oE 7 (.fld 2 (.t 1)) []), (oE 8 (.load false 1 (.t 7)) [4]), (oE 9 (.fld 3 (.t 1)) []), (oE 10 (.load false 1 (.t 9)) [6]), (oE 11 (.fld 4 (.t 1)) []), (oE 12 (.load false 1 (.t 11)) [8]), (oE 13 (.fld 5 (.t 1)) []), (oE 14 (.load false 1 (.t 13)) [10]), (oE 15 (.build [(.bool false), (.bool false), (.bool false), (.bool false), (.bool false), (.bool false)] [(0, (1, (.t 4))), (1, (1, (.t 6))), (2, (1, (.t 8))), (3, (1, (.t 10))), (4, (1, (.t 12))), (5, (1, (.t 14)))]) [1, 3, 5, 7, 9, 11]), (oN (.store 6 (.t 2) (.t 15)) [12, 0, 1, 2, 3, 4, 5, 6, 7, 8, 9, 10, 11, 12])]
def pins_levels_i2 : IR := .ret
def pins_levels_i3 : IR := (.seq (.reg false pins_levels_i1) pins_levels_i2)
def pins_levels_ir : IR := (.seq (.reg false pins_levels_i0) pins_levels_i3)
theorem pins_levels_cfn : cFn Tryd.prog 19 = some (pins_levels_ir, [(.c 2 true 6)], 16) := by kernel_rfl
def pins_levels_V (r : (A6_bool)) : V := .agg [.s (.bool r.a0), .s (.bool r.a1), .s (.bool r.a2), .s (.bool r.a3), .s (.bool r.a4), .s (.bool r.a5)]
def pins_levels_C (r : (A6_bool)) : X → Fr → Hp → Prop := FinL [(.c 2 true 6)] [] (pins_levels_V r) []
theorem pins_levels_ok (p_ : api_Pins) (r : (A6_bool)) (h : pins_levels p_ = some r) : Pure Tryd.prog 19 [.agg [.s (.bool p_.Reset), .s (.bool p_.Nmi), .s (.bool p_.Firq), .s (.bool p_.Irq), .s (.bool p_.Halt), .s (.bool p_.Req)]] (pins_levels_V r) := by
  refine ConL.of pins_levels_cfn (Nat.le_of_ble_eq_true (by kernel_rfl)) (Nat.le_of_ble_eq_true (by kernel_rfl)) ?_
  refine k_start ?_
  show dwv Tryd.prog [] pins_levels_ir (kont Tryd.prog [] (pins_levels_C r) []) (fr0 [.agg [.s (.bool p_.Reset), .s (.bool p_.Nmi), .s (.bool p_.Firq), .s (.bool p_.Irq), .s (.bool p_.Halt), .s (.bool p_.Req)]]) []
  have hf : FOk (fr0 [.agg [.s (.bool p_.Reset), .s (.bool p_.Nmi), .s (.bool p_.Firq), .s (.bool p_.Irq), .s (.bool p_.Halt), .s (.bool p_.Req)]]) [⟨0, [], .agg [.s (.bool p_.Reset), .s (.bool p_.Nmi), .s (.bool p_.Firq), .s (.bool p_.Irq), .s (.bool p_.Halt), .s (.bool p_.Req)]⟩] := ⟨⟨fun _ => rfl, fun h => (h trivial).elim⟩, trivial⟩
  generalize fr0 [.agg [.s (.bool p_.Reset), .s (.bool p_.Nmi), .s (.bool p_.Firq), .s (.bool p_.Irq), .s (.bool p_.Halt), .s (.bool p_.Req)]] = f at hf ⊢
  unfold pins_levels at h
  refine k_seq ?_
  refine k_reg ?_
  refine mops_en hf (by kernel_rfl) fun f1 hf1 => ?_
  refine k_c ?_
  refine k_seq ?_
  refine k_reg ?_
  refine mops_en hf1 (by kernel_rfl) fun f2 hf2 => ?_
  refine k_c ?_
  refine k_ret ?_
  obtain rfl := Option.some.inj h
  exact k_fin (fin_ret (.inl rfl) hf2 (vs := [.agg [.s (.bool p_.Reset), .s (.bool p_.Nmi), .s (.bool p_.Firq), .s (.bool p_.Irq), .s (.bool p_.Halt), .s (.bool p_.Req)]]) (by kernel_rfl) (SettL.pure (FzL.stat rfl)))
def strings_IndexByte_i0 : List Op1 := [(oM 4 (.k (.int .i64 0)) [])]
def strings_IndexByte_i1 : List Op1 := [(oM 5 (.t 0) []), (oM 6 (.t 1) []), (oC 7 26 [(.t 5), (.t 6)] [0, 1]), (oM 4 (.t 7) [2, 2, 0, 1, 2])]
def strings_IndexByte_i2 : IR := .ret
def strings_IndexByte_i3 : IR := (.seq (.reg false strings_IndexByte_i1) strings_IndexByte_i2)
def strings_IndexByte_ir : IR := (.seq (.reg false strings_IndexByte_i0) strings_IndexByte_i3)
theorem strings_IndexByte_cfn : cFn Tryd.prog 18 = some (strings_IndexByte_ir, [(.t 4)], 8) := by kernel_rfl
def strings_IndexByte_V (r : (Int)) : V := .s (.int .i64 r)
def strings_IndexByte_C (r : (Int)) : X → Fr → Hp → Prop := FinL [(.t 4)] [] (strings_IndexByte_V r) []
theorem strings_IndexByte_ok (s_ : ByteArray) (c_ : Int) (r : (Int)) (h : strings_IndexByte s_ c_ = some r) : Pure Tryd.prog 18 [.s (.string s_), .s (.int .u8 c_)] (strings_IndexByte_V r) := by
  refine ConL.of strings_IndexByte_cfn (Nat.le_of_ble_eq_true (by kernel_rfl)) (Nat.le_of_ble_eq_true (by kernel_rfl)) ?_
  refine k_start ?_
  show dwv Tryd.prog [] strings_IndexByte_ir (kont Tryd.prog [] (strings_IndexByte_C r) []) (fr0 [.s (.string s_), .s (.int .u8 c_)]) []
  have hf : FOk (fr0 [.s (.string s_), .s (.int .u8 c_)]) [⟨0, [], .s (.string s_)⟩, ⟨1, [], .s (.int .u8 c_)⟩] := ⟨⟨fun _ => rfl, fun h => (h trivial).elim⟩, ⟨fun _ => rfl, fun h => (h trivial).elim⟩, trivial⟩
  generalize fr0 [.s (.string s_), .s (.int .u8 c_)] = f at hf ⊢
  unfold strings_IndexByte at h
  refine k_seq ?_
  refine k_reg ?_
  refine mops_en hf (by kernel_rfl) fun f1 hf1 => ?_
  refine k_c ?_
  refine k_seq ?_
  refine k_reg ?_
  refine mops_sg 2 hf1 (by kernel_rfl) fun f2 hf2 => ?_
  obtain ⟨r_, hx_r_, h⟩ := Option.bind_eq_some_iff.1 h
  refine mops_call rfl hf2 (av := [.s (.string s_), .s (.int .u8 c_)]) (by kernel_rfl) (v := .s (.int .i64 r_)) (CalL.pure (internal_stringslite_IndexByte_ok s_ c_ r_ hx_r_) rfl rfl (Nat.le_of_ble_eq_true (by kernel_rfl))) (fun _ => rfl) fun f3 hf3 => ?_
  refine mops_en hf3 (by kernel_rfl) fun f4 hf4 => ?_
  refine k_c ?_
  refine k_ret ?_
  obtain rfl := Option.some.inj h
  exact k_fin (fin_ret (.inl rfl) hf4 (vs := [.s (.int .i64 r_)]) (by kernel_rfl) (SettL.pure (FzL.stat rfl)))
def internal_stringslite_Cut_i0 : List Op1 := [(oM 4 (.k (.string ⟨#[]⟩)) []), (oM 5 (.k (.string ⟨#[]⟩)) [0]), (oM 6 (.k (.bool false)) [1])]
def internal_stringslite_Cut_i1 : List Op1 := [(oM 8 (.t 0) []), (oM 9 (.t 1) []), (oC 10 41 [(.t 8), (.t 9)] [0, 1]), (oM 7 (.t 10) [2, 2, 0, 1, 2])]
def internal_stringslite_Cut_i2 : List Op1 := [(oM 11 (.t 7) []), (oE 12 (.bin .geq (.t 11) (.k (.int .i64 0))) [0])]
def internal_stringslite_Cut_i3 : List Op1 := [(oM 13 (.t 0) []), (oM 14 (.t 7) []), (oE 15 (.sstr (.t 13) none (some (.t 14))) [0, 1]), (oM 16 (.t 0) []), (oM 17 (.t 7) []), (oM 18 (.t 1) []), (oE 19 (.lens (.t 18)) [5]), (oE 20 (.bin .add (.t 17) (.t 19)) [4, 6]), (oE 21 (.sstr (.t 16) (some (.t 20)) none) [3, 7]), (oM 4 (.t 15) [2, 0, 1, 2]), (oM 5 (.t 21) [8, 9, 0, 1, 2, 3, 4, 5, 6, 7, 8, 9]), (oM 6 (.k (.bool true)) [10, 0, 1, 2, 3, 4, 5, 6, 7, 8, 9, 10])]
def internal_stringslite_Cut_i4 : IR := .ret
def internal_stringslite_Cut_i5 : IR := (.cond (.t 12) (.seq (.reg true internal_stringslite_Cut_i3) internal_stringslite_Cut_i4) .skip)
def internal_stringslite_Cut_i6 : IR := (.seq (.reg false internal_stringslite_Cut_i2) internal_stringslite_Cut_i5)
def internal_stringslite_Cut_i7 : List Op1 := [(oM 22 (.t 0) []), (oM 4 (.t 22) [0, 0]), (oM 5 (.k (.string ⟨#[]⟩)) [1, 0, 1]), (oM 6 (.k (.bool false)) [2, 0, 1, 2])]
def internal_stringslite_Cut_i8 : IR := .ret
def internal_stringslite_Cut_i9 : IR := (.seq (.reg false internal_stringslite_Cut_i7) internal_stringslite_Cut_i8)
def internal_stringslite_Cut_i10 : IR := (.seq (.seq (.reg false internal_stringslite_Cut_i1) internal_stringslite_Cut_i6) internal_stringslite_Cut_i9)
def internal_stringslite_Cut_ir : IR := (.seq (.reg false internal_stringslite_Cut_i0) internal_stringslite_Cut_i10)
theorem internal_stringslite_Cut_cfn : cFn Tryd.prog 34 = some (internal_stringslite_Cut_ir, [(.t 4), (.t 5), (.t 6)], 23) := by kernel_rfl
def internal_stringslite_Cut_V (r : (ByteArray × ByteArray × Bool)) : V := .tup [.s (.string r.1), .s (.string r.2.1), .s (.bool r.2.2)]
def internal_stringslite_Cut_C (r : (ByteArray × ByteArray × Bool)) : X → Fr → Hp → Prop := FinL [(.t 4), (.t 5), (.t 6)] [] (internal_stringslite_Cut_V r) []
theorem internal_stringslite_Cut_ok (s_ : ByteArray) (sep_ : ByteArray) (r : (ByteArray × ByteArray × Bool)) (h : internal_stringslite_Cut s_ sep_ = some r) : Pure Tryd.prog 34 [.s (.string s_), .s (.string sep_)] (internal_stringslite_Cut_V r) := by
  refine ConL.of internal_stringslite_Cut_cfn (Nat.le_of_ble_eq_true (by kernel_rfl)) (Nat.le_of_ble_eq_true (by kernel_rfl)) ?_
  refine k_start ?_
  show dwv Tryd.prog [] internal_stringslite_Cut_ir (kont Tryd.prog [] (internal_stringslite_Cut_C r) []) (fr0 [.s (.string s_), .s (.string sep_)]) []
  have hf : FOk (fr0 [.s (.string s_), .s (.string sep_)]) [⟨0, [], .s (.string s_)⟩, ⟨1, [], .s (.string sep_)⟩] := ⟨⟨fun _ => rfl, fun h => (h trivial).elim⟩, ⟨fun _ => rfl, fun h => (h trivial).elim⟩, trivial⟩
  generalize fr0 [.s (.string s_), .s (.string sep_)] = f at hf ⊢
  unfold internal_stringslite_Cut at h
  refine k_seq ?_
  refine k_reg ?_
  refine mops_en hf (by kernel_rfl) fun f1 hf1 => ?_
  refine k_c ?_
  refine k_seq ?_
  refine k_seq ?_
  refine k_reg ?_
  refine mops_sg 2 hf1 (by kernel_rfl) fun f2 hf2 => ?_
  obtain ⟨r_, hx_r_, h⟩ := Option.bind_eq_some_iff.1 h
  refine mops_call rfl hf2 (av := [.s (.string s_), .s (.string sep_)]) (by kernel_rfl) (v := .s (.int .i64 r_)) (CalL.pure (internal_stringslite_Index_ok s_ sep_ r_ hx_r_) rfl rfl (Nat.le_of_ble_eq_true (by kernel_rfl))) (fun _ => rfl) fun f3 hf3 => ?_
  refine mops_en hf3 (by kernel_rfl) fun f4 hf4 => ?_
  refine k_c ?_
  refine k_seq ?_
  refine k_reg ?_
  refine mops_en hf4 (by kernel_rfl) fun f5 hf5 => ?_
  refine k_c ?_
  refine k_cond hf5 (t := (decide (0 ≤ r_))) (by kernel_rfl) (fun hc1 => ?_) (fun hc1 => ?_)
  · have h := if_t h hc1
    refine k_seq ?_
    refine k_regq ?_
    refine mops_sg 2 hf5 (by kernel_rfl) fun f6 hf6 => ?_
    obtain ⟨c2, h⟩ := as_ok h
    refine mops_adv rfl (v := .s (.string (s_.extract 0 (r_ : Int).toNat))) hf6 (by kernel_rfl) (e_sstr (t := s_) (by kernel_rfl) (b_ns (k := .i64) (iv := r_) (by kernel_rfl) c2)) fun f7 hf7 => ?_
    refine mops_sg 5 hf7 (by kernel_rfl) fun f8 hf8 => ?_
    obtain ⟨c3, h⟩ := as_ok h
    refine mops_adv rfl (v := .s (.string (s_.extract ((IntKind.wrap .i64 (r_ + (sln sep_))) : Int).toNat s_.size))) hf8 (by kernel_rfl) (e_sstr (t := s_) (by kernel_rfl) (b_sn (k := .i64) (iv := (IntKind.wrap .i64 (r_ + (sln sep_)))) (by kernel_rfl) c3)) fun f9 hf9 => ?_
    refine mops_en hf9 (by kernel_rfl) fun f10 hf10 => ?_
    refine k_c ?_
    refine k_ret ?_
    refine x_c nofun ?_
    obtain rfl := Option.some.inj h
    exact k_fin (fin_ret (.inl rfl) hf10 (vs := [.s (.string (s_.extract 0 (r_ : Int).toNat)), .s (.string (s_.extract ((IntKind.wrap .i64 (r_ + (sln sep_))) : Int).toNat s_.size)), .s (.bool true)]) (by kernel_rfl) (SettL.pure (FzL.tup (FzsL.cons (FzL.stat rfl) (FzsL.cons (FzL.stat rfl) (FzsL.cons (FzL.stat rfl) FzsL.nil))))))
  · have h := if_f h hc1
    refine k_skip ?_
    refine k_c ?_
    refine k_seq ?_
    refine k_reg ?_
    refine mops_en hf5 (by kernel_rfl) fun f6 hf6 => ?_
    refine k_c ?_
    refine k_ret ?_
    obtain rfl := Option.some.inj h
    exact k_fin (fin_ret (.inl rfl) hf6 (vs := [.s (.string s_), .s (.string (⟨#[]⟩ : ByteArray)), .s (.bool false)]) (by kernel_rfl) (SettL.pure (FzL.tup (FzsL.cons (FzL.stat rfl) (FzsL.cons (FzL.stat rfl) (FzsL.cons (FzL.stat rfl) FzsL.nil))))))
def pins_count_i0 : List Op1 := [(oM 2 (.k (.int .i64 0)) []), (oM 3 (.k (.bool false)) [0])]
def pins_count_i1 : List Op1 := [(oM 4 (.k (.int .i64 0)) [])]
def pins_count_i2 : List Op1 := [(oM 6 (.t 0) []), (oE 7 (.lens (.t 6)) [0]), (oM 8 (.k (.int .i64 0)) [])]
def pins_count_i3 : List Op1 := [(oE 9 (.bin .lss (.t 8) (.t 7)) [])]
def pins_count_i4 : List Op1 := [(oM 10 (.t 8) []), (oM 5 (.t 10) [0, 0])]
def pins_count_i5 : List Op1 := [(oM 11 (.t 0) []), (oM 12 (.t 5) []), (oE 13 (.ixs (.t 11) (.t 12)) [0, 1]), (oE 14 (.bin .lss (.t 13) (.k (.int .u8 48))) [2]), (oM 15 (.t 14) [3]), (oG 16 (.mv (.t 0)) 15 false [4]), (oG 17 (.mv (.t 5)) 15 false [4]), (oG 18 (.ixs (.t 16) (.t 17)) 15 false [5, 6, 4]), (oG 19 (.bin .gtr (.t 18) (.k (.int .u8 57))) 15 false [7, 4]), (oE 20 (.pick (.t 15) (.k (.bool true)) (.t 19)) [4, 8])]
def pins_count_i6 : List Op1 := [(oM 2 (.k (.int .i64 0)) []), (oM 3 (.k (.bool false)) [0, 0])]
def pins_count_i7 : IR := .ret
def pins_count_i8 : IR := (.cond (.t 20) (.seq (.reg false pins_count_i6) pins_count_i7) .skip)
def pins_count_i9 : List Op1 := [(oM 21 (.t 4) []), (oE 22 (.bin .mul (.k (.int .i64 10)) (.t 21)) [0]), (oM 23 (.t 0) []), (oM 24 (.t 5) []), (oE 25 (.ixs (.t 23) (.t 24)) [2, 3]), (oE 26 (.bin .sub (.t 25) (.k (.int .u8 48))) [4]), (oE 27 (.cint .i64 (.t 26)) [5]), (oE 28 (.bin .add (.t 22) (.t 27)) [1, 6]), (oE 29 (.mnx false (.t 28) (.k (.int .i64 4097))) [7]), (oM 4 (.t 29) [8, 0, 1, 2, 3, 4, 5, 6, 7, 8])]
def pins_count_i10 : IR := (.reg false pins_count_i9)
def pins_count_i11 : IR := (.seq (.seq (.reg false pins_count_i5) pins_count_i8) pins_count_i10)
def pins_count_i12 : List Op1 := [(oE 30 (.bin .add (.t 8) (.k (.int .i64 1))) []), (oM 8 (.t 30) [0])]
def pins_count_i13 : IR := (.reg false pins_count_i12)
def pins_count_i14 : IR := (.seq (.block 1 (.seq (.reg false pins_count_i4) pins_count_i11)) pins_count_i13)
def pins_count_i15 : IR := (.seq (.cond (.t 9) .skip (.exit 0)) pins_count_i14)
def pins_count_i16 : IR := (.seq (.reg false pins_count_i3) pins_count_i15)
def pins_count_i17 : IR := (.block 0 (.loop pins_count_i16))
def pins_count_i18 : List Op1 := [(oM 31 (.t 4) []), (oM 32 (.t 0) []), (oE 33 (.bin .neq (.t 32) (.k (.string ⟨#[]⟩))) [1]), (oM 2 (.t 31) [0, 0]), (oM 3 (.t 33) [2, 3, 0, 1, 2, 3])]
def pins_count_i19 : IR := .ret
def pins_count_i20 : IR := (.seq (.reg false pins_count_i18) pins_count_i19)
def pins_count_i21 : IR := (.seq (.seq (.reg false pins_count_i2) pins_count_i17) pins_count_i20)
def pins_count_i22 : IR := (.seq (.reg false pins_count_i1) pins_count_i21)
def pins_count_ir : IR := (.seq (.reg false pins_count_i0) pins_count_i22)
theorem pins_count_cfn : cFn Tryd.prog 25 = some (pins_count_ir, [(.t 2), (.t 3)], 34) := by kernel_rfl
def pins_count_V (r : (Int × Bool)) : V := .tup [.s (.int .i64 r.1), .s (.bool r.2)]
def pins_count_C (r : (Int × Bool)) : X → Fr → Hp → Prop := FinL [(.t 2), (.t 3)] [] (pins_count_V r) []
theorem pins_count_ok (s_ : ByteArray) (r : (Int × Bool)) (h : pins_count s_ = some r) : Pure Tryd.prog 25 [.s (.string s_)] (pins_count_V r) := by
  refine ConL.of pins_count_cfn (Nat.le_of_ble_eq_true (by kernel_rfl)) (Nat.le_of_ble_eq_true (by kernel_rfl)) ?_
  refine k_start ?_
  show dwv Tryd.prog [] pins_count_ir (kont Tryd.prog [] (pins_count_C r) []) (fr0 [.s (.string s_)]) []
  have hf : FOk (fr0 [.s (.string s_)]) [⟨0, [], .s (.string s_)⟩] := ⟨⟨fun _ => rfl, fun h => (h trivial).elim⟩, trivial⟩
  generalize fr0 [.s (.string s_)] = f at hf ⊢
  unfold pins_count at h
  refine k_seq ?_
  refine k_reg ?_
  refine mops_en hf (by kernel_rfl) fun f1 hf1 => ?_
  refine k_c ?_
  refine k_seq ?_
  refine k_reg ?_
  refine mops_en hf1 (by kernel_rfl) fun f2 hf2 => ?_
  refine k_c ?_
  refine k_seq ?_
  refine k_seq ?_
  refine k_reg ?_
  refine mops_en hf2 (by kernel_rfl) fun f3 hf3 => ?_
  refine k_c ?_
  refine k_block ?_
  obtain ⟨o0, hx0, h⟩ := Option.bind_eq_some_iff.1 h
  have hret0 : ∀ r0, .ret r0 = o0 → r0 = r := fun r0 e => by subst e; exact Option.some.inj h
  have hgo0 : ∀ (n_2 : Int), .go n_2 = o0 → ∀ f, FOk f [⟨0, [], .s (.string s_)⟩, ⟨2, [], .s (.int .i64 0)⟩, ⟨3, [], .s (.bool false)⟩, ⟨4, [], .s (.int .i64 n_2)⟩] → kont Tryd.prog [] (pins_count_C r) ((.c pins_count_i20) :: []) .normal f [] := by
    intro n_2 e f hf
    subst e
    refine k_c ?_
    refine k_seq ?_
    refine k_reg ?_
    refine mops_en hf (by kernel_rfl) fun f1 hf1 => ?_
    refine k_c ?_
    refine k_ret ?_
    obtain rfl := Option.some.inj h
    exact k_fin (fin_ret (.inl rfl) hf1 (vs := [.s (.int .i64 n_2), .s (.bool (!(s_.toList == (⟨#[]⟩ : ByteArray).toList)))]) (by kernel_rfl) (SettL.pure (FzL.tup (FzsL.cons (FzL.stat rfl) (FzsL.cons (FzL.stat rfl) FzsL.nil)))))
  refine k_loop BIG ?_
  refine loop_ind (fun n f L => ∃ (n_1 : Int) (t_1 : Int), pins_count_l0 s_ n n_1 t_1 = some o0 ∧ FOk f [⟨0, [], .s (.string s_)⟩, ⟨2, [], .s (.int .i64 0)⟩, ⟨3, [], .s (.bool false)⟩, ⟨4, [], .s (.int .i64 n_1)⟩, ⟨7, [], .s (.int .i64 (sln s_))⟩, ⟨8, [], .s (.int .i64 t_1)⟩] ∧ L = []) ?_ ?_ BIG _ _ ⟨(0), (0), hx0, FOk_of [0, 2, 3, 4, 7, 8] hf3 (by kernel_rfl), (by kernel_rfl)⟩
  · rintro f L ⟨n_1, t_1, h, _⟩
    cases (show (none : Option _) = some _ from h)
  · rintro n0 R0 ih f L ⟨n_1, t_1, h, hf, rfl⟩
    rw [pins_count_l0] at h
    refine k_seq ?_
    refine k_reg ?_
    refine mops_en hf (by kernel_rfl) fun f1 hf1 => ?_
    refine k_c ?_
    refine k_seq ?_
    refine k_cond hf1 (t := (decide (t_1 < (sln s_)))) (by kernel_rfl) (fun hc1 => ?_) (fun hc1 => ?_)
    · have h := if_t h hc1
      refine k_skip ?_
      refine k_c ?_
      refine k_seq ?_
      refine k_block ?_
      refine k_seq ?_
      refine k_reg ?_
      refine mops_en hf1 (by kernel_rfl) fun f2 hf2 => ?_
      refine k_c ?_
      refine k_seq ?_
      refine k_seq ?_
      refine k_reg ?_
      refine mops_sg 2 hf2 (by kernel_rfl) fun f3 hf3 => ?_
      obtain ⟨c2, h⟩ := as_ok h
      refine mops_adv rfl (v := .s (.int .u8 (bt s_ t_1))) hf3 (by kernel_rfl) (e_ixs (t := s_) (k := .i64) (iv := t_1) (by kernel_rfl) (by kernel_rfl) c2) fun f4 hf4 => ?_
      refine mops_sg 4 hf4 (by kernel_rfl) fun f5 hf5 => ?_
      obtain ⟨c3, h⟩ := as_ok h
      refine mops_gadv (dst := (some 18)) (op := (.ixs (.t 16) (.t 17))) (aft := [5, 6, 4]) (t := 15) (w := false) (ch := [(15, false)]) (b := (!(decide ((bt s_ t_1) < 48)))) (v := .s (.int .u8 (bt s_ t_1))) (by kernel_rfl) hf5 (by kernel_rfl) (by kernel_rfl) (by kernel_rfl) (fun hb4 => e_ixs (t := s_) (k := .i64) (iv := t_1) (by kernel_rfl) (by kernel_rfl) (c3 hb4)) fun f6 hf6 => ?_
      refine mops_en hf6 (by kernel_rfl) fun f7 hf7 => ?_
      refine k_c ?_
      refine k_cond hf7 (t := ((decide ((bt s_ t_1) < 48)) || (decide (57 < (bt s_ t_1))))) (by kernel_rfl) (fun hc5 => ?_) (fun hc5 => ?_)
      · have h := if_t h hc5
        refine k_seq ?_
        refine k_reg ?_
        refine mops_en hf7 (by kernel_rfl) fun f8 hf8 => ?_
        refine k_c ?_
        refine k_ret ?_
        refine x_c nofun ?_
        refine x_br ?_
        refine x_c nofun ?_
        refine x_l nofun ?_
        refine x_br ?_
        refine x_c nofun ?_
        obtain rfl := hret0 _ (Option.some.inj h)
        exact k_fin (fin_ret (.inl rfl) hf8 (vs := [.s (.int .i64 0), .s (.bool false)]) (by kernel_rfl) (SettL.pure (FzL.tup (FzsL.cons (FzL.stat rfl) (FzsL.cons (FzL.stat rfl) FzsL.nil)))))
      · have h := if_f h hc5
        refine k_skip ?_
        refine k_c ?_
        refine k_reg ?_
        refine mops_sg 4 hf7 (by kernel_rfl) fun f8 hf8 => ?_
        obtain ⟨c6, h⟩ := as_ok h
        refine mops_adv rfl (v := .s (.int .u8 (bt s_ t_1))) hf8 (by kernel_rfl) (e_ixs (t := s_) (k := .i64) (iv := t_1) (by kernel_rfl) (by kernel_rfl) c6) fun f9 hf9 => ?_
        refine mops_en hf9 (by kernel_rfl) fun f10 hf10 => ?_
        refine k_b ?_
        refine k_c ?_
        refine k_reg ?_
        refine mops_en hf10 (by kernel_rfl) fun f11 hf11 => ?_
        refine k_l ?_
        exact ih _ _ ⟨(if 4097 < (IntKind.wrap .i64 ((IntKind.wrap .i64 (10 * n_1)) + (IntKind.wrap .i64 (IntKind.wrap .u8 ((bt s_ t_1) - 48))))) then 4097 else (IntKind.wrap .i64 ((IntKind.wrap .i64 (10 * n_1)) + (IntKind.wrap .i64 (IntKind.wrap .u8 ((bt s_ t_1) - 48)))))), (IntKind.wrap .i64 (t_1 + 1)), h, FOk_of [0, 2, 3, 4, 7, 8] hf11 (by kernel_rfl), (by kernel_rfl)⟩
    · have h := if_f h hc1
      refine k_exit ?_
      refine x_c nofun ?_
      refine x_l nofun ?_
      refine x_b ?_
      refine k_hp (L' := []) (by kernel_rfl) ?_
      exact hgo0 n_1 (Option.some.inj h) _ (FOk_of [0, 2, 3, 4] hf1 (by kernel_rfl))
def spinetref31_Word_i0 : List Op1 := [(oE 1 (.box (.t 0)) []), (oM 2 (.k (.string ⟨#[]⟩)) [])]
def spinetref31_Word_i1 : List Op1 := [(oE 6 (.fld 0 (.t 1)) []), (oE 7 (.load false 1 (.t 6)) [0]), (oE 8 (.fld 1 (.t 1)) []), (oE 9 (.load false 1 (.t 8)) [2]), (oE 10 (.fld 2 (.t 1)) []), (oE 11 (.load false 1 (.t 10)) [4]), (oE 12 (.fld 3 (.t 1)) []), (oE 13 (.load false 1 (.t 12)) [6]), (oE 14 (.fld 4 (.t 1)) []), (oE 15 (.load false 1 (.t 14)) [8]), (oE 16 (.fld 5 (.t 1)) []), (oE 17 (.load false 1 (.t 16)) [10]), (oE 18 (.build [(.bool false), (.bool false), (.bool false), (.bool false), (.bool false), (.bool false)] [(0, (1, (.t 7))), (1, (1, (.t 9))), (2, (1, (.t 11))), (3, (1, (.t 13))), (4, (1, (.t 15))), (5, (1, (.t 17)))]) [1, 3, 5, 7, 9, 11]), (oE 3 (.zero [(.bool false), (.bool false), (.bool false), (.bool false), (.bool false), (.bool false)]) []), (oN (.store 6 (.t 3) (.t 18)) [13, 12, 0, 1, 2, 3, 4, 5, 6, 7, 8, 9, 10, 11, 12, 13])]
def spinetref31_Word_i2 : List Op1 := [(oM 4 (.k (.string ⟨#[]⟩)) [])]
def spinetref31_Word_i3 : List Op1 := [(oM 5 (.k (.int .i64 0)) [])]
def spinetref31_Word_i4 : List Op1 := [(oM 19 (.t 5) []), (oE 20 (.bin .lss (.t 19) (.k (.int .i64 6))) [0])]
def spinetref31_Word_i5 : IR := (.cond (.t 20) .skip (.exit 0))
def spinetref31_Word_i6 : List Op1 := [(oM 23 (.t 5) []), (oE 24 (.iaa 6 1 (.t 3) (.t 23)) [0]), (oE 25 (.load false 1 (.t 24)) [1])]
def spinetref31_Word_i7 : List Op1 := [(oM 26 (.t 4) []), (oM 27 (.t 5) []), (oM 28 (.t 5) []), (oE 29 (.bin .add (.t 28) (.k (.int .i64 1))) [2]), (oE 30 (.sstr (.k (.string ⟨#[82, 78, 70, 73, 72, 81]⟩)) (some (.t 27)) (some (.t 29))) [1, 3]), (oE 31 (.bin .add (.t 26) (.t 30)) [0, 4]), (oM 4 (.t 31) [5, 0, 1, 2, 3, 4, 5])]
def spinetref31_Word_i8 : IR := (.cond (.t 25) (.reg false spinetref31_Word_i7) .skip)
def spinetref31_Word_i9 : List Op1 := [(oM 21 (.t 5) []), (oE 22 (.bin .add (.t 21) (.k (.int .i64 1))) [0]), (oM 5 (.t 22) [1, 0, 1])]
def spinetref31_Word_i10 : IR := (.reg false spinetref31_Word_i9)
def spinetref31_Word_i11 : IR := (.seq (.block 1 (.seq (.reg false spinetref31_Word_i6) spinetref31_Word_i8)) spinetref31_Word_i10)
def spinetref31_Word_i12 : IR := (.seq (.seq (.reg false spinetref31_Word_i4) spinetref31_Word_i5) spinetref31_Word_i11)
def spinetref31_Word_i13 : IR := (.block 0 (.loop spinetref31_Word_i12))
def spinetref31_Word_i14 : List Op1 := [(oM 32 (.t 4) []), (oE 33 (.bin .eql (.t 32) (.k (.string ⟨#[]⟩))) [0])]
def spinetref31_Word_i15 : List Op1 := [(oM 2 (.k (.string ⟨#[46]⟩)) [])]
def spinetref31_Word_i16 : IR := .ret
def spinetref31_Word_i17 : IR := (.cond (.t 33) (.seq (.reg false spinetref31_Word_i15) spinetref31_Word_i16) .skip)
def spinetref31_Word_i18 : List Op1 := [(oM 34 (.t 4) []), (oM 2 (.t 34) [0, 0])]
def spinetref31_Word_i19 : IR := .ret
def spinetref31_Word_i20 : IR := (.seq (.reg false spinetref31_Word_i18) spinetref31_Word_i19)
def spinetref31_Word_i21 : IR := (.seq (.seq (.reg false spinetref31_Word_i14) spinetref31_Word_i17) spinetref31_Word_i20)
def spinetref31_Word_i22 : IR := (.seq (.seq (.reg false spinetref31_Word_i3) spinetref31_Word_i13) spinetref31_Word_i21)
def spinetref31_Word_i23 : IR := (.seq (.reg false spinetref31_Word_i2) spinetref31_Word_i22)
def spinetref31_Word_i24 : IR := (.seq (.reg false spinetref31_Word_i1) spinetref31_Word_i23)
def spinetref31_Word_ir : IR := (.seq (.reg false spinetref31_Word_i0) spinetref31_Word_i24)
theorem spinetref31_Word_cfn : cFn Tryd.prog 12 = some (spinetref31_Word_ir, [(.t 2)], 35) := by kernel_rfl
def spinetref31_Word_V (r : (ByteArray)) : V := .s (.string r)
def spinetref31_Word_C (r : (ByteArray)) : X → Fr → Hp → Prop := FinL [(.t 2)] [] (spinetref31_Word_V r) []
theorem spinetref31_Word_ok (p_ : api_Pins) (r : (ByteArray)) (h : spinetref31_Word p_ = some r) : Pure Tryd.prog 12 [.agg [.s (.bool p_.Reset), .s (.bool p_.Nmi), .s (.bool p_.Firq), .s (.bool p_.Irq), .s (.bool p_.Halt), .s (.bool p_.Req)]] (spinetref31_Word_V r) := by
  refine ConL.of spinetref31_Word_cfn (Nat.le_of_ble_eq_true (by kernel_rfl)) (Nat.le_of_ble_eq_true (by kernel_rfl)) ?_
  refine k_start ?_
  show dwv Tryd.prog [] spinetref31_Word_ir (kont Tryd.prog [] (spinetref31_Word_C r) []) (fr0 [.agg [.s (.bool p_.Reset), .s (.bool p_.Nmi), .s (.bool p_.Firq), .s (.bool p_.Irq), .s (.bool p_.Halt), .s (.bool p_.Req)]]) []
  have hf : FOk (fr0 [.agg [.s (.bool p_.Reset), .s (.bool p_.Nmi), .s (.bool p_.Firq), .s (.bool p_.Irq), .s (.bool p_.Halt), .s (.bool p_.Req)]]) [⟨0, [], .agg [.s (.bool p_.Reset), .s (.bool p_.Nmi), .s (.bool p_.Firq), .s (.bool p_.Irq), .s (.bool p_.Halt), .s (.bool p_.Req)]⟩] := ⟨⟨fun _ => rfl, fun h => (h trivial).elim⟩, trivial⟩
  generalize fr0 [.agg [.s (.bool p_.Reset), .s (.bool p_.Nmi), .s (.bool p_.Firq), .s (.bool p_.Irq), .s (.bool p_.Halt), .s (.bool p_.Req)]] = f at hf ⊢
  unfold spinetref31_Word at h
  refine k_seq ?_
  refine k_reg ?_
  refine mops_en hf (by kernel_rfl) fun f1 hf1 => ?_
  refine k_c ?_
  refine k_seq ?_
  refine k_reg ?_
  refine mops_en hf1 (by kernel_rfl) fun f2 hf2 => ?_
  refine k_c ?_
  refine k_seq ?_
  refine k_reg ?_
  refine mops_en hf2 (by kernel_rfl) fun f3 hf3 => ?_
  refine k_c ?_
  refine k_seq ?_
  refine k_seq ?_
  refine k_reg ?_
  refine mops_en hf3 (by kernel_rfl) fun f4 hf4 => ?_
  refine k_c ?_
  refine k_block ?_
  obtain ⟨o0, hx0, h⟩ := Option.bind_eq_some_iff.1 h
  have hgo0 : ∀ (s_3 : ByteArray), s_3 = o0 → ∀ f, FOk f [⟨2, [], .s (.string (⟨#[]⟩ : ByteArray))⟩, ⟨4, [], .s (.string s_3)⟩] → kont Tryd.prog [] (spinetref31_Word_C r) ((.c spinetref31_Word_i21) :: []) .normal f [⟨0, .mem, 1, [.s (.bool p_.Reset), .s (.bool p_.Nmi), .s (.bool p_.Firq), .s (.bool p_.Irq), .s (.bool p_.Halt), .s (.bool p_.Req)]⟩, ⟨0, .mem, 1, cat nB [p_.Reset, p_.Nmi, p_.Firq, p_.Irq, p_.Halt, p_.Req]⟩] := by
    intro s_3 e f hf
    subst e
    refine k_c ?_
    refine k_seq ?_
    refine k_seq ?_
    refine k_reg ?_
    refine mops_en hf (by kernel_rfl) fun f1 hf1 => ?_
    refine k_c ?_
    refine k_cond hf1 (t := (s_3.toList == (⟨#[]⟩ : ByteArray).toList)) (by kernel_rfl) (fun hc6 => ?_) (fun hc6 => ?_)
    · have h := if_t h hc6
      refine k_seq ?_
      refine k_reg ?_
      refine mops_en hf1 (by kernel_rfl) fun f2 hf2 => ?_
      refine k_c ?_
      refine k_ret ?_
      refine x_c nofun ?_
      obtain rfl := Option.some.inj h
      exact k_fin (fin_ret (.inl rfl) hf2 (vs := [.s (.string (⟨#[46]⟩ : ByteArray))]) (by kernel_rfl) (SettL.pure (FzL.stat rfl)))
    · have h := if_f h hc6
      refine k_skip ?_
      refine k_c ?_
      refine k_seq ?_
      refine k_reg ?_
      refine mops_en hf1 (by kernel_rfl) fun f2 hf2 => ?_
      refine k_c ?_
      refine k_ret ?_
      obtain rfl := Option.some.inj h
      exact k_fin (fin_ret (.inl rfl) hf2 (vs := [.s (.string s_3)]) (by kernel_rfl) (SettL.pure (FzL.stat rfl)))
  refine k_loop BIG ?_
  refine loop_ind (fun n f L => ∃ (s_2 : ByteArray) (i_2 : Int), spinetref31_Word_l0 p_ n s_2 i_2 = some o0 ∧ FOk f [⟨2, [], .s (.string (⟨#[]⟩ : ByteArray))⟩, ⟨3, [], .ptr 1 0 0⟩, ⟨4, [], .s (.string s_2)⟩, ⟨5, [], .s (.int .i64 i_2)⟩] ∧ L = [⟨0, .mem, 1, [.s (.bool p_.Reset), .s (.bool p_.Nmi), .s (.bool p_.Firq), .s (.bool p_.Irq), .s (.bool p_.Halt), .s (.bool p_.Req)]⟩, ⟨0, .mem, 1, cat nB [p_.Reset, p_.Nmi, p_.Firq, p_.Irq, p_.Halt, p_.Req]⟩]) ?_ ?_ BIG _ _ ⟨(⟨#[]⟩ : ByteArray), (0), hx0, FOk_of [2, 3, 4, 5] hf4 (by kernel_rfl), (by kernel_rfl)⟩
  · rintro f L ⟨s_2, i_2, h, _⟩
    cases (show (none : Option _) = some _ from h)
  · rintro n0 R0 ih f L ⟨s_2, i_2, h, hf, rfl⟩
    rw [spinetref31_Word_l0] at h
    refine k_seq ?_
    refine k_seq ?_
    refine k_reg ?_
    refine mops_en hf (by kernel_rfl) fun f1 hf1 => ?_
    refine k_c ?_
    refine k_cond hf1 (t := (decide (i_2 < 6))) (by kernel_rfl) (fun hc1 => ?_) (fun hc1 => ?_)
    · have h := if_t h hc1
      refine k_skip ?_
      refine k_c ?_
      refine k_seq ?_
      refine k_block ?_
      refine k_seq ?_
      refine k_reg ?_
      refine mops_sg 1 hf1 (by kernel_rfl) fun f2 hf2 => ?_
      obtain ⟨c2, h⟩ := as_ok h
      refine mops_adv rfl (v := .ptr 1 0 (0 + (i_2 : Int).toNat * 1)) hf2 (by kernel_rfl) (e_iaa (n := 6) (xv := .ptr 1 0 0) (k := .i64) (iv := i_2) (p := .ptr 1 0 (0 + (i_2 : Int).toNat * 1)) (by kernel_rfl) (by kernel_rfl) (by kernel_rfl) (by kernel_rfl) c2) fun f3 hf3 => ?_
      refine mops_adv rfl (v := .s (.bool (gt [p_.Reset, p_.Nmi, p_.Firq, p_.Irq, p_.Halt, p_.Req] i_2))) hf3 (by kernel_rfl) (e_load_pe (g := nB) (l := [p_.Reset, p_.Nmi, p_.Firq, p_.Irq, p_.Halt, p_.Req]) (iv := i_2) (kd := .mem) (q := 1) (b := 1) (ver := 0) [] (by kernel_rfl) (live_mem (by kernel_rfl)) (arr_h (l := [p_.Reset, p_.Nmi, p_.Firq, p_.Irq, p_.Halt, p_.Req]) c2 (by kernel_rfl)) (by kernel_rfl) (by kernel_rfl)) fun f4 hf4 => ?_
      refine mops_en hf4 (by kernel_rfl) fun f5 hf5 => ?_
      refine k_c ?_
      refine k_cond hf5 (t := (gt [p_.Reset, p_.Nmi, p_.Firq, p_.Irq, p_.Halt, p_.Req] i_2)) (by kernel_rfl) (fun hc3 => ?_) (fun hc3 => ?_)
      · have h := if_t h hc3
        refine k_reg ?_
        refine mops_sg 4 hf5 (by kernel_rfl) fun f6 hf6 => ?_
        obtain ⟨c4, h⟩ := as_ok h
        refine mops_adv rfl (v := .s (.string ((⟨#[82, 78, 70, 73, 72, 81]⟩ : ByteArray).extract (i_2 : Int).toNat ((IntKind.wrap .i64 (i_2 + 1)) : Int).toNat))) hf6 (by kernel_rfl) (e_sstr (t := (⟨#[82, 78, 70, 73, 72, 81]⟩ : ByteArray)) (by kernel_rfl) (b_ss (k := .i64) (k' := .i64) (iv := i_2) (jv := (IntKind.wrap .i64 (i_2 + 1))) (by kernel_rfl) (by kernel_rfl) c4)) fun f7 hf7 => ?_
        obtain ⟨c5, h⟩ := as_ok h
        refine mops_adv rfl (v := .s (.string (s_2 ++ ((⟨#[82, 78, 70, 73, 72, 81]⟩ : ByteArray).extract (i_2 : Int).toNat ((IntKind.wrap .i64 (i_2 + 1)) : Int).toNat)))) hf7 (by kernel_rfl) (e_sadd (t := s_2) (t' := ((⟨#[82, 78, 70, 73, 72, 81]⟩ : ByteArray).extract (i_2 : Int).toNat ((IntKind.wrap .i64 (i_2 + 1)) : Int).toNat)) (by kernel_rfl) (by kernel_rfl) c5) fun f8 hf8 => ?_
        refine mops_en hf8 (by kernel_rfl) fun f9 hf9 => ?_
        refine k_b ?_
        refine k_c ?_
        refine k_reg ?_
        refine mops_en hf9 (by kernel_rfl) fun f10 hf10 => ?_
        refine k_l ?_
        exact ih _ _ ⟨(s_2 ++ ((⟨#[82, 78, 70, 73, 72, 81]⟩ : ByteArray).extract (i_2 : Int).toNat ((IntKind.wrap .i64 (i_2 + 1)) : Int).toNat)), (IntKind.wrap .i64 (i_2 + 1)), h, FOk_of [2, 3, 4, 5] hf10 (by kernel_rfl), (by kernel_rfl)⟩
      · have h := if_f h hc3
        refine k_skip ?_
        refine k_b ?_
        refine k_c ?_
        refine k_reg ?_
        refine mops_en hf5 (by kernel_rfl) fun f6 hf6 => ?_
        refine k_l ?_
        exact ih _ _ ⟨s_2, (IntKind.wrap .i64 (i_2 + 1)), h, FOk_of [2, 3, 4, 5] hf6 (by kernel_rfl), (by kernel_rfl)⟩
    · have h := if_f h hc1
      refine k_exit ?_
      refine x_c nofun ?_
      refine x_l nofun ?_
      refine x_b ?_
      refine k_hp (L' := [⟨0, .mem, 1, [.s (.bool p_.Reset), .s (.bool p_.Nmi), .s (.bool p_.Firq), .s (.bool p_.Irq), .s (.bool p_.Halt), .s (.bool p_.Req)]⟩, ⟨0, .mem, 1, cat nB [p_.Reset, p_.Nmi, p_.Firq, p_.Irq, p_.Halt, p_.Req]⟩]) (by kernel_rfl) ?_
      exact hgo0 s_2 (Option.some.inj h) _ (FOk_of [2, 4] hf1 (by kernel_rfl))
def spinetref31_count_i0 : List Op1 := [(oM 2 (.k (.int .i64 0)) []), (oM 3 (.k (.bool false)) [0])]
def spinetref31_count_i1 : List Op1 := [(oM 4 (.k (.int .i64 0)) [])]
def spinetref31_count_i2 : List Op1 := [(oM 5 (.k (.int .i64 0)) [])]
def spinetref31_count_i3 : List Op1 := [(oM 6 (.t 5) []), (oM 7 (.t 0) []), (oE 8 (.lens (.t 7)) [1]), (oE 9 (.bin .lss (.t 6) (.t 8)) [0, 2])]
def spinetref31_count_i4 : IR := (.cond (.t 9) .skip (.exit 0))
def spinetref31_count_i5 : List Op1 := [(oM 12 (.t 0) []), (oM 13 (.t 5) []), (oE 14 (.ixs (.t 12) (.t 13)) [0, 1]), (oE 15 (.bin .lss (.t 14) (.k (.int .u8 48))) [2]), (oM 16 (.t 15) [3]), (oG 17 (.mv (.t 0)) 16 false [4]), (oG 18 (.mv (.t 5)) 16 false [4]), (oG 19 (.ixs (.t 17) (.t 18)) 16 false [5, 6, 4]), (oG 20 (.bin .gtr (.t 19) (.k (.int .u8 57))) 16 false [7, 4]), (oE 21 (.pick (.t 16) (.k (.bool true)) (.t 20)) [4, 8])]
def spinetref31_count_i6 : List Op1 := [(oM 2 (.k (.int .i64 0)) []), (oM 3 (.k (.bool false)) [0, 0])]
def spinetref31_count_i7 : IR := .ret
def spinetref31_count_i8 : IR := (.cond (.t 21) (.seq (.reg false spinetref31_count_i6) spinetref31_count_i7) .skip)
def spinetref31_count_i9 : List Op1 := [(oM 22 (.t 4) []), (oE 23 (.bin .mul (.k (.int .i64 10)) (.t 22)) [0]), (oM 24 (.t 0) []), (oM 25 (.t 5) []), (oE 26 (.ixs (.t 24) (.t 25)) [2, 3]), (oE 27 (.cint .i64 (.t 26)) [4]), (oE 28 (.bin .add (.t 23) (.t 27)) [1, 5]), (oE 29 (.bin .sub (.t 28) (.k (.int .i64 48))) [6]), (oM 4 (.t 29) [7, 0, 1, 2, 3, 4, 5, 6, 7])]
def spinetref31_count_i10 : List Op1 := [(oM 30 (.t 4) []), (oE 31 (.bin .gtr (.t 30) (.k (.int .i64 4097))) [0])]
def spinetref31_count_i11 : List Op1 := [(oM 4 (.k (.int .i64 4097)) [])]
def spinetref31_count_i12 : IR := (.cond (.t 31) (.reg false spinetref31_count_i11) .skip)
def spinetref31_count_i13 : IR := (.seq (.reg false spinetref31_count_i10) spinetref31_count_i12)
def spinetref31_count_i14 : IR := (.seq (.reg false spinetref31_count_i9) spinetref31_count_i13)
def spinetref31_count_i15 : List Op1 := [(oM 10 (.t 5) []), (oE 11 (.bin .add (.t 10) (.k (.int .i64 1))) [0]), (oM 5 (.t 11) [1, 0, 1])]
def spinetref31_count_i16 : IR := (.reg false spinetref31_count_i15)
def spinetref31_count_i17 : IR := (.seq (.block 1 (.seq (.seq (.reg false spinetref31_count_i5) spinetref31_count_i8) spinetref31_count_i14)) spinetref31_count_i16)
def spinetref31_count_i18 : IR := (.seq (.seq (.reg false spinetref31_count_i3) spinetref31_count_i4) spinetref31_count_i17)
def spinetref31_count_i19 : IR := (.block 0 (.loop spinetref31_count_i18))
def spinetref31_count_i20 : List Op1 := [(oM 32 (.t 4) []), (oM 33 (.t 0) []), (oE 34 (.lens (.t 33)) [1]), (oE 35 (.bin .gtr (.t 34) (.k (.int .i64 0))) [2]), (oM 2 (.t 32) [0, 0]), (oM 3 (.t 35) [3, 4, 0, 1, 2, 3, 4])]
def spinetref31_count_i21 : IR := .ret
def spinetref31_count_i22 : IR := (.seq (.reg false spinetref31_count_i20) spinetref31_count_i21)
def spinetref31_count_i23 : IR := (.seq (.seq (.reg false spinetref31_count_i2) spinetref31_count_i19) spinetref31_count_i22)
def spinetref31_count_i24 : IR := (.seq (.reg false spinetref31_count_i1) spinetref31_count_i23)
def spinetref31_count_ir : IR := (.seq (.reg false spinetref31_count_i0) spinetref31_count_i24)
theorem spinetref31_count_cfn : cFn Tryd.prog 17 = some (spinetref31_count_ir, [(.t 2), (.t 3)], 36) := by kernel_rfl
def spinetref31_count_V (r : (Int × Bool)) : V := .tup [.s (.int .i64 r.1), .s (.bool r.2)]
def spinetref31_count_C (r : (Int × Bool)) : X → Fr → Hp → Prop := FinL [(.t 2), (.t 3)] [] (spinetref31_count_V r) []
theorem spinetref31_count_ok (s_ : ByteArray) (r : (Int × Bool)) (h : spinetref31_count s_ = some r) : Pure Tryd.prog 17 [.s (.string s_)] (spinetref31_count_V r) := by
  refine ConL.of spinetref31_count_cfn (Nat.le_of_ble_eq_true (by kernel_rfl)) (Nat.le_of_ble_eq_true (by kernel_rfl)) ?_
  refine k_start ?_
  show dwv Tryd.prog [] spinetref31_count_ir (kont Tryd.prog [] (spinetref31_count_C r) []) (fr0 [.s (.string s_)]) []
  have hf : FOk (fr0 [.s (.string s_)]) [⟨0, [], .s (.string s_)⟩] := ⟨⟨fun _ => rfl, fun h => (h trivial).elim⟩, trivial⟩
  generalize fr0 [.s (.string s_)] = f at hf ⊢
  unfold spinetref31_count at h
  refine k_seq ?_
  refine k_reg ?_
  refine mops_en hf (by kernel_rfl) fun f1 hf1 => ?_
  refine k_c ?_
  refine k_seq ?_
  refine k_reg ?_
  refine mops_en hf1 (by kernel_rfl) fun f2 hf2 => ?_
  refine k_c ?_
  refine k_seq ?_
  refine k_seq ?_
  refine k_reg ?_
  refine mops_en hf2 (by kernel_rfl) fun f3 hf3 => ?_
  refine k_c ?_
  refine k_block ?_
  obtain ⟨o0, hx0, h⟩ := Option.bind_eq_some_iff.1 h
  have hret0 : ∀ r0, .ret r0 = o0 → r0 = r := fun r0 e => by subst e; exact Option.some.inj h
  have hgo0 : ∀ (n_2 : Int), .go n_2 = o0 → ∀ f, FOk f [⟨0, [], .s (.string s_)⟩, ⟨2, [], .s (.int .i64 0)⟩, ⟨3, [], .s (.bool false)⟩, ⟨4, [], .s (.int .i64 n_2)⟩] → kont Tryd.prog [] (spinetref31_count_C r) ((.c spinetref31_count_i22) :: []) .normal f [] := by
    intro n_2 e f hf
    subst e
    refine k_c ?_
    refine k_seq ?_
    refine k_reg ?_
    refine mops_en hf (by kernel_rfl) fun f1 hf1 => ?_
    refine k_c ?_
    refine k_ret ?_
    obtain rfl := Option.some.inj h
    exact k_fin (fin_ret (.inl rfl) hf1 (vs := [.s (.int .i64 n_2), .s (.bool (decide (0 < (sln s_))))]) (by kernel_rfl) (SettL.pure (FzL.tup (FzsL.cons (FzL.stat rfl) (FzsL.cons (FzL.stat rfl) FzsL.nil)))))
  refine k_loop BIG ?_
  refine loop_ind (fun n f L => ∃ (n_1 : Int) (i_1 : Int), spinetref31_count_l0 s_ n n_1 i_1 = some o0 ∧ FOk f [⟨0, [], .s (.string s_)⟩, ⟨2, [], .s (.int .i64 0)⟩, ⟨3, [], .s (.bool false)⟩, ⟨4, [], .s (.int .i64 n_1)⟩, ⟨5, [], .s (.int .i64 i_1)⟩] ∧ L = []) ?_ ?_ BIG _ _ ⟨(0), (0), hx0, FOk_of [0, 2, 3, 4, 5] hf3 (by kernel_rfl), (by kernel_rfl)⟩
  · rintro f L ⟨n_1, i_1, h, _⟩
    cases (show (none : Option _) = some _ from h)
  · rintro n0 R0 ih f L ⟨n_1, i_1, h, hf, rfl⟩
    rw [spinetref31_count_l0] at h
    refine k_seq ?_
    refine k_seq ?_
    refine k_reg ?_
    refine mops_en hf (by kernel_rfl) fun f1 hf1 => ?_
    refine k_c ?_
    refine k_cond hf1 (t := (decide (i_1 < (sln s_)))) (by kernel_rfl) (fun hc1 => ?_) (fun hc1 => ?_)
    · have h := if_t h hc1
      refine k_skip ?_
      refine k_c ?_
      refine k_seq ?_
      refine k_block ?_
      refine k_seq ?_
      refine k_seq ?_
      refine k_reg ?_
      refine mops_sg 2 hf1 (by kernel_rfl) fun f2 hf2 => ?_
      obtain ⟨c2, h⟩ := as_ok h
      refine mops_adv rfl (v := .s (.int .u8 (bt s_ i_1))) hf2 (by kernel_rfl) (e_ixs (t := s_) (k := .i64) (iv := i_1) (by kernel_rfl) (by kernel_rfl) c2) fun f3 hf3 => ?_
      refine mops_sg 4 hf3 (by kernel_rfl) fun f4 hf4 => ?_
      obtain ⟨c3, h⟩ := as_ok h
      refine mops_gadv (dst := (some 19)) (op := (.ixs (.t 17) (.t 18))) (aft := [5, 6, 4]) (t := 16) (w := false) (ch := [(16, false)]) (b := (!(decide ((bt s_ i_1) < 48)))) (v := .s (.int .u8 (bt s_ i_1))) (by kernel_rfl) hf4 (by kernel_rfl) (by kernel_rfl) (by kernel_rfl) (fun hb4 => e_ixs (t := s_) (k := .i64) (iv := i_1) (by kernel_rfl) (by kernel_rfl) (c3 hb4)) fun f5 hf5 => ?_
      refine mops_en hf5 (by kernel_rfl) fun f6 hf6 => ?_
      refine k_c ?_
      refine k_cond hf6 (t := ((decide ((bt s_ i_1) < 48)) || (decide (57 < (bt s_ i_1))))) (by kernel_rfl) (fun hc5 => ?_) (fun hc5 => ?_)
      · have h := if_t h hc5
        refine k_seq ?_
        refine k_reg ?_
        refine mops_en hf6 (by kernel_rfl) fun f7 hf7 => ?_
        refine k_c ?_
        refine k_ret ?_
        refine x_c nofun ?_
        refine x_br ?_
        refine x_c nofun ?_
        refine x_l nofun ?_
        refine x_br ?_
        refine x_c nofun ?_
        obtain rfl := hret0 _ (Option.some.inj h)
        exact k_fin (fin_ret (.inl rfl) hf7 (vs := [.s (.int .i64 0), .s (.bool false)]) (by kernel_rfl) (SettL.pure (FzL.tup (FzsL.cons (FzL.stat rfl) (FzsL.cons (FzL.stat rfl) FzsL.nil)))))
      · have h := if_f h hc5
        refine k_skip ?_
        refine k_c ?_
        refine k_seq ?_
        refine k_reg ?_
        refine mops_sg 4 hf6 (by kernel_rfl) fun f7 hf7 => ?_
        obtain ⟨c6, h⟩ := as_ok h
        refine mops_adv rfl (v := .s (.int .u8 (bt s_ i_1))) hf7 (by kernel_rfl) (e_ixs (t := s_) (k := .i64) (iv := i_1) (by kernel_rfl) (by kernel_rfl) c6) fun f8 hf8 => ?_
        refine mops_en hf8 (by kernel_rfl) fun f9 hf9 => ?_
        refine k_c ?_
        refine k_seq ?_
        refine k_reg ?_
        refine mops_en hf9 (by kernel_rfl) fun f10 hf10 => ?_
        refine k_c ?_
        refine k_cond hf10 (t := (decide (4097 < (IntKind.wrap .i64 ((IntKind.wrap .i64 ((IntKind.wrap .i64 (10 * n_1)) + (IntKind.wrap .i64 (bt s_ i_1)))) - 48))))) (by kernel_rfl) (fun hc7 => ?_) (fun hc7 => ?_)
        · have h := if_t h hc7
          refine k_reg ?_
          refine mops_en hf10 (by kernel_rfl) fun f11 hf11 => ?_
          refine k_b ?_
          refine k_c ?_
          refine k_reg ?_
          refine mops_en hf11 (by kernel_rfl) fun f12 hf12 => ?_
          refine k_l ?_
          exact ih _ _ ⟨(4097), (IntKind.wrap .i64 (i_1 + 1)), h, FOk_of [0, 2, 3, 4, 5] hf12 (by kernel_rfl), (by kernel_rfl)⟩
        · have h := if_f h hc7
          refine k_skip ?_
          refine k_b ?_
          refine k_c ?_
          refine k_reg ?_
          refine mops_en hf10 (by kernel_rfl) fun f11 hf11 => ?_
          refine k_l ?_
          exact ih _ _ ⟨(IntKind.wrap .i64 ((IntKind.wrap .i64 ((IntKind.wrap .i64 (10 * n_1)) + (IntKind.wrap .i64 (bt s_ i_1)))) - 48)), (IntKind.wrap .i64 (i_1 + 1)), h, FOk_of [0, 2, 3, 4, 5] hf11 (by kernel_rfl), (by kernel_rfl)⟩
    · have h := if_f h hc1
      refine k_exit ?_
      refine x_c nofun ?_
      refine x_l nofun ?_
      refine x_b ?_
      refine k_hp (L' := []) (by kernel_rfl) ?_
      exact hgo0 n_1 (Option.some.inj h) _ (FOk_of [0, 2, 3, 4] hf1 (by kernel_rfl))
def slices_Equal_sl_api_Pins_api_Pins_i0 : List Op1 := [(oM 4 (.k (.bool false)) [])]
def slices_Equal_sl_api_Pins_api_Pins_i1 : List Op1 := [(oM 6 (.t 0) []), (oE 7 (.len (.t 6)) [0]), (oM 8 (.t 1) []), (oE 9 (.len (.t 8)) [2]), (oE 10 (.bin .neq (.t 7) (.t 9)) [1, 3])]
def slices_Equal_sl_api_Pins_api_Pins_i2 : List Op1 := [(oM 4 (.k (.bool false)) [])]
def slices_Equal_sl_api_Pins_api_Pins_i3 : IR := .ret
def slices_Equal_sl_api_Pins_api_Pins_i4 : IR := (.cond (.t 10) (.seq (.reg false slices_Equal_sl_api_Pins_api_Pins_i2) slices_Equal_sl_api_Pins_api_Pins_i3) .skip)
def slices_Equal_sl_api_Pins_api_Pins_i5 : List Op1 := [(oM 11 (.t 0) []), (oE 12 (.len (.t 11)) [0]), (oM 13 (.k (.int .i64 0)) [])]
def slices_Equal_sl_api_Pins_api_Pins_i6 : List Op1 := [(oE 14 (.bin .lss (.t 13) (.t 12)) [])]
def slices_Equal_sl_api_Pins_api_Pins_i7 : List Op1 := [(oM 15 (.t 13) []), (oM 5 (.t 15) [0, 0])]
def slices_Equal_sl_api_Pins_api_Pins_i8 : List Op1 := [(oM 16 (.t 0) []), (oM 17 (.t 5) []), (oE 18 (.ias 6 (.t 16) (.t 17)) [0, 1]), (oE 19 (.load true 6 (.t 18)) [2]), (oM 20 (.t 1) []), (oM 21 (.t 5) []), (oE 22 (.ias 6 (.t 20) (.t 21)) [4, 5]), (oE 23 (.load true 6 (.t 22)) [6]), (oE 24 (.eqa true [.bool, .bool, .bool, .bool, .bool, .bool] (.t 19) (.t 23)) [3, 7])]
def slices_Equal_sl_api_Pins_api_Pins_i9 : List Op1 := [(oM 4 (.k (.bool false)) [])]
def slices_Equal_sl_api_Pins_api_Pins_i10 : IR := .ret
def slices_Equal_sl_api_Pins_api_Pins_i11 : IR := (.cond (.t 24) (.seq (.reg false slices_Equal_sl_api_Pins_api_Pins_i9) slices_Equal_sl_api_Pins_api_Pins_i10) .skip)
def slices_Equal_sl_api_Pins_api_Pins_i12 : IR := (.seq (.reg true slices_Equal_sl_api_Pins_api_Pins_i8) slices_Equal_sl_api_Pins_api_Pins_i11)
def slices_Equal_sl_api_Pins_api_Pins_i13 : List Op1 := [(oE 25 (.bin .add (.t 13) (.k (.int .i64 1))) []), (oM 13 (.t 25) [0])]
def slices_Equal_sl_api_Pins_api_Pins_i14 : IR := (.reg false slices_Equal_sl_api_Pins_api_Pins_i13)
def slices_Equal_sl_api_Pins_api_Pins_i15 : IR := (.seq (.block 1 (.seq (.reg false slices_Equal_sl_api_Pins_api_Pins_i7) slices_Equal_sl_api_Pins_api_Pins_i12)) slices_Equal_sl_api_Pins_api_Pins_i14)
def slices_Equal_sl_api_Pins_api_Pins_i16 : IR := (.seq (.cond (.t 14) .skip (.exit 0)) slices_Equal_sl_api_Pins_api_Pins_i15)
def slices_Equal_sl_api_Pins_api_Pins_i17 : IR := (.seq (.reg false slices_Equal_sl_api_Pins_api_Pins_i6) slices_Equal_sl_api_Pins_api_Pins_i16)
def slices_Equal_sl_api_Pins_api_Pins_i18 : IR := (.block 0 (.loop slices_Equal_sl_api_Pins_api_Pins_i17))
def slices_Equal_sl_api_Pins_api_Pins_i19 : List Op1 := [(oM 4 (.k (.bool true)) [])]
def slices_Equal_sl_api_Pins_api_Pins_i20 : IR := .ret
def slices_Equal_sl_api_Pins_api_Pins_i21 : IR := (.seq (.reg false slices_Equal_sl_api_Pins_api_Pins_i19) slices_Equal_sl_api_Pins_api_Pins_i20)
def slices_Equal_sl_api_Pins_api_Pins_i22 : IR := (.seq (.seq (.reg false slices_Equal_sl_api_Pins_api_Pins_i5) slices_Equal_sl_api_Pins_api_Pins_i18) slices_Equal_sl_api_Pins_api_Pins_i21)
def slices_Equal_sl_api_Pins_api_Pins_i23 : IR := (.seq (.seq (.reg false slices_Equal_sl_api_Pins_api_Pins_i1) slices_Equal_sl_api_Pins_api_Pins_i4) slices_Equal_sl_api_Pins_api_Pins_i22)
def slices_Equal_sl_api_Pins_api_Pins_ir : IR := (.seq (.reg false slices_Equal_sl_api_Pins_api_Pins_i0) slices_Equal_sl_api_Pins_api_Pins_i23)
theorem slices_Equal_sl_api_Pins_api_Pins_cfn : cFn Tryd.prog 9 = some (slices_Equal_sl_api_Pins_api_Pins_ir, [(.t 4)], 26) := by kernel_rfl
def slices_Equal_sl_api_Pins_api_Pins_V (r : (Bool)) : V := .s (.bool r)
def slices_Equal_sl_api_Pins_api_Pins_C (r : (Bool)) : X → Fr → Hp → Prop := FinL [(.t 4)] [] (slices_Equal_sl_api_Pins_api_Pins_V r) []
theorem slices_Equal_sl_api_Pins_api_Pins_ok (s1_ : (List api_Pins)) (s2_ : (List api_Pins)) (r : (Bool)) (h : slices_Equal_sl_api_Pins_api_Pins s1_ s2_ = some r) : Pure Tryd.prog 9 [.sl false s1_.length (cat api_Pins.v s1_), .sl false s2_.length (cat api_Pins.v s2_)] (slices_Equal_sl_api_Pins_api_Pins_V r) := by
  refine ConL.of slices_Equal_sl_api_Pins_api_Pins_cfn (Nat.le_of_ble_eq_true (by kernel_rfl)) (Nat.le_of_ble_eq_true (by kernel_rfl)) ?_
  refine k_start ?_
  show dwv Tryd.prog [] slices_Equal_sl_api_Pins_api_Pins_ir (kont Tryd.prog [] (slices_Equal_sl_api_Pins_api_Pins_C r) []) (fr0 [.sl false s1_.length (cat api_Pins.v s1_), .sl false s2_.length (cat api_Pins.v s2_)]) []
  have hf : FOk (fr0 [.sl false s1_.length (cat api_Pins.v s1_), .sl false s2_.length (cat api_Pins.v s2_)]) [⟨0, [], .sl false s1_.length (cat api_Pins.v s1_)⟩, ⟨1, [], .sl false s2_.length (cat api_Pins.v s2_)⟩] := ⟨⟨fun _ => rfl, fun h => (h trivial).elim⟩, ⟨fun _ => rfl, fun h => (h trivial).elim⟩, trivial⟩
  generalize fr0 [.sl false s1_.length (cat api_Pins.v s1_), .sl false s2_.length (cat api_Pins.v s2_)] = f at hf ⊢
  unfold slices_Equal_sl_api_Pins_api_Pins at h
  refine k_seq ?_
  refine k_reg ?_
  refine mops_en hf (by kernel_rfl) fun f1 hf1 => ?_
  refine k_c ?_
  refine k_seq ?_
  refine k_seq ?_
  refine k_reg ?_
  refine mops_en hf1 (by kernel_rfl) fun f2 hf2 => ?_
  refine k_c ?_
  refine k_cond hf2 (t := ((ln s1_) != (ln s2_))) (by kernel_rfl) (fun hc1 => ?_) (fun hc1 => ?_)
  · have h := if_t h hc1
    refine k_seq ?_
    refine k_reg ?_
    refine mops_en hf2 (by kernel_rfl) fun f3 hf3 => ?_
    refine k_c ?_
    refine k_ret ?_
    refine x_c nofun ?_
    obtain rfl := Option.some.inj h
    exact k_fin (fin_ret (.inl rfl) hf3 (vs := [.s (.bool false)]) (by kernel_rfl) (SettL.pure (FzL.stat rfl)))
  · have h := if_f h hc1
    refine k_skip ?_
    refine k_c ?_
    refine k_seq ?_
    refine k_seq ?_
    refine k_reg ?_
    refine mops_en hf2 (by kernel_rfl) fun f3 hf3 => ?_
    refine k_c ?_
    refine k_block ?_
    obtain ⟨o0, hx0, h⟩ := Option.bind_eq_some_iff.1 h
    have hret0 : ∀ r0, .ret r0 = o0 → r0 = r := fun r0 e => by subst e; exact Option.some.inj h
    have hgo0 : .go () = o0 → ∀ f, FOk f [⟨4, [], .s (.bool false)⟩] → kont Tryd.prog [] (slices_Equal_sl_api_Pins_api_Pins_C r) ((.c slices_Equal_sl_api_Pins_api_Pins_i21) :: []) .normal f [] := by
      intro  e f hf
      subst e
      refine k_c ?_
      refine k_seq ?_
      refine k_reg ?_
      refine mops_en hf (by kernel_rfl) fun f1 hf1 => ?_
      refine k_c ?_
      refine k_ret ?_
      obtain rfl := Option.some.inj h
      exact k_fin (fin_ret (.inl rfl) hf1 (vs := [.s (.bool true)]) (by kernel_rfl) (SettL.pure (FzL.stat rfl)))
    refine k_loop BIG ?_
    refine loop_ind (fun n f L => ∃ (t_1 : Int), slices_Equal_sl_api_Pins_api_Pins_l0 s1_ s2_ n t_1 = some o0 ∧ FOk f [⟨0, [], .sl false s1_.length (cat api_Pins.v s1_)⟩, ⟨1, [], .sl false s2_.length (cat api_Pins.v s2_)⟩, ⟨4, [], .s (.bool false)⟩, ⟨12, [], .s (.int .i64 (ln s1_))⟩, ⟨13, [], .s (.int .i64 t_1)⟩] ∧ L = []) ?_ ?_ BIG _ _ ⟨(0), hx0, FOk_of [0, 1, 4, 12, 13] hf3 (by kernel_rfl), (by kernel_rfl)⟩
    · rintro f L ⟨t_1, h, _⟩
      cases (show (none : Option _) = some _ from h)
    · rintro n0 R0 ih f L ⟨t_1, h, hf, rfl⟩
      rw [slices_Equal_sl_api_Pins_api_Pins_l0] at h
      refine k_seq ?_
      refine k_reg ?_
      refine mops_en hf (by kernel_rfl) fun f1 hf1 => ?_
      refine k_c ?_
      refine k_seq ?_
      refine k_cond hf1 (t := (decide (t_1 < (ln s1_)))) (by kernel_rfl) (fun hc2 => ?_) (fun hc2 => ?_)
      · have h := if_t h hc2
        refine k_skip ?_
        refine k_c ?_
        refine k_seq ?_
        refine k_block ?_
        refine k_seq ?_
        refine k_reg ?_
        refine mops_en hf1 (by kernel_rfl) fun f2 hf2 => ?_
        refine k_c ?_
        refine k_seq ?_
        refine k_regq ?_
        refine mops_sg 2 hf2 (by kernel_rfl) fun f3 hf3 => ?_
        obtain ⟨c3, h⟩ := as_ok h
        refine mops_adv rfl (v := .ip ((cat api_Pins.v s1_).drop ((t_1 : Int).toNat * 6))) hf3 (by kernel_rfl) (e_ias (n := s1_.length) (xv := .sl false s1_.length (cat api_Pins.v s1_)) (k := .i64) (iv := t_1) (p := .ip ((cat api_Pins.v s1_).drop ((t_1 : Int).toNat * 6))) (by kernel_rfl) (by kernel_rfl) (by kernel_rfl) (by kernel_rfl) c3) fun f4 hf4 => ?_
        refine mops_adv rfl (v := .agg [.s (.bool (gt s1_ t_1).Reset), .s (.bool (gt s1_ t_1).Nmi), .s (.bool (gt s1_ t_1).Firq), .s (.bool (gt s1_ t_1).Irq), .s (.bool (gt s1_ t_1).Halt), .s (.bool (gt s1_ t_1).Req)]) hf4 (by kernel_rfl) (e_load_ip (g := api_Pins.v) (l := s1_) (iv := t_1) [] (by kernel_rfl) c3 (by kernel_rfl) (by kernel_rfl)) fun f5 hf5 => ?_
        refine mops_sg 2 hf5 (by kernel_rfl) fun f6 hf6 => ?_
        obtain ⟨c4, h⟩ := as_ok h
        refine mops_adv rfl (v := .ip ((cat api_Pins.v s2_).drop ((t_1 : Int).toNat * 6))) hf6 (by kernel_rfl) (e_ias (n := s2_.length) (xv := .sl false s2_.length (cat api_Pins.v s2_)) (k := .i64) (iv := t_1) (p := .ip ((cat api_Pins.v s2_).drop ((t_1 : Int).toNat * 6))) (by kernel_rfl) (by kernel_rfl) (by kernel_rfl) (by kernel_rfl) c4) fun f7 hf7 => ?_
        refine mops_adv rfl (v := .agg [.s (.bool (gt s2_ t_1).Reset), .s (.bool (gt s2_ t_1).Nmi), .s (.bool (gt s2_ t_1).Firq), .s (.bool (gt s2_ t_1).Irq), .s (.bool (gt s2_ t_1).Halt), .s (.bool (gt s2_ t_1).Req)]) hf7 (by kernel_rfl) (e_load_ip (g := api_Pins.v) (l := s2_) (iv := t_1) [] (by kernel_rfl) c4 (by kernel_rfl) (by kernel_rfl)) fun f8 hf8 => ?_
        refine mops_en hf8 (by kernel_rfl) fun f9 hf9 => ?_
        refine k_c ?_
        refine k_cond hf9 (t := (!(((gt s1_ t_1).Reset == (gt s2_ t_1).Reset) && (((gt s1_ t_1).Nmi == (gt s2_ t_1).Nmi) && (((gt s1_ t_1).Firq == (gt s2_ t_1).Firq) && (((gt s1_ t_1).Irq == (gt s2_ t_1).Irq) && (((gt s1_ t_1).Halt == (gt s2_ t_1).Halt) && (((gt s1_ t_1).Req == (gt s2_ t_1).Req) && true)))))))) (by kernel_rfl) (fun hc5 => ?_) (fun hc5 => ?_)
        · have h := if_t h hc5
          refine k_seq ?_
          refine k_reg ?_
          refine mops_en hf9 (by kernel_rfl) fun f10 hf10 => ?_
          refine k_c ?_
          refine k_ret ?_
          refine x_br ?_
          refine x_c nofun ?_
          refine x_l nofun ?_
          refine x_br ?_
          refine x_c nofun ?_
          obtain rfl := hret0 _ (Option.some.inj h)
          exact k_fin (fin_ret (.inl rfl) hf10 (vs := [.s (.bool false)]) (by kernel_rfl) (SettL.pure (FzL.stat rfl)))
        · have h := if_f h hc5
          refine k_skip ?_
          refine k_b ?_
          refine k_c ?_
          refine k_reg ?_
          refine mops_en hf9 (by kernel_rfl) fun f10 hf10 => ?_
          refine k_l ?_
          exact ih _ _ ⟨(IntKind.wrap .i64 (t_1 + 1)), h, FOk_of [0, 1, 4, 12, 13] hf10 (by kernel_rfl), (by kernel_rfl)⟩
      · have h := if_f h hc2
        refine k_exit ?_
        refine x_c nofun ?_
        refine x_l nofun ?_
        refine x_b ?_
        refine k_hp (L' := []) (by kernel_rfl) ?_
        exact hgo0  (Option.some.inj h) _ (FOk_of [4] hf1 (by kernel_rfl))
end Go.Proofs.YthhjooegpjgicaaDoorK
