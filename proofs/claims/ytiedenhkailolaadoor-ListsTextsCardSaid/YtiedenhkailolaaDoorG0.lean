/- The Go functions come to the functions over typed data. Printed by a program of this work. -/
import Derived.Test.YtiedenhkailolaaDoorF
import Derived.Test.YtiedenhkailolaaDoorProg
import Derived.Test.YtiedenhkailolaaDoorSc
import Derived.Test.YtiedenhkailolaaDoorSd
import Derived.Test.YtiedenhkailolaaDoorSf
import Derived.Test.YtiedenhkailolaaDoorSg
namespace Go.Proofs.YtiedenhkailolaaDoorK
set_option linter.unusedVariables false
set_option linter.unusedSimpArgs false
set_option maxHeartbeats 4000000
open Go.RowKit
attribute [local irreducible] dwv mops lops lqops lwops kont iter run runK rk okK ex E1 vals val chain chB sel resF
def unicode_utf8_decodeRuneInStringSlow_i0 : List Op1 := [(oM 2 (.k (.int .i32 0)) []), (oM 3 (.k (.int .i64 0)) [0])]
def unicode_utf8_decodeRuneInStringSlow_i1 : List Op1 := [(oM 13 (.t 0) []), (oE 14 (.lens (.t 13)) [0]), (oM 4 (.t 14) [1, 0, 1])]
def unicode_utf8_decodeRuneInStringSlow_i2 : List Op1 := [(oM 15 (.t 4) []), (oE 16 (.bin .lss (.t 15) (.k (.int .i64 1))) [0])]
def unicode_utf8_decodeRuneInStringSlow_i3 : List Op1 := [(oM 2 (.k (.int .i32 65533)) []), (oM 3 (.k (.int .i64 0)) [0, 0])]
def unicode_utf8_decodeRuneInStringSlow_i4 : IR := .ret
def unicode_utf8_decodeRuneInStringSlow_i5 : IR := (.cond (.t 16) (.seq (.reg false unicode_utf8_decodeRuneInStringSlow_i3) unicode_utf8_decodeRuneInStringSlow_i4) .skip)
def unicode_utf8_decodeRuneInStringSlow_i6 : List Op1 := [(oM 17 (.t 0) []), (oE 18 (.ixs (.t 17) (.k (.int .i64 0))) [0]), (oM 5 (.t 18) [1, 0, 1])]
def unicode_utf8_decodeRuneInStringSlow_i7 : List Op1 := [(oM 19 (.t 5) []), (oE 20 (.lens (.k (.bool false))) [0]), (oE 21 (.load false 1 (.t 20)) [1]), (oM 6 (.t 21) [2, 0, 1, 2])]
def unicode_utf8_decodeRuneInStringSlow_i8 : List Op1 := [(oM 22 (.t 6) []), (oE 23 (.bin .geq (.t 22) (.k (.int .u8 240))) [0])]
def unicode_utf8_decodeRuneInStringSlow_i9 : List Op1 := [(oM 24 (.t 6) []), (oE 25 (.cint .i32 (.t 24)) [0]), (oE 26 (.bin .shl (.t 25) (.k (.int .u64 31))) [1]), (oE 27 (.bin .shr (.t 26) (.k (.int .u64 31))) [2]), (oM 7 (.t 27) [3, 0, 1, 2, 3])]
def unicode_utf8_decodeRuneInStringSlow_i10 : List Op1 := [(oM 28 (.t 0) []), (oE 29 (.ixs (.t 28) (.k (.int .i64 0))) [0]), (oE 30 (.cint .i32 (.t 29)) [1]), (oM 31 (.t 7) []), (oE 32 (.bin .andNot (.t 30) (.t 31)) [2, 3]), (oM 33 (.t 7) []), (oE 34 (.bin .and (.k (.int .i32 65533)) (.t 33)) [5]), (oE 35 (.bin .or (.t 32) (.t 34)) [4, 6]), (oM 2 (.t 35) [7, 0, 1, 2, 3, 4, 5, 6, 7]), (oM 3 (.k (.int .i64 1)) [8, 0, 1, 2, 3, 4, 5, 6, 7, 8])]
def unicode_utf8_decodeRuneInStringSlow_i11 : IR := .ret
def unicode_utf8_decodeRuneInStringSlow_i12 : IR := (.seq (.reg false unicode_utf8_decodeRuneInStringSlow_i10) unicode_utf8_decodeRuneInStringSlow_i11)
def unicode_utf8_decodeRuneInStringSlow_i13 : IR := (.cond (.t 23) (.seq (.reg false unicode_utf8_decodeRuneInStringSlow_i9) unicode_utf8_decodeRuneInStringSlow_i12) .skip)
def unicode_utf8_decodeRuneInStringSlow_i14 : List Op1 := [(oM 36 (.t 6) []), (oE 37 (.bin .and (.t 36) (.k (.int .u8 7))) [0]), (oE 38 (.cint .i64 (.t 37)) [1]), (oM 8 (.t 38) [2, 0, 1, 2])]
def unicode_utf8_decodeRuneInStringSlow_i15 : List Op1 := [(oM 39 (.t 6) []), (oE 40 (.bin .shr (.t 39) (.k (.int .u64 4))) [0]), (oE 41 (.lens (.k (.bool false))) [1]), (oE 42 (.load true 2 (.t 41)) [2]), (oE 9 (.zero [(.int .u8 0), (.int .u8 0)]) []), (oN (.store 2 (.t 9) (.t 42)) [4, 3, 0, 1, 2, 3, 4])]
def unicode_utf8_decodeRuneInStringSlow_i16 : List Op1 := [(oM 43 (.t 4) []), (oM 44 (.t 8) []), (oE 45 (.bin .lss (.t 43) (.t 44)) [0, 1])]
def unicode_utf8_decodeRuneInStringSlow_i17 : List Op1 := [(oM 2 (.k (.int .i32 65533)) []), (oM 3 (.k (.int .i64 1)) [0, 0])]
def unicode_utf8_decodeRuneInStringSlow_i18 : IR := .ret
def unicode_utf8_decodeRuneInStringSlow_i19 : IR := (.cond (.t 45) (.seq (.reg false unicode_utf8_decodeRuneInStringSlow_i17) unicode_utf8_decodeRuneInStringSlow_i18) .skip)
def unicode_utf8_decodeRuneInStringSlow_i20 : List Op1 := [(oM 46 (.t 0) []), (oE 47 (.ixs (.t 46) (.k (.int .i64 1))) [0]), (oM 10 (.t 47) [1, 0, 1])]
def unicode_utf8_decodeRuneInStringSlow_i21 : List Op1 := [(oM 48 (.t 10) []), (oE 49 (.fld 0 (.t 9)) []), (oE 50 (.load false 1 (.t 49)) [1]), (oE 51 (.bin .lss (.t 48) (.t 50)) [0, 2]), (oM 52 (.t 51) [3]), (oG 53 (.fld 1 (.t 9)) 52 false [4]), (oG 54 (.load false 1 (.t 53)) 52 false [5, 4]), (oG 55 (.mv (.t 10)) 52 false [4]), (oG 56 (.bin .lss (.t 54) (.t 55)) 52 false [6, 7, 4]), (oE 57 (.pick (.t 52) (.k (.bool true)) (.t 56)) [4, 8])]
def unicode_utf8_decodeRuneInStringSlow_i22 : List Op1 := [(oM 2 (.k (.int .i32 65533)) []), (oM 3 (.k (.int .i64 1)) [0, 0])]
def unicode_utf8_decodeRuneInStringSlow_i23 : IR := .ret
def unicode_utf8_decodeRuneInStringSlow_i24 : IR := (.cond (.t 57) (.seq (.reg false unicode_utf8_decodeRuneInStringSlow_i22) unicode_utf8_decodeRuneInStringSlow_i23) .skip)
def unicode_utf8_decodeRuneInStringSlow_i25 : List Op1 := [(oM 58 (.t 8) []), (oE 59 (.bin .leq (.t 58) (.k (.int .i64 2))) [0])]
def unicode_utf8_decodeRuneInStringSlow_i26 : List Op1 := [(oM 60 (.t 5) []), (oE 61 (.bin .and (.t 60) (.k (.int .u8 31))) [0]), (oE 62 (.cint .i32 (.t 61)) [1]), (oE 63 (.bin .shl (.t 62) (.k (.int .u64 6))) [2]), (oM 64 (.t 10) []), (oE 65 (.bin .and (.t 64) (.k (.int .u8 63))) [4]), (oE 66 (.cint .i32 (.t 65)) [5]), (oE 67 (.bin .or (.t 63) (.t 66)) [3, 6]), (oM 2 (.t 67) [7, 0, 1, 2, 3, 4, 5, 6, 7]), (oM 3 (.k (.int .i64 2)) [8, 0, 1, 2, 3, 4, 5, 6, 7, 8])]
def unicode_utf8_decodeRuneInStringSlow_i27 : IR := .ret
def unicode_utf8_decodeRuneInStringSlow_i28 : IR := (.cond (.t 59) (.seq (.reg false unicode_utf8_decodeRuneInStringSlow_i26) unicode_utf8_decodeRuneInStringSlow_i27) .skip)
def unicode_utf8_decodeRuneInStringSlow_i29 : List Op1 := [(oM 68 (.t 0) []), (oE 69 (.ixs (.t 68) (.k (.int .i64 2))) [0]), (oM 11 (.t 69) [1, 0, 1])]
def unicode_utf8_decodeRuneInStringSlow_i30 : List Op1 := [(oM 70 (.t 11) []), (oE 71 (.bin .lss (.t 70) (.k (.int .u8 128))) [0]), (oM 72 (.t 71) [1]), (oG 73 (.mv (.t 11)) 72 false [2]), (oG 74 (.bin .lss (.k (.int .u8 191)) (.t 73)) 72 false [3, 2]), (oE 75 (.pick (.t 72) (.k (.bool true)) (.t 74)) [2, 4])]
def unicode_utf8_decodeRuneInStringSlow_i31 : List Op1 := [(oM 2 (.k (.int .i32 65533)) []), (oM 3 (.k (.int .i64 1)) [0, 0])]
def unicode_utf8_decodeRuneInStringSlow_i32 : IR := .ret
def unicode_utf8_decodeRuneInStringSlow_i33 : IR := (.cond (.t 75) (.seq (.reg false unicode_utf8_decodeRuneInStringSlow_i31) unicode_utf8_decodeRuneInStringSlow_i32) .skip)
def unicode_utf8_decodeRuneInStringSlow_i34 : List Op1 := [(oM 76 (.t 8) []), (oE 77 (.bin .leq (.t 76) (.k (.int .i64 3))) [0])]
def unicode_utf8_decodeRuneInStringSlow_i35 : List Op1 := [(oM 78 (.t 5) []), (oE 79 (.bin .and (.t 78) (.k (.int .u8 15))) [0]), (oE 80 (.cint .i32 (.t 79)) [1]), (oE 81 (.bin .shl (.t 80) (.k (.int .u64 12))) [2]), (oM 82 (.t 10) []), (oE 83 (.bin .and (.t 82) (.k (.int .u8 63))) [4]), (oE 84 (.cint .i32 (.t 83)) [5]), (oE 85 (.bin .shl (.t 84) (.k (.int .u64 6))) [6]), (oE 86 (.bin .or (.t 81) (.t 85)) [3, 7]), (oM 87 (.t 11) []), (oE 88 (.bin .and (.t 87) (.k (.int .u8 63))) [9]), (oE 89 (.cint .i32 (.t 88)) [10]), (oE 90 (.bin .or (.t 86) (.t 89)) [8, 11]), (oM 2 (.t 90) [12, 0, 1, 2, 3, 4, 5, 6, 7, 8, 9, 10, 11, 12]), (oM 3 (.k (.int .i64 3)) [13, 0, 1, 2, 3, 4, 5, 6, 7, 8, 9, 10, 11, 12, 13])]
def unicode_utf8_decodeRuneInStringSlow_i36 : IR := .ret
def unicode_utf8_decodeRuneInStringSlow_i37 : IR := (.cond (.t 77) (.seq (.reg false unicode_utf8_decodeRuneInStringSlow_i35) unicode_utf8_decodeRuneInStringSlow_i36) .skip)
def unicode_utf8_decodeRuneInStringSlow_i38 : List Op1 := [(oM 91 (.t 0) []), (oE 92 (.ixs (.t 91) (.k (.int .i64 3))) [0]), (oM 12 (.t 92) [1, 0, 1])]
def unicode_utf8_decodeRuneInStringSlow_i39 : List Op1 := [(oM 93 (.t 12) []), (oE 94 (.bin .lss (.t 93) (.k (.int .u8 128))) [0]), (oM 95 (.t 94) [1]), (oG 96 (.mv (.t 12)) 95 false [2]), (oG 97 (.bin .lss (.k (.int .u8 191)) (.t 96)) 95 false [3, 2]), (oE 98 (.pick (.t 95) (.k (.bool true)) (.t 97)) [2, 4])]
def unicode_utf8_decodeRuneInStringSlow_i40 : List Op1 := [(oM 2 (.k (.int .i32 65533)) []), (oM 3 (.k (.int .i64 1)) [0, 0])]
def unicode_utf8_decodeRuneInStringSlow_i41 : IR := .ret
def unicode_utf8_decodeRuneInStringSlow_i42 : IR := (.cond (.t 98) (.seq (.reg false unicode_utf8_decodeRuneInStringSlow_i40) unicode_utf8_decodeRuneInStringSlow_i41) .skip)
def unicode_utf8_decodeRuneInStringSlow_i43 : List Op1 := [(oM 99 (.t 5) []), (oE 100 (.bin .and (.t 99) (.k (.int .u8 7))) [0]), (oE 101 (.cint .i32 (.t 100)) [1]), (oE 102 (.bin .shl (.t 101) (.k (.int .u64 18))) [2]), (oM 103 (.t 10) []), (oE 104 (.bin .and (.t 103) (.k (.int .u8 63))) [4]), (oE 105 (.cint .i32 (.t 104)) [5]), (oE 106 (.bin .shl (.t 105) (.k (.int .u64 12))) [6]), (oE 107 (.bin .or (.t 102) (.t 106)) [3, 7]), (oM 108 (.t 11) []), (oE 109 (.bin .and (.t 108) (.k (.int .u8 63))) [9]), (oE 110 (.cint .i32 (.t 109)) [10]), (oE 111 (.bin .shl (.t 110) (.k (.int .u64 6))) [11]), (oE 112 (.bin .or (.t 107) (.t 111)) [8, 12]), (oM 113 (.t 12) []), (oE 114 (.bin .and (.t 113) (.k (.int .u8 63))) [14]), (oE 115 (.cint .i32 (.t 114)) [15]), (oE 116 (.bin .or (.t 112) (.t 115)) [13, 16]), (oM 2 (.t 116) [17, 0, 1, 2, 3, 4, 5, 6, 7, 8, 9, 10, 11, 12, 13, 14, 15, 16, 17]), (oM 3 (.k (.int .i64 4)) [18, 0, 1, 2, 3, 4, 5, 6, 7, 8, 9, 10, 11, 12, 13, 14, 15, 16, 17, 18])]
def unicode_utf8_decodeRuneInStringSlow_i44 : IR := .ret
def unicode_utf8_decodeRuneInStringSlow_i45 : IR := (.seq (.reg false unicode_utf8_decodeRuneInStringSlow_i43) unicode_utf8_decodeRuneInStringSlow_i44)
def unicode_utf8_decodeRuneInStringSlow_i46 : IR := (.seq (.seq (.reg false unicode_utf8_decodeRuneInStringSlow_i39) unicode_utf8_decodeRuneInStringSlow_i42) unicode_utf8_decodeRuneInStringSlow_i45)
def unicode_utf8_decodeRuneInStringSlow_i47 : IR := (.seq (.reg false unicode_utf8_decodeRuneInStringSlow_i38) unicode_utf8_decodeRuneInStringSlow_i46)
def unicode_utf8_decodeRuneInStringSlow_i48 : IR := (.seq (.seq (.reg false unicode_utf8_decodeRuneInStringSlow_i34) unicode_utf8_decodeRuneInStringSlow_i37) unicode_utf8_decodeRuneInStringSlow_i47)
def unicode_utf8_decodeRuneInStringSlow_i49 : IR := (.seq (.seq (.reg false unicode_utf8_decodeRuneInStringSlow_i30) unicode_utf8_decodeRuneInStringSlow_i33) unicode_utf8_decodeRuneInStringSlow_i48)
def unicode_utf8_decodeRuneInStringSlow_i50 : IR := (.seq (.reg false unicode_utf8_decodeRuneInStringSlow_i29) unicode_utf8_decodeRuneInStringSlow_i49)
def unicode_utf8_decodeRuneInStringSlow_i51 : IR := (.seq (.seq (.reg false unicode_utf8_decodeRuneInStringSlow_i25) unicode_utf8_decodeRuneInStringSlow_i28) unicode_utf8_decodeRuneInStringSlow_i50)
def unicode_utf8_decodeRuneInStringSlow_i52 : IR := (.seq (.seq (.reg false unicode_utf8_decodeRuneInStringSlow_i21) unicode_utf8_decodeRuneInStringSlow_i24) unicode_utf8_decodeRuneInStringSlow_i51)
def unicode_utf8_decodeRuneInStringSlow_i53 : IR := (.seq (.reg false unicode_utf8_decodeRuneInStringSlow_i20) unicode_utf8_decodeRuneInStringSlow_i52)
def unicode_utf8_decodeRuneInStringSlow_i54 : IR := (.seq (.seq (.reg false unicode_utf8_decodeRuneInStringSlow_i16) unicode_utf8_decodeRuneInStringSlow_i19) unicode_utf8_decodeRuneInStringSlow_i53)
def unicode_utf8_decodeRuneInStringSlow_i55 : IR := (.seq (.reg false unicode_utf8_decodeRuneInStringSlow_i15) unicode_utf8_decodeRuneInStringSlow_i54)
def unicode_utf8_decodeRuneInStringSlow_i56 : IR := (.seq (.reg false unicode_utf8_decodeRuneInStringSlow_i14) unicode_utf8_decodeRuneInStringSlow_i55)
def unicode_utf8_decodeRuneInStringSlow_i57 : IR := (.seq (.seq (.reg false unicode_utf8_decodeRuneInStringSlow_i8) unicode_utf8_decodeRuneInStringSlow_i13) unicode_utf8_decodeRuneInStringSlow_i56)
def unicode_utf8_decodeRuneInStringSlow_i58 : IR := (.seq (.reg false unicode_utf8_decodeRuneInStringSlow_i7) unicode_utf8_decodeRuneInStringSlow_i57)
def unicode_utf8_decodeRuneInStringSlow_i59 : IR := (.seq (.reg false unicode_utf8_decodeRuneInStringSlow_i6) unicode_utf8_decodeRuneInStringSlow_i58)
def unicode_utf8_decodeRuneInStringSlow_i60 : IR := (.seq (.seq (.reg false unicode_utf8_decodeRuneInStringSlow_i2) unicode_utf8_decodeRuneInStringSlow_i5) unicode_utf8_decodeRuneInStringSlow_i59)
def unicode_utf8_decodeRuneInStringSlow_i61 : IR := (.seq (.reg false unicode_utf8_decodeRuneInStringSlow_i1) unicode_utf8_decodeRuneInStringSlow_i60)
def unicode_utf8_decodeRuneInStringSlow_ir : IR := (.seq (.reg false unicode_utf8_decodeRuneInStringSlow_i0) unicode_utf8_decodeRuneInStringSlow_i61)
theorem unicode_utf8_decodeRuneInStringSlow_cfn : cFn Tryd.prog 50 = some (unicode_utf8_decodeRuneInStringSlow_ir, [(.t 2), (.t 3)], 117) := by kernel_rfl
def unicode_utf8_decodeRuneInStringSlow_V (r : (Int × Int)) : V := .tup [.s (.int .i32 r.1), .s (.int .i64 r.2)]
def unicode_utf8_decodeRuneInStringSlow_C (r : (Int × Int)) : X → Fr → Hp → Prop := FinL [(.t 2), (.t 3)] [] (unicode_utf8_decodeRuneInStringSlow_V r) []
theorem unicode_utf8_decodeRuneInStringSlow_ok (s_ : ByteArray) (r : (Int × Int)) (h : unicode_utf8_decodeRuneInStringSlow s_ = some r) : Pure Tryd.prog 50 [.s (.string s_)] (unicode_utf8_decodeRuneInStringSlow_V r) := by
  refine ConL.of unicode_utf8_decodeRuneInStringSlow_cfn (Nat.le_of_ble_eq_true (by kernel_rfl)) (Nat.le_of_ble_eq_true (by kernel_rfl)) ?_
  refine k_start ?_
  show dwv Tryd.prog [] unicode_utf8_decodeRuneInStringSlow_ir (kont Tryd.prog [] (unicode_utf8_decodeRuneInStringSlow_C r) []) (fr0 [.s (.string s_)]) []
  have hf : FOk (fr0 [.s (.string s_)]) [⟨0, [], .s (.string s_)⟩] := ⟨⟨fun _ => rfl, fun h => (h trivial).elim⟩, trivial⟩
  generalize fr0 [.s (.string s_)] = f at hf ⊢
  unfold unicode_utf8_decodeRuneInStringSlow at h
  refine k_seq ?_
  refine k_reg ?_
  refine mops_en hf (by kernel_rfl) fun f1 hf1 => ?_
  refine k_c ?_
  refine k_seq ?_
  refine k_reg ?_
  refine mops_en hf1 (by kernel_rfl) fun f2 hf2 => ?_
  refine k_c ?_
  refine k_seq ?_
  refine k_seq ?_
  refine k_reg ?_
  refine mops_en hf2 (by kernel_rfl) fun f3 hf3 => ?_
  refine k_c ?_
  refine k_cond hf3 (t := (decide ((sln s_) < 1))) (by kernel_rfl) (fun hc1 => ?_) (fun hc1 => ?_)
  · have h := if_t h hc1
    refine k_seq ?_
    refine k_reg ?_
    refine mops_en hf3 (by kernel_rfl) fun f4 hf4 => ?_
    refine k_c ?_
    refine k_ret ?_
    refine x_c nofun ?_
    obtain rfl := Option.some.inj h
    exact k_fin (fin_ret (.inl rfl) hf4 (vs := [.s (.int .i32 65533), .s (.int .i64 0)]) (by kernel_rfl) (SettL.pure (FzL.tup (FzsL.cons (FzL.stat rfl) (FzsL.cons (FzL.stat rfl) FzsL.nil)))))
  · have h := if_f h hc1
    cases h
def strings_Index_i0 : List Op1 := [(oM 4 (.k (.int .i64 0)) [])]
def strings_Index_i1 : List Op1 := [(oM 5 (.t 0) []), (oM 6 (.t 1) []), (oC 7 47 [(.t 5), (.t 6)] [0, 1]), (oM 4 (.t 7) [2, 2, 0, 1, 2])]
def strings_Index_i2 : IR := .ret
def strings_Index_i3 : IR := (.seq (.reg false strings_Index_i1) strings_Index_i2)
def strings_Index_ir : IR := (.seq (.reg false strings_Index_i0) strings_Index_i3)
theorem strings_Index_cfn : cFn Tryd.prog 41 = some (strings_Index_ir, [(.t 4)], 8) := by kernel_rfl
def strings_Index_V (r : (Int)) : V := .s (.int .i64 r)
def strings_Index_C (r : (Int)) : X → Fr → Hp → Prop := FinL [(.t 4)] [] (strings_Index_V r) []
theorem strings_Index_ok (s_ : ByteArray) (substr_ : ByteArray) (r : (Int)) (h : strings_Index s_ substr_ = some r) : Pure Tryd.prog 41 [.s (.string s_), .s (.string substr_)] (strings_Index_V r) := by
  refine ConL.of strings_Index_cfn (Nat.le_of_ble_eq_true (by kernel_rfl)) (Nat.le_of_ble_eq_true (by kernel_rfl)) ?_
  refine k_start ?_
  show dwv Tryd.prog [] strings_Index_ir (kont Tryd.prog [] (strings_Index_C r) []) (fr0 [.s (.string s_), .s (.string substr_)]) []
  have hf : FOk (fr0 [.s (.string s_), .s (.string substr_)]) [⟨0, [], .s (.string s_)⟩, ⟨1, [], .s (.string substr_)⟩] := ⟨⟨fun _ => rfl, fun h => (h trivial).elim⟩, ⟨fun _ => rfl, fun h => (h trivial).elim⟩, trivial⟩
  generalize fr0 [.s (.string s_), .s (.string substr_)] = f at hf ⊢
  unfold strings_Index at h
  refine k_seq ?_
  refine k_reg ?_
  refine mops_en hf (by kernel_rfl) fun f1 hf1 => ?_
  refine k_c ?_
  refine k_seq ?_
  refine k_reg ?_
  refine mops_sg 2 hf1 (by kernel_rfl) fun f2 hf2 => ?_
  obtain ⟨r_, hx_r_, h⟩ := Option.bind_eq_some_iff.1 h
  refine mops_call rfl hf2 (av := [.s (.string s_), .s (.string substr_)]) (by kernel_rfl) (v := .s (.int .i64 r_)) (CalL.pure (internal_stringslite_Index_ok s_ substr_ r_ hx_r_) rfl rfl (Nat.le_of_ble_eq_true (by kernel_rfl))) (fun _ => rfl) fun f3 hf3 => ?_
  refine mops_en hf3 (by kernel_rfl) fun f4 hf4 => ?_
  refine k_c ?_
  refine k_ret ?_
  obtain rfl := Option.some.inj h
  exact k_fin (fin_ret (.inl rfl) hf4 (vs := [.s (.int .i64 r_)]) (by kernel_rfl) (SettL.pure (FzL.stat rfl)))
def lists_regs_i0 : List Op1 := [(oE 2 (.zero [(.int .i64 0), (.int .i64 0), (.int .i64 0), (.int .i64 0), (.int .i64 0), (.int .i64 0), (.int .i64 0), (.int .i64 0)]) [])]
def lists_regs_i1 : List Op1 := [(oE 4 (.build [(.int .i64 0), (.int .i64 0), (.int .i64 0), (.int .i64 0), (.int .i64 0), (.int .i64 0), (.int .i64 0), (.int .i64 0)] [(0, (1, (.k (.int .i64 10)))), (1, (1, (.k (.int .i64 8)))), (2, (1, (.k (.int .i64 9)))), (3, (1, (.k (.int .i64 11)))), (4, (1, (.k (.int .i64 1)))), (5, (1, (.k (.int .i64 2)))), (6, (1, (.k (.int .i64 3)))), (7, (1, (.k (.int .i64 5))))]) []), (oE 3 (.zero [(.int .i64 0), (.int .i64 0), (.int .i64 0), (.int .i64 0), (.int .i64 0), (.int .i64 0), (.int .i64 0), (.int .i64 0)]) []), (oN (.store 8 (.t 3) (.t 4)) [1, 0, 0, 1])]
def lists_regs_i2 : List Op1 := [(oM 5 (.t 0) []), (oE 6 (.bin .eql (.t 5) (.k (.int .i64 3))) [0])]
def lists_regs_i3 : List Op1 := [(oE 7 (.iaa 8 1 (.t 3) (.k (.int .i64 6))) []), (oN (.store 1 (.t 7) (.k (.int .i64 4))) [0])]
def lists_regs_i4 : IR := (.cond (.t 6) (.reg false lists_regs_i3) .skip)
def lists_regs_i5 : List Op1 := [(oE 8 (.load true 8 (.t 3)) []), (oN (.store 8 (.t 2) (.t 8)) [0, 0])]
def lists_regs_i6 : IR := .ret
def lists_regs_i7 : IR := (.seq (.reg false lists_regs_i5) lists_regs_i6)
def lists_regs_i8 : IR := (.seq (.seq (.reg false lists_regs_i2) lists_regs_i4) lists_regs_i7)
def lists_regs_i9 : IR := (.seq (.reg false lists_regs_i1) lists_regs_i8)
def lists_regs_ir : IR := (.seq (.reg false lists_regs_i0) lists_regs_i9)
theorem lists_regs_cfn : cFn Tryd.prog 23 = some (lists_regs_ir, [(.c 2 true 8)], 9) := by kernel_rfl
def lists_regs_V (r : (A8_i64)) : V := .agg [.s (.int .i64 r.a0), .s (.int .i64 r.a1), .s (.int .i64 r.a2), .s (.int .i64 r.a3), .s (.int .i64 r.a4), .s (.int .i64 r.a5), .s (.int .i64 r.a6), .s (.int .i64 r.a7)]
def lists_regs_C (r : (A8_i64)) : X → Fr → Hp → Prop := FinL [(.c 2 true 8)] [] (lists_regs_V r) []
theorem lists_regs_ok (stack_ : Int) (r : (A8_i64)) (h : lists_regs stack_ = some r) : Pure Tryd.prog 23 [.s (.int .i64 stack_)] (lists_regs_V r) := by
  refine ConL.of lists_regs_cfn (Nat.le_of_ble_eq_true (by kernel_rfl)) (Nat.le_of_ble_eq_true (by kernel_rfl)) ?_
  refine k_start ?_
  show dwv Tryd.prog [] lists_regs_ir (kont Tryd.prog [] (lists_regs_C r) []) (fr0 [.s (.int .i64 stack_)]) []
  have hf : FOk (fr0 [.s (.int .i64 stack_)]) [⟨0, [], .s (.int .i64 stack_)⟩] := ⟨⟨fun _ => rfl, fun h => (h trivial).elim⟩, trivial⟩
  generalize fr0 [.s (.int .i64 stack_)] = f at hf ⊢
  unfold lists_regs at h
  refine k_seq ?_
  refine k_reg ?_
  refine mops_en hf (by kernel_rfl) fun f1 hf1 => ?_
  refine k_c ?_
  refine k_seq ?_
  refine k_reg ?_
  refine mops_en hf1 (by kernel_rfl) fun f2 hf2 => ?_
  refine k_c ?_
  refine k_seq ?_
  refine k_seq ?_
  refine k_reg ?_
  refine mops_en hf2 (by kernel_rfl) fun f3 hf3 => ?_
  refine k_c ?_
  refine k_cond hf3 (t := (stack_ == 3)) (by kernel_rfl) (fun hc1 => ?_) (fun hc1 => ?_)
  · have h := if_t h hc1
    refine k_reg ?_
    refine mops_en hf3 (by kernel_rfl) fun f4 hf4 => ?_
    refine k_c ?_
    refine k_seq ?_
    refine k_reg ?_
    refine mops_en hf4 (by kernel_rfl) fun f5 hf5 => ?_
    refine k_c ?_
    refine k_ret ?_
    obtain rfl := Option.some.inj h
    exact k_fin (fin_ret (.inl rfl) hf5 (vs := [.agg [.s (.int .i64 10), .s (.int .i64 8), .s (.int .i64 9), .s (.int .i64 11), .s (.int .i64 1), .s (.int .i64 2), .s (.int .i64 4), .s (.int .i64 5)]]) (by kernel_rfl) (SettL.pure (FzL.stat rfl)))
  · have h := if_f h hc1
    refine k_skip ?_
    refine k_c ?_
    refine k_seq ?_
    refine k_reg ?_
    refine mops_en hf3 (by kernel_rfl) fun f4 hf4 => ?_
    refine k_c ?_
    refine k_ret ?_
    obtain rfl := Option.some.inj h
    exact k_fin (fin_ret (.inl rfl) hf4 (vs := [.agg [.s (.int .i64 10), .s (.int .i64 8), .s (.int .i64 9), .s (.int .i64 11), .s (.int .i64 1), .s (.int .i64 2), .s (.int .i64 3), .s (.int .i64 5)]]) (by kernel_rfl) (SettL.pure (FzL.stat rfl)))
def ops_Reg_i0 : List Op1 := [(oM 2 (.k (.string ⟨#[]⟩)) [])]
def ops_Reg_i1 : List Op1 := [(oM 3 (.t 0) [])]
def ops_Reg_i2 : List Op1 := [(oE 5 (.bin .eql (.t 3) (.k (.int .i64 0))) []), (oM 4 (.t 5) [0])]
def ops_Reg_i3 : List Op1 := [(oM 2 (.k (.string ⟨#[68]⟩)) [])]
def ops_Reg_i4 : IR := .ret
def ops_Reg_i5 : List Op1 := [(oE 7 (.bin .eql (.t 3) (.k (.int .i64 1))) []), (oM 6 (.t 7) [0])]
def ops_Reg_i6 : List Op1 := [(oM 2 (.k (.string ⟨#[88]⟩)) [])]
def ops_Reg_i7 : IR := .ret
def ops_Reg_i8 : List Op1 := [(oE 9 (.bin .eql (.t 3) (.k (.int .i64 2))) []), (oM 8 (.t 9) [0])]
def ops_Reg_i9 : List Op1 := [(oM 2 (.k (.string ⟨#[89]⟩)) [])]
def ops_Reg_i10 : IR := .ret
def ops_Reg_i11 : List Op1 := [(oE 11 (.bin .eql (.t 3) (.k (.int .i64 3))) []), (oM 10 (.t 11) [0])]
def ops_Reg_i12 : List Op1 := [(oM 2 (.k (.string ⟨#[85]⟩)) [])]
def ops_Reg_i13 : IR := .ret
def ops_Reg_i14 : List Op1 := [(oE 13 (.bin .eql (.t 3) (.k (.int .i64 4))) []), (oM 12 (.t 13) [0])]
def ops_Reg_i15 : List Op1 := [(oM 2 (.k (.string ⟨#[83]⟩)) [])]
def ops_Reg_i16 : IR := .ret
def ops_Reg_i17 : List Op1 := [(oE 15 (.bin .eql (.t 3) (.k (.int .i64 5))) []), (oM 14 (.t 15) [0])]
def ops_Reg_i18 : List Op1 := [(oM 2 (.k (.string ⟨#[80, 67]⟩)) [])]
def ops_Reg_i19 : IR := .ret
def ops_Reg_i20 : List Op1 := [(oE 17 (.bin .eql (.t 3) (.k (.int .i64 8))) []), (oM 16 (.t 17) [0])]
def ops_Reg_i21 : List Op1 := [(oM 2 (.k (.string ⟨#[65]⟩)) [])]
def ops_Reg_i22 : IR := .ret
def ops_Reg_i23 : List Op1 := [(oE 19 (.bin .eql (.t 3) (.k (.int .i64 9))) []), (oM 18 (.t 19) [0])]
def ops_Reg_i24 : List Op1 := [(oM 2 (.k (.string ⟨#[66]⟩)) [])]
def ops_Reg_i25 : IR := .ret
def ops_Reg_i26 : List Op1 := [(oE 21 (.bin .eql (.t 3) (.k (.int .i64 10))) []), (oM 20 (.t 21) [0])]
def ops_Reg_i27 : List Op1 := [(oM 2 (.k (.string ⟨#[67, 67]⟩)) [])]
def ops_Reg_i28 : IR := .ret
def ops_Reg_i29 : List Op1 := [(oE 23 (.bin .eql (.t 3) (.k (.int .i64 11))) []), (oM 22 (.t 23) [0])]
def ops_Reg_i30 : List Op1 := [(oM 2 (.k (.string ⟨#[68, 80]⟩)) [])]
def ops_Reg_i31 : IR := .ret
def ops_Reg_i32 : IR := (.cond (.t 22) (.seq (.reg false ops_Reg_i30) ops_Reg_i31) .skip)
def ops_Reg_i33 : IR := (.cond (.t 20) (.seq (.reg false ops_Reg_i27) ops_Reg_i28) (.seq (.reg false ops_Reg_i29) ops_Reg_i32))
def ops_Reg_i34 : IR := (.cond (.t 18) (.seq (.reg false ops_Reg_i24) ops_Reg_i25) (.seq (.reg false ops_Reg_i26) ops_Reg_i33))
def ops_Reg_i35 : IR := (.cond (.t 16) (.seq (.reg false ops_Reg_i21) ops_Reg_i22) (.seq (.reg false ops_Reg_i23) ops_Reg_i34))
def ops_Reg_i36 : IR := (.cond (.t 14) (.seq (.reg false ops_Reg_i18) ops_Reg_i19) (.seq (.reg false ops_Reg_i20) ops_Reg_i35))
def ops_Reg_i37 : IR := (.cond (.t 12) (.seq (.reg false ops_Reg_i15) ops_Reg_i16) (.seq (.reg false ops_Reg_i17) ops_Reg_i36))
def ops_Reg_i38 : IR := (.cond (.t 10) (.seq (.reg false ops_Reg_i12) ops_Reg_i13) (.seq (.reg false ops_Reg_i14) ops_Reg_i37))
def ops_Reg_i39 : IR := (.cond (.t 8) (.seq (.reg false ops_Reg_i9) ops_Reg_i10) (.seq (.reg false ops_Reg_i11) ops_Reg_i38))
def ops_Reg_i40 : IR := (.cond (.t 6) (.seq (.reg false ops_Reg_i6) ops_Reg_i7) (.seq (.reg false ops_Reg_i8) ops_Reg_i39))
def ops_Reg_i41 : IR := (.cond (.t 4) (.seq (.reg false ops_Reg_i3) ops_Reg_i4) (.seq (.reg false ops_Reg_i5) ops_Reg_i40))
def ops_Reg_i42 : IR := (.block 0 (.seq (.reg false ops_Reg_i2) ops_Reg_i41))
def ops_Reg_i43 : List Op1 := [(oM 2 (.k (.string ⟨#[]⟩)) [])]
def ops_Reg_i44 : IR := .ret
def ops_Reg_i45 : IR := (.seq (.reg false ops_Reg_i43) ops_Reg_i44)
def ops_Reg_i46 : IR := (.seq (.seq (.reg false ops_Reg_i1) ops_Reg_i42) ops_Reg_i45)
def ops_Reg_ir : IR := (.seq (.reg false ops_Reg_i0) ops_Reg_i46)
theorem ops_Reg_cfn : cFn Tryd.prog 32 = some (ops_Reg_ir, [(.t 2)], 24) := by kernel_rfl
def ops_Reg_V (r : (ByteArray)) : V := .s (.string r)
def ops_Reg_C (r : (ByteArray)) : X → Fr → Hp → Prop := FinL [(.t 2)] [] (ops_Reg_V r) []
theorem ops_Reg_ok (code_ : Int) (r : (ByteArray)) (h : ops_Reg code_ = some r) : Pure Tryd.prog 32 [.s (.int .i64 code_)] (ops_Reg_V r) := by
  refine ConL.of ops_Reg_cfn (Nat.le_of_ble_eq_true (by kernel_rfl)) (Nat.le_of_ble_eq_true (by kernel_rfl)) ?_
  refine k_start ?_
  show dwv Tryd.prog [] ops_Reg_ir (kont Tryd.prog [] (ops_Reg_C r) []) (fr0 [.s (.int .i64 code_)]) []
  have hf : FOk (fr0 [.s (.int .i64 code_)]) [⟨0, [], .s (.int .i64 code_)⟩] := ⟨⟨fun _ => rfl, fun h => (h trivial).elim⟩, trivial⟩
  generalize fr0 [.s (.int .i64 code_)] = f at hf ⊢
  unfold ops_Reg at h
  refine k_seq ?_
  refine k_reg ?_
  refine mops_en hf (by kernel_rfl) fun f1 hf1 => ?_
  refine k_c ?_
  refine k_seq ?_
  refine k_seq ?_
  refine k_reg ?_
  refine mops_en hf1 (by kernel_rfl) fun f2 hf2 => ?_
  refine k_c ?_
  refine k_block ?_
  refine k_seq ?_
  refine k_reg ?_
  refine mops_en hf2 (by kernel_rfl) fun f3 hf3 => ?_
  refine k_c ?_
  refine k_cond hf3 (t := (code_ == 0)) (by kernel_rfl) (fun hc1 => ?_) (fun hc1 => ?_)
  · have h := if_t h hc1
    refine k_seq ?_
    refine k_reg ?_
    refine mops_en hf3 (by kernel_rfl) fun f4 hf4 => ?_
    refine k_c ?_
    refine k_ret ?_
    refine x_br ?_
    refine x_c nofun ?_
    obtain rfl := Option.some.inj h
    exact k_fin (fin_ret (.inl rfl) hf4 (vs := [.s (.string (⟨#[68]⟩ : ByteArray))]) (by kernel_rfl) (SettL.pure (FzL.stat rfl)))
  · have h := if_f h hc1
    refine k_seq ?_
    refine k_reg ?_
    refine mops_en hf3 (by kernel_rfl) fun f4 hf4 => ?_
    refine k_c ?_
    refine k_cond hf4 (t := (code_ == 1)) (by kernel_rfl) (fun hc2 => ?_) (fun hc2 => ?_)
    · have h := if_t h hc2
      refine k_seq ?_
      refine k_reg ?_
      refine mops_en hf4 (by kernel_rfl) fun f5 hf5 => ?_
      refine k_c ?_
      refine k_ret ?_
      refine x_br ?_
      refine x_c nofun ?_
      obtain rfl := Option.some.inj h
      exact k_fin (fin_ret (.inl rfl) hf5 (vs := [.s (.string (⟨#[88]⟩ : ByteArray))]) (by kernel_rfl) (SettL.pure (FzL.stat rfl)))
    · have h := if_f h hc2
      refine k_seq ?_
      refine k_reg ?_
      refine mops_en hf4 (by kernel_rfl) fun f5 hf5 => ?_
      refine k_c ?_
      refine k_cond hf5 (t := (code_ == 2)) (by kernel_rfl) (fun hc3 => ?_) (fun hc3 => ?_)
      · have h := if_t h hc3
        refine k_seq ?_
        refine k_reg ?_
        refine mops_en hf5 (by kernel_rfl) fun f6 hf6 => ?_
        refine k_c ?_
        refine k_ret ?_
        refine x_br ?_
        refine x_c nofun ?_
        obtain rfl := Option.some.inj h
        exact k_fin (fin_ret (.inl rfl) hf6 (vs := [.s (.string (⟨#[89]⟩ : ByteArray))]) (by kernel_rfl) (SettL.pure (FzL.stat rfl)))
      · have h := if_f h hc3
        refine k_seq ?_
        refine k_reg ?_
        refine mops_en hf5 (by kernel_rfl) fun f6 hf6 => ?_
        refine k_c ?_
        refine k_cond hf6 (t := (code_ == 3)) (by kernel_rfl) (fun hc4 => ?_) (fun hc4 => ?_)
        · have h := if_t h hc4
          refine k_seq ?_
          refine k_reg ?_
          refine mops_en hf6 (by kernel_rfl) fun f7 hf7 => ?_
          refine k_c ?_
          refine k_ret ?_
          refine x_br ?_
          refine x_c nofun ?_
          obtain rfl := Option.some.inj h
          exact k_fin (fin_ret (.inl rfl) hf7 (vs := [.s (.string (⟨#[85]⟩ : ByteArray))]) (by kernel_rfl) (SettL.pure (FzL.stat rfl)))
        · have h := if_f h hc4
          refine k_seq ?_
          refine k_reg ?_
          refine mops_en hf6 (by kernel_rfl) fun f7 hf7 => ?_
          refine k_c ?_
          refine k_cond hf7 (t := (code_ == 4)) (by kernel_rfl) (fun hc5 => ?_) (fun hc5 => ?_)
          · have h := if_t h hc5
            refine k_seq ?_
            refine k_reg ?_
            refine mops_en hf7 (by kernel_rfl) fun f8 hf8 => ?_
            refine k_c ?_
            refine k_ret ?_
            refine x_br ?_
            refine x_c nofun ?_
            obtain rfl := Option.some.inj h
            exact k_fin (fin_ret (.inl rfl) hf8 (vs := [.s (.string (⟨#[83]⟩ : ByteArray))]) (by kernel_rfl) (SettL.pure (FzL.stat rfl)))
          · have h := if_f h hc5
            refine k_seq ?_
            refine k_reg ?_
            refine mops_en hf7 (by kernel_rfl) fun f8 hf8 => ?_
            refine k_c ?_
            refine k_cond hf8 (t := (code_ == 5)) (by kernel_rfl) (fun hc6 => ?_) (fun hc6 => ?_)
            · have h := if_t h hc6
              refine k_seq ?_
              refine k_reg ?_
              refine mops_en hf8 (by kernel_rfl) fun f9 hf9 => ?_
              refine k_c ?_
              refine k_ret ?_
              refine x_br ?_
              refine x_c nofun ?_
              obtain rfl := Option.some.inj h
              exact k_fin (fin_ret (.inl rfl) hf9 (vs := [.s (.string (⟨#[80, 67]⟩ : ByteArray))]) (by kernel_rfl) (SettL.pure (FzL.stat rfl)))
            · have h := if_f h hc6
              refine k_seq ?_
              refine k_reg ?_
              refine mops_en hf8 (by kernel_rfl) fun f9 hf9 => ?_
              refine k_c ?_
              refine k_cond hf9 (t := (code_ == 8)) (by kernel_rfl) (fun hc7 => ?_) (fun hc7 => ?_)
              · have h := if_t h hc7
                refine k_seq ?_
                refine k_reg ?_
                refine mops_en hf9 (by kernel_rfl) fun f10 hf10 => ?_
                refine k_c ?_
                refine k_ret ?_
                refine x_br ?_
                refine x_c nofun ?_
                obtain rfl := Option.some.inj h
                exact k_fin (fin_ret (.inl rfl) hf10 (vs := [.s (.string (⟨#[65]⟩ : ByteArray))]) (by kernel_rfl) (SettL.pure (FzL.stat rfl)))
              · have h := if_f h hc7
                refine k_seq ?_
                refine k_reg ?_
                refine mops_en hf9 (by kernel_rfl) fun f10 hf10 => ?_
                refine k_c ?_
                refine k_cond hf10 (t := (code_ == 9)) (by kernel_rfl) (fun hc8 => ?_) (fun hc8 => ?_)
                · have h := if_t h hc8
                  refine k_seq ?_
                  refine k_reg ?_
                  refine mops_en hf10 (by kernel_rfl) fun f11 hf11 => ?_
                  refine k_c ?_
                  refine k_ret ?_
                  refine x_br ?_
                  refine x_c nofun ?_
                  obtain rfl := Option.some.inj h
                  exact k_fin (fin_ret (.inl rfl) hf11 (vs := [.s (.string (⟨#[66]⟩ : ByteArray))]) (by kernel_rfl) (SettL.pure (FzL.stat rfl)))
                · have h := if_f h hc8
                  refine k_seq ?_
                  refine k_reg ?_
                  refine mops_en hf10 (by kernel_rfl) fun f11 hf11 => ?_
                  refine k_c ?_
                  refine k_cond hf11 (t := (code_ == 10)) (by kernel_rfl) (fun hc9 => ?_) (fun hc9 => ?_)
                  · have h := if_t h hc9
                    refine k_seq ?_
                    refine k_reg ?_
                    refine mops_en hf11 (by kernel_rfl) fun f12 hf12 => ?_
                    refine k_c ?_
                    refine k_ret ?_
                    refine x_br ?_
                    refine x_c nofun ?_
                    obtain rfl := Option.some.inj h
                    exact k_fin (fin_ret (.inl rfl) hf12 (vs := [.s (.string (⟨#[67, 67]⟩ : ByteArray))]) (by kernel_rfl) (SettL.pure (FzL.stat rfl)))
                  · have h := if_f h hc9
                    refine k_seq ?_
                    refine k_reg ?_
                    refine mops_en hf11 (by kernel_rfl) fun f12 hf12 => ?_
                    refine k_c ?_
                    refine k_cond hf12 (t := (code_ == 11)) (by kernel_rfl) (fun hc10 => ?_) (fun hc10 => ?_)
                    · have h := if_t h hc10
                      refine k_seq ?_
                      refine k_reg ?_
                      refine mops_en hf12 (by kernel_rfl) fun f13 hf13 => ?_
                      refine k_c ?_
                      refine k_ret ?_
                      refine x_br ?_
                      refine x_c nofun ?_
                      obtain rfl := Option.some.inj h
                      exact k_fin (fin_ret (.inl rfl) hf13 (vs := [.s (.string (⟨#[68, 80]⟩ : ByteArray))]) (by kernel_rfl) (SettL.pure (FzL.stat rfl)))
                    · have h := if_f h hc10
                      refine k_skip ?_
                      refine k_b ?_
                      refine k_c ?_
                      refine k_seq ?_
                      refine k_reg ?_
                      refine mops_en hf12 (by kernel_rfl) fun f13 hf13 => ?_
                      refine k_c ?_
                      refine k_ret ?_
                      obtain rfl := Option.some.inj h
                      exact k_fin (fin_ret (.inl rfl) hf13 (vs := [.s (.string (⟨#[]⟩ : ByteArray))]) (by kernel_rfl) (SettL.pure (FzL.stat rfl)))
def strings_Join_i0 : List Op1 := [(oM 4 (.k (.string ⟨#[]⟩)) [])]
def strings_Join_i1 : List Op1 := [(oM 11 (.t 0) []), (oE 12 (.len (.t 11)) [0])]
def strings_Join_i2 : List Op1 := [(oE 14 (.bin .eql (.t 12) (.k (.int .i64 0))) []), (oM 13 (.t 14) [0])]
def strings_Join_i3 : List Op1 := [(oM 4 (.k (.string ⟨#[]⟩)) [])]
def strings_Join_i4 : IR := .ret
def strings_Join_i5 : List Op1 := [(oE 16 (.bin .eql (.t 12) (.k (.int .i64 1))) []), (oM 15 (.t 16) [0])]
def strings_Join_i6 : List Op1 := [(oM 17 (.t 0) []), (oE 18 (.ias 1 (.t 17) (.k (.int .i64 0))) [0]), (oE 19 (.load false 1 (.t 18)) [1]), (oM 4 (.t 19) [2, 0, 1, 2])]
def strings_Join_i7 : IR := .ret
def strings_Join_i8 : IR := (.cond (.t 15) (.seq (.reg false strings_Join_i6) strings_Join_i7) .skip)
def strings_Join_i9 : IR := (.cond (.t 13) (.seq (.reg false strings_Join_i3) strings_Join_i4) (.seq (.reg false strings_Join_i5) strings_Join_i8))
def strings_Join_i10 : IR := (.block 0 (.seq (.reg false strings_Join_i2) strings_Join_i9))
def strings_Join_i11 : List Op1 := [(oM 5 (.k (.int .i64 0)) [])]
def strings_Join_i12 : List Op1 := [(oM 20 (.t 1) []), (oE 21 (.lens (.t 20)) [0]), (oE 22 (.bin .gtr (.t 21) (.k (.int .i64 0))) [1])]
def strings_Join_i13 : List Op1 := [(oM 23 (.t 1) []), (oE 24 (.lens (.t 23)) [0]), (oM 25 (.t 0) []), (oE 26 (.len (.t 25)) [2]), (oE 27 (.bin .sub (.t 26) (.k (.int .i64 1))) [3]), (oE 28 (.bin .quo (.k (.int .i64 9223372036854775807)) (.t 27)) [4]), (oE 29 (.bin .geq (.t 24) (.t 28)) [1, 5])]
def strings_Join_i14 : List Op1 := [(oE 30 (.mki 9 (.k (.string ⟨#[115, 116, 114, 105, 110, 103, 115, 58, 32, 74, 111, 105, 110, 32, 111, 117, 116, 112, 117, 116, 32, 108, 101, 110, 103, 116, 104, 32, 111, 118, 101, 114, 102, 108, 111, 119]⟩))) []), (oN (.lens (.k (.bool false))) [0])]
def strings_Join_i15 : IR := (.cond (.t 29) (.reg false strings_Join_i14) .skip)
def strings_Join_i16 : List Op1 := [(oM 31 (.t 5) []), (oM 32 (.t 1) []), (oE 33 (.lens (.t 32)) [1]), (oM 34 (.t 0) []), (oE 35 (.len (.t 34)) [3]), (oE 36 (.bin .sub (.t 35) (.k (.int .i64 1))) [4]), (oE 37 (.bin .mul (.t 33) (.t 36)) [2, 5]), (oE 38 (.bin .add (.t 31) (.t 37)) [0, 6]), (oM 5 (.t 38) [7, 0, 1, 2, 3, 4, 5, 6, 7])]
def strings_Join_i17 : IR := (.reg false strings_Join_i16)
def strings_Join_i18 : IR := (.cond (.t 22) (.seq (.seq (.reg false strings_Join_i13) strings_Join_i15) strings_Join_i17) .skip)
def strings_Join_i19 : List Op1 := [(oM 39 (.t 0) []), (oE 40 (.len (.t 39)) [0]), (oM 41 (.k (.int .i64 0)) [])]
def strings_Join_i20 : List Op1 := [(oE 42 (.bin .lss (.t 41) (.t 40)) [])]
def strings_Join_i21 : List Op1 := [(oE 43 (.ias 1 (.t 39) (.t 41)) []), (oE 44 (.load false 1 (.t 43)) [0]), (oM 7 (.t 44) [1, 0, 1])]
def strings_Join_i22 : List Op1 := [(oM 45 (.t 7) []), (oE 46 (.lens (.t 45)) [0]), (oM 47 (.t 5) []), (oE 48 (.bin .sub (.k (.int .i64 9223372036854775807)) (.t 47)) [2]), (oE 49 (.bin .gtr (.t 46) (.t 48)) [1, 3])]
def strings_Join_i23 : List Op1 := [(oE 50 (.mki 9 (.k (.string ⟨#[115, 116, 114, 105, 110, 103, 115, 58, 32, 74, 111, 105, 110, 32, 111, 117, 116, 112, 117, 116, 32, 108, 101, 110, 103, 116, 104, 32, 111, 118, 101, 114, 102, 108, 111, 119]⟩))) []), (oN (.lens (.k (.bool false))) [0])]
def strings_Join_i24 : IR := (.cond (.t 49) (.reg false strings_Join_i23) .skip)
def strings_Join_i25 : List Op1 := [(oM 51 (.t 5) []), (oM 52 (.t 7) []), (oE 53 (.lens (.t 52)) [1]), (oE 54 (.bin .add (.t 51) (.t 53)) [0, 2]), (oM 5 (.t 54) [3, 0, 1, 2, 3])]
def strings_Join_i26 : IR := (.reg false strings_Join_i25)
def strings_Join_i27 : IR := (.seq (.seq (.reg false strings_Join_i22) strings_Join_i24) strings_Join_i26)
def strings_Join_i28 : List Op1 := [(oE 55 (.bin .add (.t 41) (.k (.int .i64 1))) []), (oM 41 (.t 55) [0])]
def strings_Join_i29 : IR := (.reg false strings_Join_i28)
def strings_Join_i30 : IR := (.seq (.block 2 (.seq (.reg false strings_Join_i21) strings_Join_i27)) strings_Join_i29)
def strings_Join_i31 : IR := (.seq (.cond (.t 42) .skip (.exit 1)) strings_Join_i30)
def strings_Join_i32 : IR := (.seq (.reg false strings_Join_i20) strings_Join_i31)
def strings_Join_i33 : IR := (.block 1 (.loop strings_Join_i32))
def strings_Join_i34 : List Op1 := [(oE 8 (.zerob 72 5) [])]
def strings_Join_i35 : List Op1 := [(oM 56 (.t 5) []), (oC 57 36 [(.t 8), (.t 56)] [0])]
def strings_Join_i36 : List Op1 := [(oM 58 (.t 0) []), (oE 59 (.ias 1 (.t 58) (.k (.int .i64 0))) [0]), (oE 60 (.load false 1 (.t 59)) [1]), (oC 61 37 [(.t 8), (.t 60)] [2])]
def strings_Join_i37 : List Op1 := [(oM 62 (.t 0) []), (oE 63 (.slice 1 (.t 62) (some (.k (.int .i64 1))) none) [0]), (oE 64 (.len (.t 63)) [1]), (oM 65 (.k (.int .i64 0)) [])]
def strings_Join_i38 : List Op1 := [(oE 66 (.bin .lss (.t 65) (.t 64)) [])]
def strings_Join_i39 : List Op1 := [(oE 67 (.ias 1 (.t 63) (.t 65)) []), (oE 68 (.load false 1 (.t 67)) [0]), (oM 10 (.t 68) [1, 0, 1])]
def strings_Join_i40 : List Op1 := [(oM 69 (.t 1) []), (oC 70 37 [(.t 8), (.t 69)] [0])]
def strings_Join_i41 : List Op1 := [(oM 71 (.t 10) []), (oC 72 37 [(.t 8), (.t 71)] [0])]
def strings_Join_i42 : IR := (.reg false strings_Join_i41)
def strings_Join_i43 : IR := (.seq (.reg false strings_Join_i40) strings_Join_i42)
def strings_Join_i44 : List Op1 := [(oE 73 (.bin .add (.t 65) (.k (.int .i64 1))) []), (oM 65 (.t 73) [0])]
def strings_Join_i45 : IR := (.reg false strings_Join_i44)
def strings_Join_i46 : IR := (.seq (.block 4 (.seq (.reg false strings_Join_i39) strings_Join_i43)) strings_Join_i45)
def strings_Join_i47 : IR := (.seq (.cond (.t 66) .skip (.exit 3)) strings_Join_i46)
def strings_Join_i48 : IR := (.seq (.reg false strings_Join_i38) strings_Join_i47)
def strings_Join_i49 : IR := (.block 3 (.loop strings_Join_i48))
def strings_Join_i50 : List Op1 := [(oC 74 38 [(.t 8)] []), (oM 4 (.t 74) [0, 0, 0])]
def strings_Join_i51 : IR := .ret
def strings_Join_i52 : IR := (.seq (.reg false strings_Join_i50) strings_Join_i51)
def strings_Join_i53 : IR := (.seq (.seq (.reg false strings_Join_i37) strings_Join_i49) strings_Join_i52)
def strings_Join_i54 : IR := (.seq (.reg false strings_Join_i36) strings_Join_i53)
def strings_Join_i55 : IR := (.seq (.reg false strings_Join_i35) strings_Join_i54)
def strings_Join_i56 : IR := (.seq (.reg false strings_Join_i34) strings_Join_i55)
def strings_Join_i57 : IR := (.seq (.seq (.reg false strings_Join_i19) strings_Join_i33) strings_Join_i56)
def strings_Join_i58 : IR := (.seq (.seq (.reg false strings_Join_i12) strings_Join_i18) strings_Join_i57)
def strings_Join_i59 : IR := (.seq (.reg false strings_Join_i11) strings_Join_i58)
def strings_Join_i60 : IR := (.seq (.seq (.reg false strings_Join_i1) strings_Join_i10) strings_Join_i59)
def strings_Join_ir : IR := (.seq (.reg false strings_Join_i0) strings_Join_i60)
theorem strings_Join_cfn : cFn Tryd.prog 33 = some (strings_Join_ir, [(.t 4)], 75) := by kernel_rfl
def strings_Join_V (r : (ByteArray)) : V := .s (.string r)
def strings_Join_C (r : (ByteArray)) : X → Fr → Hp → Prop := FinL [(.t 4)] [] (strings_Join_V r) []
theorem strings_Join_ok (elems_ : (List ByteArray)) (sep_ : ByteArray) (r : (ByteArray)) (h : strings_Join elems_ sep_ = some r) : Pure Tryd.prog 33 [.sl false elems_.length (cat nS elems_), .s (.string sep_)] (strings_Join_V r) := by
  refine ConL.of strings_Join_cfn (Nat.le_of_ble_eq_true (by kernel_rfl)) (Nat.le_of_ble_eq_true (by kernel_rfl)) ?_
  refine k_start ?_
  show dwv Tryd.prog [] strings_Join_ir (kont Tryd.prog [] (strings_Join_C r) []) (fr0 [.sl false elems_.length (cat nS elems_), .s (.string sep_)]) []
  have hf : FOk (fr0 [.sl false elems_.length (cat nS elems_), .s (.string sep_)]) [⟨0, [], .sl false elems_.length (cat nS elems_)⟩, ⟨1, [], .s (.string sep_)⟩] := ⟨⟨fun _ => rfl, fun h => (h trivial).elim⟩, ⟨fun _ => rfl, fun h => (h trivial).elim⟩, trivial⟩
  generalize fr0 [.sl false elems_.length (cat nS elems_), .s (.string sep_)] = f at hf ⊢
  unfold strings_Join at h
  refine k_seq ?_
  refine k_reg ?_
  refine mops_en hf (by kernel_rfl) fun f1 hf1 => ?_
  refine k_c ?_
  refine k_seq ?_
  refine k_seq ?_
  refine k_reg ?_
  refine mops_en hf1 (by kernel_rfl) fun f2 hf2 => ?_
  refine k_c ?_
  refine k_block ?_
  refine k_seq ?_
  refine k_reg ?_
  refine mops_en hf2 (by kernel_rfl) fun f3 hf3 => ?_
  refine k_c ?_
  refine k_cond hf3 (t := ((ln elems_) == 0)) (by kernel_rfl) (fun hc1 => ?_) (fun hc1 => ?_)
  · have h := if_t h hc1
    refine k_seq ?_
    refine k_reg ?_
    refine mops_en hf3 (by kernel_rfl) fun f4 hf4 => ?_
    refine k_c ?_
    refine k_ret ?_
    refine x_br ?_
    refine x_c nofun ?_
    obtain rfl := Option.some.inj h
    exact k_fin (fin_ret (.inl rfl) hf4 (vs := [.s (.string (⟨#[]⟩ : ByteArray))]) (by kernel_rfl) (SettL.pure (FzL.stat rfl)))
  · have h := if_f h hc1
    refine k_seq ?_
    refine k_reg ?_
    refine mops_en hf3 (by kernel_rfl) fun f4 hf4 => ?_
    refine k_c ?_
    refine k_cond hf4 (t := ((ln elems_) == 1)) (by kernel_rfl) (fun hc2 => ?_) (fun hc2 => ?_)
    · have h := if_t h hc2
      refine k_seq ?_
      refine k_reg ?_
      refine mops_sg 1 hf4 (by kernel_rfl) fun f5 hf5 => ?_
      obtain ⟨c3, h⟩ := as_ok h
      refine mops_adv rfl (v := .ip ((cat nS elems_).drop ((0 : Int).toNat * 1))) hf5 (by kernel_rfl) (e_ias (n := elems_.length) (xv := .sl false elems_.length (cat nS elems_)) (k := .i64) (iv := 0) (p := .ip ((cat nS elems_).drop ((0 : Int).toNat * 1))) (by kernel_rfl) (by kernel_rfl) (by kernel_rfl) (by kernel_rfl) c3) fun f6 hf6 => ?_
      refine mops_adv rfl (v := .s (.string (gt elems_ (0)))) hf6 (by kernel_rfl) (e_load_ip (g := nS) (l := elems_) (iv := 0) [] (by kernel_rfl) c3 (by kernel_rfl) (by kernel_rfl)) fun f7 hf7 => ?_
      refine mops_en hf7 (by kernel_rfl) fun f8 hf8 => ?_
      refine k_c ?_
      refine k_ret ?_
      refine x_br ?_
      refine x_c nofun ?_
      obtain rfl := Option.some.inj h
      exact k_fin (fin_ret (.inl rfl) hf8 (vs := [.s (.string (gt elems_ (0)))]) (by kernel_rfl) (SettL.pure (FzL.stat rfl)))
    · have h := if_f h hc2
      refine k_skip ?_
      refine k_b ?_
      refine k_c ?_
      refine k_seq ?_
      refine k_reg ?_
      refine mops_en hf4 (by kernel_rfl) fun f5 hf5 => ?_
      refine k_c ?_
      refine k_seq ?_
      refine k_seq ?_
      refine k_reg ?_
      refine mops_en hf5 (by kernel_rfl) fun f6 hf6 => ?_
      refine k_c ?_
      have hj1 : ∀ (n_ : Int), strings_Join_j0 elems_ sep_ n_ = some r → ∀ f, FOk f [⟨0, [], .sl false elems_.length (cat nS elems_)⟩, ⟨1, [], .s (.string sep_)⟩, ⟨4, [], .s (.string (⟨#[]⟩ : ByteArray))⟩, ⟨5, [], .s (.int .i64 n_)⟩] → kont Tryd.prog [] (strings_Join_C r) ((.c strings_Join_i57) :: []) .normal f [] := by
        intro n_ h f hf
        unfold strings_Join_j0 at h
        refine k_c ?_
        refine k_seq ?_
        refine k_seq ?_
        refine k_reg ?_
        refine mops_en hf (by kernel_rfl) fun f1 hf1 => ?_
        refine k_c ?_
        refine k_block ?_
        obtain ⟨o0, hx0, h⟩ := Option.bind_eq_some_iff.1 h
        have hgo0 : ∀ (n_3 : Int), n_3 = o0 → ∀ f, FOk f [⟨0, [], .sl false elems_.length (cat nS elems_)⟩, ⟨1, [], .s (.string sep_)⟩, ⟨4, [], .s (.string (⟨#[]⟩ : ByteArray))⟩, ⟨5, [], .s (.int .i64 n_3)⟩] → kont Tryd.prog [] (strings_Join_C r) ((.c strings_Join_i56) :: []) .normal f [] := by
          intro n_3 e f hf
          subst e
          refine k_c ?_
          refine k_seq ?_
          refine k_reg ?_
          refine mops_en hf (by kernel_rfl) fun f1 hf1 => ?_
          refine k_c ?_
          refine k_seq ?_
          refine k_reg ?_
          refine mops_sg 1 hf1 (by kernel_rfl) fun f2 hf2 => ?_
          obtain ⟨c10, h⟩ := as_ok h
          refine mops_call rfl hf2 (av := [.ptr 1 0 0, .s (.int .i64 n_3)]) (by kernel_rfl) (v := .tup []) (L' := [⟨1, .buf BU, 1, cat (nI .u8) ([] : List Int)⟩, ⟨0, .bld BT, 1, [sp false 1 0, .ref 0 1 0 ([] : List Int).length]⟩]) (CalL.bld (xs := [.int .i64 n_3]) 0 1 (Grow_con true 0 n_3 c10) (by kernel_rfl) rfl (by kernel_rfl) (by kernel_rfl)) (by intro h; cases h) fun f3 hf3 => ?_
          refine mops_en hf3 (by kernel_rfl) fun f4 hf4 => ?_
          refine k_c ?_
          refine k_seq ?_
          refine k_reg ?_
          refine mops_sg 1 hf4 (by kernel_rfl) fun f5 hf5 => ?_
          obtain ⟨c11, h⟩ := as_ok h
          refine mops_adv rfl (v := .ip ((cat nS elems_).drop ((0 : Int).toNat * 1))) hf5 (by kernel_rfl) (e_ias (n := elems_.length) (xv := .sl false elems_.length (cat nS elems_)) (k := .i64) (iv := 0) (p := .ip ((cat nS elems_).drop ((0 : Int).toNat * 1))) (by kernel_rfl) (by kernel_rfl) (by kernel_rfl) (by kernel_rfl) c11) fun f6 hf6 => ?_
          refine mops_adv rfl (v := .s (.string (gt elems_ (0)))) hf6 (by kernel_rfl) (e_load_ip (g := nS) (l := elems_) (iv := 0) [] (by kernel_rfl) c11 (by kernel_rfl) (by kernel_rfl)) fun f7 hf7 => ?_
          obtain ⟨c12, h⟩ := as_ok h
          refine mops_call rfl hf7 (av := [.ptr 1 0 0, .s (.string (gt elems_ (0)))]) (by kernel_rfl) (v := .tup [.s (.int .i64 (((gt elems_ (0)).size : Nat) : Int)), .s .nilIface]) (L' := [⟨2, .buf BU, 1, cat (nI .u8) (([] : List Int) ++ (sbl (gt elems_ (0))))⟩, ⟨0, .bld BT, 1, [sp false 1 0, .ref 0 2 0 (([] : List Int) ++ (sbl (gt elems_ (0)))).length]⟩]) (CalL.bld (xs := [.string (gt elems_ (0))]) 0 1 (ws_con false 1 ([] : List Int) (gt elems_ (0)) c12) (by kernel_rfl) rfl (by kernel_rfl) (by kernel_rfl)) (by intro h; cases h) fun f8 hf8 => ?_
          refine mops_en hf8 (by kernel_rfl) fun f9 hf9 => ?_
          refine k_c ?_
          refine k_seq ?_
          refine k_seq ?_
          refine k_reg ?_
          refine mops_sg 1 hf9 (by kernel_rfl) fun f10 hf10 => ?_
          obtain ⟨c13, h⟩ := as_ok h
          refine mops_adv rfl (v := .sl (false && elems_.length == elems_.length) (elems_.length - (1 : Int).toNat) (cat nS (elems_.drop (1 : Int).toNat))) hf10 (by kernel_rfl) (e_slice_sl (g := nS) (l := elems_) (n := elems_.length) (u := false) (by kernel_rfl) (b_sn (k := .i64) (iv := 1) (by kernel_rfl) c13)) fun f11 hf11 => ?_
          refine mops_en hf11 (by kernel_rfl) fun f12 hf12 => ?_
          refine k_c ?_
          refine k_block ?_
          obtain ⟨o1, hx1, h⟩ := Option.bind_eq_some_iff.1 h
          have hgo1 : ∀ (l_2 : (List Int)) (v_2 : Nat), l_2 = o1 → ∀ f, FOk f [⟨4, [], .s (.string (⟨#[]⟩ : ByteArray))⟩, ⟨8, [], .ptr 1 0 0⟩] → kont Tryd.prog [] (strings_Join_C r) ((.c strings_Join_i52) :: []) .normal f [⟨v_2, .buf BU, 1, cat (nI .u8) l_2⟩, ⟨0, .bld BT, 1, [sp false 1 0, .ref 0 v_2 0 l_2.length]⟩] := by
            intro l_2 v_2 e f hf
            subst e
            refine k_c ?_
            refine k_seq ?_
            refine k_reg ?_
            obtain ⟨c18, h⟩ := as_ok h
            refine mops_call rfl hf (av := [.ptr 1 0 0]) (by kernel_rfl) (v := .s (.string (bs l_2))) (L' := [⟨v_2, .dead, 1, []⟩, ⟨0, .bld BT, 1, [sp false 1 0, .ref 0 v_2 0 l_2.length]⟩]) (CalL.bldD 0 1 (str_con false v_2 l_2 c18) (by kernel_rfl) rfl (by kernel_rfl) (by kernel_rfl)) (by intro h; cases h) fun f1 hf1 => ?_
            refine mops_en hf1 (by kernel_rfl) fun f2 hf2 => ?_
            refine k_c ?_
            refine k_ret ?_
            obtain rfl := Option.some.inj h
            exact k_fin (fin_ret (.inl rfl) hf2 (vs := [.s (.string (bs l_2))]) (by kernel_rfl) (SettL.pure (FzL.stat rfl)))
          refine k_loop BIG ?_
          refine loop_ind (fun n f L => ∃ (l_1 : (List Int)) (t_3 : Int) (v_1 : Nat), strings_Join_l1 elems_ sep_ n l_1 t_3 = some o1 ∧ FOk f [⟨1, [], .s (.string sep_)⟩, ⟨4, [], .s (.string (⟨#[]⟩ : ByteArray))⟩, ⟨8, [], .ptr 1 0 0⟩, ⟨63, [], .sl (false && elems_.length == elems_.length) (elems_.length - (1 : Int).toNat) (cat nS (elems_.drop (1 : Int).toNat))⟩, ⟨64, [], .s (.int .i64 (((elems_.length - (1 : Int).toNat) : Nat) : Int))⟩, ⟨65, [], .s (.int .i64 t_3)⟩] ∧ L = [⟨v_1, .buf BU, 1, cat (nI .u8) l_1⟩, ⟨0, .bld BT, 1, [sp false 1 0, .ref 0 v_1 0 l_1.length]⟩]) ?_ ?_ BIG _ _ ⟨(([] : List Int) ++ (sbl (gt elems_ (0)))), (0), (2), hx1, FOk_of [1, 4, 8, 63, 64, 65] hf12 (by kernel_rfl), (by kernel_rfl)⟩
          · rintro f L ⟨l_1, t_3, v_1, h, _⟩
            cases (show (none : Option _) = some _ from h)
          · rintro n1 R1 ih f L ⟨l_1, t_3, v_1, h, hf, rfl⟩
            rw [strings_Join_l1] at h
            refine k_seq ?_
            refine k_reg ?_
            refine mops_en hf (by kernel_rfl) fun f1 hf1 => ?_
            refine k_c ?_
            refine k_seq ?_
            refine k_cond hf1 (t := (decide (t_3 < (((elems_.length - (1 : Int).toNat) : Nat) : Int)))) (by kernel_rfl) (fun hc14 => ?_) (fun hc14 => ?_)
            · have h := if_t h hc14
              refine k_skip ?_
              refine k_c ?_
              refine k_seq ?_
              refine k_block ?_
              refine k_seq ?_
              refine k_reg ?_
              obtain ⟨c15, h⟩ := as_ok h
              refine mops_adv rfl (v := .ip ((cat nS (elems_.drop (1 : Int).toNat)).drop ((t_3 : Int).toNat * 1))) hf1 (by kernel_rfl) (e_ias (n := (elems_.length - (1 : Int).toNat)) (xv := .sl (false && elems_.length == elems_.length) (elems_.length - (1 : Int).toNat) (cat nS (elems_.drop (1 : Int).toNat))) (k := .i64) (iv := t_3) (p := .ip ((cat nS (elems_.drop (1 : Int).toNat)).drop ((t_3 : Int).toNat * 1))) (by kernel_rfl) (by kernel_rfl) (by kernel_rfl) (by kernel_rfl) c15) fun f2 hf2 => ?_
              refine mops_adv rfl (v := .s (.string (gt (elems_.drop (1 : Int).toNat) t_3))) hf2 (by kernel_rfl) (e_load_ip (g := nS) (l := (elems_.drop (1 : Int).toNat)) (iv := t_3) [] (by kernel_rfl) (part_lt (b := elems_.length) (cut_sn (n := elems_.length) c13) c15) (by kernel_rfl) (by kernel_rfl)) fun f3 hf3 => ?_
              refine mops_en hf3 (by kernel_rfl) fun f4 hf4 => ?_
              refine k_c ?_
              refine k_seq ?_
              refine k_reg ?_
              refine mops_sg 1 hf4 (by kernel_rfl) fun f5 hf5 => ?_
              obtain ⟨c16, h⟩ := as_ok h
              refine mops_call rfl hf5 (av := [.ptr 1 0 0, .s (.string sep_)]) (by kernel_rfl) (v := .tup [.s (.int .i64 ((sep_.size : Nat) : Int)), .s .nilIface]) (L' := [⟨(v_1 + 1), .buf BU, 1, cat (nI .u8) (l_1 ++ (sbl sep_))⟩, ⟨0, .bld BT, 1, [sp false 1 0, .ref 0 (v_1 + 1) 0 (l_1 ++ (sbl sep_)).length]⟩]) (CalL.bld (xs := [.string sep_]) 0 1 (ws_con false v_1 l_1 sep_ c16) (by kernel_rfl) rfl (by kernel_rfl) (by kernel_rfl)) (by intro h; cases h) fun f6 hf6 => ?_
              refine mops_en hf6 (by kernel_rfl) fun f7 hf7 => ?_
              refine k_c ?_
              refine k_reg ?_
              refine mops_sg 1 hf7 (by kernel_rfl) fun f8 hf8 => ?_
              obtain ⟨c17, h⟩ := as_ok h
              refine mops_call rfl hf8 (av := [.ptr 1 0 0, .s (.string (gt (elems_.drop (1 : Int).toNat) t_3))]) (by kernel_rfl) (v := .tup [.s (.int .i64 (((gt (elems_.drop (1 : Int).toNat) t_3).size : Nat) : Int)), .s .nilIface]) (L' := [⟨(((v_1 + 1)) + 1), .buf BU, 1, cat (nI .u8) ((l_1 ++ (sbl sep_)) ++ (sbl (gt (elems_.drop (1 : Int).toNat) t_3)))⟩, ⟨0, .bld BT, 1, [sp false 1 0, .ref 0 (((v_1 + 1)) + 1) 0 ((l_1 ++ (sbl sep_)) ++ (sbl (gt (elems_.drop (1 : Int).toNat) t_3))).length]⟩]) (CalL.bld (xs := [.string (gt (elems_.drop (1 : Int).toNat) t_3)]) 0 1 (ws_con false ((v_1 + 1)) (l_1 ++ (sbl sep_)) (gt (elems_.drop (1 : Int).toNat) t_3) c17) (by kernel_rfl) rfl (by kernel_rfl) (by kernel_rfl)) (by intro h; cases h) fun f9 hf9 => ?_
              refine mops_en hf9 (by kernel_rfl) fun f10 hf10 => ?_
              refine k_b ?_
              refine k_c ?_
              refine k_reg ?_
              refine mops_en hf10 (by kernel_rfl) fun f11 hf11 => ?_
              refine k_l ?_
              exact ih _ _ ⟨((l_1 ++ (sbl sep_)) ++ (sbl (gt (elems_.drop (1 : Int).toNat) t_3))), (IntKind.wrap .i64 (t_3 + 1)), (((v_1 + 1)) + 1), h, FOk_of [1, 4, 8, 63, 64, 65] hf11 (by kernel_rfl), (by kernel_rfl)⟩
            · have h := if_f h hc14
              refine k_exit ?_
              refine x_c nofun ?_
              refine x_l nofun ?_
              refine x_b ?_
              refine k_hp (L' := [⟨v_1, .buf BU, 1, cat (nI .u8) l_1⟩, ⟨0, .bld BT, 1, [sp false 1 0, .ref 0 v_1 0 l_1.length]⟩]) (by kernel_rfl) ?_
              exact hgo1 l_1 v_1 (Option.some.inj h) _ (FOk_of [4, 8] hf1 (by kernel_rfl))
        refine k_loop BIG ?_
        refine loop_ind (fun n f L => ∃ (n_2 : Int) (t_1 : Int), strings_Join_l0 elems_ n n_2 t_1 = some o0 ∧ FOk f [⟨0, [], .sl false elems_.length (cat nS elems_)⟩, ⟨1, [], .s (.string sep_)⟩, ⟨4, [], .s (.string (⟨#[]⟩ : ByteArray))⟩, ⟨5, [], .s (.int .i64 n_2)⟩, ⟨39, [], .sl false elems_.length (cat nS elems_)⟩, ⟨40, [], .s (.int .i64 (ln elems_))⟩, ⟨41, [], .s (.int .i64 t_1)⟩] ∧ L = []) ?_ ?_ BIG _ _ ⟨n_, (0), hx0, FOk_of [0, 1, 4, 5, 39, 40, 41] hf1 (by kernel_rfl), (by kernel_rfl)⟩
        · rintro f L ⟨n_2, t_1, h, _⟩
          cases (show (none : Option _) = some _ from h)
        · rintro n0 R0 ih f L ⟨n_2, t_1, h, hf, rfl⟩
          rw [strings_Join_l0] at h
          refine k_seq ?_
          refine k_reg ?_
          refine mops_en hf (by kernel_rfl) fun f1 hf1 => ?_
          refine k_c ?_
          refine k_seq ?_
          refine k_cond hf1 (t := (decide (t_1 < (ln elems_)))) (by kernel_rfl) (fun hc7 => ?_) (fun hc7 => ?_)
          · have h := if_t h hc7
            refine k_skip ?_
            refine k_c ?_
            refine k_seq ?_
            refine k_block ?_
            refine k_seq ?_
            refine k_reg ?_
            obtain ⟨c8, h⟩ := as_ok h
            refine mops_adv rfl (v := .ip ((cat nS elems_).drop ((t_1 : Int).toNat * 1))) hf1 (by kernel_rfl) (e_ias (n := elems_.length) (xv := .sl false elems_.length (cat nS elems_)) (k := .i64) (iv := t_1) (p := .ip ((cat nS elems_).drop ((t_1 : Int).toNat * 1))) (by kernel_rfl) (by kernel_rfl) (by kernel_rfl) (by kernel_rfl) c8) fun f2 hf2 => ?_
            refine mops_adv rfl (v := .s (.string (gt elems_ t_1))) hf2 (by kernel_rfl) (e_load_ip (g := nS) (l := elems_) (iv := t_1) [] (by kernel_rfl) c8 (by kernel_rfl) (by kernel_rfl)) fun f3 hf3 => ?_
            refine mops_en hf3 (by kernel_rfl) fun f4 hf4 => ?_
            refine k_c ?_
            refine k_seq ?_
            refine k_seq ?_
            refine k_reg ?_
            refine mops_en hf4 (by kernel_rfl) fun f5 hf5 => ?_
            refine k_c ?_
            refine k_cond hf5 (t := (decide ((IntKind.wrap .i64 (9223372036854775807 - n_2)) < (sln (gt elems_ t_1))))) (by kernel_rfl) (fun hc9 => ?_) (fun hc9 => ?_)
            · have h := if_t h hc9
              cases h
            · have h := if_f h hc9
              refine k_skip ?_
              refine k_c ?_
              refine k_reg ?_
              refine mops_en hf5 (by kernel_rfl) fun f6 hf6 => ?_
              refine k_b ?_
              refine k_c ?_
              refine k_reg ?_
              refine mops_en hf6 (by kernel_rfl) fun f7 hf7 => ?_
              refine k_l ?_
              exact ih _ _ ⟨(IntKind.wrap .i64 (n_2 + (sln (gt elems_ t_1)))), (IntKind.wrap .i64 (t_1 + 1)), h, FOk_of [0, 1, 4, 5, 39, 40, 41] hf7 (by kernel_rfl), (by kernel_rfl)⟩
          · have h := if_f h hc7
            refine k_exit ?_
            refine x_c nofun ?_
            refine x_l nofun ?_
            refine x_b ?_
            refine k_hp (L' := []) (by kernel_rfl) ?_
            exact hgo0 n_2 (Option.some.inj h) _ (FOk_of [0, 1, 4, 5] hf1 (by kernel_rfl))
      refine k_cond hf6 (t := (decide (0 < (sln sep_)))) (by kernel_rfl) (fun hc4 => ?_) (fun hc4 => ?_)
      · have h := if_t h hc4
        refine k_seq ?_
        refine k_seq ?_
        refine k_reg ?_
        refine mops_sg 5 hf6 (by kernel_rfl) fun f7 hf7 => ?_
        obtain ⟨c5, h⟩ := as_ok h
        refine mops_adv rfl (v := .s (.int .i64 (IntKind.wrap .i64 (Int.tdiv 9223372036854775807 (IntKind.wrap .i64 ((ln elems_) - 1)))))) hf7 (by kernel_rfl) (e_quo (k := .i64) (iv := 9223372036854775807) (jv := (IntKind.wrap .i64 ((ln elems_) - 1))) (by kernel_rfl) (by kernel_rfl) c5) fun f8 hf8 => ?_
        refine mops_en hf8 (by kernel_rfl) fun f9 hf9 => ?_
        refine k_c ?_
        refine k_cond hf9 (t := (decide ((IntKind.wrap .i64 (Int.tdiv 9223372036854775807 (IntKind.wrap .i64 ((ln elems_) - 1)))) ≤ (sln sep_)))) (by kernel_rfl) (fun hc6 => ?_) (fun hc6 => ?_)
        · have h := if_t h hc6
          cases h
        · have h := if_f h hc6
          refine k_skip ?_
          refine k_c ?_
          refine k_reg ?_
          refine mops_en hf9 (by kernel_rfl) fun f10 hf10 => ?_
          refine k_hp (L' := []) (by kernel_rfl) ?_
          exact hj1 (IntKind.wrap .i64 (0 + (IntKind.wrap .i64 ((sln sep_) * (IntKind.wrap .i64 ((ln elems_) - 1)))))) h _ (FOk_of [0, 1, 4, 5] hf10 (by kernel_rfl))
      · have h := if_f h hc4
        refine k_skip ?_
        refine k_hp (L' := []) (by kernel_rfl) ?_
        exact hj1 (0) h _ (FOk_of [0, 1, 4, 5] hf6 (by kernel_rfl))
def spinetref13_Reg_i0 : List Op1 := [(oM 2 (.k (.string ⟨#[]⟩)) [])]
def spinetref13_Reg_i1 : List Op1 := [(oE 4 (.build [(.string ⟨#[]⟩), (.string ⟨#[]⟩), (.string ⟨#[]⟩), (.string ⟨#[]⟩), (.string ⟨#[]⟩), (.string ⟨#[]⟩), (.string ⟨#[]⟩), (.string ⟨#[]⟩), (.string ⟨#[]⟩), (.string ⟨#[]⟩), (.string ⟨#[]⟩), (.string ⟨#[]⟩)] [(0, (1, (.k (.string ⟨#[68]⟩)))), (1, (1, (.k (.string ⟨#[88]⟩)))), (2, (1, (.k (.string ⟨#[89]⟩)))), (3, (1, (.k (.string ⟨#[85]⟩)))), (4, (1, (.k (.string ⟨#[83]⟩)))), (5, (1, (.k (.string ⟨#[80, 67]⟩)))), (6, (1, (.k (.string ⟨#[]⟩)))), (7, (1, (.k (.string ⟨#[]⟩)))), (8, (1, (.k (.string ⟨#[65]⟩)))), (9, (1, (.k (.string ⟨#[66]⟩)))), (10, (1, (.k (.string ⟨#[67, 67]⟩)))), (11, (1, (.k (.string ⟨#[68, 80]⟩))))]) []), (oE 3 (.zero [(.string ⟨#[]⟩), (.string ⟨#[]⟩), (.string ⟨#[]⟩), (.string ⟨#[]⟩), (.string ⟨#[]⟩), (.string ⟨#[]⟩), (.string ⟨#[]⟩), (.string ⟨#[]⟩), (.string ⟨#[]⟩), (.string ⟨#[]⟩), (.string ⟨#[]⟩), (.string ⟨#[]⟩)]) []), (oN (.store 12 (.t 3) (.t 4)) [1, 0, 0, 1])]
def spinetref13_Reg_i2 : List Op1 := [(oM 5 (.t 0) []), (oE 6 (.bin .lss (.t 5) (.k (.int .i64 0))) [0]), (oM 7 (.t 6) [1]), (oG 8 (.mv (.t 0)) 7 false [2]), (oG 9 (.bin .gtr (.t 8) (.k (.int .i64 11))) 7 false [3, 2]), (oE 10 (.pick (.t 7) (.k (.bool true)) (.t 9)) [2, 4])]
def spinetref13_Reg_i3 : List Op1 := [(oM 2 (.k (.string ⟨#[]⟩)) [])]
def spinetref13_Reg_i4 : IR := .ret
def spinetref13_Reg_i5 : IR := (.cond (.t 10) (.seq (.reg false spinetref13_Reg_i3) spinetref13_Reg_i4) .skip)
def spinetref13_Reg_i6 : List Op1 := [(oM 11 (.t 0) []), (oE 12 (.iaa 12 1 (.t 3) (.t 11)) [0]), (oE 13 (.load false 1 (.t 12)) [1]), (oM 2 (.t 13) [2, 0, 1, 2])]
def spinetref13_Reg_i7 : IR := .ret
def spinetref13_Reg_i8 : IR := (.seq (.reg false spinetref13_Reg_i6) spinetref13_Reg_i7)
def spinetref13_Reg_i9 : IR := (.seq (.seq (.reg false spinetref13_Reg_i2) spinetref13_Reg_i5) spinetref13_Reg_i8)
def spinetref13_Reg_i10 : IR := (.seq (.reg false spinetref13_Reg_i1) spinetref13_Reg_i9)
def spinetref13_Reg_ir : IR := (.seq (.reg false spinetref13_Reg_i0) spinetref13_Reg_i10)
theorem spinetref13_Reg_cfn : cFn Tryd.prog 9 = some (spinetref13_Reg_ir, [(.t 2)], 14) := by kernel_rfl
def spinetref13_Reg_V (r : (ByteArray)) : V := .s (.string r)
def spinetref13_Reg_C (r : (ByteArray)) : X → Fr → Hp → Prop := FinL [(.t 2)] [] (spinetref13_Reg_V r) []
theorem spinetref13_Reg_ok (code_ : Int) (r : (ByteArray)) (h : spinetref13_Reg code_ = some r) : Pure Tryd.prog 9 [.s (.int .i64 code_)] (spinetref13_Reg_V r) := by
  refine ConL.of spinetref13_Reg_cfn (Nat.le_of_ble_eq_true (by kernel_rfl)) (Nat.le_of_ble_eq_true (by kernel_rfl)) ?_
  refine k_start ?_
  show dwv Tryd.prog [] spinetref13_Reg_ir (kont Tryd.prog [] (spinetref13_Reg_C r) []) (fr0 [.s (.int .i64 code_)]) []
  have hf : FOk (fr0 [.s (.int .i64 code_)]) [⟨0, [], .s (.int .i64 code_)⟩] := ⟨⟨fun _ => rfl, fun h => (h trivial).elim⟩, trivial⟩
  generalize fr0 [.s (.int .i64 code_)] = f at hf ⊢
  unfold spinetref13_Reg at h
  refine k_seq ?_
  refine k_reg ?_
  refine mops_en hf (by kernel_rfl) fun f1 hf1 => ?_
  refine k_c ?_
  refine k_seq ?_
  refine k_reg ?_
  refine mops_en hf1 (by kernel_rfl) fun f2 hf2 => ?_
  refine k_c ?_
  refine k_seq ?_
  refine k_seq ?_
  refine k_reg ?_
  refine mops_en hf2 (by kernel_rfl) fun f3 hf3 => ?_
  refine k_c ?_
  refine k_cond hf3 (t := ((decide (code_ < 0)) || (decide (11 < code_)))) (by kernel_rfl) (fun hc1 => ?_) (fun hc1 => ?_)
  · have h := if_t h hc1
    refine k_seq ?_
    refine k_reg ?_
    refine mops_en hf3 (by kernel_rfl) fun f4 hf4 => ?_
    refine k_c ?_
    refine k_ret ?_
    refine x_c nofun ?_
    obtain rfl := Option.some.inj h
    exact k_fin (fin_ret (.inl rfl) hf4 (vs := [.s (.string (⟨#[]⟩ : ByteArray))]) (by kernel_rfl) (SettL.pure (FzL.stat rfl)))
  · have h := if_f h hc1
    refine k_skip ?_
    refine k_c ?_
    refine k_seq ?_
    refine k_reg ?_
    refine mops_sg 1 hf3 (by kernel_rfl) fun f4 hf4 => ?_
    obtain ⟨c2, h⟩ := as_ok h
    refine mops_adv rfl (v := .ptr 0 0 (0 + (code_ : Int).toNat * 1)) hf4 (by kernel_rfl) (e_iaa (n := 12) (xv := .ptr 0 0 0) (k := .i64) (iv := code_) (p := .ptr 0 0 (0 + (code_ : Int).toNat * 1)) (by kernel_rfl) (by kernel_rfl) (by kernel_rfl) (by kernel_rfl) c2) fun f5 hf5 => ?_
    refine mops_adv rfl (v := .s (.string (gt [(⟨#[68]⟩ : ByteArray), (⟨#[88]⟩ : ByteArray), (⟨#[89]⟩ : ByteArray), (⟨#[85]⟩ : ByteArray), (⟨#[83]⟩ : ByteArray), (⟨#[80, 67]⟩ : ByteArray), (⟨#[]⟩ : ByteArray), (⟨#[]⟩ : ByteArray), (⟨#[65]⟩ : ByteArray), (⟨#[66]⟩ : ByteArray), (⟨#[67, 67]⟩ : ByteArray), (⟨#[68, 80]⟩ : ByteArray)] code_))) hf5 (by kernel_rfl) (e_load_pe (g := nS) (l := [(⟨#[68]⟩ : ByteArray), (⟨#[88]⟩ : ByteArray), (⟨#[89]⟩ : ByteArray), (⟨#[85]⟩ : ByteArray), (⟨#[83]⟩ : ByteArray), (⟨#[80, 67]⟩ : ByteArray), (⟨#[]⟩ : ByteArray), (⟨#[]⟩ : ByteArray), (⟨#[65]⟩ : ByteArray), (⟨#[66]⟩ : ByteArray), (⟨#[67, 67]⟩ : ByteArray), (⟨#[68, 80]⟩ : ByteArray)]) (iv := code_) (kd := .mem) (q := 1) (b := 0) (ver := 0) [] (by kernel_rfl) (live_mem (by kernel_rfl)) (arr_h (l := [(⟨#[68]⟩ : ByteArray), (⟨#[88]⟩ : ByteArray), (⟨#[89]⟩ : ByteArray), (⟨#[85]⟩ : ByteArray), (⟨#[83]⟩ : ByteArray), (⟨#[80, 67]⟩ : ByteArray), (⟨#[]⟩ : ByteArray), (⟨#[]⟩ : ByteArray), (⟨#[65]⟩ : ByteArray), (⟨#[66]⟩ : ByteArray), (⟨#[67, 67]⟩ : ByteArray), (⟨#[68, 80]⟩ : ByteArray)]) c2 (by kernel_rfl)) (by kernel_rfl) (by kernel_rfl)) fun f6 hf6 => ?_
    refine mops_en hf6 (by kernel_rfl) fun f7 hf7 => ?_
    refine k_c ?_
    refine k_ret ?_
    obtain rfl := Option.some.inj h
    exact k_fin (fin_ret (.inl rfl) hf7 (vs := [.s (.string (gt [(⟨#[68]⟩ : ByteArray), (⟨#[88]⟩ : ByteArray), (⟨#[89]⟩ : ByteArray), (⟨#[85]⟩ : ByteArray), (⟨#[83]⟩ : ByteArray), (⟨#[80, 67]⟩ : ByteArray), (⟨#[]⟩ : ByteArray), (⟨#[]⟩ : ByteArray), (⟨#[65]⟩ : ByteArray), (⟨#[66]⟩ : ByteArray), (⟨#[67, 67]⟩ : ByteArray), (⟨#[68, 80]⟩ : ByteArray)] code_))]) (by kernel_rfl) (SettL.pure (FzL.stat rfl)))
end Go.Proofs.YtiedenhkailolaaDoorK
