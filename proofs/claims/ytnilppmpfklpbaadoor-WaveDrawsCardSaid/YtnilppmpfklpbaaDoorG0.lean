/- The Go functions come to the functions over typed data. Printed by a program of this work. -/
import Derived.Test.YtnilppmpfklpbaaDoorF
import Derived.Test.YtnilppmpfklpbaaDoorProg
import Derived.Test.YtnilppmpfklpbaaDoorSf
namespace Go.Proofs.YtnilppmpfklpbaaDoorK
set_option linter.unusedVariables false
set_option linter.unusedSimpArgs false
set_option maxHeartbeats 4000000
open Go.RowKit
attribute [local irreducible] dwv mops lops lqops lwops kont iter run runK rk okK ex E1 vals val chain chB sel resF
def wave_level_i0 : List Op1 := [(oE 2 (.box (.t 0)) []), (oM 4 (.k (.bool false)) [])]
def wave_level_i1 : List Op1 := [(oE 5 (.fld 2 (.t 2)) []), (oE 6 (.load false 1 (.t 5)) [0]), (oE 7 (.fld 3 (.t 2)) []), (oE 8 (.load false 1 (.t 7)) [2]), (oE 9 (.fld 4 (.t 2)) []), (oE 10 (.load false 1 (.t 9)) [4]), (oE 11 (.fld 5 (.t 2)) []), (oE 12 (.load false 1 (.t 11)) [6]), (oE 13 (.fld 6 (.t 2)) []), (oE 14 (.load false 1 (.t 13)) [8]), (oE 15 (.fld 7 (.t 2)) []), (oE 16 (.load false 1 (.t 15)) [10]), (oE 17 (.fld 8 (.t 2)) []), (oE 18 (.load false 1 (.t 17)) [12]), (oE 19 (.build [(.bool false), (.bool false), (.bool false), (.bool false), (.bool false), (.bool false), (.bool false)] [(0, (1, (.t 6))), (1, (1, (.t 8))), (2, (1, (.t 10))), (3, (1, (.t 12))), (4, (1, (.t 14))), (5, (1, (.t 16))), (6, (1, (.t 18)))]) [1, 3, 5, 7, 9, 11, 13]), (oM 20 (.t 1) []), (oE 21 (.ixa false 7 1 (.t 19) (.t 20)) [14, 15]), (oM 4 (.t 21) [16, 0, 1, 2, 3, 4, 5, 6, 7, 8, 9, 10, 11, 12, 13, 14, 15, 16])]
def wave_level_i2 : IR := .ret
def wave_level_i3 : IR := (.seq (.reg false wave_level_i1) wave_level_i2)
def wave_level_ir : IR := (.seq (.reg false wave_level_i0) wave_level_i3)
theorem wave_level_cfn : cFn Tryd.prog 17 = some (wave_level_ir, [(.t 4)], 22) := by kernel_rfl
def wave_level_V (r : (Bool)) : V := .s (.bool r)
def wave_level_C (r : (Bool)) : X → Fr → Hp → Prop := FinL [(.t 4)] [] (wave_level_V r) []
theorem wave_level_ok (r_ : api_Rec) (line_ : Int) (r : (Bool)) (h : wave_level r_ line_ = some r) : Pure Tryd.prog 17 [.agg [.s (.int .u16 r_.Addr), .s (.int .u8 r_.Data), .s (.bool r_.Read), .s (.bool r_.BA), .s (.bool r_.BS), .s (.bool r_.LIC), .s (.bool r_.AVMA), .s (.bool r_.BUSY), .s (.bool r_.Mine)], .s (.int .i64 line_)] (wave_level_V r) := by
  refine ConL.of wave_level_cfn (Nat.le_of_ble_eq_true (by kernel_rfl)) (Nat.le_of_ble_eq_true (by kernel_rfl)) ?_
  refine k_start ?_
  show dwv Tryd.prog [] wave_level_ir (kont Tryd.prog [] (wave_level_C r) []) (fr0 [.agg [.s (.int .u16 r_.Addr), .s (.int .u8 r_.Data), .s (.bool r_.Read), .s (.bool r_.BA), .s (.bool r_.BS), .s (.bool r_.LIC), .s (.bool r_.AVMA), .s (.bool r_.BUSY), .s (.bool r_.Mine)], .s (.int .i64 line_)]) []
  have hf : FOk (fr0 [.agg [.s (.int .u16 r_.Addr), .s (.int .u8 r_.Data), .s (.bool r_.Read), .s (.bool r_.BA), .s (.bool r_.BS), .s (.bool r_.LIC), .s (.bool r_.AVMA), .s (.bool r_.BUSY), .s (.bool r_.Mine)], .s (.int .i64 line_)]) [⟨0, [], .agg [.s (.int .u16 r_.Addr), .s (.int .u8 r_.Data), .s (.bool r_.Read), .s (.bool r_.BA), .s (.bool r_.BS), .s (.bool r_.LIC), .s (.bool r_.AVMA), .s (.bool r_.BUSY), .s (.bool r_.Mine)]⟩, ⟨1, [], .s (.int .i64 line_)⟩] := ⟨⟨fun _ => rfl, fun h => (h trivial).elim⟩, ⟨fun _ => rfl, fun h => (h trivial).elim⟩, trivial⟩
  generalize fr0 [.agg [.s (.int .u16 r_.Addr), .s (.int .u8 r_.Data), .s (.bool r_.Read), .s (.bool r_.BA), .s (.bool r_.BS), .s (.bool r_.LIC), .s (.bool r_.AVMA), .s (.bool r_.BUSY), .s (.bool r_.Mine)], .s (.int .i64 line_)] = f at hf ⊢
  unfold wave_level at h
  refine k_seq ?_
  refine k_reg ?_
  refine mops_en hf (by kernel_rfl) fun f1 hf1 => ?_
  refine k_c ?_
  refine k_seq ?_
  refine k_reg ?_
  refine mops_sg 16 hf1 (by kernel_rfl) fun f2 hf2 => ?_
  obtain ⟨c1, h⟩ := as_ok h
  refine mops_adv rfl (v := .s (.bool (gt [r_.Read, r_.BA, r_.BS, r_.LIC, r_.AVMA, r_.BUSY, r_.Mine] line_))) hf2 (by kernel_rfl) (e_ixa (g := nB) (l := [r_.Read, r_.BA, r_.BS, r_.LIC, r_.AVMA, r_.BUSY, r_.Mine]) (n := 7) (k := .i64) (iv := line_) (by kernel_rfl) (by kernel_rfl) c1 (by kernel_rfl) (by kernel_rfl)) fun f3 hf3 => ?_
  refine mops_en hf3 (by kernel_rfl) fun f4 hf4 => ?_
  refine k_c ?_
  refine k_ret ?_
  obtain rfl := Option.some.inj h
  exact k_fin (fin_ret (.inl rfl) hf4 (vs := [.s (.bool (gt [r_.Read, r_.BA, r_.BS, r_.LIC, r_.AVMA, r_.BUSY, r_.Mine] line_))]) (by kernel_rfl) (SettL.pure (FzL.stat rfl)))
def strings_Index_i0 : List Op1 := [(oM 4 (.k (.int .i64 0)) [])]
def strings_Index_i1 : List Op1 := [(oM 5 (.t 0) []), (oM 6 (.t 1) []), (oC 7 35 [(.t 5), (.t 6)] [0, 1]), (oM 4 (.t 7) [2, 2, 0, 1, 2])]
def strings_Index_i2 : IR := .ret
def strings_Index_i3 : IR := (.seq (.reg false strings_Index_i1) strings_Index_i2)
def strings_Index_ir : IR := (.seq (.reg false strings_Index_i0) strings_Index_i3)
theorem strings_Index_cfn : cFn Tryd.prog 28 = some (strings_Index_ir, [(.t 4)], 8) := by kernel_rfl
def strings_Index_V (r : (Int)) : V := .s (.int .i64 r)
def strings_Index_C (r : (Int)) : X → Fr → Hp → Prop := FinL [(.t 4)] [] (strings_Index_V r) []
theorem strings_Index_ok (s_ : ByteArray) (substr_ : ByteArray) (r : (Int)) (h : strings_Index s_ substr_ = some r) : Pure Tryd.prog 28 [.s (.string s_), .s (.string substr_)] (strings_Index_V r) := by
  refine ConL.of strings_Index_cfn (Nat.le_of_ble_eq_true (by kernel_rfl)) (Nat.le_of_ble_eq_true (by kernel_rfl)) ?_
  refine k_start ?_
  show dwv Tryd.prog [] strings_Index_ir (kont Tryd.prog [] (strings_Index_C r) []) (fr0 [.s (.string s_), .s (.string substr_)]) []
  have hf : FOk (fr0 [.s (.string s_), .s (.string substr_)]) [⟨0, [], .s (.string s_)⟩, ⟨1, [], .s (.string substr_)⟩] := ⟨⟨fun _ => rfl, fun h => (h trivial).elim⟩, ⟨fun _ => rfl, fun h => (h trivial).elim⟩, trivial⟩
  generalize fr0 [.s (.string s_), .s (.string substr_)] = f at hf ⊢
  unfold strings_Index at h
  refine k_seq ?_
  refine k_reg ?_
  refine mops_en hf (by kernel_rfl) fun f1 hf1 => ?_
  refine k_c ?_
  refine k_seq ?_
  refine k_reg ?_
  refine mops_sg 2 hf1 (by kernel_rfl) fun f2 hf2 => ?_
  obtain ⟨r_, hx_r_, h⟩ := Option.bind_eq_some_iff.1 h
  refine mops_call rfl hf2 (av := [.s (.string s_), .s (.string substr_)]) (by kernel_rfl) (v := .s (.int .i64 r_)) (CalL.pure (internal_stringslite_Index_ok s_ substr_ r_ hx_r_) rfl rfl (Nat.le_of_ble_eq_true (by kernel_rfl))) (fun _ => rfl) fun f3 hf3 => ?_
  refine mops_en hf3 (by kernel_rfl) fun f4 hf4 => ?_
  refine k_c ?_
  refine k_ret ?_
  obtain rfl := Option.some.inj h
  exact k_fin (fin_ret (.inl rfl) hf4 (vs := [.s (.int .i64 r_)]) (by kernel_rfl) (SettL.pure (FzL.stat rfl)))
def unicode_utf8_decodeRuneInStringSlow_i0 : List Op1 := [(oM 2 (.k (.int .i32 0)) []), (oM 3 (.k (.int .i64 0)) [0])]
def unicode_utf8_decodeRuneInStringSlow_i1 : List Op1 := [(oM 13 (.t 0) []), (oE 14 (.lens (.t 13)) [0]), (oM 4 (.t 14) [1, 0, 1])]
def unicode_utf8_decodeRuneInStringSlow_i2 : List Op1 := [(oM 15 (.t 4) []), (oE 16 (.bin .lss (.t 15) (.k (.int .i64 1))) [0])]
def unicode_utf8_decodeRuneInStringSlow_i3 : List Op1 := [(oM 2 (.k (.int .i32 65533)) []), (oM 3 (.k (.int .i64 0)) [0, 0])]
def unicode_utf8_decodeRuneInStringSlow_i4 : IR := .ret
def unicode_utf8_decodeRuneInStringSlow_i5 : IR := (.cond (.t 16) (.seq (.reg false unicode_utf8_decodeRuneInStringSlow_i3) unicode_utf8_decodeRuneInStringSlow_i4) .skip)
def unicode_utf8_decodeRuneInStringSlow_i6 : List Op1 := [(oM 17 (.t 0) []), (oE 18 (.ixs (.t 17) (.k (.int .i64 0))) [0]), (oM 5 (.t 18) [1, 0, 1])]
def unicode_utf8_decodeRuneInStringSlow_i7 : List Op1 := [(oM 19 (.t 5) []), (oE 20 (.lens (.k (.bool false))) [0]), (oE 21 (.load false 1 (.t 20)) [1]), (oM 6 (.t 21) [2, 0, 1, 2])]
def unicode_utf8_decodeRuneInStringSlow_i8 : List Op1 := [(oM 22 (.t 6) []), (oE 23 (.bin .geq (.t 22) (.k (.int .u8 240))) [0])]
def unicode_utf8_decodeRuneInStringSlow_i9 : List Op1 := [(oM 24 (.t 6) []), (oE 25 (.cint .i32 (.t 24)) [0]), (oE 26 (.bin .shl (.t 25) (.k (.int .u64 31))) [1]), (oE 27 (.bin .shr (.t 26) (.k (.int .u64 31))) [2]), (oM 7 (.t 27) [3, 0, 1, 2, 3])]
def unicode_utf8_decodeRuneInStringSlow_i10 : List Op1 := [(oM 28 (.t 0) []), (oE 29 (.ixs (.t 28) (.k (.int .i64 0))) [0]), (oE 30 (.cint .i32 (.t 29)) [1]), (oM 31 (.t 7) []), (oE 32 (.bin .andNot (.t 30) (.t 31)) [2, 3]), (oM 33 (.t 7) []), (oE 34 (.bin .and (.k (.int .i32 65533)) (.t 33)) [5]), (oE 35 (.bin .or (.t 32) (.t 34)) [4, 6]), (oM 2 (.t 35) [7, 0, 1, 2, 3, 4, 5, 6, 7]), (oM 3 (.k (.int .i64 1)) [8, 0, 1, 2, 3, 4, 5, 6, 7, 8])]
def unicode_utf8_decodeRuneInStringSlow_i11 : IR := .ret
def unicode_utf8_decodeRuneInStringSlow_i12 : IR := (.seq (.reg false unicode_utf8_decodeRuneInStringSlow_i10) unicode_utf8_decodeRuneInStringSlow_i11)
def unicode_utf8_decodeRuneInStringSlow_i13 : IR := (.cond (.t 23) (.seq (.reg false unicode_utf8_decodeRuneInStringSlow_i9) unicode_utf8_decodeRuneInStringSlow_i12) .skip)
def unicode_utf8_decodeRuneInStringSlow_i14 : List Op1 := [(oM 36 (.t 6) []), (oE 37 (.bin .and (.t 36) (.k (.int .u8 7))) [0]), (oE 38 (.cint .i64 (.t 37)) [1]), (oM 8 (.t 38) [2, 0, 1, 2])]
def unicode_utf8_decodeRuneInStringSlow_i15 : List Op1 := [(oM 39 (.t 6) []), (oE 40 (.bin .shr (.t 39) (.k (.int .u64 4))) [0]), (oE 41 (.lens (.k (.bool false))) [1]), (oE 42 (.load true 2 (.t 41)) [2]), (oE 9 (.zero [(.int .u8 0), (.int .u8 0)]) []), (oN (.store 2 (.t 9) (.t 42)) [4, 3, 0, 1, 2, 3, 4])]
def unicode_utf8_decodeRuneInStringSlow_i16 : List Op1 := [(oM 43 (.t 4) []), (oM 44 (.t 8) []), (oE 45 (.bin .lss (.t 43) (.t 44)) [0, 1])]
def unicode_utf8_decodeRuneInStringSlow_i17 : List Op1 := [(oM 2 (.k (.int .i32 65533)) []), (oM 3 (.k (.int .i64 1)) [0, 0])]
def unicode_utf8_decodeRuneInStringSlow_i18 : IR := .ret
def unicode_utf8_decodeRuneInStringSlow_i19 : IR := (.cond (.t 45) (.seq (.reg false unicode_utf8_decodeRuneInStringSlow_i17) unicode_utf8_decodeRuneInStringSlow_i18) .skip)
def unicode_utf8_decodeRuneInStringSlow_i20 : List Op1 := [(oM 46 (.t 0) []), (oE 47 (.ixs (.t 46) (.k (.int .i64 1))) [0]), (oM 10 (.t 47) [1, 0, 1])]
def unicode_utf8_decodeRuneInStringSlow_i21 : List Op1 := [(oM 48 (.t 10) []), (oE 49 (.fld 0 (.t 9)) []), (oE 50 (.load false 1 (.t 49)) [1]), (oE 51 (.bin .lss (.t 48) (.t 50)) [0, 2]), (oM 52 (.t 51) [3]), (oG 53 (.fld 1 (.t 9)) 52 false [4]), (oG 54 (.load false 1 (.t 53)) 52 false [5, 4]), (oG 55 (.mv (.t 10)) 52 false [4]), (oG 56 (.bin .lss (.t 54) (.t 55)) 52 false [6, 7, 4]), (oE 57 (.pick (.t 52) (.k (.bool true)) (.t 56)) [4, 8])]
def unicode_utf8_decodeRuneInStringSlow_i22 : List Op1 := [(oM 2 (.k (.int .i32 65533)) []), (oM 3 (.k (.int .i64 1)) [0, 0])]
def unicode_utf8_decodeRuneInStringSlow_i23 : IR := .ret
def unicode_utf8_decodeRuneInStringSlow_i24 : IR := (.cond (.t 57) (.seq (.reg false unicode_utf8_decodeRuneInStringSlow_i22) unicode_utf8_decodeRuneInStringSlow_i23) .skip)
def unicode_utf8_decodeRuneInStringSlow_i25 : List Op1 := [(oM 58 (.t 8) []), (oE 59 (.bin .leq (.t 58) (.k (.int .i64 2))) [0])]
def unicode_utf8_decodeRuneInStringSlow_i26 : List Op1 := [(oM 60 (.t 5) []), (oE 61 (.bin .and (.t 60) (.k (.int .u8 31))) [0]), (oE 62 (.cint .i32 (.t 61)) [1]), (oE 63 (.bin .shl (.t 62) (.k (.int .u64 6))) [2]), (oM 64 (.t 10) []), (oE 65 (.bin .and (.t 64) (.k (.int .u8 63))) [4]), (oE 66 (.cint .i32 (.t 65)) [5]), (oE 67 (.bin .or (.t 63) (.t 66)) [3, 6]), (oM 2 (.t 67) [7, 0, 1, 2, 3, 4, 5, 6, 7]), (oM 3 (.k (.int .i64 2)) [8, 0, 1, 2, 3, 4, 5, 6, 7, 8])]
def unicode_utf8_decodeRuneInStringSlow_i27 : IR := .ret
def unicode_utf8_decodeRuneInStringSlow_i28 : IR := (.cond (.t 59) (.seq (.reg false unicode_utf8_decodeRuneInStringSlow_i26) unicode_utf8_decodeRuneInStringSlow_i27) .skip)
def unicode_utf8_decodeRuneInStringSlow_i29 : List Op1 := [(oM 68 (.t 0) []), (oE 69 (.ixs (.t 68) (.k (.int .i64 2))) [0]), (oM 11 (.t 69) [1, 0, 1])]
def unicode_utf8_decodeRuneInStringSlow_i30 : List Op1 := [(oM 70 (.t 11) []), (oE 71 (.bin .lss (.t 70) (.k (.int .u8 128))) [0]), (oM 72 (.t 71) [1]), (oG 73 (.mv (.t 11)) 72 false [2]), (oG 74 (.bin .lss (.k (.int .u8 191)) (.t 73)) 72 false [3, 2]), (oE 75 (.pick (.t 72) (.k (.bool true)) (.t 74)) [2, 4])]
def unicode_utf8_decodeRuneInStringSlow_i31 : List Op1 := [(oM 2 (.k (.int .i32 65533)) []), (oM 3 (.k (.int .i64 1)) [0, 0])]
def unicode_utf8_decodeRuneInStringSlow_i32 : IR := .ret
def unicode_utf8_decodeRuneInStringSlow_i33 : IR := (.cond (.t 75) (.seq (.reg false unicode_utf8_decodeRuneInStringSlow_i31) unicode_utf8_decodeRuneInStringSlow_i32) .skip)
def unicode_utf8_decodeRuneInStringSlow_i34 : List Op1 := [(oM 76 (.t 8) []), (oE 77 (.bin .leq (.t 76) (.k (.int .i64 3))) [0])]
def unicode_utf8_decodeRuneInStringSlow_i35 : List Op1 := [(oM 78 (.t 5) []), (oE 79 (.bin .and (.t 78) (.k (.int .u8 15))) [0]), (oE 80 (.cint .i32 (.t 79)) [1]), (oE 81 (.bin .shl (.t 80) (.k (.int .u64 12))) [2]), (oM 82 (.t 10) []), (oE 83 (.bin .and (.t 82) (.k (.int .u8 63))) [4]), (oE 84 (.cint .i32 (.t 83)) [5]), (oE 85 (.bin .shl (.t 84) (.k (.int .u64 6))) [6]), (oE 86 (.bin .or (.t 81) (.t 85)) [3, 7]), (oM 87 (.t 11) []), (oE 88 (.bin .and (.t 87) (.k (.int .u8 63))) [9]), (oE 89 (.cint .i32 (.t 88)) [10]), (oE 90 (.bin .or (.t 86) (.t 89)) [8, 11]), (oM 2 (.t 90) [12, 0, 1, 2, 3, 4, 5, 6, 7, 8, 9, 10, 11, 12]), (oM 3 (.k (.int .i64 3)) [13, 0, 1, 2, 3, 4, 5, 6, 7, 8, 9, 10, 11, 12, 13])]
def unicode_utf8_decodeRuneInStringSlow_i36 : IR := .ret
def unicode_utf8_decodeRuneInStringSlow_i37 : IR := (.cond (.t 77) (.seq (.reg false unicode_utf8_decodeRuneInStringSlow_i35) unicode_utf8_decodeRuneInStringSlow_i36) .skip)
def unicode_utf8_decodeRuneInStringSlow_i38 : List Op1 := [(oM 91 (.t 0) []), (oE 92 (.ixs (.t 91) (.k (.int .i64 3))) [0]), (oM 12 (.t 92) [1, 0, 1])]
def unicode_utf8_decodeRuneInStringSlow_i39 : List Op1 := [(oM 93 (.t 12) []), (oE 94 (.bin .lss (.t 93) (.k (.int .u8 128))) [0]), (oM 95 (.t 94) [1]), (oG 96 (.mv (.t 12)) 95 false [2]), (oG 97 (.bin .lss (.k (.int .u8 191)) (.t 96)) 95 false [3, 2]), (oE 98 (.pick (.t 95) (.k (.bool true)) (.t 97)) [2, 4])]
def unicode_utf8_decodeRuneInStringSlow_i40 : List Op1 := [(oM 2 (.k (.int .i32 65533)) []), (oM 3 (.k (.int .i64 1)) [0, 0])]
def unicode_utf8_decodeRuneInStringSlow_i41 : IR := .ret
def unicode_utf8_decodeRuneInStringSlow_i42 : IR := (.cond (.t 98) (.seq (.reg false unicode_utf8_decodeRuneInStringSlow_i40) unicode_utf8_decodeRuneInStringSlow_i41) .skip)
def unicode_utf8_decodeRuneInStringSlow_i43 : List Op1 := [(oM 99 (.t 5) []), (oE 100 (.bin .and (.t 99) (.k (.int .u8 7))) [0]), (oE 101 (.cint .i32 (.t 100)) [1]), (oE 102 (.bin .shl (.t 101) (.k (.int .u64 18))) [2]), (oM 103 (.t 10) []), (oE 104 (.bin .and (.t 103) (.k (.int .u8 63))) [4]), (oE 105 (.cint .i32 (.t 104)) [5]), (oE 106 (.bin .shl (.t 105) (.k (.int .u64 12))) [6]), (oE 107 (.bin .or (.t 102) (.t 106)) [3, 7]), (oM 108 (.t 11) []), (oE 109 (.bin .and (.t 108) (.k (.int .u8 63))) [9]), (oE 110 (.cint .i32 (.t 109)) [10]), (oE 111 (.bin .shl (.t 110) (.k (.int .u64 6))) [11]), (oE 112 (.bin .or (.t 107) (.t 111)) [8, 12]), (oM 113 (.t 12) []), (oE 114 (.bin .and (.t 113) (.k (.int .u8 63))) [14]), (oE 115 (.cint .i32 (.t 114)) [15]), (oE 116 (.bin .or (.t 112) (.t 115)) [13, 16]), (oM 2 (.t 116) [17, 0, 1, 2, 3, 4, 5, 6, 7, 8, 9, 10, 11, 12, 13, 14, 15, 16, 17]), (oM 3 (.k (.int .i64 4)) [18, 0, 1, 2, 3, 4, 5, 6, 7, 8, 9, 10, 11, 12, 13, 14, 15, 16, 17, 18])]
def unicode_utf8_decodeRuneInStringSlow_i44 : IR := .ret
def unicode_utf8_decodeRuneInStringSlow_i45 : IR := (.seq (.reg false unicode_utf8_decodeRuneInStringSlow_i43) unicode_utf8_decodeRuneInStringSlow_i44)
def unicode_utf8_decodeRuneInStringSlow_i46 : IR := (.seq (.seq (.reg false unicode_utf8_decodeRuneInStringSlow_i39) unicode_utf8_decodeRuneInStringSlow_i42) unicode_utf8_decodeRuneInStringSlow_i45)
def unicode_utf8_decodeRuneInStringSlow_i47 : IR := (.seq (.reg false unicode_utf8_decodeRuneInStringSlow_i38) unicode_utf8_decodeRuneInStringSlow_i46)
def unicode_utf8_decodeRuneInStringSlow_i48 : IR := (.seq (.seq (.reg false unicode_utf8_decodeRuneInStringSlow_i34) unicode_utf8_decodeRuneInStringSlow_i37) unicode_utf8_decodeRuneInStringSlow_i47)
def unicode_utf8_decodeRuneInStringSlow_i49 : IR := (.seq (.seq (.reg false unicode_utf8_decodeRuneInStringSlow_i30) unicode_utf8_decodeRuneInStringSlow_i33) unicode_utf8_decodeRuneInStringSlow_i48)
def unicode_utf8_decodeRuneInStringSlow_i50 : IR := (.seq (.reg false unicode_utf8_decodeRuneInStringSlow_i29) unicode_utf8_decodeRuneInStringSlow_i49)
def unicode_utf8_decodeRuneInStringSlow_i51 : IR := (.seq (.seq (.reg false unicode_utf8_decodeRuneInStringSlow_i25) unicode_utf8_decodeRuneInStringSlow_i28) unicode_utf8_decodeRuneInStringSlow_i50)
def unicode_utf8_decodeRuneInStringSlow_i52 : IR := (.seq (.seq (.reg false unicode_utf8_decodeRuneInStringSlow_i21) unicode_utf8_decodeRuneInStringSlow_i24) unicode_utf8_decodeRuneInStringSlow_i51)
def unicode_utf8_decodeRuneInStringSlow_i53 : IR := (.seq (.reg false unicode_utf8_decodeRuneInStringSlow_i20) unicode_utf8_decodeRuneInStringSlow_i52)
def unicode_utf8_decodeRuneInStringSlow_i54 : IR := (.seq (.seq (.reg false unicode_utf8_decodeRuneInStringSlow_i16) unicode_utf8_decodeRuneInStringSlow_i19) unicode_utf8_decodeRuneInStringSlow_i53)
def unicode_utf8_decodeRuneInStringSlow_i55 : IR := (.seq (.reg false unicode_utf8_decodeRuneInStringSlow_i15) unicode_utf8_decodeRuneInStringSlow_i54)
def unicode_utf8_decodeRuneInStringSlow_i56 : IR := (.seq (.reg false unicode_utf8_decodeRuneInStringSlow_i14) unicode_utf8_decodeRuneInStringSlow_i55)
def unicode_utf8_decodeRuneInStringSlow_i57 : IR := (.seq (.seq (.reg false unicode_utf8_decodeRuneInStringSlow_i8) unicode_utf8_decodeRuneInStringSlow_i13) unicode_utf8_decodeRuneInStringSlow_i56)
def unicode_utf8_decodeRuneInStringSlow_i58 : IR := (.seq (.reg false unicode_utf8_decodeRuneInStringSlow_i7) unicode_utf8_decodeRuneInStringSlow_i57)
def unicode_utf8_decodeRuneInStringSlow_i59 : IR := (.seq (.reg false unicode_utf8_decodeRuneInStringSlow_i6) unicode_utf8_decodeRuneInStringSlow_i58)
def unicode_utf8_decodeRuneInStringSlow_i60 : IR := (.seq (.seq (.reg false unicode_utf8_decodeRuneInStringSlow_i2) unicode_utf8_decodeRuneInStringSlow_i5) unicode_utf8_decodeRuneInStringSlow_i59)
def unicode_utf8_decodeRuneInStringSlow_i61 : IR := (.seq (.reg false unicode_utf8_decodeRuneInStringSlow_i1) unicode_utf8_decodeRuneInStringSlow_i60)
def unicode_utf8_decodeRuneInStringSlow_ir : IR := (.seq (.reg false unicode_utf8_decodeRuneInStringSlow_i0) unicode_utf8_decodeRuneInStringSlow_i61)
theorem unicode_utf8_decodeRuneInStringSlow_cfn : cFn Tryd.prog 42 = some (unicode_utf8_decodeRuneInStringSlow_ir, [(.t 2), (.t 3)], 117) := by kernel_rfl
def unicode_utf8_decodeRuneInStringSlow_V (r : (Int × Int)) : V := .tup [.s (.int .i32 r.1), .s (.int .i64 r.2)]
def unicode_utf8_decodeRuneInStringSlow_C (r : (Int × Int)) : X → Fr → Hp → Prop := FinL [(.t 2), (.t 3)] [] (unicode_utf8_decodeRuneInStringSlow_V r) []
theorem unicode_utf8_decodeRuneInStringSlow_ok (s_ : ByteArray) (r : (Int × Int)) (h : unicode_utf8_decodeRuneInStringSlow s_ = some r) : Pure Tryd.prog 42 [.s (.string s_)] (unicode_utf8_decodeRuneInStringSlow_V r) := by
  refine ConL.of unicode_utf8_decodeRuneInStringSlow_cfn (Nat.le_of_ble_eq_true (by kernel_rfl)) (Nat.le_of_ble_eq_true (by kernel_rfl)) ?_
  refine k_start ?_
  show dwv Tryd.prog [] unicode_utf8_decodeRuneInStringSlow_ir (kont Tryd.prog [] (unicode_utf8_decodeRuneInStringSlow_C r) []) (fr0 [.s (.string s_)]) []
  have hf : FOk (fr0 [.s (.string s_)]) [⟨0, [], .s (.string s_)⟩] := ⟨⟨fun _ => rfl, fun h => (h trivial).elim⟩, trivial⟩
  generalize fr0 [.s (.string s_)] = f at hf ⊢
  unfold unicode_utf8_decodeRuneInStringSlow at h
  refine k_seq ?_
  refine k_reg ?_
  refine mops_en hf (by kernel_rfl) fun f1 hf1 => ?_
  refine k_c ?_
  refine k_seq ?_
  refine k_reg ?_
  refine mops_en hf1 (by kernel_rfl) fun f2 hf2 => ?_
  refine k_c ?_
  refine k_seq ?_
  refine k_seq ?_
  refine k_reg ?_
  refine mops_en hf2 (by kernel_rfl) fun f3 hf3 => ?_
  refine k_c ?_
  refine k_cond hf3 (t := (decide ((sln s_) < 1))) (by kernel_rfl) (fun hc1 => ?_) (fun hc1 => ?_)
  · have h := if_t h hc1
    refine k_seq ?_
    refine k_reg ?_
    refine mops_en hf3 (by kernel_rfl) fun f4 hf4 => ?_
    refine k_c ?_
    refine k_ret ?_
    refine x_c nofun ?_
    obtain rfl := Option.some.inj h
    exact k_fin (fin_ret (.inl rfl) hf4 (vs := [.s (.int .i32 65533), .s (.int .i64 0)]) (by kernel_rfl) (SettL.pure (FzL.tup (FzsL.cons (FzL.stat rfl) (FzsL.cons (FzL.stat rfl) FzsL.nil)))))
  · have h := if_f h hc1
    cases h
def math_bits_Mul32_i0 : List Op1 := [(oM 4 (.k (.int .u32 0)) []), (oM 5 (.k (.int .u32 0)) [0])]
def math_bits_Mul32_i1 : List Op1 := [(oM 7 (.t 0) []), (oE 8 (.cint .u64 (.t 7)) [0]), (oM 9 (.t 1) []), (oE 10 (.cint .u64 (.t 9)) [2]), (oE 11 (.bin .mul (.t 8) (.t 10)) [1, 3]), (oM 6 (.t 11) [4, 0, 1, 2, 3, 4])]
def math_bits_Mul32_i2 : List Op1 := [(oM 12 (.t 6) []), (oE 13 (.bin .shr (.t 12) (.k (.int .u64 32))) [0]), (oE 14 (.cint .u32 (.t 13)) [1]), (oM 15 (.t 6) []), (oE 16 (.cint .u32 (.t 15)) [3]), (oM 4 (.t 14) [2, 0, 1, 2]), (oM 5 (.t 16) [4, 5, 0, 1, 2, 3, 4, 5])]
def math_bits_Mul32_i3 : IR := .ret
def math_bits_Mul32_i4 : IR := (.seq (.reg false math_bits_Mul32_i2) math_bits_Mul32_i3)
def math_bits_Mul32_i5 : IR := (.seq (.reg false math_bits_Mul32_i1) math_bits_Mul32_i4)
def math_bits_Mul32_ir : IR := (.seq (.reg false math_bits_Mul32_i0) math_bits_Mul32_i5)
theorem math_bits_Mul32_cfn : cFn Tryd.prog 31 = some (math_bits_Mul32_ir, [(.t 4), (.t 5)], 17) := by kernel_rfl
def math_bits_Mul32_V (r : (Int × Int)) : V := .tup [.s (.int .u32 r.1), .s (.int .u32 r.2)]
def math_bits_Mul32_C (r : (Int × Int)) : X → Fr → Hp → Prop := FinL [(.t 4), (.t 5)] [] (math_bits_Mul32_V r) []
theorem math_bits_Mul32_ok (x_ : Int) (y_ : Int) (r : (Int × Int)) (h : math_bits_Mul32 x_ y_ = some r) : Pure Tryd.prog 31 [.s (.int .u32 x_), .s (.int .u32 y_)] (math_bits_Mul32_V r) := by
  refine ConL.of math_bits_Mul32_cfn (Nat.le_of_ble_eq_true (by kernel_rfl)) (Nat.le_of_ble_eq_true (by kernel_rfl)) ?_
  refine k_start ?_
  show dwv Tryd.prog [] math_bits_Mul32_ir (kont Tryd.prog [] (math_bits_Mul32_C r) []) (fr0 [.s (.int .u32 x_), .s (.int .u32 y_)]) []
  have hf : FOk (fr0 [.s (.int .u32 x_), .s (.int .u32 y_)]) [⟨0, [], .s (.int .u32 x_)⟩, ⟨1, [], .s (.int .u32 y_)⟩] := ⟨⟨fun _ => rfl, fun h => (h trivial).elim⟩, ⟨fun _ => rfl, fun h => (h trivial).elim⟩, trivial⟩
  generalize fr0 [.s (.int .u32 x_), .s (.int .u32 y_)] = f at hf ⊢
  unfold math_bits_Mul32 at h
  refine k_seq ?_
  refine k_reg ?_
  refine mops_en hf (by kernel_rfl) fun f1 hf1 => ?_
  refine k_c ?_
  refine k_seq ?_
  refine k_reg ?_
  refine mops_en hf1 (by kernel_rfl) fun f2 hf2 => ?_
  refine k_c ?_
  refine k_seq ?_
  refine k_reg ?_
  refine mops_en hf2 (by kernel_rfl) fun f3 hf3 => ?_
  refine k_c ?_
  refine k_ret ?_
  obtain rfl := Option.some.inj h
  exact k_fin (fin_ret (.inl rfl) hf3 (vs := [.s (.int .u32 (IntKind.wrap .u32 (Int.fdiv (IntKind.wrap .u64 ((IntKind.wrap .u64 x_) * (IntKind.wrap .u64 y_))) (2 ^ (32))))), .s (.int .u32 (IntKind.wrap .u32 (IntKind.wrap .u64 ((IntKind.wrap .u64 x_) * (IntKind.wrap .u64 y_)))))]) (by kernel_rfl) (SettL.pure (FzL.tup (FzsL.cons (FzL.stat rfl) (FzsL.cons (FzL.stat rfl) FzsL.nil)))))
def math_bits_Mul64_i0 : List Op1 := [(oM 4 (.k (.int .u64 0)) []), (oM 5 (.k (.int .u64 0)) [0])]
def math_bits_Mul64_i1 : List Op1 := [(oM 14 (.t 0) []), (oE 15 (.bin .and (.t 14) (.k (.int .u64 4294967295))) [0]), (oM 6 (.t 15) [1, 0, 1])]
def math_bits_Mul64_i2 : List Op1 := [(oM 16 (.t 0) []), (oE 17 (.bin .shr (.t 16) (.k (.int .u64 32))) [0]), (oM 7 (.t 17) [1, 0, 1])]
def math_bits_Mul64_i3 : List Op1 := [(oM 18 (.t 1) []), (oE 19 (.bin .and (.t 18) (.k (.int .u64 4294967295))) [0]), (oM 8 (.t 19) [1, 0, 1])]
def math_bits_Mul64_i4 : List Op1 := [(oM 20 (.t 1) []), (oE 21 (.bin .shr (.t 20) (.k (.int .u64 32))) [0]), (oM 9 (.t 21) [1, 0, 1])]
def math_bits_Mul64_i5 : List Op1 := [(oM 22 (.t 6) []), (oM 23 (.t 8) []), (oE 24 (.bin .mul (.t 22) (.t 23)) [0, 1]), (oM 10 (.t 24) [2, 0, 1, 2])]
def math_bits_Mul64_i6 : List Op1 := [(oM 25 (.t 7) []), (oM 26 (.t 8) []), (oE 27 (.bin .mul (.t 25) (.t 26)) [0, 1]), (oM 28 (.t 10) []), (oE 29 (.bin .shr (.t 28) (.k (.int .u64 32))) [3]), (oE 30 (.bin .add (.t 27) (.t 29)) [2, 4]), (oM 11 (.t 30) [5, 0, 1, 2, 3, 4, 5])]
def math_bits_Mul64_i7 : List Op1 := [(oM 31 (.t 11) []), (oE 32 (.bin .and (.t 31) (.k (.int .u64 4294967295))) [0]), (oM 12 (.t 32) [1, 0, 1])]
def math_bits_Mul64_i8 : List Op1 := [(oM 33 (.t 11) []), (oE 34 (.bin .shr (.t 33) (.k (.int .u64 32))) [0]), (oM 13 (.t 34) [1, 0, 1])]
def math_bits_Mul64_i9 : List Op1 := [(oM 35 (.t 12) []), (oM 36 (.t 6) []), (oM 37 (.t 9) []), (oE 38 (.bin .mul (.t 36) (.t 37)) [1, 2]), (oE 39 (.bin .add (.t 35) (.t 38)) [0, 3]), (oM 12 (.t 39) [4, 0, 1, 2, 3, 4])]
def math_bits_Mul64_i10 : List Op1 := [(oM 40 (.t 7) []), (oM 41 (.t 9) []), (oE 42 (.bin .mul (.t 40) (.t 41)) [0, 1]), (oM 43 (.t 13) []), (oE 44 (.bin .add (.t 42) (.t 43)) [2, 3]), (oM 45 (.t 12) []), (oE 46 (.bin .shr (.t 45) (.k (.int .u64 32))) [5]), (oE 47 (.bin .add (.t 44) (.t 46)) [4, 6]), (oM 4 (.t 47) [7, 0, 1, 2, 3, 4, 5, 6, 7])]
def math_bits_Mul64_i11 : List Op1 := [(oM 48 (.t 0) []), (oM 49 (.t 1) []), (oE 50 (.bin .mul (.t 48) (.t 49)) [0, 1]), (oM 5 (.t 50) [2, 0, 1, 2])]
def math_bits_Mul64_i12 : IR := .ret
def math_bits_Mul64_i13 : IR := (.seq (.reg false math_bits_Mul64_i11) math_bits_Mul64_i12)
def math_bits_Mul64_i14 : IR := (.seq (.reg false math_bits_Mul64_i10) math_bits_Mul64_i13)
def math_bits_Mul64_i15 : IR := (.seq (.reg false math_bits_Mul64_i9) math_bits_Mul64_i14)
def math_bits_Mul64_i16 : IR := (.seq (.reg false math_bits_Mul64_i8) math_bits_Mul64_i15)
def math_bits_Mul64_i17 : IR := (.seq (.reg false math_bits_Mul64_i7) math_bits_Mul64_i16)
def math_bits_Mul64_i18 : IR := (.seq (.reg false math_bits_Mul64_i6) math_bits_Mul64_i17)
def math_bits_Mul64_i19 : IR := (.seq (.reg false math_bits_Mul64_i5) math_bits_Mul64_i18)
def math_bits_Mul64_i20 : IR := (.seq (.reg false math_bits_Mul64_i4) math_bits_Mul64_i19)
def math_bits_Mul64_i21 : IR := (.seq (.reg false math_bits_Mul64_i3) math_bits_Mul64_i20)
def math_bits_Mul64_i22 : IR := (.seq (.reg false math_bits_Mul64_i2) math_bits_Mul64_i21)
def math_bits_Mul64_i23 : IR := (.seq (.reg false math_bits_Mul64_i1) math_bits_Mul64_i22)
def math_bits_Mul64_ir : IR := (.seq (.reg false math_bits_Mul64_i0) math_bits_Mul64_i23)
theorem math_bits_Mul64_cfn : cFn Tryd.prog 32 = some (math_bits_Mul64_ir, [(.t 4), (.t 5)], 51) := by kernel_rfl
def math_bits_Mul64_V (r : (Int × Int)) : V := .tup [.s (.int .u64 r.1), .s (.int .u64 r.2)]
def math_bits_Mul64_C (r : (Int × Int)) : X → Fr → Hp → Prop := FinL [(.t 4), (.t 5)] [] (math_bits_Mul64_V r) []
theorem math_bits_Mul64_ok (x_ : Int) (y_ : Int) (r : (Int × Int)) (h : math_bits_Mul64 x_ y_ = some r) : Pure Tryd.prog 32 [.s (.int .u64 x_), .s (.int .u64 y_)] (math_bits_Mul64_V r) := by
  refine ConL.of math_bits_Mul64_cfn (Nat.le_of_ble_eq_true (by kernel_rfl)) (Nat.le_of_ble_eq_true (by kernel_rfl)) ?_
  refine k_start ?_
  show dwv Tryd.prog [] math_bits_Mul64_ir (kont Tryd.prog [] (math_bits_Mul64_C r) []) (fr0 [.s (.int .u64 x_), .s (.int .u64 y_)]) []
  have hf : FOk (fr0 [.s (.int .u64 x_), .s (.int .u64 y_)]) [⟨0, [], .s (.int .u64 x_)⟩, ⟨1, [], .s (.int .u64 y_)⟩] := ⟨⟨fun _ => rfl, fun h => (h trivial).elim⟩, ⟨fun _ => rfl, fun h => (h trivial).elim⟩, trivial⟩
  generalize fr0 [.s (.int .u64 x_), .s (.int .u64 y_)] = f at hf ⊢
  unfold math_bits_Mul64 at h
  refine k_seq ?_
  refine k_reg ?_
  refine mops_en hf (by kernel_rfl) fun f1 hf1 => ?_
  refine k_c ?_
  refine k_seq ?_
  refine k_reg ?_
  refine mops_en hf1 (by kernel_rfl) fun f2 hf2 => ?_
  refine k_c ?_
  refine k_seq ?_
  refine k_reg ?_
  refine mops_en hf2 (by kernel_rfl) fun f3 hf3 => ?_
  refine k_c ?_
  refine k_seq ?_
  refine k_reg ?_
  refine mops_en hf3 (by kernel_rfl) fun f4 hf4 => ?_
  refine k_c ?_
  refine k_seq ?_
  refine k_reg ?_
  refine mops_en hf4 (by kernel_rfl) fun f5 hf5 => ?_
  refine k_c ?_
  refine k_seq ?_
  refine k_reg ?_
  refine mops_en hf5 (by kernel_rfl) fun f6 hf6 => ?_
  refine k_c ?_
  refine k_seq ?_
  refine k_reg ?_
  refine mops_en hf6 (by kernel_rfl) fun f7 hf7 => ?_
  refine k_c ?_
  refine k_seq ?_
  refine k_reg ?_
  refine mops_en hf7 (by kernel_rfl) fun f8 hf8 => ?_
  refine k_c ?_
  refine k_seq ?_
  refine k_reg ?_
  refine mops_en hf8 (by kernel_rfl) fun f9 hf9 => ?_
  refine k_c ?_
  refine k_seq ?_
  refine k_reg ?_
  refine mops_end [0, 1, 4, 5, 7, 9, 12, 13] hf9 (l' := [⟨0, [], .s (.int .u64 x_)⟩, ⟨1, [], .s (.int .u64 y_)⟩, ⟨4, [], .s (.int .u64 0)⟩, ⟨5, [], .s (.int .u64 0)⟩, ⟨7, [], .s (.int .u64 (Int.fdiv x_ (2 ^ (32))))⟩, ⟨9, [], .s (.int .u64 (Int.fdiv y_ (2 ^ (32))))⟩, ⟨12, [], .s (.int .u64 (IntKind.wrap .u64 ((bits .and .u64 (IntKind.wrap .u64 ((IntKind.wrap .u64 ((Int.fdiv x_ (2 ^ (32))) * (bits .and .u64 y_ 4294967295))) + (Int.fdiv (IntKind.wrap .u64 ((bits .and .u64 x_ 4294967295) * (bits .and .u64 y_ 4294967295))) (2 ^ (32))))) 4294967295) + (IntKind.wrap .u64 ((bits .and .u64 x_ 4294967295) * (Int.fdiv y_ (2 ^ (32))))))))⟩, ⟨13, [], .s (.int .u64 (Int.fdiv (IntKind.wrap .u64 ((IntKind.wrap .u64 ((Int.fdiv x_ (2 ^ (32))) * (bits .and .u64 y_ 4294967295))) + (Int.fdiv (IntKind.wrap .u64 ((bits .and .u64 x_ 4294967295) * (bits .and .u64 y_ 4294967295))) (2 ^ (32))))) (2 ^ (32))))⟩]) (L' := []) (by kernel_rfl) fun f10 hf10 => ?_
  refine k_c ?_
  refine k_seq ?_
  refine k_reg ?_
  refine mops_en hf10 (by kernel_rfl) fun f11 hf11 => ?_
  refine k_c ?_
  refine k_seq ?_
  refine k_reg ?_
  refine mops_en hf11 (by kernel_rfl) fun f12 hf12 => ?_
  refine k_c ?_
  refine k_ret ?_
  obtain rfl := Option.some.inj h
  exact k_fin (fin_ret (.inl rfl) hf12 (vs := [.s (.int .u64 (IntKind.wrap .u64 ((IntKind.wrap .u64 ((IntKind.wrap .u64 ((Int.fdiv x_ (2 ^ (32))) * (Int.fdiv y_ (2 ^ (32))))) + (Int.fdiv (IntKind.wrap .u64 ((IntKind.wrap .u64 ((Int.fdiv x_ (2 ^ (32))) * (bits .and .u64 y_ 4294967295))) + (Int.fdiv (IntKind.wrap .u64 ((bits .and .u64 x_ 4294967295) * (bits .and .u64 y_ 4294967295))) (2 ^ (32))))) (2 ^ (32))))) + (Int.fdiv (IntKind.wrap .u64 ((bits .and .u64 (IntKind.wrap .u64 ((IntKind.wrap .u64 ((Int.fdiv x_ (2 ^ (32))) * (bits .and .u64 y_ 4294967295))) + (Int.fdiv (IntKind.wrap .u64 ((bits .and .u64 x_ 4294967295) * (bits .and .u64 y_ 4294967295))) (2 ^ (32))))) 4294967295) + (IntKind.wrap .u64 ((bits .and .u64 x_ 4294967295) * (Int.fdiv y_ (2 ^ (32))))))) (2 ^ (32)))))), .s (.int .u64 (IntKind.wrap .u64 (x_ * y_)))]) (by kernel_rfl) (SettL.pure (FzL.tup (FzsL.cons (FzL.stat rfl) (FzsL.cons (FzL.stat rfl) FzsL.nil)))))
def internal_stringslite_HasPrefix_i0 : List Op1 := [(oM 4 (.k (.bool false)) [])]
def internal_stringslite_HasPrefix_i1 : List Op1 := [(oM 5 (.t 0) []), (oE 6 (.lens (.t 5)) [0]), (oM 7 (.t 1) []), (oE 8 (.lens (.t 7)) [2]), (oE 9 (.bin .geq (.t 6) (.t 8)) [1, 3]), (oM 10 (.t 9) [4]), (oG 11 (.mv (.t 0)) 10 true [5]), (oG 12 (.mv (.t 1)) 10 true [5]), (oG 13 (.lens (.t 12)) 10 true [7, 5]), (oG 14 (.sstr (.t 11) none (some (.t 13))) 10 true [6, 8, 5]), (oG 15 (.mv (.t 1)) 10 true [5]), (oG 16 (.bin .eql (.t 14) (.t 15)) 10 true [9, 10, 5]), (oE 17 (.pick (.t 10) (.t 16) (.k (.bool false))) [5, 11]), (oM 4 (.t 17) [12, 5, 0, 1, 2, 3, 4, 5, 6, 7, 8, 9, 10, 11, 12])]
def internal_stringslite_HasPrefix_i2 : IR := .ret
def internal_stringslite_HasPrefix_i3 : IR := (.seq (.reg false internal_stringslite_HasPrefix_i1) internal_stringslite_HasPrefix_i2)
def internal_stringslite_HasPrefix_ir : IR := (.seq (.reg false internal_stringslite_HasPrefix_i0) internal_stringslite_HasPrefix_i3)
theorem internal_stringslite_HasPrefix_cfn : cFn Tryd.prog 33 = some (internal_stringslite_HasPrefix_ir, [(.t 4)], 18) := by kernel_rfl
def internal_stringslite_HasPrefix_V (r : (Bool)) : V := .s (.bool r)
def internal_stringslite_HasPrefix_C (r : (Bool)) : X → Fr → Hp → Prop := FinL [(.t 4)] [] (internal_stringslite_HasPrefix_V r) []
theorem internal_stringslite_HasPrefix_ok (s_ : ByteArray) (prefix_ : ByteArray) (r : (Bool)) (h : internal_stringslite_HasPrefix s_ prefix_ = some r) : Pure Tryd.prog 33 [.s (.string s_), .s (.string prefix_)] (internal_stringslite_HasPrefix_V r) := by
  refine ConL.of internal_stringslite_HasPrefix_cfn (Nat.le_of_ble_eq_true (by kernel_rfl)) (Nat.le_of_ble_eq_true (by kernel_rfl)) ?_
  refine k_start ?_
  show dwv Tryd.prog [] internal_stringslite_HasPrefix_ir (kont Tryd.prog [] (internal_stringslite_HasPrefix_C r) []) (fr0 [.s (.string s_), .s (.string prefix_)]) []
  have hf : FOk (fr0 [.s (.string s_), .s (.string prefix_)]) [⟨0, [], .s (.string s_)⟩, ⟨1, [], .s (.string prefix_)⟩] := ⟨⟨fun _ => rfl, fun h => (h trivial).elim⟩, ⟨fun _ => rfl, fun h => (h trivial).elim⟩, trivial⟩
  generalize fr0 [.s (.string s_), .s (.string prefix_)] = f at hf ⊢
  unfold internal_stringslite_HasPrefix at h
  refine k_seq ?_
  refine k_reg ?_
  refine mops_en hf (by kernel_rfl) fun f1 hf1 => ?_
  refine k_c ?_
  refine k_seq ?_
  refine k_reg ?_
  refine mops_sg 9 hf1 (by kernel_rfl) fun f2 hf2 => ?_
  obtain ⟨c1, h⟩ := as_ok h
  refine mops_gadv (dst := (some 14)) (op := (.sstr (.t 11) none (some (.t 13)))) (aft := [6, 8, 5]) (t := 10) (w := true) (ch := [(10, true)]) (b := (decide ((sln prefix_) ≤ (sln s_)))) (v := .s (.string (s_.extract 0 ((sln prefix_) : Int).toNat))) (by kernel_rfl) hf2 (by kernel_rfl) (by kernel_rfl) (by kernel_rfl) (fun hb2 => e_sstr (t := s_) (by kernel_rfl) (b_ns (k := .i64) (iv := (sln prefix_)) (by kernel_rfl) (c1 hb2))) fun f3 hf3 => ?_
  refine mops_en hf3 (by kernel_rfl) fun f4 hf4 => ?_
  refine k_c ?_
  refine k_ret ?_
  obtain rfl := Option.some.inj h
  exact k_fin (fin_ret (.inl rfl) hf4 (vs := [.s (.bool ((decide ((sln prefix_) ≤ (sln s_))) && ((s_.extract 0 ((sln prefix_) : Int).toNat).toList == prefix_.toList)))]) (by kernel_rfl) (SettL.pure (FzL.stat rfl)))
def spinetlaw50_on_i0 : List Op1 := [(oE 2 (.box (.t 0)) []), (oM 4 (.k (.bool false)) [])]
def spinetlaw50_on_i1 : List Op1 := [(oE 6 (.fld 2 (.t 2)) []), (oE 7 (.load false 1 (.t 6)) [0]), (oE 8 (.fld 3 (.t 2)) []), (oE 9 (.load false 1 (.t 8)) [2]), (oE 10 (.fld 4 (.t 2)) []), (oE 11 (.load false 1 (.t 10)) [4]), (oE 12 (.fld 5 (.t 2)) []), (oE 13 (.load false 1 (.t 12)) [6]), (oE 14 (.fld 6 (.t 2)) []), (oE 15 (.load false 1 (.t 14)) [8]), (oE 16 (.fld 7 (.t 2)) []), (oE 17 (.load false 1 (.t 16)) [10]), (oE 18 (.fld 8 (.t 2)) []), (oE 19 (.load false 1 (.t 18)) [12]), (oE 20 (.build [(.bool false), (.bool false), (.bool false), (.bool false), (.bool false), (.bool false), (.bool false)] [(0, (1, (.t 7))), (1, (1, (.t 9))), (2, (1, (.t 11))), (3, (1, (.t 13))), (4, (1, (.t 15))), (5, (1, (.t 17))), (6, (1, (.t 19)))]) [1, 3, 5, 7, 9, 11, 13]), (oE 5 (.zero [(.bool false), (.bool false), (.bool false), (.bool false), (.bool false), (.bool false), (.bool false)]) []), (oN (.store 7 (.t 5) (.t 20)) [15, 14, 0, 1, 2, 3, 4, 5, 6, 7, 8, 9, 10, 11, 12, 13, 14, 15])]
def spinetlaw50_on_i2 : List Op1 := [(oM 21 (.t 1) []), (oE 22 (.bin .geq (.t 21) (.k (.int .i64 0))) [0]), (oM 23 (.t 22) [1]), (oG 24 (.mv (.t 1)) 23 true [2]), (oG 25 (.bin .lss (.t 24) (.k (.int .i64 7))) 23 true [3, 2]), (oE 26 (.pick (.t 23) (.t 25) (.k (.bool false))) [2, 4]), (oM 27 (.t 26) [5, 2]), (oG 28 (.mv (.t 1)) 27 true [6]), (oG 29 (.iaa 7 1 (.t 5) (.t 28)) 27 true [7, 6]), (oG 30 (.load false 1 (.t 29)) 27 true [8, 6]), (oE 31 (.pick (.t 27) (.t 30) (.k (.bool false))) [6, 9]), (oM 4 (.t 31) [10, 6, 0, 1, 2, 3, 4, 5, 6, 7, 8, 9, 10])]
def spinetlaw50_on_i3 : IR := .ret
def spinetlaw50_on_i4 : IR := (.seq (.reg false spinetlaw50_on_i2) spinetlaw50_on_i3)
def spinetlaw50_on_i5 : IR := (.seq (.reg false spinetlaw50_on_i1) spinetlaw50_on_i4)
def spinetlaw50_on_ir : IR := (.seq (.reg false spinetlaw50_on_i0) spinetlaw50_on_i5)
theorem spinetlaw50_on_cfn : cFn Tryd.prog 8 = some (spinetlaw50_on_ir, [(.t 4)], 32) := by kernel_rfl
def spinetlaw50_on_V (r : (Bool)) : V := .s (.bool r)
def spinetlaw50_on_C (r : (Bool)) : X → Fr → Hp → Prop := FinL [(.t 4)] [] (spinetlaw50_on_V r) []
theorem spinetlaw50_on_ok (r_ : api_Rec) (line_ : Int) (r : (Bool)) (h : spinetlaw50_on r_ line_ = some r) : Pure Tryd.prog 8 [.agg [.s (.int .u16 r_.Addr), .s (.int .u8 r_.Data), .s (.bool r_.Read), .s (.bool r_.BA), .s (.bool r_.BS), .s (.bool r_.LIC), .s (.bool r_.AVMA), .s (.bool r_.BUSY), .s (.bool r_.Mine)], .s (.int .i64 line_)] (spinetlaw50_on_V r) := by
  refine ConL.of spinetlaw50_on_cfn (Nat.le_of_ble_eq_true (by kernel_rfl)) (Nat.le_of_ble_eq_true (by kernel_rfl)) ?_
  refine k_start ?_
  show dwv Tryd.prog [] spinetlaw50_on_ir (kont Tryd.prog [] (spinetlaw50_on_C r) []) (fr0 [.agg [.s (.int .u16 r_.Addr), .s (.int .u8 r_.Data), .s (.bool r_.Read), .s (.bool r_.BA), .s (.bool r_.BS), .s (.bool r_.LIC), .s (.bool r_.AVMA), .s (.bool r_.BUSY), .s (.bool r_.Mine)], .s (.int .i64 line_)]) []
  have hf : FOk (fr0 [.agg [.s (.int .u16 r_.Addr), .s (.int .u8 r_.Data), .s (.bool r_.Read), .s (.bool r_.BA), .s (.bool r_.BS), .s (.bool r_.LIC), .s (.bool r_.AVMA), .s (.bool r_.BUSY), .s (.bool r_.Mine)], .s (.int .i64 line_)]) [⟨0, [], .agg [.s (.int .u16 r_.Addr), .s (.int .u8 r_.Data), .s (.bool r_.Read), .s (.bool r_.BA), .s (.bool r_.BS), .s (.bool r_.LIC), .s (.bool r_.AVMA), .s (.bool r_.BUSY), .s (.bool r_.Mine)]⟩, ⟨1, [], .s (.int .i64 line_)⟩] := ⟨⟨fun _ => rfl, fun h => (h trivial).elim⟩, ⟨fun _ => rfl, fun h => (h trivial).elim⟩, trivial⟩
  generalize fr0 [.agg [.s (.int .u16 r_.Addr), .s (.int .u8 r_.Data), .s (.bool r_.Read), .s (.bool r_.BA), .s (.bool r_.BS), .s (.bool r_.LIC), .s (.bool r_.AVMA), .s (.bool r_.BUSY), .s (.bool r_.Mine)], .s (.int .i64 line_)] = f at hf ⊢
  unfold spinetlaw50_on at h
  refine k_seq ?_
  refine k_reg ?_
  refine mops_en hf (by kernel_rfl) fun f1 hf1 => ?_
  refine k_c ?_
  refine k_seq ?_
  refine k_reg ?_
  refine mops_en hf1 (by kernel_rfl) fun f2 hf2 => ?_
  refine k_c ?_
  refine k_seq ?_
  refine k_reg ?_
  refine mops_sg 8 hf2 (by kernel_rfl) fun f3 hf3 => ?_
  obtain ⟨c1, h⟩ := as_ok h
  refine mops_gadv (dst := (some 29)) (op := (.iaa 7 1 (.t 5) (.t 28))) (aft := [7, 6]) (t := 27) (w := true) (ch := [(27, true)]) (b := ((decide (0 ≤ line_)) && (decide (line_ < 7)))) (v := .ptr 1 0 (0 + (line_ : Int).toNat * 1)) (by kernel_rfl) hf3 (by kernel_rfl) (by kernel_rfl) (by kernel_rfl) (fun hb2 => e_iaa (n := 7) (xv := .ptr 1 0 0) (k := .i64) (iv := line_) (p := .ptr 1 0 (0 + (line_ : Int).toNat * 1)) (by kernel_rfl) (by kernel_rfl) (by kernel_rfl) (by kernel_rfl) (c1 hb2)) fun f4 hf4 => ?_
  refine mops_gadv (dst := (some 30)) (op := (.load false 1 (.t 29))) (aft := [8, 6]) (t := 27) (w := true) (ch := [(27, true)]) (b := ((decide (0 ≤ line_)) && (decide (line_ < 7)))) (v := .s (.bool (gt [r_.Read, r_.BA, r_.BS, r_.LIC, r_.AVMA, r_.BUSY, r_.Mine] line_))) (by kernel_rfl) hf4 (by kernel_rfl) (by kernel_rfl) (by kernel_rfl) (fun hb3 => e_load_pe (g := nB) (l := [r_.Read, r_.BA, r_.BS, r_.LIC, r_.AVMA, r_.BUSY, r_.Mine]) (iv := line_) (kd := .mem) (q := 1) (b := 1) (ver := 0) [] (by kernel_rfl) (live_mem (by kernel_rfl)) (arr_h (l := [r_.Read, r_.BA, r_.BS, r_.LIC, r_.AVMA, r_.BUSY, r_.Mine]) (c1 hb3) (by kernel_rfl)) (by kernel_rfl) (by kernel_rfl)) fun f5 hf5 => ?_
  refine mops_en hf5 (by kernel_rfl) fun f6 hf6 => ?_
  refine k_c ?_
  refine k_ret ?_
  obtain rfl := Option.some.inj h
  exact k_fin (fin_ret (.inl rfl) hf6 (vs := [.s (.bool (((decide (0 ≤ line_)) && (decide (line_ < 7))) && (gt [r_.Read, r_.BA, r_.BS, r_.LIC, r_.AVMA, r_.BUSY, r_.Mine] line_)))]) (by kernel_rfl) (SettL.pure (FzL.stat rfl)))
def slices_Equal_sl_api_Rec_api_Rec_i0 : List Op1 := [(oM 4 (.k (.bool false)) [])]
def slices_Equal_sl_api_Rec_api_Rec_i1 : List Op1 := [(oM 6 (.t 0) []), (oE 7 (.len (.t 6)) [0]), (oM 8 (.t 1) []), (oE 9 (.len (.t 8)) [2]), (oE 10 (.bin .neq (.t 7) (.t 9)) [1, 3])]
def slices_Equal_sl_api_Rec_api_Rec_i2 : List Op1 := [(oM 4 (.k (.bool false)) [])]
def slices_Equal_sl_api_Rec_api_Rec_i3 : IR := .ret
def slices_Equal_sl_api_Rec_api_Rec_i4 : IR := (.cond (.t 10) (.seq (.reg false slices_Equal_sl_api_Rec_api_Rec_i2) slices_Equal_sl_api_Rec_api_Rec_i3) .skip)
def slices_Equal_sl_api_Rec_api_Rec_i5 : List Op1 := [(oM 11 (.t 0) []), (oE 12 (.len (.t 11)) [0]), (oM 13 (.k (.int .i64 0)) [])]
def slices_Equal_sl_api_Rec_api_Rec_i6 : List Op1 := [(oE 14 (.bin .lss (.t 13) (.t 12)) [])]
def slices_Equal_sl_api_Rec_api_Rec_i7 : List Op1 := [(oM 15 (.t 13) []), (oM 5 (.t 15) [0, 0])]
def slices_Equal_sl_api_Rec_api_Rec_i8 : List Op1 := [(oM 16 (.t 0) []), (oM 17 (.t 5) []), (oE 18 (.ias 9 (.t 16) (.t 17)) [0, 1]), (oE 19 (.load true 9 (.t 18)) [2]), (oM 20 (.t 1) []), (oM 21 (.t 5) []), (oE 22 (.ias 9 (.t 20) (.t 21)) [4, 5]), (oE 23 (.load true 9 (.t 22)) [6]), (oE 24 (.eqa true [.int, .int, .bool, .bool, .bool, .bool, .bool, .bool, .bool] (.t 19) (.t 23)) [3, 7])]
def slices_Equal_sl_api_Rec_api_Rec_i9 : List Op1 := [(oM 4 (.k (.bool false)) [])]
def slices_Equal_sl_api_Rec_api_Rec_i10 : IR := .ret
def slices_Equal_sl_api_Rec_api_Rec_i11 : IR := (.cond (.t 24) (.seq (.reg false slices_Equal_sl_api_Rec_api_Rec_i9) slices_Equal_sl_api_Rec_api_Rec_i10) .skip)
def slices_Equal_sl_api_Rec_api_Rec_i12 : IR := (.seq (.reg true slices_Equal_sl_api_Rec_api_Rec_i8) slices_Equal_sl_api_Rec_api_Rec_i11)
def slices_Equal_sl_api_Rec_api_Rec_i13 : List Op1 := [(oE 25 (.bin .add (.t 13) (.k (.int .i64 1))) []), (oM 13 (.t 25) [0])]
def slices_Equal_sl_api_Rec_api_Rec_i14 : IR := (.reg false slices_Equal_sl_api_Rec_api_Rec_i13)
def slices_Equal_sl_api_Rec_api_Rec_i15 : IR := (.seq (.block 1 (.seq (.reg false slices_Equal_sl_api_Rec_api_Rec_i7) slices_Equal_sl_api_Rec_api_Rec_i12)) slices_Equal_sl_api_Rec_api_Rec_i14)
def slices_Equal_sl_api_Rec_api_Rec_i16 : IR := (.seq (.cond (.t 14) .skip (.exit 0)) slices_Equal_sl_api_Rec_api_Rec_i15)
def slices_Equal_sl_api_Rec_api_Rec_i17 : IR := (.seq (.reg false slices_Equal_sl_api_Rec_api_Rec_i6) slices_Equal_sl_api_Rec_api_Rec_i16)
def slices_Equal_sl_api_Rec_api_Rec_i18 : IR := (.block 0 (.loop slices_Equal_sl_api_Rec_api_Rec_i17))
def slices_Equal_sl_api_Rec_api_Rec_i19 : List Op1 := [(oM 4 (.k (.bool true)) [])]
def slices_Equal_sl_api_Rec_api_Rec_i20 : IR := .ret
def slices_Equal_sl_api_Rec_api_Rec_i21 : IR := (.seq (.reg false slices_Equal_sl_api_Rec_api_Rec_i19) slices_Equal_sl_api_Rec_api_Rec_i20)
def slices_Equal_sl_api_Rec_api_Rec_i22 : IR := (.seq (.seq (.reg false slices_Equal_sl_api_Rec_api_Rec_i5) slices_Equal_sl_api_Rec_api_Rec_i18) slices_Equal_sl_api_Rec_api_Rec_i21)
def slices_Equal_sl_api_Rec_api_Rec_i23 : IR := (.seq (.seq (.reg false slices_Equal_sl_api_Rec_api_Rec_i1) slices_Equal_sl_api_Rec_api_Rec_i4) slices_Equal_sl_api_Rec_api_Rec_i22)
def slices_Equal_sl_api_Rec_api_Rec_ir : IR := (.seq (.reg false slices_Equal_sl_api_Rec_api_Rec_i0) slices_Equal_sl_api_Rec_api_Rec_i23)
theorem slices_Equal_sl_api_Rec_api_Rec_cfn : cFn Tryd.prog 12 = some (slices_Equal_sl_api_Rec_api_Rec_ir, [(.t 4)], 26) := by kernel_rfl
def slices_Equal_sl_api_Rec_api_Rec_V (r : (Bool)) : V := .s (.bool r)
def slices_Equal_sl_api_Rec_api_Rec_C (r : (Bool)) : X → Fr → Hp → Prop := FinL [(.t 4)] [] (slices_Equal_sl_api_Rec_api_Rec_V r) []
theorem slices_Equal_sl_api_Rec_api_Rec_ok (s1_ : (List api_Rec)) (s2_ : (List api_Rec)) (r : (Bool)) (h : slices_Equal_sl_api_Rec_api_Rec s1_ s2_ = some r) : Pure Tryd.prog 12 [.sl false s1_.length (cat api_Rec.v s1_), .sl false s2_.length (cat api_Rec.v s2_)] (slices_Equal_sl_api_Rec_api_Rec_V r) := by
  refine ConL.of slices_Equal_sl_api_Rec_api_Rec_cfn (Nat.le_of_ble_eq_true (by kernel_rfl)) (Nat.le_of_ble_eq_true (by kernel_rfl)) ?_
  refine k_start ?_
  show dwv Tryd.prog [] slices_Equal_sl_api_Rec_api_Rec_ir (kont Tryd.prog [] (slices_Equal_sl_api_Rec_api_Rec_C r) []) (fr0 [.sl false s1_.length (cat api_Rec.v s1_), .sl false s2_.length (cat api_Rec.v s2_)]) []
  have hf : FOk (fr0 [.sl false s1_.length (cat api_Rec.v s1_), .sl false s2_.length (cat api_Rec.v s2_)]) [⟨0, [], .sl false s1_.length (cat api_Rec.v s1_)⟩, ⟨1, [], .sl false s2_.length (cat api_Rec.v s2_)⟩] := ⟨⟨fun _ => rfl, fun h => (h trivial).elim⟩, ⟨fun _ => rfl, fun h => (h trivial).elim⟩, trivial⟩
  generalize fr0 [.sl false s1_.length (cat api_Rec.v s1_), .sl false s2_.length (cat api_Rec.v s2_)] = f at hf ⊢
  unfold slices_Equal_sl_api_Rec_api_Rec at h
  refine k_seq ?_
  refine k_reg ?_
  refine mops_en hf (by kernel_rfl) fun f1 hf1 => ?_
  refine k_c ?_
  refine k_seq ?_
  refine k_seq ?_
  refine k_reg ?_
  refine mops_en hf1 (by kernel_rfl) fun f2 hf2 => ?_
  refine k_c ?_
  refine k_cond hf2 (t := ((ln s1_) != (ln s2_))) (by kernel_rfl) (fun hc1 => ?_) (fun hc1 => ?_)
  · have h := if_t h hc1
    refine k_seq ?_
    refine k_reg ?_
    refine mops_en hf2 (by kernel_rfl) fun f3 hf3 => ?_
    refine k_c ?_
    refine k_ret ?_
    refine x_c nofun ?_
    obtain rfl := Option.some.inj h
    exact k_fin (fin_ret (.inl rfl) hf3 (vs := [.s (.bool false)]) (by kernel_rfl) (SettL.pure (FzL.stat rfl)))
  · have h := if_f h hc1
    refine k_skip ?_
    refine k_c ?_
    refine k_seq ?_
    refine k_seq ?_
    refine k_reg ?_
    refine mops_en hf2 (by kernel_rfl) fun f3 hf3 => ?_
    refine k_c ?_
    refine k_block ?_
    obtain ⟨o0, hx0, h⟩ := Option.bind_eq_some_iff.1 h
    have hret0 : ∀ r0, .ret r0 = o0 → r0 = r := fun r0 e => by subst e; exact Option.some.inj h
    have hgo0 : .go () = o0 → ∀ f, FOk f [⟨4, [], .s (.bool false)⟩] → kont Tryd.prog [] (slices_Equal_sl_api_Rec_api_Rec_C r) ((.c slices_Equal_sl_api_Rec_api_Rec_i21) :: []) .normal f [] := by
      intro  e f hf
      subst e
      refine k_c ?_
      refine k_seq ?_
      refine k_reg ?_
      refine mops_en hf (by kernel_rfl) fun f1 hf1 => ?_
      refine k_c ?_
      refine k_ret ?_
      obtain rfl := Option.some.inj h
      exact k_fin (fin_ret (.inl rfl) hf1 (vs := [.s (.bool true)]) (by kernel_rfl) (SettL.pure (FzL.stat rfl)))
    refine k_loop BIG ?_
    refine loop_ind (fun n f L => ∃ (t_1 : Int), slices_Equal_sl_api_Rec_api_Rec_l0 s1_ s2_ n t_1 = some o0 ∧ FOk f [⟨0, [], .sl false s1_.length (cat api_Rec.v s1_)⟩, ⟨1, [], .sl false s2_.length (cat api_Rec.v s2_)⟩, ⟨4, [], .s (.bool false)⟩, ⟨12, [], .s (.int .i64 (ln s1_))⟩, ⟨13, [], .s (.int .i64 t_1)⟩] ∧ L = []) ?_ ?_ BIG _ _ ⟨(0), hx0, FOk_of [0, 1, 4, 12, 13] hf3 (by kernel_rfl), (by kernel_rfl)⟩
    · rintro f L ⟨t_1, h, _⟩
      cases (show (none : Option _) = some _ from h)
    · rintro n0 R0 ih f L ⟨t_1, h, hf, rfl⟩
      rw [slices_Equal_sl_api_Rec_api_Rec_l0] at h
      refine k_seq ?_
      refine k_reg ?_
      refine mops_en hf (by kernel_rfl) fun f1 hf1 => ?_
      refine k_c ?_
      refine k_seq ?_
      refine k_cond hf1 (t := (decide (t_1 < (ln s1_)))) (by kernel_rfl) (fun hc2 => ?_) (fun hc2 => ?_)
      · have h := if_t h hc2
        refine k_skip ?_
        refine k_c ?_
        refine k_seq ?_
        refine k_block ?_
        refine k_seq ?_
        refine k_reg ?_
        refine mops_en hf1 (by kernel_rfl) fun f2 hf2 => ?_
        refine k_c ?_
        refine k_seq ?_
        refine k_regq ?_
        refine mops_sg 2 hf2 (by kernel_rfl) fun f3 hf3 => ?_
        obtain ⟨c3, h⟩ := as_ok h
        refine mops_adv rfl (v := .ip ((cat api_Rec.v s1_).drop ((t_1 : Int).toNat * 9))) hf3 (by kernel_rfl) (e_ias (n := s1_.length) (xv := .sl false s1_.length (cat api_Rec.v s1_)) (k := .i64) (iv := t_1) (p := .ip ((cat api_Rec.v s1_).drop ((t_1 : Int).toNat * 9))) (by kernel_rfl) (by kernel_rfl) (by kernel_rfl) (by kernel_rfl) c3) fun f4 hf4 => ?_
        refine mops_adv rfl (v := .agg [.s (.int .u16 (gt s1_ t_1).Addr), .s (.int .u8 (gt s1_ t_1).Data), .s (.bool (gt s1_ t_1).Read), .s (.bool (gt s1_ t_1).BA), .s (.bool (gt s1_ t_1).BS), .s (.bool (gt s1_ t_1).LIC), .s (.bool (gt s1_ t_1).AVMA), .s (.bool (gt s1_ t_1).BUSY), .s (.bool (gt s1_ t_1).Mine)]) hf4 (by kernel_rfl) (e_load_ip (g := api_Rec.v) (l := s1_) (iv := t_1) [] (by kernel_rfl) c3 (by kernel_rfl) (by kernel_rfl)) fun f5 hf5 => ?_
        refine mops_sg 2 hf5 (by kernel_rfl) fun f6 hf6 => ?_
        obtain ⟨c4, h⟩ := as_ok h
        refine mops_adv rfl (v := .ip ((cat api_Rec.v s2_).drop ((t_1 : Int).toNat * 9))) hf6 (by kernel_rfl) (e_ias (n := s2_.length) (xv := .sl false s2_.length (cat api_Rec.v s2_)) (k := .i64) (iv := t_1) (p := .ip ((cat api_Rec.v s2_).drop ((t_1 : Int).toNat * 9))) (by kernel_rfl) (by kernel_rfl) (by kernel_rfl) (by kernel_rfl) c4) fun f7 hf7 => ?_
        refine mops_adv rfl (v := .agg [.s (.int .u16 (gt s2_ t_1).Addr), .s (.int .u8 (gt s2_ t_1).Data), .s (.bool (gt s2_ t_1).Read), .s (.bool (gt s2_ t_1).BA), .s (.bool (gt s2_ t_1).BS), .s (.bool (gt s2_ t_1).LIC), .s (.bool (gt s2_ t_1).AVMA), .s (.bool (gt s2_ t_1).BUSY), .s (.bool (gt s2_ t_1).Mine)]) hf7 (by kernel_rfl) (e_load_ip (g := api_Rec.v) (l := s2_) (iv := t_1) [] (by kernel_rfl) c4 (by kernel_rfl) (by kernel_rfl)) fun f8 hf8 => ?_
        refine mops_en hf8 (by kernel_rfl) fun f9 hf9 => ?_
        refine k_c ?_
        refine k_cond hf9 (t := (!(((gt s1_ t_1).Addr == (gt s2_ t_1).Addr) && (((gt s1_ t_1).Data == (gt s2_ t_1).Data) && (((gt s1_ t_1).Read == (gt s2_ t_1).Read) && (((gt s1_ t_1).BA == (gt s2_ t_1).BA) && (((gt s1_ t_1).BS == (gt s2_ t_1).BS) && (((gt s1_ t_1).LIC == (gt s2_ t_1).LIC) && (((gt s1_ t_1).AVMA == (gt s2_ t_1).AVMA) && (((gt s1_ t_1).BUSY == (gt s2_ t_1).BUSY) && (((gt s1_ t_1).Mine == (gt s2_ t_1).Mine) && true))))))))))) (by kernel_rfl) (fun hc5 => ?_) (fun hc5 => ?_)
        · have h := if_t h hc5
          refine k_seq ?_
          refine k_reg ?_
          refine mops_en hf9 (by kernel_rfl) fun f10 hf10 => ?_
          refine k_c ?_
          refine k_ret ?_
          refine x_br ?_
          refine x_c nofun ?_
          refine x_l nofun ?_
          refine x_br ?_
          refine x_c nofun ?_
          obtain rfl := hret0 _ (Option.some.inj h)
          exact k_fin (fin_ret (.inl rfl) hf10 (vs := [.s (.bool false)]) (by kernel_rfl) (SettL.pure (FzL.stat rfl)))
        · have h := if_f h hc5
          refine k_skip ?_
          refine k_b ?_
          refine k_c ?_
          refine k_reg ?_
          refine mops_en hf9 (by kernel_rfl) fun f10 hf10 => ?_
          refine k_l ?_
          exact ih _ _ ⟨(IntKind.wrap .i64 (t_1 + 1)), h, FOk_of [0, 1, 4, 12, 13] hf10 (by kernel_rfl), (by kernel_rfl)⟩
      · have h := if_f h hc2
        refine k_exit ?_
        refine x_c nofun ?_
        refine x_l nofun ?_
        refine x_b ?_
        refine k_hp (L' := []) (by kernel_rfl) ?_
        exact hgo0  (Option.some.inj h) _ (FOk_of [4] hf1 (by kernel_rfl))
end Go.Proofs.YtnilppmpfklpbaaDoorK
