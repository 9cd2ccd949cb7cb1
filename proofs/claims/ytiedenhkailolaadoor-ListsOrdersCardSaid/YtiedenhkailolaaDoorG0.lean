/- The Go functions come to the functions over typed data. Printed by a program of this work. -/
import Derived.Test.YtiedenhkailolaaDoorF
import Derived.Test.YtiedenhkailolaaDoorProg
import Derived.Test.YtiedenhkailolaaDoorSf
namespace Go.Proofs.YtiedenhkailolaaDoorK
set_option linter.unusedVariables false
set_option linter.unusedSimpArgs false
set_option maxHeartbeats 4000000
open Go.RowKit
attribute [local irreducible] dwv mops lops lqops lwops kont iter run runK rk okK ex E1 vals val chain chB sel resF
def unicode_utf8_DecodeRuneInString_i0 : List Op1 := [(oM 2 (.k (.int .i32 0)) []), (oM 3 (.k (.int .i64 0)) [0])]
def unicode_utf8_DecodeRuneInString_i1 : List Op1 := [(oM 4 (.t 0) []), (oE 5 (.bin .neq (.t 4) (.k (.string ⟨#[]⟩))) [0]), (oM 6 (.t 5) [1]), (oG 7 (.mv (.t 0)) 6 true [2]), (oG 8 (.ixs (.t 7) (.k (.int .i64 0))) 6 true [3, 2]), (oG 9 (.bin .lss (.t 8) (.k (.int .u8 128))) 6 true [4, 2]), (oE 10 (.pick (.t 6) (.t 9) (.k (.bool false))) [2, 5])]
def unicode_utf8_DecodeRuneInString_i2 : List Op1 := [(oM 11 (.t 0) []), (oE 12 (.ixs (.t 11) (.k (.int .i64 0))) [0]), (oE 13 (.cint .i32 (.t 12)) [1]), (oM 2 (.t 13) [2, 0, 1, 2]), (oM 3 (.k (.int .i64 1)) [3, 0, 1, 2, 3])]
def unicode_utf8_DecodeRuneInString_i3 : IR := .ret
def unicode_utf8_DecodeRuneInString_i4 : List Op1 := [(oM 15 (.t 0) []), (oC 16 50 [(.t 15)] [0]), (oM 14 (.t 16) [1]), (oE 17 (.ext 0 (.t 14)) [2]), (oE 18 (.ext 1 (.t 14)) [2]), (oM 2 (.t 17) [3, 1, 0, 1, 2, 3]), (oM 3 (.t 18) [4, 5, 0, 1, 2, 3, 4, 5])]
def unicode_utf8_DecodeRuneInString_i5 : IR := (.cond (.t 10) (.seq (.reg false unicode_utf8_DecodeRuneInString_i2) unicode_utf8_DecodeRuneInString_i3) (.reg false unicode_utf8_DecodeRuneInString_i4))
def unicode_utf8_DecodeRuneInString_i6 : IR := .ret
def unicode_utf8_DecodeRuneInString_i7 : IR := (.seq (.seq (.reg false unicode_utf8_DecodeRuneInString_i1) unicode_utf8_DecodeRuneInString_i5) unicode_utf8_DecodeRuneInString_i6)
def unicode_utf8_DecodeRuneInString_ir : IR := (.seq (.reg false unicode_utf8_DecodeRuneInString_i0) unicode_utf8_DecodeRuneInString_i7)
theorem unicode_utf8_DecodeRuneInString_cfn : cFn Tryd.prog 45 = some (unicode_utf8_DecodeRuneInString_ir, [(.t 2), (.t 3)], 19) := by kernel_rfl
def unicode_utf8_DecodeRuneInString_V (r : (Int × Int)) : V := .tup [.s (.int .i32 r.1), .s (.int .i64 r.2)]
def unicode_utf8_DecodeRuneInString_C (r : (Int × Int)) : X → Fr → Hp → Prop := FinL [(.t 2), (.t 3)] [] (unicode_utf8_DecodeRuneInString_V r) []
theorem unicode_utf8_DecodeRuneInString_ok (s_ : ByteArray) (r : (Int × Int)) (h : unicode_utf8_DecodeRuneInString s_ = some r) : Pure Tryd.prog 45 [.s (.string s_)] (unicode_utf8_DecodeRuneInString_V r) := by
  refine ConL.of unicode_utf8_DecodeRuneInString_cfn (Nat.le_of_ble_eq_true (by kernel_rfl)) (Nat.le_of_ble_eq_true (by kernel_rfl)) ?_
  refine k_start ?_
  show dwv Tryd.prog [] unicode_utf8_DecodeRuneInString_ir (kont Tryd.prog [] (unicode_utf8_DecodeRuneInString_C r) []) (fr0 [.s (.string s_)]) []
  have hf : FOk (fr0 [.s (.string s_)]) [⟨0, [], .s (.string s_)⟩] := ⟨⟨fun _ => rfl, fun h => (h trivial).elim⟩, trivial⟩
  generalize fr0 [.s (.string s_)] = f at hf ⊢
  unfold unicode_utf8_DecodeRuneInString at h
  refine k_seq ?_
  refine k_reg ?_
  refine mops_en hf (by kernel_rfl) fun f1 hf1 => ?_
  refine k_c ?_
  refine k_seq ?_
  refine k_seq ?_
  refine k_reg ?_
  refine mops_sg 4 hf1 (by kernel_rfl) fun f2 hf2 => ?_
  obtain ⟨c1, h⟩ := as_ok h
  refine mops_gadv (dst := (some 8)) (op := (.ixs (.t 7) (.k (.int .i64 0)))) (aft := [3, 2]) (t := 6) (w := true) (ch := [(6, true)]) (b := (!(s_.toList == (⟨#[]⟩ : ByteArray).toList))) (v := .s (.int .u8 (bt s_ (0)))) (by kernel_rfl) hf2 (by kernel_rfl) (by kernel_rfl) (by kernel_rfl) (fun hb2 => e_ixs (t := s_) (k := .i64) (iv := 0) (by kernel_rfl) (by kernel_rfl) (c1 hb2)) fun f3 hf3 => ?_
  refine mops_en hf3 (by kernel_rfl) fun f4 hf4 => ?_
  refine k_c ?_
  refine k_cond hf4 (t := ((!(s_.toList == (⟨#[]⟩ : ByteArray).toList)) && (decide ((bt s_ (0)) < 128)))) (by kernel_rfl) (fun hc3 => ?_) (fun hc3 => ?_)
  · have h := if_t h hc3
    refine k_seq ?_
    refine k_reg ?_
    refine mops_sg 1 hf4 (by kernel_rfl) fun f5 hf5 => ?_
    obtain ⟨c4, h⟩ := as_ok h
    refine mops_adv rfl (v := .s (.int .u8 (bt s_ (0)))) hf5 (by kernel_rfl) (e_ixs (t := s_) (k := .i64) (iv := 0) (by kernel_rfl) (by kernel_rfl) c4) fun f6 hf6 => ?_
    refine mops_en hf6 (by kernel_rfl) fun f7 hf7 => ?_
    refine k_c ?_
    refine k_ret ?_
    refine x_c nofun ?_
    obtain rfl := Option.some.inj h
    exact k_fin (fin_ret (.inl rfl) hf7 (vs := [.s (.int .i32 (IntKind.wrap .i32 (bt s_ (0)))), .s (.int .i64 1)]) (by kernel_rfl) (SettL.pure (FzL.tup (FzsL.cons (FzL.stat rfl) (FzsL.cons (FzL.stat rfl) FzsL.nil)))))
  · have h := if_f h hc3
    cases h
def strings_Index_i0 : List Op1 := [(oM 4 (.k (.int .i64 0)) [])]
def strings_Index_i1 : List Op1 := [(oM 5 (.t 0) []), (oM 6 (.t 1) []), (oC 7 47 [(.t 5), (.t 6)] [0, 1]), (oM 4 (.t 7) [2, 2, 0, 1, 2])]
def strings_Index_i2 : IR := .ret
def strings_Index_i3 : IR := (.seq (.reg false strings_Index_i1) strings_Index_i2)
def strings_Index_ir : IR := (.seq (.reg false strings_Index_i0) strings_Index_i3)
theorem strings_Index_cfn : cFn Tryd.prog 41 = some (strings_Index_ir, [(.t 4)], 8) := by kernel_rfl
def strings_Index_V (r : (Int)) : V := .s (.int .i64 r)
def strings_Index_C (r : (Int)) : X → Fr → Hp → Prop := FinL [(.t 4)] [] (strings_Index_V r) []
theorem strings_Index_ok (s_ : ByteArray) (substr_ : ByteArray) (r : (Int)) (h : strings_Index s_ substr_ = some r) : Pure Tryd.prog 41 [.s (.string s_), .s (.string substr_)] (strings_Index_V r) := by
  refine ConL.of strings_Index_cfn (Nat.le_of_ble_eq_true (by kernel_rfl)) (Nat.le_of_ble_eq_true (by kernel_rfl)) ?_
  refine k_start ?_
  show dwv Tryd.prog [] strings_Index_ir (kont Tryd.prog [] (strings_Index_C r) []) (fr0 [.s (.string s_), .s (.string substr_)]) []
  have hf : FOk (fr0 [.s (.string s_), .s (.string substr_)]) [⟨0, [], .s (.string s_)⟩, ⟨1, [], .s (.string substr_)⟩] := ⟨⟨fun _ => rfl, fun h => (h trivial).elim⟩, ⟨fun _ => rfl, fun h => (h trivial).elim⟩, trivial⟩
  generalize fr0 [.s (.string s_), .s (.string substr_)] = f at hf ⊢
  unfold strings_Index at h
  refine k_seq ?_
  refine k_reg ?_
  refine mops_en hf (by kernel_rfl) fun f1 hf1 => ?_
  refine k_c ?_
  refine k_seq ?_
  refine k_reg ?_
  refine mops_sg 2 hf1 (by kernel_rfl) fun f2 hf2 => ?_
  obtain ⟨r_, hx_r_, h⟩ := Option.bind_eq_some_iff.1 h
  refine mops_call rfl hf2 (av := [.s (.string s_), .s (.string substr_)]) (by kernel_rfl) (v := .s (.int .i64 r_)) (CalL.pure (internal_stringslite_Index_ok s_ substr_ r_ hx_r_) rfl rfl (Nat.le_of_ble_eq_true (by kernel_rfl))) (fun _ => rfl) fun f3 hf3 => ?_
  refine mops_en hf3 (by kernel_rfl) fun f4 hf4 => ?_
  refine k_c ?_
  refine k_ret ?_
  obtain rfl := Option.some.inj h
  exact k_fin (fin_ret (.inl rfl) hf4 (vs := [.s (.int .i64 r_)]) (by kernel_rfl) (SettL.pure (FzL.stat rfl)))
def lists_regs_i0 : List Op1 := [(oE 2 (.zero [(.int .i64 0), (.int .i64 0), (.int .i64 0), (.int .i64 0), (.int .i64 0), (.int .i64 0), (.int .i64 0), (.int .i64 0)]) [])]
def lists_regs_i1 : List Op1 := [(oE 4 (.build [(.int .i64 0), (.int .i64 0), (.int .i64 0), (.int .i64 0), (.int .i64 0), (.int .i64 0), (.int .i64 0), (.int .i64 0)] [(0, (1, (.k (.int .i64 10)))), (1, (1, (.k (.int .i64 8)))), (2, (1, (.k (.int .i64 9)))), (3, (1, (.k (.int .i64 11)))), (4, (1, (.k (.int .i64 1)))), (5, (1, (.k (.int .i64 2)))), (6, (1, (.k (.int .i64 3)))), (7, (1, (.k (.int .i64 5))))]) []), (oE 3 (.zero [(.int .i64 0), (.int .i64 0), (.int .i64 0), (.int .i64 0), (.int .i64 0), (.int .i64 0), (.int .i64 0), (.int .i64 0)]) []), (oN (.store 8 (.t 3) (.t 4)) [1, 0, 0, 1])]
def lists_regs_i2 : List Op1 := [(oM 5 (.t 0) []), (oE 6 (.bin .eql (.t 5) (.k (.int .i64 3))) [0])]
def lists_regs_i3 : List Op1 := [(oE 7 (.iaa 8 1 (.t 3) (.k (.int .i64 6))) []), (oN (.store 1 (.t 7) (.k (.int .i64 4))) [0])]
def lists_regs_i4 : IR := (.cond (.t 6) (.reg false lists_regs_i3) .skip)
def lists_regs_i5 : List Op1 := [(oE 8 (.load true 8 (.t 3)) []), (oN (.store 8 (.t 2) (.t 8)) [0, 0])]
def lists_regs_i6 : IR := .ret
def lists_regs_i7 : IR := (.seq (.reg false lists_regs_i5) lists_regs_i6)
def lists_regs_i8 : IR := (.seq (.seq (.reg false lists_regs_i2) lists_regs_i4) lists_regs_i7)
def lists_regs_i9 : IR := (.seq (.reg false lists_regs_i1) lists_regs_i8)
def lists_regs_ir : IR := (.seq (.reg false lists_regs_i0) lists_regs_i9)
theorem lists_regs_cfn : cFn Tryd.prog 23 = some (lists_regs_ir, [(.c 2 true 8)], 9) := by kernel_rfl
def lists_regs_V (r : (A8_i64)) : V := .agg [.s (.int .i64 r.a0), .s (.int .i64 r.a1), .s (.int .i64 r.a2), .s (.int .i64 r.a3), .s (.int .i64 r.a4), .s (.int .i64 r.a5), .s (.int .i64 r.a6), .s (.int .i64 r.a7)]
def lists_regs_C (r : (A8_i64)) : X → Fr → Hp → Prop := FinL [(.c 2 true 8)] [] (lists_regs_V r) []
theorem lists_regs_ok (stack_ : Int) (r : (A8_i64)) (h : lists_regs stack_ = some r) : Pure Tryd.prog 23 [.s (.int .i64 stack_)] (lists_regs_V r) := by
  refine ConL.of lists_regs_cfn (Nat.le_of_ble_eq_true (by kernel_rfl)) (Nat.le_of_ble_eq_true (by kernel_rfl)) ?_
  refine k_start ?_
  show dwv Tryd.prog [] lists_regs_ir (kont Tryd.prog [] (lists_regs_C r) []) (fr0 [.s (.int .i64 stack_)]) []
  have hf : FOk (fr0 [.s (.int .i64 stack_)]) [⟨0, [], .s (.int .i64 stack_)⟩] := ⟨⟨fun _ => rfl, fun h => (h trivial).elim⟩, trivial⟩
  generalize fr0 [.s (.int .i64 stack_)] = f at hf ⊢
  unfold lists_regs at h
  refine k_seq ?_
  refine k_reg ?_
  refine mops_en hf (by kernel_rfl) fun f1 hf1 => ?_
  refine k_c ?_
  refine k_seq ?_
  refine k_reg ?_
  refine mops_en hf1 (by kernel_rfl) fun f2 hf2 => ?_
  refine k_c ?_
  refine k_seq ?_
  refine k_seq ?_
  refine k_reg ?_
  refine mops_en hf2 (by kernel_rfl) fun f3 hf3 => ?_
  refine k_c ?_
  refine k_cond hf3 (t := (stack_ == 3)) (by kernel_rfl) (fun hc1 => ?_) (fun hc1 => ?_)
  · have h := if_t h hc1
    refine k_reg ?_
    refine mops_en hf3 (by kernel_rfl) fun f4 hf4 => ?_
    refine k_c ?_
    refine k_seq ?_
    refine k_reg ?_
    refine mops_en hf4 (by kernel_rfl) fun f5 hf5 => ?_
    refine k_c ?_
    refine k_ret ?_
    obtain rfl := Option.some.inj h
    exact k_fin (fin_ret (.inl rfl) hf5 (vs := [.agg [.s (.int .i64 10), .s (.int .i64 8), .s (.int .i64 9), .s (.int .i64 11), .s (.int .i64 1), .s (.int .i64 2), .s (.int .i64 4), .s (.int .i64 5)]]) (by kernel_rfl) (SettL.pure (FzL.stat rfl)))
  · have h := if_f h hc1
    refine k_skip ?_
    refine k_c ?_
    refine k_seq ?_
    refine k_reg ?_
    refine mops_en hf3 (by kernel_rfl) fun f4 hf4 => ?_
    refine k_c ?_
    refine k_ret ?_
    obtain rfl := Option.some.inj h
    exact k_fin (fin_ret (.inl rfl) hf4 (vs := [.agg [.s (.int .i64 10), .s (.int .i64 8), .s (.int .i64 9), .s (.int .i64 11), .s (.int .i64 1), .s (.int .i64 2), .s (.int .i64 3), .s (.int .i64 5)]]) (by kernel_rfl) (SettL.pure (FzL.stat rfl)))
def ops_Reg_i0 : List Op1 := [(oM 2 (.k (.string ⟨#[]⟩)) [])]
def ops_Reg_i1 : List Op1 := [(oM 3 (.t 0) [])]
def ops_Reg_i2 : List Op1 := [(oE 5 (.bin .eql (.t 3) (.k (.int .i64 0))) []), (oM 4 (.t 5) [0])]
def ops_Reg_i3 : List Op1 := [(oM 2 (.k (.string ⟨#[68]⟩)) [])]
def ops_Reg_i4 : IR := .ret
def ops_Reg_i5 : List Op1 := [(oE 7 (.bin .eql (.t 3) (.k (.int .i64 1))) []), (oM 6 (.t 7) [0])]
def ops_Reg_i6 : List Op1 := [(oM 2 (.k (.string ⟨#[88]⟩)) [])]
def ops_Reg_i7 : IR := .ret
def ops_Reg_i8 : List Op1 := [(oE 9 (.bin .eql (.t 3) (.k (.int .i64 2))) []), (oM 8 (.t 9) [0])]
def ops_Reg_i9 : List Op1 := [(oM 2 (.k (.string ⟨#[89]⟩)) [])]
def ops_Reg_i10 : IR := .ret
def ops_Reg_i11 : List Op1 := [(oE 11 (.bin .eql (.t 3) (.k (.int .i64 3))) []), (oM 10 (.t 11) [0])]
def ops_Reg_i12 : List Op1 := [(oM 2 (.k (.string ⟨#[85]⟩)) [])]
def ops_Reg_i13 : IR := .ret
def ops_Reg_i14 : List Op1 := [(oE 13 (.bin .eql (.t 3) (.k (.int .i64 4))) []), (oM 12 (.t 13) [0])]
def ops_Reg_i15 : List Op1 := [(oM 2 (.k (.string ⟨#[83]⟩)) [])]
def ops_Reg_i16 : IR := .ret
def ops_Reg_i17 : List Op1 := [(oE 15 (.bin .eql (.t 3) (.k (.int .i64 5))) []), (oM 14 (.t 15) [0])]
def ops_Reg_i18 : List Op1 := [(oM 2 (.k (.string ⟨#[80, 67]⟩)) [])]
def ops_Reg_i19 : IR := .ret
def ops_Reg_i20 : List Op1 := [(oE 17 (.bin .eql (.t 3) (.k (.int .i64 8))) []), (oM 16 (.t 17) [0])]
def ops_Reg_i21 : List Op1 := [(oM 2 (.k (.string ⟨#[65]⟩)) [])]
def ops_Reg_i22 : IR := .ret
def ops_Reg_i23 : List Op1 := [(oE 19 (.bin .eql (.t 3) (.k (.int .i64 9))) []), (oM 18 (.t 19) [0])]
def ops_Reg_i24 : List Op1 := [(oM 2 (.k (.string ⟨#[66]⟩)) [])]
def ops_Reg_i25 : IR := .ret
def ops_Reg_i26 : List Op1 := [(oE 21 (.bin .eql (.t 3) (.k (.int .i64 10))) []), (oM 20 (.t 21) [0])]
def ops_Reg_i27 : List Op1 := [(oM 2 (.k (.string ⟨#[67, 67]⟩)) [])]
def ops_Reg_i28 : IR := .ret
def ops_Reg_i29 : List Op1 := [(oE 23 (.bin .eql (.t 3) (.k (.int .i64 11))) []), (oM 22 (.t 23) [0])]
def ops_Reg_i30 : List Op1 := [(oM 2 (.k (.string ⟨#[68, 80]⟩)) [])]
def ops_Reg_i31 : IR := .ret
def ops_Reg_i32 : IR := (.cond (.t 22) (.seq (.reg false ops_Reg_i30) ops_Reg_i31) .skip)
def ops_Reg_i33 : IR := (.cond (.t 20) (.seq (.reg false ops_Reg_i27) ops_Reg_i28) (.seq (.reg false ops_Reg_i29) ops_Reg_i32))
def ops_Reg_i34 : IR := (.cond (.t 18) (.seq (.reg false ops_Reg_i24) ops_Reg_i25) (.seq (.reg false ops_Reg_i26) ops_Reg_i33))
def ops_Reg_i35 : IR := (.cond (.t 16) (.seq (.reg false ops_Reg_i21) ops_Reg_i22) (.seq (.reg false ops_Reg_i23) ops_Reg_i34))
def ops_Reg_i36 : IR := (.cond (.t 14) (.seq (.reg false ops_Reg_i18) ops_Reg_i19) (.seq (.reg false ops_Reg_i20) ops_Reg_i35))
def ops_Reg_i37 : IR := (.cond (.t 12) (.seq (.reg false ops_Reg_i15) ops_Reg_i16) (.seq (.reg false ops_Reg_i17) ops_Reg_i36))
def ops_Reg_i38 : IR := (.cond (.t 10) (.seq (.reg false ops_Reg_i12) ops_Reg_i13) (.seq (.reg false ops_Reg_i14) ops_Reg_i37))
def ops_Reg_i39 : IR := (.cond (.t 8) (.seq (.reg false ops_Reg_i9) ops_Reg_i10) (.seq (.reg false ops_Reg_i11) ops_Reg_i38))
def ops_Reg_i40 : IR := (.cond (.t 6) (.seq (.reg false ops_Reg_i6) ops_Reg_i7) (.seq (.reg false ops_Reg_i8) ops_Reg_i39))
def ops_Reg_i41 : IR := (.cond (.t 4) (.seq (.reg false ops_Reg_i3) ops_Reg_i4) (.seq (.reg false ops_Reg_i5) ops_Reg_i40))
def ops_Reg_i42 : IR := (.block 0 (.seq (.reg false ops_Reg_i2) ops_Reg_i41))
def ops_Reg_i43 : List Op1 := [(oM 2 (.k (.string ⟨#[]⟩)) [])]
def ops_Reg_i44 : IR := .ret
def ops_Reg_i45 : IR := (.seq (.reg false ops_Reg_i43) ops_Reg_i44)
def ops_Reg_i46 : IR := (.seq (.seq (.reg false ops_Reg_i1) ops_Reg_i42) ops_Reg_i45)
def ops_Reg_ir : IR := (.seq (.reg false ops_Reg_i0) ops_Reg_i46)
theorem ops_Reg_cfn : cFn Tryd.prog 32 = some (ops_Reg_ir, [(.t 2)], 24) := by kernel_rfl
def ops_Reg_V (r : (ByteArray)) : V := .s (.string r)
def ops_Reg_C (r : (ByteArray)) : X → Fr → Hp → Prop := FinL [(.t 2)] [] (ops_Reg_V r) []
theorem ops_Reg_ok (code_ : Int) (r : (ByteArray)) (h : ops_Reg code_ = some r) : Pure Tryd.prog 32 [.s (.int .i64 code_)] (ops_Reg_V r) := by
  refine ConL.of ops_Reg_cfn (Nat.le_of_ble_eq_true (by kernel_rfl)) (Nat.le_of_ble_eq_true (by kernel_rfl)) ?_
  refine k_start ?_
  show dwv Tryd.prog [] ops_Reg_ir (kont Tryd.prog [] (ops_Reg_C r) []) (fr0 [.s (.int .i64 code_)]) []
  have hf : FOk (fr0 [.s (.int .i64 code_)]) [⟨0, [], .s (.int .i64 code_)⟩] := ⟨⟨fun _ => rfl, fun h => (h trivial).elim⟩, trivial⟩
  generalize fr0 [.s (.int .i64 code_)] = f at hf ⊢
  unfold ops_Reg at h
  refine k_seq ?_
  refine k_reg ?_
  refine mops_en hf (by kernel_rfl) fun f1 hf1 => ?_
  refine k_c ?_
  refine k_seq ?_
  refine k_seq ?_
  refine k_reg ?_
  refine mops_en hf1 (by kernel_rfl) fun f2 hf2 => ?_
  refine k_c ?_
  refine k_block ?_
  refine k_seq ?_
  refine k_reg ?_
  refine mops_en hf2 (by kernel_rfl) fun f3 hf3 => ?_
  refine k_c ?_
  refine k_cond hf3 (t := (code_ == 0)) (by kernel_rfl) (fun hc1 => ?_) (fun hc1 => ?_)
  · have h := if_t h hc1
    refine k_seq ?_
    refine k_reg ?_
    refine mops_en hf3 (by kernel_rfl) fun f4 hf4 => ?_
    refine k_c ?_
    refine k_ret ?_
    refine x_br ?_
    refine x_c nofun ?_
    obtain rfl := Option.some.inj h
    exact k_fin (fin_ret (.inl rfl) hf4 (vs := [.s (.string (⟨#[68]⟩ : ByteArray))]) (by kernel_rfl) (SettL.pure (FzL.stat rfl)))
  · have h := if_f h hc1
    refine k_seq ?_
    refine k_reg ?_
    refine mops_en hf3 (by kernel_rfl) fun f4 hf4 => ?_
    refine k_c ?_
    refine k_cond hf4 (t := (code_ == 1)) (by kernel_rfl) (fun hc2 => ?_) (fun hc2 => ?_)
    · have h := if_t h hc2
      refine k_seq ?_
      refine k_reg ?_
      refine mops_en hf4 (by kernel_rfl) fun f5 hf5 => ?_
      refine k_c ?_
      refine k_ret ?_
      refine x_br ?_
      refine x_c nofun ?_
      obtain rfl := Option.some.inj h
      exact k_fin (fin_ret (.inl rfl) hf5 (vs := [.s (.string (⟨#[88]⟩ : ByteArray))]) (by kernel_rfl) (SettL.pure (FzL.stat rfl)))
    · have h := if_f h hc2
      refine k_seq ?_
      refine k_reg ?_
      refine mops_en hf4 (by kernel_rfl) fun f5 hf5 => ?_
      refine k_c ?_
      refine k_cond hf5 (t := (code_ == 2)) (by kernel_rfl) (fun hc3 => ?_) (fun hc3 => ?_)
      · have h := if_t h hc3
        refine k_seq ?_
        refine k_reg ?_
        refine mops_en hf5 (by kernel_rfl) fun f6 hf6 => ?_
        refine k_c ?_
        refine k_ret ?_
        refine x_br ?_
        refine x_c nofun ?_
        obtain rfl := Option.some.inj h
        exact k_fin (fin_ret (.inl rfl) hf6 (vs := [.s (.string (⟨#[89]⟩ : ByteArray))]) (by kernel_rfl) (SettL.pure (FzL.stat rfl)))
      · have h := if_f h hc3
        refine k_seq ?_
        refine k_reg ?_
        refine mops_en hf5 (by kernel_rfl) fun f6 hf6 => ?_
        refine k_c ?_
        refine k_cond hf6 (t := (code_ == 3)) (by kernel_rfl) (fun hc4 => ?_) (fun hc4 => ?_)
        · have h := if_t h hc4
          refine k_seq ?_
          refine k_reg ?_
          refine mops_en hf6 (by kernel_rfl) fun f7 hf7 => ?_
          refine k_c ?_
          refine k_ret ?_
          refine x_br ?_
          refine x_c nofun ?_
          obtain rfl := Option.some.inj h
          exact k_fin (fin_ret (.inl rfl) hf7 (vs := [.s (.string (⟨#[85]⟩ : ByteArray))]) (by kernel_rfl) (SettL.pure (FzL.stat rfl)))
        · have h := if_f h hc4
          refine k_seq ?_
          refine k_reg ?_
          refine mops_en hf6 (by kernel_rfl) fun f7 hf7 => ?_
          refine k_c ?_
          refine k_cond hf7 (t := (code_ == 4)) (by kernel_rfl) (fun hc5 => ?_) (fun hc5 => ?_)
          · have h := if_t h hc5
            refine k_seq ?_
            refine k_reg ?_
            refine mops_en hf7 (by kernel_rfl) fun f8 hf8 => ?_
            refine k_c ?_
            refine k_ret ?_
            refine x_br ?_
            refine x_c nofun ?_
            obtain rfl := Option.some.inj h
            exact k_fin (fin_ret (.inl rfl) hf8 (vs := [.s (.string (⟨#[83]⟩ : ByteArray))]) (by kernel_rfl) (SettL.pure (FzL.stat rfl)))
          · have h := if_f h hc5
            refine k_seq ?_
            refine k_reg ?_
            refine mops_en hf7 (by kernel_rfl) fun f8 hf8 => ?_
            refine k_c ?_
            refine k_cond hf8 (t := (code_ == 5)) (by kernel_rfl) (fun hc6 => ?_) (fun hc6 => ?_)
            · have h := if_t h hc6
              refine k_seq ?_
              refine k_reg ?_
              refine mops_en hf8 (by kernel_rfl) fun f9 hf9 => ?_
              refine k_c ?_
              refine k_ret ?_
              refine x_br ?_
              refine x_c nofun ?_
              obtain rfl := Option.some.inj h
              exact k_fin (fin_ret (.inl rfl) hf9 (vs := [.s (.string (⟨#[80, 67]⟩ : ByteArray))]) (by kernel_rfl) (SettL.pure (FzL.stat rfl)))
            · have h := if_f h hc6
              refine k_seq ?_
              refine k_reg ?_
              refine mops_en hf8 (by kernel_rfl) fun f9 hf9 => ?_
              refine k_c ?_
              refine k_cond hf9 (t := (code_ == 8)) (by kernel_rfl) (fun hc7 => ?_) (fun hc7 => ?_)
              · have h := if_t h hc7
                refine k_seq ?_
                refine k_reg ?_
                refine mops_en hf9 (by kernel_rfl) fun f10 hf10 => ?_
                refine k_c ?_
                refine k_ret ?_
                refine x_br ?_
                refine x_c nofun ?_
                obtain rfl := Option.some.inj h
                exact k_fin (fin_ret (.inl rfl) hf10 (vs := [.s (.string (⟨#[65]⟩ : ByteArray))]) (by kernel_rfl) (SettL.pure (FzL.stat rfl)))
              · have h := if_f h hc7
                refine k_seq ?_
                refine k_reg ?_
                refine mops_en hf9 (by kernel_rfl) fun f10 hf10 => ?_
                refine k_c ?_
                refine k_cond hf10 (t := (code_ == 9)) (by kernel_rfl) (fun hc8 => ?_) (fun hc8 => ?_)
                · have h := if_t h hc8
                  refine k_seq ?_
                  refine k_reg ?_
                  refine mops_en hf10 (by kernel_rfl) fun f11 hf11 => ?_
                  refine k_c ?_
                  refine k_ret ?_
                  refine x_br ?_
                  refine x_c nofun ?_
                  obtain rfl := Option.some.inj h
                  exact k_fin (fin_ret (.inl rfl) hf11 (vs := [.s (.string (⟨#[66]⟩ : ByteArray))]) (by kernel_rfl) (SettL.pure (FzL.stat rfl)))
                · have h := if_f h hc8
                  refine k_seq ?_
                  refine k_reg ?_
                  refine mops_en hf10 (by kernel_rfl) fun f11 hf11 => ?_
                  refine k_c ?_
                  refine k_cond hf11 (t := (code_ == 10)) (by kernel_rfl) (fun hc9 => ?_) (fun hc9 => ?_)
                  · have h := if_t h hc9
                    refine k_seq ?_
                    refine k_reg ?_
                    refine mops_en hf11 (by kernel_rfl) fun f12 hf12 => ?_
                    refine k_c ?_
                    refine k_ret ?_
                    refine x_br ?_
                    refine x_c nofun ?_
                    obtain rfl := Option.some.inj h
                    exact k_fin (fin_ret (.inl rfl) hf12 (vs := [.s (.string (⟨#[67, 67]⟩ : ByteArray))]) (by kernel_rfl) (SettL.pure (FzL.stat rfl)))
                  · have h := if_f h hc9
                    refine k_seq ?_
                    refine k_reg ?_
                    refine mops_en hf11 (by kernel_rfl) fun f12 hf12 => ?_
                    refine k_c ?_
                    refine k_cond hf12 (t := (code_ == 11)) (by kernel_rfl) (fun hc10 => ?_) (fun hc10 => ?_)
                    · have h := if_t h hc10
                      refine k_seq ?_
                      refine k_reg ?_
                      refine mops_en hf12 (by kernel_rfl) fun f13 hf13 => ?_
                      refine k_c ?_
                      refine k_ret ?_
                      refine x_br ?_
                      refine x_c nofun ?_
                      obtain rfl := Option.some.inj h
                      exact k_fin (fin_ret (.inl rfl) hf13 (vs := [.s (.string (⟨#[68, 80]⟩ : ByteArray))]) (by kernel_rfl) (SettL.pure (FzL.stat rfl)))
                    · have h := if_f h hc10
                      refine k_skip ?_
                      refine k_b ?_
                      refine k_c ?_
                      refine k_seq ?_
                      refine k_reg ?_
                      refine mops_en hf12 (by kernel_rfl) fun f13 hf13 => ?_
                      refine k_c ?_
                      refine k_ret ?_
                      obtain rfl := Option.some.inj h
                      exact k_fin (fin_ret (.inl rfl) hf13 (vs := [.s (.string (⟨#[]⟩ : ByteArray))]) (by kernel_rfl) (SettL.pure (FzL.stat rfl)))
def spinetref17_Code_i0 : List Op1 := [(oM 4 (.k (.int .i64 0)) [])]
def spinetref17_Code_i1 : List Op1 := [(oE 6 (.build [(.int .i64 0), (.int .i64 0), (.int .i64 0), (.int .i64 0), (.int .i64 0), (.int .i64 0), (.int .i64 0), (.int .i64 0)] [(0, (1, (.k (.int .i64 10)))), (1, (1, (.k (.int .i64 8)))), (2, (1, (.k (.int .i64 9)))), (3, (1, (.k (.int .i64 11)))), (4, (1, (.k (.int .i64 1)))), (5, (1, (.k (.int .i64 2)))), (6, (1, (.k (.int .i64 3)))), (7, (1, (.k (.int .i64 5))))]) []), (oE 5 (.zero [(.int .i64 0), (.int .i64 0), (.int .i64 0), (.int .i64 0), (.int .i64 0), (.int .i64 0), (.int .i64 0), (.int .i64 0)]) []), (oN (.store 8 (.t 5) (.t 6)) [1, 0, 0, 1])]
def spinetref17_Code_i2 : List Op1 := [(oM 7 (.t 1) []), (oM 8 (.t 7) [0]), (oG 9 (.mv (.t 0)) 8 true [1]), (oG 10 (.bin .eql (.t 9) (.k (.int .i64 6))) 8 true [2, 1]), (oE 11 (.pick (.t 8) (.t 10) (.k (.bool false))) [1, 3])]
def spinetref17_Code_i3 : List Op1 := [(oM 4 (.k (.int .i64 4)) [])]
def spinetref17_Code_i4 : IR := .ret
def spinetref17_Code_i5 : IR := (.cond (.t 11) (.seq (.reg false spinetref17_Code_i3) spinetref17_Code_i4) .skip)
def spinetref17_Code_i6 : List Op1 := [(oM 12 (.t 0) []), (oE 13 (.iaa 8 1 (.t 5) (.t 12)) [0]), (oE 14 (.load false 1 (.t 13)) [1]), (oM 4 (.t 14) [2, 0, 1, 2])]
def spinetref17_Code_i7 : IR := .ret
def spinetref17_Code_i8 : IR := (.seq (.reg false spinetref17_Code_i6) spinetref17_Code_i7)
def spinetref17_Code_i9 : IR := (.seq (.seq (.reg false spinetref17_Code_i2) spinetref17_Code_i5) spinetref17_Code_i8)
def spinetref17_Code_i10 : IR := (.seq (.reg false spinetref17_Code_i1) spinetref17_Code_i9)
def spinetref17_Code_ir : IR := (.seq (.reg false spinetref17_Code_i0) spinetref17_Code_i10)
theorem spinetref17_Code_cfn : cFn Tryd.prog 10 = some (spinetref17_Code_ir, [(.t 4)], 15) := by kernel_rfl
def spinetref17_Code_V (r : (Int)) : V := .s (.int .i64 r)
def spinetref17_Code_C (r : (Int)) : X → Fr → Hp → Prop := FinL [(.t 4)] [] (spinetref17_Code_V r) []
theorem spinetref17_Code_ok (place_ : Int) (user_ : Bool) (r : (Int)) (h : spinetref17_Code place_ user_ = some r) : Pure Tryd.prog 10 [.s (.int .i64 place_), .s (.bool user_)] (spinetref17_Code_V r) := by
  refine ConL.of spinetref17_Code_cfn (Nat.le_of_ble_eq_true (by kernel_rfl)) (Nat.le_of_ble_eq_true (by kernel_rfl)) ?_
  refine k_start ?_
  show dwv Tryd.prog [] spinetref17_Code_ir (kont Tryd.prog [] (spinetref17_Code_C r) []) (fr0 [.s (.int .i64 place_), .s (.bool user_)]) []
  have hf : FOk (fr0 [.s (.int .i64 place_), .s (.bool user_)]) [⟨0, [], .s (.int .i64 place_)⟩, ⟨1, [], .s (.bool user_)⟩] := ⟨⟨fun _ => rfl, fun h => (h trivial).elim⟩, ⟨fun _ => rfl, fun h => (h trivial).elim⟩, trivial⟩
  generalize fr0 [.s (.int .i64 place_), .s (.bool user_)] = f at hf ⊢
  unfold spinetref17_Code at h
  refine k_seq ?_
  refine k_reg ?_
  refine mops_en hf (by kernel_rfl) fun f1 hf1 => ?_
  refine k_c ?_
  refine k_seq ?_
  refine k_reg ?_
  refine mops_en hf1 (by kernel_rfl) fun f2 hf2 => ?_
  refine k_c ?_
  refine k_seq ?_
  refine k_seq ?_
  refine k_reg ?_
  refine mops_en hf2 (by kernel_rfl) fun f3 hf3 => ?_
  refine k_c ?_
  refine k_cond hf3 (t := (user_ && (place_ == 6))) (by kernel_rfl) (fun hc1 => ?_) (fun hc1 => ?_)
  · have h := if_t h hc1
    refine k_seq ?_
    refine k_reg ?_
    refine mops_en hf3 (by kernel_rfl) fun f4 hf4 => ?_
    refine k_c ?_
    refine k_ret ?_
    refine x_c nofun ?_
    obtain rfl := Option.some.inj h
    exact k_fin (fin_ret (.inl rfl) hf4 (vs := [.s (.int .i64 4)]) (by kernel_rfl) (SettL.pure (FzL.stat rfl)))
  · have h := if_f h hc1
    refine k_skip ?_
    refine k_c ?_
    refine k_seq ?_
    refine k_reg ?_
    refine mops_sg 1 hf3 (by kernel_rfl) fun f4 hf4 => ?_
    obtain ⟨c2, h⟩ := as_ok h
    refine mops_adv rfl (v := .ptr 0 0 (0 + (place_ : Int).toNat * 1)) hf4 (by kernel_rfl) (e_iaa (n := 8) (xv := .ptr 0 0 0) (k := .i64) (iv := place_) (p := .ptr 0 0 (0 + (place_ : Int).toNat * 1)) (by kernel_rfl) (by kernel_rfl) (by kernel_rfl) (by kernel_rfl) c2) fun f5 hf5 => ?_
    refine mops_adv rfl (v := .s (.int .i64 (gt [10, 8, 9, 11, 1, 2, 3, 5] place_))) hf5 (by kernel_rfl) (e_load_pe (g := (nI .i64)) (l := [10, 8, 9, 11, 1, 2, 3, 5]) (iv := place_) (kd := .mem) (q := 1) (b := 0) (ver := 0) [] (by kernel_rfl) (live_mem (by kernel_rfl)) (arr_h (l := [10, 8, 9, 11, 1, 2, 3, 5]) c2 (by kernel_rfl)) (by kernel_rfl) (by kernel_rfl)) fun f6 hf6 => ?_
    refine mops_en hf6 (by kernel_rfl) fun f7 hf7 => ?_
    refine k_c ?_
    refine k_ret ?_
    obtain rfl := Option.some.inj h
    exact k_fin (fin_ret (.inl rfl) hf7 (vs := [.s (.int .i64 (gt [10, 8, 9, 11, 1, 2, 3, 5] place_))]) (by kernel_rfl) (SettL.pure (FzL.stat rfl)))
def math_bits_OnesCount8_i0 : List Op1 := [(oM 2 (.k (.int .i64 0)) [])]
def math_bits_OnesCount8_i1 : List Op1 := [(oM 3 (.t 0) []), (oE 4 (.ixs (.k (.string ⟨#[0, 1, 1, 2, 1, 2, 2, 3, 1, 2, 2, 3, 2, 3, 3, 4, 1, 2, 2, 3, 2, 3, 3, 4, 2, 3, 3, 4, 3, 4, 4, 5, 1, 2, 2, 3, 2, 3, 3, 4, 2, 3, 3, 4, 3, 4, 4, 5, 2, 3, 3, 4, 3, 4, 4, 5, 3, 4, 4, 5, 4, 5, 5, 6, 1, 2, 2, 3, 2, 3, 3, 4, 2, 3, 3, 4, 3, 4, 4, 5, 2, 3, 3, 4, 3, 4, 4, 5, 3, 4, 4, 5, 4, 5, 5, 6, 2, 3, 3, 4, 3, 4, 4, 5, 3, 4, 4, 5, 4, 5, 5, 6, 3, 4, 4, 5, 4, 5, 5, 6, 4, 5, 5, 6, 5, 6, 6, 7, 1, 2, 2, 3, 2, 3, 3, 4, 2, 3, 3, 4, 3, 4, 4, 5, 2, 3, 3, 4, 3, 4, 4, 5, 3, 4, 4, 5, 4, 5, 5, 6, 2, 3, 3, 4, 3, 4, 4, 5, 3, 4, 4, 5, 4, 5, 5, 6, 3, 4, 4, 5, 4, 5, 5, 6, 4, 5, 5, 6, 5, 6, 6, 7, 2, 3, 3, 4, 3, 4, 4, 5, 3, 4, 4, 5, 4, 5, 5, 6, 3, 4, 4, 5, 4, 5, 5, 6, 4, 5, 5, 6, 5, 6, 6, 7, 3, 4, 4, 5, 4, 5, 5, 6, 4, 5, 5, 6, 5, 6, 6, 7, 4, 5, 5, 6, 5, 6, 6, 7, 5, 6, 6, 7, 6, 7, 7, 8]⟩)) (.t 3)) [0]), (oE 5 (.cint .i64 (.t 4)) [1]), (oM 2 (.t 5) [2, 0, 1, 2])]
def math_bits_OnesCount8_i2 : IR := .ret
def math_bits_OnesCount8_i3 : IR := (.seq (.reg false math_bits_OnesCount8_i1) math_bits_OnesCount8_i2)
def math_bits_OnesCount8_ir : IR := (.seq (.reg false math_bits_OnesCount8_i0) math_bits_OnesCount8_i3)
theorem math_bits_OnesCount8_cfn : cFn Tryd.prog 35 = some (math_bits_OnesCount8_ir, [(.t 2)], 6) := by kernel_rfl
def math_bits_OnesCount8_V (r : (Int)) : V := .s (.int .i64 r)
def math_bits_OnesCount8_C (r : (Int)) : X → Fr → Hp → Prop := FinL [(.t 2)] [] (math_bits_OnesCount8_V r) []
theorem math_bits_OnesCount8_ok (x_ : Int) (r : (Int)) (h : math_bits_OnesCount8 x_ = some r) : Pure Tryd.prog 35 [.s (.int .u8 x_)] (math_bits_OnesCount8_V r) := by
  refine ConL.of math_bits_OnesCount8_cfn (Nat.le_of_ble_eq_true (by kernel_rfl)) (Nat.le_of_ble_eq_true (by kernel_rfl)) ?_
  refine k_start ?_
  show dwv Tryd.prog [] math_bits_OnesCount8_ir (kont Tryd.prog [] (math_bits_OnesCount8_C r) []) (fr0 [.s (.int .u8 x_)]) []
  have hf : FOk (fr0 [.s (.int .u8 x_)]) [⟨0, [], .s (.int .u8 x_)⟩] := ⟨⟨fun _ => rfl, fun h => (h trivial).elim⟩, trivial⟩
  generalize fr0 [.s (.int .u8 x_)] = f at hf ⊢
  unfold math_bits_OnesCount8 at h
  refine k_seq ?_
  refine k_reg ?_
  refine mops_en hf (by kernel_rfl) fun f1 hf1 => ?_
  refine k_c ?_
  refine k_seq ?_
  refine k_reg ?_
  refine mops_sg 1 hf1 (by kernel_rfl) fun f2 hf2 => ?_
  obtain ⟨c1, h⟩ := as_ok h
  refine mops_adv rfl (v := .s (.int .u8 (bt (⟨#[0, 1, 1, 2, 1, 2, 2, 3, 1, 2, 2, 3, 2, 3, 3, 4, 1, 2, 2, 3, 2, 3, 3, 4, 2, 3, 3, 4, 3, 4, 4, 5, 1, 2, 2, 3, 2, 3, 3, 4, 2, 3, 3, 4, 3, 4, 4, 5, 2, 3, 3, 4, 3, 4, 4, 5, 3, 4, 4, 5, 4, 5, 5, 6, 1, 2, 2, 3, 2, 3, 3, 4, 2, 3, 3, 4, 3, 4, 4, 5, 2, 3, 3, 4, 3, 4, 4, 5, 3, 4, 4, 5, 4, 5, 5, 6, 2, 3, 3, 4, 3, 4, 4, 5, 3, 4, 4, 5, 4, 5, 5, 6, 3, 4, 4, 5, 4, 5, 5, 6, 4, 5, 5, 6, 5, 6, 6, 7, 1, 2, 2, 3, 2, 3, 3, 4, 2, 3, 3, 4, 3, 4, 4, 5, 2, 3, 3, 4, 3, 4, 4, 5, 3, 4, 4, 5, 4, 5, 5, 6, 2, 3, 3, 4, 3, 4, 4, 5, 3, 4, 4, 5, 4, 5, 5, 6, 3, 4, 4, 5, 4, 5, 5, 6, 4, 5, 5, 6, 5, 6, 6, 7, 2, 3, 3, 4, 3, 4, 4, 5, 3, 4, 4, 5, 4, 5, 5, 6, 3, 4, 4, 5, 4, 5, 5, 6, 4, 5, 5, 6, 5, 6, 6, 7, 3, 4, 4, 5, 4, 5, 5, 6, 4, 5, 5, 6, 5, 6, 6, 7, 4, 5, 5, 6, 5, 6, 6, 7, 5, 6, 6, 7, 6, 7, 7, 8]⟩ : ByteArray) x_))) hf2 (by kernel_rfl) (e_ixs (t := (⟨#[0, 1, 1, 2, 1, 2, 2, 3, 1, 2, 2, 3, 2, 3, 3, 4, 1, 2, 2, 3, 2, 3, 3, 4, 2, 3, 3, 4, 3, 4, 4, 5, 1, 2, 2, 3, 2, 3, 3, 4, 2, 3, 3, 4, 3, 4, 4, 5, 2, 3, 3, 4, 3, 4, 4, 5, 3, 4, 4, 5, 4, 5, 5, 6, 1, 2, 2, 3, 2, 3, 3, 4, 2, 3, 3, 4, 3, 4, 4, 5, 2, 3, 3, 4, 3, 4, 4, 5, 3, 4, 4, 5, 4, 5, 5, 6, 2, 3, 3, 4, 3, 4, 4, 5, 3, 4, 4, 5, 4, 5, 5, 6, 3, 4, 4, 5, 4, 5, 5, 6, 4, 5, 5, 6, 5, 6, 6, 7, 1, 2, 2, 3, 2, 3, 3, 4, 2, 3, 3, 4, 3, 4, 4, 5, 2, 3, 3, 4, 3, 4, 4, 5, 3, 4, 4, 5, 4, 5, 5, 6, 2, 3, 3, 4, 3, 4, 4, 5, 3, 4, 4, 5, 4, 5, 5, 6, 3, 4, 4, 5, 4, 5, 5, 6, 4, 5, 5, 6, 5, 6, 6, 7, 2, 3, 3, 4, 3, 4, 4, 5, 3, 4, 4, 5, 4, 5, 5, 6, 3, 4, 4, 5, 4, 5, 5, 6, 4, 5, 5, 6, 5, 6, 6, 7, 3, 4, 4, 5, 4, 5, 5, 6, 4, 5, 5, 6, 5, 6, 6, 7, 4, 5, 5, 6, 5, 6, 6, 7, 5, 6, 6, 7, 6, 7, 7, 8]⟩ : ByteArray)) (k := .u8) (iv := x_) (by kernel_rfl) (by kernel_rfl) c1) fun f3 hf3 => ?_
  refine mops_en hf3 (by kernel_rfl) fun f4 hf4 => ?_
  refine k_c ?_
  refine k_ret ?_
  obtain rfl := Option.some.inj h
  exact k_fin (fin_ret (.inl rfl) hf4 (vs := [.s (.int .i64 (IntKind.wrap .i64 (bt (⟨#[0, 1, 1, 2, 1, 2, 2, 3, 1, 2, 2, 3, 2, 3, 3, 4, 1, 2, 2, 3, 2, 3, 3, 4, 2, 3, 3, 4, 3, 4, 4, 5, 1, 2, 2, 3, 2, 3, 3, 4, 2, 3, 3, 4, 3, 4, 4, 5, 2, 3, 3, 4, 3, 4, 4, 5, 3, 4, 4, 5, 4, 5, 5, 6, 1, 2, 2, 3, 2, 3, 3, 4, 2, 3, 3, 4, 3, 4, 4, 5, 2, 3, 3, 4, 3, 4, 4, 5, 3, 4, 4, 5, 4, 5, 5, 6, 2, 3, 3, 4, 3, 4, 4, 5, 3, 4, 4, 5, 4, 5, 5, 6, 3, 4, 4, 5, 4, 5, 5, 6, 4, 5, 5, 6, 5, 6, 6, 7, 1, 2, 2, 3, 2, 3, 3, 4, 2, 3, 3, 4, 3, 4, 4, 5, 2, 3, 3, 4, 3, 4, 4, 5, 3, 4, 4, 5, 4, 5, 5, 6, 2, 3, 3, 4, 3, 4, 4, 5, 3, 4, 4, 5, 4, 5, 5, 6, 3, 4, 4, 5, 4, 5, 5, 6, 4, 5, 5, 6, 5, 6, 6, 7, 2, 3, 3, 4, 3, 4, 4, 5, 3, 4, 4, 5, 4, 5, 5, 6, 3, 4, 4, 5, 4, 5, 5, 6, 4, 5, 5, 6, 5, 6, 6, 7, 3, 4, 4, 5, 4, 5, 5, 6, 4, 5, 5, 6, 5, 6, 6, 7, 4, 5, 5, 6, 5, 6, 6, 7, 5, 6, 6, 7, 6, 7, 7, 8]⟩ : ByteArray) x_)))]) (by kernel_rfl) (SettL.pure (FzL.stat rfl)))
end Go.Proofs.YtiedenhkailolaaDoorK
