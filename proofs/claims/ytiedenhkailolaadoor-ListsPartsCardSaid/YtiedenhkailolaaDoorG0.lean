/- The Go functions come to the functions over typed data. Printed by a program of this work. -/
import Derived.Test.YtiedenhkailolaaDoorF
import Derived.Test.YtiedenhkailolaaDoorProg
import Derived.Test.YtiedenhkailolaaDoorSf
namespace Go.Proofs.YtiedenhkailolaaDoorK
set_option linter.unusedVariables false
set_option linter.unusedSimpArgs false
set_option maxHeartbeats 4000000
open Go.RowKit
attribute [local irreducible] dwv mops lops lqops lwops kont iter run runK rk okK ex E1 vals val chain chB sel resF
def unicode_utf8_DecodeRuneInString_i0 : List Op1 := [(oM 2 (.k (.int .i32 0)) []), (oM 3 (.k (.int .i64 0)) [0])]
def unicode_utf8_DecodeRuneInString_i1 : List Op1 := [(oM 4 (.t 0) []), (oE 5 (.bin .neq (.t 4) (.k (.string ⟨#[]⟩))) [0]), (oM 6 (.t 5) [1]), (oG 7 (.mv (.t 0)) 6 true [2]), (oG 8 (.ixs (.t 7) (.k (.int .i64 0))) 6 true [3, 2]), (oG 9 (.bin .lss (.t 8) (.k (.int .u8 128))) 6 true [4, 2]), (oE 10 (.pick (.t 6) (.t 9) (.k (.bool false))) [2, 5])]
def unicode_utf8_DecodeRuneInString_i2 : List Op1 := [(oM 11 (.t 0) []), (oE 12 (.ixs (.t 11) (.k (.int .i64 0))) [0]), (oE 13 (.cint .i32 (.t 12)) [1]), (oM 2 (.t 13) [2, 0, 1, 2]), (oM 3 (.k (.int .i64 1)) [3, 0, 1, 2, 3])]
def unicode_utf8_DecodeRuneInString_i3 : IR := .ret
def unicode_utf8_DecodeRuneInString_i4 : List Op1 := [(oM 15 (.t 0) []), (oC 16 50 [(.t 15)] [0]), (oM 14 (.t 16) [1]), (oE 17 (.ext 0 (.t 14)) [2]), (oE 18 (.ext 1 (.t 14)) [2]), (oM 2 (.t 17) [3, 1, 0, 1, 2, 3]), (oM 3 (.t 18) [4, 5, 0, 1, 2, 3, 4, 5])]
def unicode_utf8_DecodeRuneInString_i5 : IR := (.cond (.t 10) (.seq (.reg false unicode_utf8_DecodeRuneInString_i2) unicode_utf8_DecodeRuneInString_i3) (.reg false unicode_utf8_DecodeRuneInString_i4))
def unicode_utf8_DecodeRuneInString_i6 : IR := .ret
def unicode_utf8_DecodeRuneInString_i7 : IR := (.seq (.seq (.reg false unicode_utf8_DecodeRuneInString_i1) unicode_utf8_DecodeRuneInString_i5) unicode_utf8_DecodeRuneInString_i6)
def unicode_utf8_DecodeRuneInString_ir : IR := (.seq (.reg false unicode_utf8_DecodeRuneInString_i0) unicode_utf8_DecodeRuneInString_i7)
theorem unicode_utf8_DecodeRuneInString_cfn : cFn Tryd.prog 45 = some (unicode_utf8_DecodeRuneInString_ir, [(.t 2), (.t 3)], 19) := by kernel_rfl
def unicode_utf8_DecodeRuneInString_V (r : (Int × Int)) : V := .tup [.s (.int .i32 r.1), .s (.int .i64 r.2)]
def unicode_utf8_DecodeRuneInString_C (r : (Int × Int)) : X → Fr → Hp → Prop := FinL [(.t 2), (.t 3)] [] (unicode_utf8_DecodeRuneInString_V r) []
theorem unicode_utf8_DecodeRuneInString_ok (s_ : ByteArray) (r : (Int × Int)) (h : unicode_utf8_DecodeRuneInString s_ = some r) : Pure Tryd.prog 45 [.s (.string s_)] (unicode_utf8_DecodeRuneInString_V r) := by
  refine ConL.of unicode_utf8_DecodeRuneInString_cfn (Nat.le_of_ble_eq_true (by kernel_rfl)) (Nat.le_of_ble_eq_true (by kernel_rfl)) ?_
  refine k_start ?_
  show dwv Tryd.prog [] unicode_utf8_DecodeRuneInString_ir (kont Tryd.prog [] (unicode_utf8_DecodeRuneInString_C r) []) (fr0 [.s (.string s_)]) []
  have hf : FOk (fr0 [.s (.string s_)]) [⟨0, [], .s (.string s_)⟩] := ⟨⟨fun _ => rfl, fun h => (h trivial).elim⟩, trivial⟩
  generalize fr0 [.s (.string s_)] = f at hf ⊢
  unfold unicode_utf8_DecodeRuneInString at h
  refine k_seq ?_
  refine k_reg ?_
  refine mops_en hf (by kernel_rfl) fun f1 hf1 => ?_
  refine k_c ?_
  refine k_seq ?_
  refine k_seq ?_
  refine k_reg ?_
  refine mops_sg 4 hf1 (by kernel_rfl) fun f2 hf2 => ?_
  obtain ⟨c1, h⟩ := as_ok h
  refine mops_gadv (dst := (some 8)) (op := (.ixs (.t 7) (.k (.int .i64 0)))) (aft := [3, 2]) (t := 6) (w := true) (ch := [(6, true)]) (b := (!(s_.toList == (⟨#[]⟩ : ByteArray).toList))) (v := .s (.int .u8 (bt s_ (0)))) (by kernel_rfl) hf2 (by kernel_rfl) (by kernel_rfl) (by kernel_rfl) (fun hb2 => e_ixs (t := s_) (k := .i64) (iv := 0) (by kernel_rfl) (by kernel_rfl) (c1 hb2)) fun f3 hf3 => ?_
  refine mops_en hf3 (by kernel_rfl) fun f4 hf4 => ?_
  refine k_c ?_
  refine k_cond hf4 (t := ((!(s_.toList == (⟨#[]⟩ : ByteArray).toList)) && (decide ((bt s_ (0)) < 128)))) (by kernel_rfl) (fun hc3 => ?_) (fun hc3 => ?_)
  · have h := if_t h hc3
    refine k_seq ?_
    refine k_reg ?_
    refine mops_sg 1 hf4 (by kernel_rfl) fun f5 hf5 => ?_
    obtain ⟨c4, h⟩ := as_ok h
    refine mops_adv rfl (v := .s (.int .u8 (bt s_ (0)))) hf5 (by kernel_rfl) (e_ixs (t := s_) (k := .i64) (iv := 0) (by kernel_rfl) (by kernel_rfl) c4) fun f6 hf6 => ?_
    refine mops_en hf6 (by kernel_rfl) fun f7 hf7 => ?_
    refine k_c ?_
    refine k_ret ?_
    refine x_c nofun ?_
    obtain rfl := Option.some.inj h
    exact k_fin (fin_ret (.inl rfl) hf7 (vs := [.s (.int .i32 (IntKind.wrap .i32 (bt s_ (0)))), .s (.int .i64 1)]) (by kernel_rfl) (SettL.pure (FzL.tup (FzsL.cons (FzL.stat rfl) (FzsL.cons (FzL.stat rfl) FzsL.nil)))))
  · have h := if_f h hc3
    cases h
def strings_Index_i0 : List Op1 := [(oM 4 (.k (.int .i64 0)) [])]
def strings_Index_i1 : List Op1 := [(oM 5 (.t 0) []), (oM 6 (.t 1) []), (oC 7 47 [(.t 5), (.t 6)] [0, 1]), (oM 4 (.t 7) [2, 2, 0, 1, 2])]
def strings_Index_i2 : IR := .ret
def strings_Index_i3 : IR := (.seq (.reg false strings_Index_i1) strings_Index_i2)
def strings_Index_ir : IR := (.seq (.reg false strings_Index_i0) strings_Index_i3)
theorem strings_Index_cfn : cFn Tryd.prog 41 = some (strings_Index_ir, [(.t 4)], 8) := by kernel_rfl
def strings_Index_V (r : (Int)) : V := .s (.int .i64 r)
def strings_Index_C (r : (Int)) : X → Fr → Hp → Prop := FinL [(.t 4)] [] (strings_Index_V r) []
theorem strings_Index_ok (s_ : ByteArray) (substr_ : ByteArray) (r : (Int)) (h : strings_Index s_ substr_ = some r) : Pure Tryd.prog 41 [.s (.string s_), .s (.string substr_)] (strings_Index_V r) := by
  refine ConL.of strings_Index_cfn (Nat.le_of_ble_eq_true (by kernel_rfl)) (Nat.le_of_ble_eq_true (by kernel_rfl)) ?_
  refine k_start ?_
  show dwv Tryd.prog [] strings_Index_ir (kont Tryd.prog [] (strings_Index_C r) []) (fr0 [.s (.string s_), .s (.string substr_)]) []
  have hf : FOk (fr0 [.s (.string s_), .s (.string substr_)]) [⟨0, [], .s (.string s_)⟩, ⟨1, [], .s (.string substr_)⟩] := ⟨⟨fun _ => rfl, fun h => (h trivial).elim⟩, ⟨fun _ => rfl, fun h => (h trivial).elim⟩, trivial⟩
  generalize fr0 [.s (.string s_), .s (.string substr_)] = f at hf ⊢
  unfold strings_Index at h
  refine k_seq ?_
  refine k_reg ?_
  refine mops_en hf (by kernel_rfl) fun f1 hf1 => ?_
  refine k_c ?_
  refine k_seq ?_
  refine k_reg ?_
  refine mops_sg 2 hf1 (by kernel_rfl) fun f2 hf2 => ?_
  obtain ⟨r_, hx_r_, h⟩ := Option.bind_eq_some_iff.1 h
  refine mops_call rfl hf2 (av := [.s (.string s_), .s (.string substr_)]) (by kernel_rfl) (v := .s (.int .i64 r_)) (CalL.pure (internal_stringslite_Index_ok s_ substr_ r_ hx_r_) rfl rfl (Nat.le_of_ble_eq_true (by kernel_rfl))) (fun _ => rfl) fun f3 hf3 => ?_
  refine mops_en hf3 (by kernel_rfl) fun f4 hf4 => ?_
  refine k_c ?_
  refine k_ret ?_
  obtain rfl := Option.some.inj h
  exact k_fin (fin_ret (.inl rfl) hf4 (vs := [.s (.int .i64 r_)]) (by kernel_rfl) (SettL.pure (FzL.stat rfl)))
def lists_regs_i0 : List Op1 := [(oE 2 (.zero [(.int .i64 0), (.int .i64 0), (.int .i64 0), (.int .i64 0), (.int .i64 0), (.int .i64 0), (.int .i64 0), (.int .i64 0)]) [])]
def lists_regs_i1 : List Op1 := [(oE 4 (.build [(.int .i64 0), (.int .i64 0), (.int .i64 0), (.int .i64 0), (.int .i64 0), (.int .i64 0), (.int .i64 0), (.int .i64 0)] [(0, (1, (.k (.int .i64 10)))), (1, (1, (.k (.int .i64 8)))), (2, (1, (.k (.int .i64 9)))), (3, (1, (.k (.int .i64 11)))), (4, (1, (.k (.int .i64 1)))), (5, (1, (.k (.int .i64 2)))), (6, (1, (.k (.int .i64 3)))), (7, (1, (.k (.int .i64 5))))]) []), (oE 3 (.zero [(.int .i64 0), (.int .i64 0), (.int .i64 0), (.int .i64 0), (.int .i64 0), (.int .i64 0), (.int .i64 0), (.int .i64 0)]) []), (oN (.store 8 (.t 3) (.t 4)) [1, 0, 0, 1])]
def lists_regs_i2 : List Op1 := [(oM 5 (.t 0) []), (oE 6 (.bin .eql (.t 5) (.k (.int .i64 3))) [0])]
def lists_regs_i3 : List Op1 := [(oE 7 (.iaa 8 1 (.t 3) (.k (.int .i64 6))) []), (oN (.store 1 (.t 7) (.k (.int .i64 4))) [0])]
def lists_regs_i4 : IR := (.cond (.t 6) (.reg false lists_regs_i3) .skip)
def lists_regs_i5 : List Op1 := [(oE 8 (.load true 8 (.t 3)) []), (oN (.store 8 (.t 2) (.t 8)) [0, 0])]
def lists_regs_i6 : IR := .ret
def lists_regs_i7 : IR := (.seq (.reg false lists_regs_i5) lists_regs_i6)
def lists_regs_i8 : IR := (.seq (.seq (.reg false lists_regs_i2) lists_regs_i4) lists_regs_i7)
def lists_regs_i9 : IR := (.seq (.reg false lists_regs_i1) lists_regs_i8)
def lists_regs_ir : IR := (.seq (.reg false lists_regs_i0) lists_regs_i9)
theorem lists_regs_cfn : cFn Tryd.prog 23 = some (lists_regs_ir, [(.c 2 true 8)], 9) := by kernel_rfl
def lists_regs_V (r : (A8_i64)) : V := .agg [.s (.int .i64 r.a0), .s (.int .i64 r.a1), .s (.int .i64 r.a2), .s (.int .i64 r.a3), .s (.int .i64 r.a4), .s (.int .i64 r.a5), .s (.int .i64 r.a6), .s (.int .i64 r.a7)]
def lists_regs_C (r : (A8_i64)) : X → Fr → Hp → Prop := FinL [(.c 2 true 8)] [] (lists_regs_V r) []
theorem lists_regs_ok (stack_ : Int) (r : (A8_i64)) (h : lists_regs stack_ = some r) : Pure Tryd.prog 23 [.s (.int .i64 stack_)] (lists_regs_V r) := by
  refine ConL.of lists_regs_cfn (Nat.le_of_ble_eq_true (by kernel_rfl)) (Nat.le_of_ble_eq_true (by kernel_rfl)) ?_
  refine k_start ?_
  show dwv Tryd.prog [] lists_regs_ir (kont Tryd.prog [] (lists_regs_C r) []) (fr0 [.s (.int .i64 stack_)]) []
  have hf : FOk (fr0 [.s (.int .i64 stack_)]) [⟨0, [], .s (.int .i64 stack_)⟩] := ⟨⟨fun _ => rfl, fun h => (h trivial).elim⟩, trivial⟩
  generalize fr0 [.s (.int .i64 stack_)] = f at hf ⊢
  unfold lists_regs at h
  refine k_seq ?_
  refine k_reg ?_
  refine mops_en hf (by kernel_rfl) fun f1 hf1 => ?_
  refine k_c ?_
  refine k_seq ?_
  refine k_reg ?_
  refine mops_en hf1 (by kernel_rfl) fun f2 hf2 => ?_
  refine k_c ?_
  refine k_seq ?_
  refine k_seq ?_
  refine k_reg ?_
  refine mops_en hf2 (by kernel_rfl) fun f3 hf3 => ?_
  refine k_c ?_
  refine k_cond hf3 (t := (stack_ == 3)) (by kernel_rfl) (fun hc1 => ?_) (fun hc1 => ?_)
  · have h := if_t h hc1
    refine k_reg ?_
    refine mops_en hf3 (by kernel_rfl) fun f4 hf4 => ?_
    refine k_c ?_
    refine k_seq ?_
    refine k_reg ?_
    refine mops_en hf4 (by kernel_rfl) fun f5 hf5 => ?_
    refine k_c ?_
    refine k_ret ?_
    obtain rfl := Option.some.inj h
    exact k_fin (fin_ret (.inl rfl) hf5 (vs := [.agg [.s (.int .i64 10), .s (.int .i64 8), .s (.int .i64 9), .s (.int .i64 11), .s (.int .i64 1), .s (.int .i64 2), .s (.int .i64 4), .s (.int .i64 5)]]) (by kernel_rfl) (SettL.pure (FzL.stat rfl)))
  · have h := if_f h hc1
    refine k_skip ?_
    refine k_c ?_
    refine k_seq ?_
    refine k_reg ?_
    refine mops_en hf3 (by kernel_rfl) fun f4 hf4 => ?_
    refine k_c ?_
    refine k_ret ?_
    obtain rfl := Option.some.inj h
    exact k_fin (fin_ret (.inl rfl) hf4 (vs := [.agg [.s (.int .i64 10), .s (.int .i64 8), .s (.int .i64 9), .s (.int .i64 11), .s (.int .i64 1), .s (.int .i64 2), .s (.int .i64 3), .s (.int .i64 5)]]) (by kernel_rfl) (SettL.pure (FzL.stat rfl)))
def ops_Reg_i0 : List Op1 := [(oM 2 (.k (.string ⟨#[]⟩)) [])]
def ops_Reg_i1 : List Op1 := [(oM 3 (.t 0) [])]
def ops_Reg_i2 : List Op1 := [(oE 5 (.bin .eql (.t 3) (.k (.int .i64 0))) []), (oM 4 (.t 5) [0])]
def ops_Reg_i3 : List Op1 := [(oM 2 (.k (.string ⟨#[68]⟩)) [])]
def ops_Reg_i4 : IR := .ret
def ops_Reg_i5 : List Op1 := [(oE 7 (.bin .eql (.t 3) (.k (.int .i64 1))) []), (oM 6 (.t 7) [0])]
def ops_Reg_i6 : List Op1 := [(oM 2 (.k (.string ⟨#[88]⟩)) [])]
def ops_Reg_i7 : IR := .ret
def ops_Reg_i8 : List Op1 := [(oE 9 (.bin .eql (.t 3) (.k (.int .i64 2))) []), (oM 8 (.t 9) [0])]
def ops_Reg_i9 : List Op1 := [(oM 2 (.k (.string ⟨#[89]⟩)) [])]
def ops_Reg_i10 : IR := .ret
def ops_Reg_i11 : List Op1 := [(oE 11 (.bin .eql (.t 3) (.k (.int .i64 3))) []), (oM 10 (.t 11) [0])]
def ops_Reg_i12 : List Op1 := [(oM 2 (.k (.string ⟨#[85]⟩)) [])]
def ops_Reg_i13 : IR := .ret
def ops_Reg_i14 : List Op1 := [(oE 13 (.bin .eql (.t 3) (.k (.int .i64 4))) []), (oM 12 (.t 13) [0])]
def ops_Reg_i15 : List Op1 := [(oM 2 (.k (.string ⟨#[83]⟩)) [])]
def ops_Reg_i16 : IR := .ret
def ops_Reg_i17 : List Op1 := [(oE 15 (.bin .eql (.t 3) (.k (.int .i64 5))) []), (oM 14 (.t 15) [0])]
def ops_Reg_i18 : List Op1 := [(oM 2 (.k (.string ⟨#[80, 67]⟩)) [])]
def ops_Reg_i19 : IR := .ret
def ops_Reg_i20 : List Op1 := [(oE 17 (.bin .eql (.t 3) (.k (.int .i64 8))) []), (oM 16 (.t 17) [0])]
def ops_Reg_i21 : List Op1 := [(oM 2 (.k (.string ⟨#[65]⟩)) [])]
def ops_Reg_i22 : IR := .ret
def ops_Reg_i23 : List Op1 := [(oE 19 (.bin .eql (.t 3) (.k (.int .i64 9))) []), (oM 18 (.t 19) [0])]
def ops_Reg_i24 : List Op1 := [(oM 2 (.k (.string ⟨#[66]⟩)) [])]
def ops_Reg_i25 : IR := .ret
def ops_Reg_i26 : List Op1 := [(oE 21 (.bin .eql (.t 3) (.k (.int .i64 10))) []), (oM 20 (.t 21) [0])]
def ops_Reg_i27 : List Op1 := [(oM 2 (.k (.string ⟨#[67, 67]⟩)) [])]
def ops_Reg_i28 : IR := .ret
def ops_Reg_i29 : List Op1 := [(oE 23 (.bin .eql (.t 3) (.k (.int .i64 11))) []), (oM 22 (.t 23) [0])]
def ops_Reg_i30 : List Op1 := [(oM 2 (.k (.string ⟨#[68, 80]⟩)) [])]
def ops_Reg_i31 : IR := .ret
def ops_Reg_i32 : IR := (.cond (.t 22) (.seq (.reg false ops_Reg_i30) ops_Reg_i31) .skip)
def ops_Reg_i33 : IR := (.cond (.t 20) (.seq (.reg false ops_Reg_i27) ops_Reg_i28) (.seq (.reg false ops_Reg_i29) ops_Reg_i32))
def ops_Reg_i34 : IR := (.cond (.t 18) (.seq (.reg false ops_Reg_i24) ops_Reg_i25) (.seq (.reg false ops_Reg_i26) ops_Reg_i33))
def ops_Reg_i35 : IR := (.cond (.t 16) (.seq (.reg false ops_Reg_i21) ops_Reg_i22) (.seq (.reg false ops_Reg_i23) ops_Reg_i34))
def ops_Reg_i36 : IR := (.cond (.t 14) (.seq (.reg false ops_Reg_i18) ops_Reg_i19) (.seq (.reg false ops_Reg_i20) ops_Reg_i35))
def ops_Reg_i37 : IR := (.cond (.t 12) (.seq (.reg false ops_Reg_i15) ops_Reg_i16) (.seq (.reg false ops_Reg_i17) ops_Reg_i36))
def ops_Reg_i38 : IR := (.cond (.t 10) (.seq (.reg false ops_Reg_i12) ops_Reg_i13) (.seq (.reg false ops_Reg_i14) ops_Reg_i37))
def ops_Reg_i39 : IR := (.cond (.t 8) (.seq (.reg false ops_Reg_i9) ops_Reg_i10) (.seq (.reg false ops_Reg_i11) ops_Reg_i38))
def ops_Reg_i40 : IR := (.cond (.t 6) (.seq (.reg false ops_Reg_i6) ops_Reg_i7) (.seq (.reg false ops_Reg_i8) ops_Reg_i39))
def ops_Reg_i41 : IR := (.cond (.t 4) (.seq (.reg false ops_Reg_i3) ops_Reg_i4) (.seq (.reg false ops_Reg_i5) ops_Reg_i40))
def ops_Reg_i42 : IR := (.block 0 (.seq (.reg false ops_Reg_i2) ops_Reg_i41))
def ops_Reg_i43 : List Op1 := [(oM 2 (.k (.string ⟨#[]⟩)) [])]
def ops_Reg_i44 : IR := .ret
def ops_Reg_i45 : IR := (.seq (.reg false ops_Reg_i43) ops_Reg_i44)
def ops_Reg_i46 : IR := (.seq (.seq (.reg false ops_Reg_i1) ops_Reg_i42) ops_Reg_i45)
def ops_Reg_ir : IR := (.seq (.reg false ops_Reg_i0) ops_Reg_i46)
theorem ops_Reg_cfn : cFn Tryd.prog 32 = some (ops_Reg_ir, [(.t 2)], 24) := by kernel_rfl
def ops_Reg_V (r : (ByteArray)) : V := .s (.string r)
def ops_Reg_C (r : (ByteArray)) : X → Fr → Hp → Prop := FinL [(.t 2)] [] (ops_Reg_V r) []
theorem ops_Reg_ok (code_ : Int) (r : (ByteArray)) (h : ops_Reg code_ = some r) : Pure Tryd.prog 32 [.s (.int .i64 code_)] (ops_Reg_V r) := by
  refine ConL.of ops_Reg_cfn (Nat.le_of_ble_eq_true (by kernel_rfl)) (Nat.le_of_ble_eq_true (by kernel_rfl)) ?_
  refine k_start ?_
  show dwv Tryd.prog [] ops_Reg_ir (kont Tryd.prog [] (ops_Reg_C r) []) (fr0 [.s (.int .i64 code_)]) []
  have hf : FOk (fr0 [.s (.int .i64 code_)]) [⟨0, [], .s (.int .i64 code_)⟩] := ⟨⟨fun _ => rfl, fun h => (h trivial).elim⟩, trivial⟩
  generalize fr0 [.s (.int .i64 code_)] = f at hf ⊢
  unfold ops_Reg at h
  refine k_seq ?_
  refine k_reg ?_
  refine mops_en hf (by kernel_rfl) fun f1 hf1 => ?_
  refine k_c ?_
  refine k_seq ?_
  refine k_seq ?_
  refine k_reg ?_
  refine mops_en hf1 (by kernel_rfl) fun f2 hf2 => ?_
  refine k_c ?_
  refine k_block ?_
  refine k_seq ?_
  refine k_reg ?_
  refine mops_en hf2 (by kernel_rfl) fun f3 hf3 => ?_
  refine k_c ?_
  refine k_cond hf3 (t := (code_ == 0)) (by kernel_rfl) (fun hc1 => ?_) (fun hc1 => ?_)
  · have h := if_t h hc1
    refine k_seq ?_
    refine k_reg ?_
    refine mops_en hf3 (by kernel_rfl) fun f4 hf4 => ?_
    refine k_c ?_
    refine k_ret ?_
    refine x_br ?_
    refine x_c nofun ?_
    obtain rfl := Option.some.inj h
    exact k_fin (fin_ret (.inl rfl) hf4 (vs := [.s (.string (⟨#[68]⟩ : ByteArray))]) (by kernel_rfl) (SettL.pure (FzL.stat rfl)))
  · have h := if_f h hc1
    refine k_seq ?_
    refine k_reg ?_
    refine mops_en hf3 (by kernel_rfl) fun f4 hf4 => ?_
    refine k_c ?_
    refine k_cond hf4 (t := (code_ == 1)) (by kernel_rfl) (fun hc2 => ?_) (fun hc2 => ?_)
    · have h := if_t h hc2
      refine k_seq ?_
      refine k_reg ?_
      refine mops_en hf4 (by kernel_rfl) fun f5 hf5 => ?_
      refine k_c ?_
      refine k_ret ?_
      refine x_br ?_
      refine x_c nofun ?_
      obtain rfl := Option.some.inj h
      exact k_fin (fin_ret (.inl rfl) hf5 (vs := [.s (.string (⟨#[88]⟩ : ByteArray))]) (by kernel_rfl) (SettL.pure (FzL.stat rfl)))
    · have h := if_f h hc2
      refine k_seq ?_
      refine k_reg ?_
      refine mops_en hf4 (by kernel_rfl) fun f5 hf5 => ?_
      refine k_c ?_
      refine k_cond hf5 (t := (code_ == 2)) (by kernel_rfl) (fun hc3 => ?_) (fun hc3 => ?_)
      · have h := if_t h hc3
        refine k_seq ?_
        refine k_reg ?_
        refine mops_en hf5 (by kernel_rfl) fun f6 hf6 => ?_
        refine k_c ?_
        refine k_ret ?_
        refine x_br ?_
        refine x_c nofun ?_
        obtain rfl := Option.some.inj h
        exact k_fin (fin_ret (.inl rfl) hf6 (vs := [.s (.string (⟨#[89]⟩ : ByteArray))]) (by kernel_rfl) (SettL.pure (FzL.stat rfl)))
      · have h := if_f h hc3
        refine k_seq ?_
        refine k_reg ?_
        refine mops_en hf5 (by kernel_rfl) fun f6 hf6 => ?_
        refine k_c ?_
        refine k_cond hf6 (t := (code_ == 3)) (by kernel_rfl) (fun hc4 => ?_) (fun hc4 => ?_)
        · have h := if_t h hc4
          refine k_seq ?_
          refine k_reg ?_
          refine mops_en hf6 (by kernel_rfl) fun f7 hf7 => ?_
          refine k_c ?_
          refine k_ret ?_
          refine x_br ?_
          refine x_c nofun ?_
          obtain rfl := Option.some.inj h
          exact k_fin (fin_ret (.inl rfl) hf7 (vs := [.s (.string (⟨#[85]⟩ : ByteArray))]) (by kernel_rfl) (SettL.pure (FzL.stat rfl)))
        · have h := if_f h hc4
          refine k_seq ?_
          refine k_reg ?_
          refine mops_en hf6 (by kernel_rfl) fun f7 hf7 => ?_
          refine k_c ?_
          refine k_cond hf7 (t := (code_ == 4)) (by kernel_rfl) (fun hc5 => ?_) (fun hc5 => ?_)
          · have h := if_t h hc5
            refine k_seq ?_
            refine k_reg ?_
            refine mops_en hf7 (by kernel_rfl) fun f8 hf8 => ?_
            refine k_c ?_
            refine k_ret ?_
            refine x_br ?_
            refine x_c nofun ?_
            obtain rfl := Option.some.inj h
            exact k_fin (fin_ret (.inl rfl) hf8 (vs := [.s (.string (⟨#[83]⟩ : ByteArray))]) (by kernel_rfl) (SettL.pure (FzL.stat rfl)))
          · have h := if_f h hc5
            refine k_seq ?_
            refine k_reg ?_
            refine mops_en hf7 (by kernel_rfl) fun f8 hf8 => ?_
            refine k_c ?_
            refine k_cond hf8 (t := (code_ == 5)) (by kernel_rfl) (fun hc6 => ?_) (fun hc6 => ?_)
            · have h := if_t h hc6
              refine k_seq ?_
              refine k_reg ?_
              refine mops_en hf8 (by kernel_rfl) fun f9 hf9 => ?_
              refine k_c ?_
              refine k_ret ?_
              refine x_br ?_
              refine x_c nofun ?_
              obtain rfl := Option.some.inj h
              exact k_fin (fin_ret (.inl rfl) hf9 (vs := [.s (.string (⟨#[80, 67]⟩ : ByteArray))]) (by kernel_rfl) (SettL.pure (FzL.stat rfl)))
            · have h := if_f h hc6
              refine k_seq ?_
              refine k_reg ?_
              refine mops_en hf8 (by kernel_rfl) fun f9 hf9 => ?_
              refine k_c ?_
              refine k_cond hf9 (t := (code_ == 8)) (by kernel_rfl) (fun hc7 => ?_) (fun hc7 => ?_)
              · have h := if_t h hc7
                refine k_seq ?_
                refine k_reg ?_
                refine mops_en hf9 (by kernel_rfl) fun f10 hf10 => ?_
                refine k_c ?_
                refine k_ret ?_
                refine x_br ?_
                refine x_c nofun ?_
                obtain rfl := Option.some.inj h
                exact k_fin (fin_ret (.inl rfl) hf10 (vs := [.s (.string (⟨#[65]⟩ : ByteArray))]) (by kernel_rfl) (SettL.pure (FzL.stat rfl)))
              · have h := if_f h hc7
                refine k_seq ?_
                refine k_reg ?_
                refine mops_en hf9 (by kernel_rfl) fun f10 hf10 => ?_
                refine k_c ?_
                refine k_cond hf10 (t := (code_ == 9)) (by kernel_rfl) (fun hc8 => ?_) (fun hc8 => ?_)
                · have h := if_t h hc8
                  refine k_seq ?_
                  refine k_reg ?_
                  refine mops_en hf10 (by kernel_rfl) fun f11 hf11 => ?_
                  refine k_c ?_
                  refine k_ret ?_
                  refine x_br ?_
                  refine x_c nofun ?_
                  obtain rfl := Option.some.inj h
                  exact k_fin (fin_ret (.inl rfl) hf11 (vs := [.s (.string (⟨#[66]⟩ : ByteArray))]) (by kernel_rfl) (SettL.pure (FzL.stat rfl)))
                · have h := if_f h hc8
                  refine k_seq ?_
                  refine k_reg ?_
                  refine mops_en hf10 (by kernel_rfl) fun f11 hf11 => ?_
                  refine k_c ?_
                  refine k_cond hf11 (t := (code_ == 10)) (by kernel_rfl) (fun hc9 => ?_) (fun hc9 => ?_)
                  · have h := if_t h hc9
                    refine k_seq ?_
                    refine k_reg ?_
                    refine mops_en hf11 (by kernel_rfl) fun f12 hf12 => ?_
                    refine k_c ?_
                    refine k_ret ?_
                    refine x_br ?_
                    refine x_c nofun ?_
                    obtain rfl := Option.some.inj h
                    exact k_fin (fin_ret (.inl rfl) hf12 (vs := [.s (.string (⟨#[67, 67]⟩ : ByteArray))]) (by kernel_rfl) (SettL.pure (FzL.stat rfl)))
                  · have h := if_f h hc9
                    refine k_seq ?_
                    refine k_reg ?_
                    refine mops_en hf11 (by kernel_rfl) fun f12 hf12 => ?_
                    refine k_c ?_
                    refine k_cond hf12 (t := (code_ == 11)) (by kernel_rfl) (fun hc10 => ?_) (fun hc10 => ?_)
                    · have h := if_t h hc10
                      refine k_seq ?_
                      refine k_reg ?_
                      refine mops_en hf12 (by kernel_rfl) fun f13 hf13 => ?_
                      refine k_c ?_
                      refine k_ret ?_
                      refine x_br ?_
                      refine x_c nofun ?_
                      obtain rfl := Option.some.inj h
                      exact k_fin (fin_ret (.inl rfl) hf13 (vs := [.s (.string (⟨#[68, 80]⟩ : ByteArray))]) (by kernel_rfl) (SettL.pure (FzL.stat rfl)))
                    · have h := if_f h hc10
                      refine k_skip ?_
                      refine k_b ?_
                      refine k_c ?_
                      refine k_seq ?_
                      refine k_reg ?_
                      refine mops_en hf12 (by kernel_rfl) fun f13 hf13 => ?_
                      refine k_c ?_
                      refine k_ret ?_
                      obtain rfl := Option.some.inj h
                      exact k_fin (fin_ret (.inl rfl) hf13 (vs := [.s (.string (⟨#[]⟩ : ByteArray))]) (by kernel_rfl) (SettL.pure (FzL.stat rfl)))
def octet_High_i0 : List Op1 := [(oM 2 (.k (.int .u8 0)) [])]
def octet_High_i1 : List Op1 := [(oM 3 (.t 0) []), (oE 4 (.bin .shr (.t 3) (.k (.int .u64 8))) [0]), (oE 5 (.cint .u8 (.t 4)) [1]), (oM 2 (.t 5) [2, 0, 1, 2])]
def octet_High_i2 : IR := .ret
def octet_High_i3 : IR := (.seq (.reg false octet_High_i1) octet_High_i2)
def octet_High_ir : IR := (.seq (.reg false octet_High_i0) octet_High_i3)
theorem octet_High_cfn : cFn Tryd.prog 25 = some (octet_High_ir, [(.t 2)], 6) := by kernel_rfl
def octet_High_V (r : (Int)) : V := .s (.int .u8 r)
def octet_High_C (r : (Int)) : X → Fr → Hp → Prop := FinL [(.t 2)] [] (octet_High_V r) []
theorem octet_High_ok (w_ : Int) (r : (Int)) (h : octet_High w_ = some r) : Pure Tryd.prog 25 [.s (.int .u16 w_)] (octet_High_V r) := by
  refine ConL.of octet_High_cfn (Nat.le_of_ble_eq_true (by kernel_rfl)) (Nat.le_of_ble_eq_true (by kernel_rfl)) ?_
  refine k_start ?_
  show dwv Tryd.prog [] octet_High_ir (kont Tryd.prog [] (octet_High_C r) []) (fr0 [.s (.int .u16 w_)]) []
  have hf : FOk (fr0 [.s (.int .u16 w_)]) [⟨0, [], .s (.int .u16 w_)⟩] := ⟨⟨fun _ => rfl, fun h => (h trivial).elim⟩, trivial⟩
  generalize fr0 [.s (.int .u16 w_)] = f at hf ⊢
  unfold octet_High at h
  refine k_seq ?_
  refine k_reg ?_
  refine mops_en hf (by kernel_rfl) fun f1 hf1 => ?_
  refine k_c ?_
  refine k_seq ?_
  refine k_reg ?_
  refine mops_en hf1 (by kernel_rfl) fun f2 hf2 => ?_
  refine k_c ?_
  refine k_ret ?_
  obtain rfl := Option.some.inj h
  exact k_fin (fin_ret (.inl rfl) hf2 (vs := [.s (.int .u8 (IntKind.wrap .u8 (Int.fdiv w_ (2 ^ (8)))))]) (by kernel_rfl) (SettL.pure (FzL.stat rfl)))
def octet_Word_i0 : List Op1 := [(oM 4 (.k (.int .u16 0)) [])]
def octet_Word_i1 : List Op1 := [(oM 5 (.t 0) []), (oE 6 (.cint .u16 (.t 5)) [0]), (oE 7 (.bin .shl (.t 6) (.k (.int .u64 8))) [1]), (oM 8 (.t 1) []), (oE 9 (.cint .u16 (.t 8)) [3]), (oE 10 (.bin .or (.t 7) (.t 9)) [2, 4]), (oM 4 (.t 10) [5, 0, 1, 2, 3, 4, 5])]
def octet_Word_i2 : IR := .ret
def octet_Word_i3 : IR := (.seq (.reg false octet_Word_i1) octet_Word_i2)
def octet_Word_ir : IR := (.seq (.reg false octet_Word_i0) octet_Word_i3)
theorem octet_Word_cfn : cFn Tryd.prog 30 = some (octet_Word_ir, [(.t 4)], 11) := by kernel_rfl
def octet_Word_V (r : (Int)) : V := .s (.int .u16 r)
def octet_Word_C (r : (Int)) : X → Fr → Hp → Prop := FinL [(.t 4)] [] (octet_Word_V r) []
theorem octet_Word_ok (hi_ : Int) (lo_ : Int) (r : (Int)) (h : octet_Word hi_ lo_ = some r) : Pure Tryd.prog 30 [.s (.int .u8 hi_), .s (.int .u8 lo_)] (octet_Word_V r) := by
  refine ConL.of octet_Word_cfn (Nat.le_of_ble_eq_true (by kernel_rfl)) (Nat.le_of_ble_eq_true (by kernel_rfl)) ?_
  refine k_start ?_
  show dwv Tryd.prog [] octet_Word_ir (kont Tryd.prog [] (octet_Word_C r) []) (fr0 [.s (.int .u8 hi_), .s (.int .u8 lo_)]) []
  have hf : FOk (fr0 [.s (.int .u8 hi_), .s (.int .u8 lo_)]) [⟨0, [], .s (.int .u8 hi_)⟩, ⟨1, [], .s (.int .u8 lo_)⟩] := ⟨⟨fun _ => rfl, fun h => (h trivial).elim⟩, ⟨fun _ => rfl, fun h => (h trivial).elim⟩, trivial⟩
  generalize fr0 [.s (.int .u8 hi_), .s (.int .u8 lo_)] = f at hf ⊢
  unfold octet_Word at h
  refine k_seq ?_
  refine k_reg ?_
  refine mops_en hf (by kernel_rfl) fun f1 hf1 => ?_
  refine k_c ?_
  refine k_seq ?_
  refine k_reg ?_
  refine mops_en hf1 (by kernel_rfl) fun f2 hf2 => ?_
  refine k_c ?_
  refine k_ret ?_
  obtain rfl := Option.some.inj h
  exact k_fin (fin_ret (.inl rfl) hf2 (vs := [.s (.int .u16 (bits .or .u16 (IntKind.wrap .u16 ((IntKind.wrap .u16 hi_) * 2 ^ (8))) (IntKind.wrap .u16 lo_)))]) (by kernel_rfl) (SettL.pure (FzL.stat rfl)))
def octet_Low_i0 : List Op1 := [(oM 2 (.k (.int .u8 0)) [])]
def octet_Low_i1 : List Op1 := [(oM 3 (.t 0) []), (oE 4 (.cint .u8 (.t 3)) [0]), (oM 2 (.t 4) [1, 0, 1])]
def octet_Low_i2 : IR := .ret
def octet_Low_i3 : IR := (.seq (.reg false octet_Low_i1) octet_Low_i2)
def octet_Low_ir : IR := (.seq (.reg false octet_Low_i0) octet_Low_i3)
theorem octet_Low_cfn : cFn Tryd.prog 27 = some (octet_Low_ir, [(.t 2)], 5) := by kernel_rfl
def octet_Low_V (r : (Int)) : V := .s (.int .u8 r)
def octet_Low_C (r : (Int)) : X → Fr → Hp → Prop := FinL [(.t 2)] [] (octet_Low_V r) []
theorem octet_Low_ok (w_ : Int) (r : (Int)) (h : octet_Low w_ = some r) : Pure Tryd.prog 27 [.s (.int .u16 w_)] (octet_Low_V r) := by
  refine ConL.of octet_Low_cfn (Nat.le_of_ble_eq_true (by kernel_rfl)) (Nat.le_of_ble_eq_true (by kernel_rfl)) ?_
  refine k_start ?_
  show dwv Tryd.prog [] octet_Low_ir (kont Tryd.prog [] (octet_Low_C r) []) (fr0 [.s (.int .u16 w_)]) []
  have hf : FOk (fr0 [.s (.int .u16 w_)]) [⟨0, [], .s (.int .u16 w_)⟩] := ⟨⟨fun _ => rfl, fun h => (h trivial).elim⟩, trivial⟩
  generalize fr0 [.s (.int .u16 w_)] = f at hf ⊢
  unfold octet_Low at h
  refine k_seq ?_
  refine k_reg ?_
  refine mops_en hf (by kernel_rfl) fun f1 hf1 => ?_
  refine k_c ?_
  refine k_seq ?_
  refine k_reg ?_
  refine mops_en hf1 (by kernel_rfl) fun f2 hf2 => ?_
  refine k_c ?_
  refine k_ret ?_
  obtain rfl := Option.some.inj h
  exact k_fin (fin_ret (.inl rfl) hf2 (vs := [.s (.int .u8 (IntKind.wrap .u8 w_))]) (by kernel_rfl) (SettL.pure (FzL.stat rfl)))
def spinetref16_Get_i0 : List Op1 := [(oE 2 (.box (.t 0)) []), (oM 4 (.k (.int .u16 0)) [])]
def spinetref16_Get_i1 : List Op1 := [(oE 7 (.fld 0 (.t 2)) []), (oE 8 (.load false 1 (.t 7)) [0]), (oE 9 (.cint .u16 (.t 8)) [1]), (oE 10 (.bin .mul (.t 9) (.k (.int .u16 256))) [2]), (oE 11 (.fld 1 (.t 2)) []), (oE 12 (.load false 1 (.t 11)) [4]), (oE 13 (.cint .u16 (.t 12)) [5]), (oE 14 (.bin .add (.t 10) (.t 13)) [3, 6]), (oM 5 (.t 14) [7, 0, 1, 2, 3, 4, 5, 6, 7])]
def spinetref16_Get_i2 : List Op1 := [(oM 15 (.t 5) []), (oE 16 (.fld 4 (.t 2)) []), (oE 17 (.load false 1 (.t 16)) [1]), (oE 18 (.fld 5 (.t 2)) []), (oE 19 (.load false 1 (.t 18)) [3]), (oE 20 (.fld 6 (.t 2)) []), (oE 21 (.load false 1 (.t 20)) [5]), (oE 22 (.fld 7 (.t 2)) []), (oE 23 (.load false 1 (.t 22)) [7]), (oE 24 (.fld 8 (.t 2)) []), (oE 25 (.load false 1 (.t 24)) [9]), (oE 26 (.fld 0 (.t 2)) []), (oE 27 (.load false 1 (.t 26)) [11]), (oE 28 (.cint .u16 (.t 27)) [12]), (oE 29 (.bin .add (.k (.int .u16 65280)) (.t 28)) [13]), (oE 30 (.fld 1 (.t 2)) []), (oE 31 (.load false 1 (.t 30)) [15]), (oE 32 (.cint .u16 (.t 31)) [16]), (oE 33 (.bin .add (.k (.int .u16 65280)) (.t 32)) [17]), (oE 34 (.fld 3 (.t 2)) []), (oE 35 (.load false 1 (.t 34)) [19]), (oE 36 (.cint .u16 (.t 35)) [20]), (oE 37 (.bin .add (.k (.int .u16 65280)) (.t 36)) [21]), (oE 38 (.fld 2 (.t 2)) []), (oE 39 (.load false 1 (.t 38)) [23]), (oE 40 (.cint .u16 (.t 39)) [24]), (oE 41 (.bin .add (.k (.int .u16 65280)) (.t 40)) [25]), (oE 42 (.build [(.int .u16 0), (.int .u16 0), (.int .u16 0), (.int .u16 0), (.int .u16 0), (.int .u16 0), (.int .u16 0), (.int .u16 0), (.int .u16 0), (.int .u16 0), (.int .u16 0), (.int .u16 0)] [(0, (1, (.t 15))), (1, (1, (.t 17))), (2, (1, (.t 19))), (3, (1, (.t 21))), (4, (1, (.t 23))), (5, (1, (.t 25))), (6, (1, (.k (.int .u16 65535)))), (7, (1, (.k (.int .u16 65535)))), (8, (1, (.t 29))), (9, (1, (.t 33))), (10, (1, (.t 37))), (11, (1, (.t 41)))]) [0, 2, 4, 6, 8, 10, 14, 18, 22, 26]), (oE 6 (.zero [(.int .u16 0), (.int .u16 0), (.int .u16 0), (.int .u16 0), (.int .u16 0), (.int .u16 0), (.int .u16 0), (.int .u16 0), (.int .u16 0), (.int .u16 0), (.int .u16 0), (.int .u16 0)]) []), (oN (.store 12 (.t 6) (.t 42)) [28, 27, 0, 1, 2, 3, 4, 5, 6, 7, 8, 9, 10, 11, 12, 13, 14, 15, 16, 17, 18, 19, 20, 21, 22, 23, 24, 25, 26, 27, 28])]
def spinetref16_Get_i3 : List Op1 := [(oM 43 (.t 1) []), (oE 44 (.bin .lss (.t 43) (.k (.int .i64 0))) [0]), (oM 45 (.t 44) [1]), (oG 46 (.mv (.t 1)) 45 false [2]), (oG 47 (.bin .gtr (.t 46) (.k (.int .i64 11))) 45 false [3, 2]), (oE 48 (.pick (.t 45) (.k (.bool true)) (.t 47)) [2, 4])]
def spinetref16_Get_i4 : List Op1 := [(oM 4 (.k (.int .u16 65535)) [])]
def spinetref16_Get_i5 : IR := .ret
def spinetref16_Get_i6 : IR := (.cond (.t 48) (.seq (.reg false spinetref16_Get_i4) spinetref16_Get_i5) .skip)
def spinetref16_Get_i7 : List Op1 := [(oM 49 (.t 1) []), (oE 50 (.iaa 12 1 (.t 6) (.t 49)) [0]), (oE 51 (.load false 1 (.t 50)) [1]), (oM 4 (.t 51) [2, 0, 1, 2])]
def spinetref16_Get_i8 : IR := .ret
def spinetref16_Get_i9 : IR := (.seq (.reg false spinetref16_Get_i7) spinetref16_Get_i8)
def spinetref16_Get_i10 : IR := (.seq (.seq (.reg false spinetref16_Get_i3) spinetref16_Get_i6) spinetref16_Get_i9)
def spinetref16_Get_i11 : IR := (.seq (.reg false spinetref16_Get_i2) spinetref16_Get_i10)
def spinetref16_Get_i12 : IR := (.seq (.reg false spinetref16_Get_i1) spinetref16_Get_i11)
def spinetref16_Get_ir : IR := (.seq (.reg false spinetref16_Get_i0) spinetref16_Get_i12)
theorem spinetref16_Get_cfn : cFn Tryd.prog 28 = some (spinetref16_Get_ir, [(.t 4)], 52) := by kernel_rfl
def spinetref16_Get_V (r : (Int)) : V := .s (.int .u16 r)
def spinetref16_Get_C (r : (Int)) : X → Fr → Hp → Prop := FinL [(.t 4)] [] (spinetref16_Get_V r) []
theorem spinetref16_Get_ok (r_ : api_Regs) (code_ : Int) (r : (Int)) (h : spinetref16_Get r_ code_ = some r) : Pure Tryd.prog 28 [.agg [.s (.int .u8 r_.A), .s (.int .u8 r_.B), .s (.int .u8 r_.DP), .s (.int .u8 r_.CC), .s (.int .u16 r_.X), .s (.int .u16 r_.Y), .s (.int .u16 r_.U), .s (.int .u16 r_.S), .s (.int .u16 r_.PC)], .s (.int .i64 code_)] (spinetref16_Get_V r) := by
  refine ConL.of spinetref16_Get_cfn (Nat.le_of_ble_eq_true (by kernel_rfl)) (Nat.le_of_ble_eq_true (by kernel_rfl)) ?_
  refine k_start ?_
  show dwv Tryd.prog [] spinetref16_Get_ir (kont Tryd.prog [] (spinetref16_Get_C r) []) (fr0 [.agg [.s (.int .u8 r_.A), .s (.int .u8 r_.B), .s (.int .u8 r_.DP), .s (.int .u8 r_.CC), .s (.int .u16 r_.X), .s (.int .u16 r_.Y), .s (.int .u16 r_.U), .s (.int .u16 r_.S), .s (.int .u16 r_.PC)], .s (.int .i64 code_)]) []
  have hf : FOk (fr0 [.agg [.s (.int .u8 r_.A), .s (.int .u8 r_.B), .s (.int .u8 r_.DP), .s (.int .u8 r_.CC), .s (.int .u16 r_.X), .s (.int .u16 r_.Y), .s (.int .u16 r_.U), .s (.int .u16 r_.S), .s (.int .u16 r_.PC)], .s (.int .i64 code_)]) [⟨0, [], .agg [.s (.int .u8 r_.A), .s (.int .u8 r_.B), .s (.int .u8 r_.DP), .s (.int .u8 r_.CC), .s (.int .u16 r_.X), .s (.int .u16 r_.Y), .s (.int .u16 r_.U), .s (.int .u16 r_.S), .s (.int .u16 r_.PC)]⟩, ⟨1, [], .s (.int .i64 code_)⟩] := ⟨⟨fun _ => rfl, fun h => (h trivial).elim⟩, ⟨fun _ => rfl, fun h => (h trivial).elim⟩, trivial⟩
  generalize fr0 [.agg [.s (.int .u8 r_.A), .s (.int .u8 r_.B), .s (.int .u8 r_.DP), .s (.int .u8 r_.CC), .s (.int .u16 r_.X), .s (.int .u16 r_.Y), .s (.int .u16 r_.U), .s (.int .u16 r_.S), .s (.int .u16 r_.PC)], .s (.int .i64 code_)] = f at hf ⊢
  unfold spinetref16_Get at h
  refine k_seq ?_
  refine k_reg ?_
  refine mops_en hf (by kernel_rfl) fun f1 hf1 => ?_
  refine k_c ?_
  refine k_seq ?_
  refine k_reg ?_
  refine mops_en hf1 (by kernel_rfl) fun f2 hf2 => ?_
  refine k_c ?_
  refine k_seq ?_
  refine k_reg ?_
  refine mops_end [1, 4, 6] hf2 (l' := [⟨1, [], .s (.int .i64 code_)⟩, ⟨4, [], .s (.int .u16 0)⟩, ⟨6, [], .ptr 1 0 0⟩]) (L' := [⟨0, .mem, 1, [.s (.int .u8 r_.A), .s (.int .u8 r_.B), .s (.int .u8 r_.DP), .s (.int .u8 r_.CC), .s (.int .u16 r_.X), .s (.int .u16 r_.Y), .s (.int .u16 r_.U), .s (.int .u16 r_.S), .s (.int .u16 r_.PC)]⟩, ⟨0, .mem, 1, [.s (.int .u16 (IntKind.wrap .u16 ((IntKind.wrap .u16 ((IntKind.wrap .u16 r_.A) * 256)) + (IntKind.wrap .u16 r_.B)))), .s (.int .u16 r_.X), .s (.int .u16 r_.Y), .s (.int .u16 r_.U), .s (.int .u16 r_.S), .s (.int .u16 r_.PC), .s (.int .u16 65535), .s (.int .u16 65535), .s (.int .u16 (IntKind.wrap .u16 (65280 + (IntKind.wrap .u16 r_.A)))), .s (.int .u16 (IntKind.wrap .u16 (65280 + (IntKind.wrap .u16 r_.B)))), .s (.int .u16 (IntKind.wrap .u16 (65280 + (IntKind.wrap .u16 r_.CC)))), .s (.int .u16 (IntKind.wrap .u16 (65280 + (IntKind.wrap .u16 r_.DP))))]⟩]) (by kernel_rfl) fun f3 hf3 => ?_
  refine k_c ?_
  refine k_seq ?_
  refine k_seq ?_
  refine k_reg ?_
  refine mops_en hf3 (by kernel_rfl) fun f4 hf4 => ?_
  refine k_c ?_
  refine k_cond hf4 (t := ((decide (code_ < 0)) || (decide (11 < code_)))) (by kernel_rfl) (fun hc1 => ?_) (fun hc1 => ?_)
  · have h := if_t h hc1
    refine k_seq ?_
    refine k_reg ?_
    refine mops_en hf4 (by kernel_rfl) fun f5 hf5 => ?_
    refine k_c ?_
    refine k_ret ?_
    refine x_c nofun ?_
    obtain rfl := Option.some.inj h
    exact k_fin (fin_ret (.inl rfl) hf5 (vs := [.s (.int .u16 65535)]) (by kernel_rfl) (SettL.pure (FzL.stat rfl)))
  · have h := if_f h hc1
    refine k_skip ?_
    refine k_c ?_
    refine k_seq ?_
    refine k_reg ?_
    refine mops_sg 1 hf4 (by kernel_rfl) fun f5 hf5 => ?_
    obtain ⟨c2, h⟩ := as_ok h
    refine mops_adv rfl (v := .ptr 1 0 (0 + (code_ : Int).toNat * 1)) hf5 (by kernel_rfl) (e_iaa (n := 12) (xv := .ptr 1 0 0) (k := .i64) (iv := code_) (p := .ptr 1 0 (0 + (code_ : Int).toNat * 1)) (by kernel_rfl) (by kernel_rfl) (by kernel_rfl) (by kernel_rfl) c2) fun f6 hf6 => ?_
    refine mops_adv rfl (v := .s (.int .u16 (gt [(IntKind.wrap .u16 ((IntKind.wrap .u16 ((IntKind.wrap .u16 r_.A) * 256)) + (IntKind.wrap .u16 r_.B))), r_.X, r_.Y, r_.U, r_.S, r_.PC, 65535, 65535, (IntKind.wrap .u16 (65280 + (IntKind.wrap .u16 r_.A))), (IntKind.wrap .u16 (65280 + (IntKind.wrap .u16 r_.B))), (IntKind.wrap .u16 (65280 + (IntKind.wrap .u16 r_.CC))), (IntKind.wrap .u16 (65280 + (IntKind.wrap .u16 r_.DP)))] code_))) hf6 (by kernel_rfl) (e_load_pe (g := (nI .u16)) (l := [(IntKind.wrap .u16 ((IntKind.wrap .u16 ((IntKind.wrap .u16 r_.A) * 256)) + (IntKind.wrap .u16 r_.B))), r_.X, r_.Y, r_.U, r_.S, r_.PC, 65535, 65535, (IntKind.wrap .u16 (65280 + (IntKind.wrap .u16 r_.A))), (IntKind.wrap .u16 (65280 + (IntKind.wrap .u16 r_.B))), (IntKind.wrap .u16 (65280 + (IntKind.wrap .u16 r_.CC))), (IntKind.wrap .u16 (65280 + (IntKind.wrap .u16 r_.DP)))]) (iv := code_) (kd := .mem) (q := 1) (b := 1) (ver := 0) [] (by kernel_rfl) (live_mem (by kernel_rfl)) (arr_h (l := [(IntKind.wrap .u16 ((IntKind.wrap .u16 ((IntKind.wrap .u16 r_.A) * 256)) + (IntKind.wrap .u16 r_.B))), r_.X, r_.Y, r_.U, r_.S, r_.PC, 65535, 65535, (IntKind.wrap .u16 (65280 + (IntKind.wrap .u16 r_.A))), (IntKind.wrap .u16 (65280 + (IntKind.wrap .u16 r_.B))), (IntKind.wrap .u16 (65280 + (IntKind.wrap .u16 r_.CC))), (IntKind.wrap .u16 (65280 + (IntKind.wrap .u16 r_.DP)))]) c2 (by kernel_rfl)) (by kernel_rfl) (by kernel_rfl)) fun f7 hf7 => ?_
    refine mops_en hf7 (by kernel_rfl) fun f8 hf8 => ?_
    refine k_c ?_
    refine k_ret ?_
    obtain rfl := Option.some.inj h
    exact k_fin (fin_ret (.inl rfl) hf8 (vs := [.s (.int .u16 (gt [(IntKind.wrap .u16 ((IntKind.wrap .u16 ((IntKind.wrap .u16 r_.A) * 256)) + (IntKind.wrap .u16 r_.B))), r_.X, r_.Y, r_.U, r_.S, r_.PC, 65535, 65535, (IntKind.wrap .u16 (65280 + (IntKind.wrap .u16 r_.A))), (IntKind.wrap .u16 (65280 + (IntKind.wrap .u16 r_.B))), (IntKind.wrap .u16 (65280 + (IntKind.wrap .u16 r_.CC))), (IntKind.wrap .u16 (65280 + (IntKind.wrap .u16 r_.DP)))] code_))]) (by kernel_rfl) (SettL.pure (FzL.stat rfl)))
def spinetref16_Set_i0 : List Op1 := [(oE 3 (.box (.t 0)) []), (oE 6 (.zero [(.int .u8 0), (.int .u8 0), (.int .u8 0), (.int .u8 0), (.int .u16 0), (.int .u16 0), (.int .u16 0), (.int .u16 0), (.int .u16 0)]) [])]
def spinetref16_Set_i1 : List Op1 := [(oM 8 (.t 2) []), (oE 9 (.bin .rem (.t 8) (.k (.int .u16 256))) [0]), (oE 10 (.cint .u8 (.t 9)) [1]), (oM 7 (.t 10) [2, 0, 1, 2])]
def spinetref16_Set_i2 : List Op1 := [(oM 11 (.t 1) [])]
def spinetref16_Set_i3 : List Op1 := [(oE 13 (.bin .eql (.t 11) (.k (.int .i64 0))) []), (oM 12 (.t 13) [0])]
def spinetref16_Set_i4 : List Op1 := [(oM 14 (.t 2) []), (oE 15 (.bin .quo (.t 14) (.k (.int .u16 256))) [0]), (oE 16 (.cint .u8 (.t 15)) [1]), (oM 17 (.t 7) []), (oE 18 (.fld 0 (.t 3)) [0, 1, 2]), (oN (.store 1 (.t 18) (.t 16)) [4, 2, 0, 1, 2]), (oE 19 (.fld 1 (.t 3)) [0, 1, 2, 3, 4, 5]), (oN (.store 1 (.t 19) (.t 17)) [6, 3, 5, 0, 1, 2, 3, 4, 5])]
def spinetref16_Set_i5 : List Op1 := [(oE 21 (.bin .eql (.t 11) (.k (.int .i64 1))) []), (oM 20 (.t 21) [0])]
def spinetref16_Set_i6 : List Op1 := [(oM 22 (.t 2) []), (oE 23 (.fld 4 (.t 3)) [0]), (oN (.store 1 (.t 23) (.t 22)) [1, 0, 0])]
def spinetref16_Set_i7 : List Op1 := [(oE 25 (.bin .eql (.t 11) (.k (.int .i64 2))) []), (oM 24 (.t 25) [0])]
def spinetref16_Set_i8 : List Op1 := [(oM 26 (.t 2) []), (oE 27 (.fld 5 (.t 3)) [0]), (oN (.store 1 (.t 27) (.t 26)) [1, 0, 0])]
def spinetref16_Set_i9 : List Op1 := [(oE 29 (.bin .eql (.t 11) (.k (.int .i64 3))) []), (oM 28 (.t 29) [0])]
def spinetref16_Set_i10 : List Op1 := [(oM 30 (.t 2) []), (oE 31 (.fld 6 (.t 3)) [0]), (oN (.store 1 (.t 31) (.t 30)) [1, 0, 0])]
def spinetref16_Set_i11 : List Op1 := [(oE 33 (.bin .eql (.t 11) (.k (.int .i64 4))) []), (oM 32 (.t 33) [0])]
def spinetref16_Set_i12 : List Op1 := [(oM 34 (.t 2) []), (oE 35 (.fld 7 (.t 3)) [0]), (oN (.store 1 (.t 35) (.t 34)) [1, 0, 0])]
def spinetref16_Set_i13 : List Op1 := [(oE 37 (.bin .eql (.t 11) (.k (.int .i64 5))) []), (oM 36 (.t 37) [0])]
def spinetref16_Set_i14 : List Op1 := [(oM 38 (.t 2) []), (oE 39 (.fld 8 (.t 3)) [0]), (oN (.store 1 (.t 39) (.t 38)) [1, 0, 0])]
def spinetref16_Set_i15 : List Op1 := [(oE 41 (.bin .eql (.t 11) (.k (.int .i64 8))) []), (oM 40 (.t 41) [0])]
def spinetref16_Set_i16 : List Op1 := [(oM 42 (.t 7) []), (oE 43 (.fld 0 (.t 3)) [0]), (oN (.store 1 (.t 43) (.t 42)) [1, 0, 0])]
def spinetref16_Set_i17 : List Op1 := [(oE 45 (.bin .eql (.t 11) (.k (.int .i64 9))) []), (oM 44 (.t 45) [0])]
def spinetref16_Set_i18 : List Op1 := [(oM 46 (.t 7) []), (oE 47 (.fld 1 (.t 3)) [0]), (oN (.store 1 (.t 47) (.t 46)) [1, 0, 0])]
def spinetref16_Set_i19 : List Op1 := [(oE 49 (.bin .eql (.t 11) (.k (.int .i64 10))) []), (oM 48 (.t 49) [0])]
def spinetref16_Set_i20 : List Op1 := [(oM 50 (.t 7) []), (oE 51 (.fld 3 (.t 3)) [0]), (oN (.store 1 (.t 51) (.t 50)) [1, 0, 0])]
def spinetref16_Set_i21 : List Op1 := [(oE 53 (.bin .eql (.t 11) (.k (.int .i64 11))) []), (oM 52 (.t 53) [0])]
def spinetref16_Set_i22 : List Op1 := [(oM 54 (.t 7) []), (oE 55 (.fld 2 (.t 3)) [0]), (oN (.store 1 (.t 55) (.t 54)) [1, 0, 0])]
def spinetref16_Set_i23 : IR := (.cond (.t 52) (.reg false spinetref16_Set_i22) .skip)
def spinetref16_Set_i24 : IR := (.cond (.t 48) (.reg false spinetref16_Set_i20) (.seq (.reg false spinetref16_Set_i21) spinetref16_Set_i23))
def spinetref16_Set_i25 : IR := (.cond (.t 44) (.reg false spinetref16_Set_i18) (.seq (.reg false spinetref16_Set_i19) spinetref16_Set_i24))
def spinetref16_Set_i26 : IR := (.cond (.t 40) (.reg false spinetref16_Set_i16) (.seq (.reg false spinetref16_Set_i17) spinetref16_Set_i25))
def spinetref16_Set_i27 : IR := (.cond (.t 36) (.reg false spinetref16_Set_i14) (.seq (.reg false spinetref16_Set_i15) spinetref16_Set_i26))
def spinetref16_Set_i28 : IR := (.cond (.t 32) (.reg false spinetref16_Set_i12) (.seq (.reg false spinetref16_Set_i13) spinetref16_Set_i27))
def spinetref16_Set_i29 : IR := (.cond (.t 28) (.reg false spinetref16_Set_i10) (.seq (.reg false spinetref16_Set_i11) spinetref16_Set_i28))
def spinetref16_Set_i30 : IR := (.cond (.t 24) (.reg false spinetref16_Set_i8) (.seq (.reg false spinetref16_Set_i9) spinetref16_Set_i29))
def spinetref16_Set_i31 : IR := (.cond (.t 20) (.reg false spinetref16_Set_i6) (.seq (.reg false spinetref16_Set_i7) spinetref16_Set_i30))
def spinetref16_Set_i32 : IR := (.cond (.t 12) (.reg false spinetref16_Set_i4) (.seq (.reg false spinetref16_Set_i5) spinetref16_Set_i31))
def spinetref16_Set_i33 : IR := (.block 0 (.seq (.reg false spinetref16_Set_i3) spinetref16_Set_i32))
def spinetref16_Set_i34 : List Op1 := [(oE 56 (.load true 9 (.t 3)) []), (oN (.store 9 (.t 6) (.t 56)) [0, 0])]
def spinetref16_Set_i35 : IR := .ret
def spinetref16_Set_i36 : IR := (.seq (.reg false spinetref16_Set_i34) spinetref16_Set_i35)
def spinetref16_Set_i37 : IR := (.seq (.seq (.reg false spinetref16_Set_i2) spinetref16_Set_i33) spinetref16_Set_i36)
def spinetref16_Set_i38 : IR := (.seq (.reg false spinetref16_Set_i1) spinetref16_Set_i37)
def spinetref16_Set_ir : IR := (.seq (.reg false spinetref16_Set_i0) spinetref16_Set_i38)
theorem spinetref16_Set_cfn : cFn Tryd.prog 31 = some (spinetref16_Set_ir, [(.c 6 true 9)], 57) := by kernel_rfl
def spinetref16_Set_V (r : (api_Regs)) : V := .agg [.s (.int .u8 r.A), .s (.int .u8 r.B), .s (.int .u8 r.DP), .s (.int .u8 r.CC), .s (.int .u16 r.X), .s (.int .u16 r.Y), .s (.int .u16 r.U), .s (.int .u16 r.S), .s (.int .u16 r.PC)]
def spinetref16_Set_C (r : (api_Regs)) : X → Fr → Hp → Prop := FinL [(.c 6 true 9)] [] (spinetref16_Set_V r) []
theorem spinetref16_Set_ok (r_ : api_Regs) (code_ : Int) (w_ : Int) (r : (api_Regs)) (h : spinetref16_Set r_ code_ w_ = some r) : Pure Tryd.prog 31 [.agg [.s (.int .u8 r_.A), .s (.int .u8 r_.B), .s (.int .u8 r_.DP), .s (.int .u8 r_.CC), .s (.int .u16 r_.X), .s (.int .u16 r_.Y), .s (.int .u16 r_.U), .s (.int .u16 r_.S), .s (.int .u16 r_.PC)], .s (.int .i64 code_), .s (.int .u16 w_)] (spinetref16_Set_V r) := by
  refine ConL.of spinetref16_Set_cfn (Nat.le_of_ble_eq_true (by kernel_rfl)) (Nat.le_of_ble_eq_true (by kernel_rfl)) ?_
  refine k_start ?_
  show dwv Tryd.prog [] spinetref16_Set_ir (kont Tryd.prog [] (spinetref16_Set_C r) []) (fr0 [.agg [.s (.int .u8 r_.A), .s (.int .u8 r_.B), .s (.int .u8 r_.DP), .s (.int .u8 r_.CC), .s (.int .u16 r_.X), .s (.int .u16 r_.Y), .s (.int .u16 r_.U), .s (.int .u16 r_.S), .s (.int .u16 r_.PC)], .s (.int .i64 code_), .s (.int .u16 w_)]) []
  have hf : FOk (fr0 [.agg [.s (.int .u8 r_.A), .s (.int .u8 r_.B), .s (.int .u8 r_.DP), .s (.int .u8 r_.CC), .s (.int .u16 r_.X), .s (.int .u16 r_.Y), .s (.int .u16 r_.U), .s (.int .u16 r_.S), .s (.int .u16 r_.PC)], .s (.int .i64 code_), .s (.int .u16 w_)]) [⟨0, [], .agg [.s (.int .u8 r_.A), .s (.int .u8 r_.B), .s (.int .u8 r_.DP), .s (.int .u8 r_.CC), .s (.int .u16 r_.X), .s (.int .u16 r_.Y), .s (.int .u16 r_.U), .s (.int .u16 r_.S), .s (.int .u16 r_.PC)]⟩, ⟨1, [], .s (.int .i64 code_)⟩, ⟨2, [], .s (.int .u16 w_)⟩] := ⟨⟨fun _ => rfl, fun h => (h trivial).elim⟩, ⟨fun _ => rfl, fun h => (h trivial).elim⟩, ⟨fun _ => rfl, fun h => (h trivial).elim⟩, trivial⟩
  generalize fr0 [.agg [.s (.int .u8 r_.A), .s (.int .u8 r_.B), .s (.int .u8 r_.DP), .s (.int .u8 r_.CC), .s (.int .u16 r_.X), .s (.int .u16 r_.Y), .s (.int .u16 r_.U), .s (.int .u16 r_.S), .s (.int .u16 r_.PC)], .s (.int .i64 code_), .s (.int .u16 w_)] = f at hf ⊢
  unfold spinetref16_Set at h
  refine k_seq ?_
  refine k_reg ?_
  refine mops_en hf (by kernel_rfl) fun f1 hf1 => ?_
  refine k_c ?_
  refine k_seq ?_
  refine k_reg ?_
  refine mops_en hf1 (by kernel_rfl) fun f2 hf2 => ?_
  refine k_c ?_
  refine k_seq ?_
  refine k_seq ?_
  refine k_reg ?_
  refine mops_en hf2 (by kernel_rfl) fun f3 hf3 => ?_
  refine k_c ?_
  refine k_block ?_
  refine k_seq ?_
  refine k_reg ?_
  refine mops_en hf3 (by kernel_rfl) fun f4 hf4 => ?_
  refine k_c ?_
  refine k_cond hf4 (t := (code_ == 0)) (by kernel_rfl) (fun hc1 => ?_) (fun hc1 => ?_)
  · have h := if_t h hc1
    refine k_reg ?_
    refine mops_en hf4 (by kernel_rfl) fun f5 hf5 => ?_
    refine k_b ?_
    refine k_c ?_
    refine k_seq ?_
    refine k_reg ?_
    refine mops_en hf5 (by kernel_rfl) fun f6 hf6 => ?_
    refine k_c ?_
    refine k_ret ?_
    obtain rfl := Option.some.inj h
    exact k_fin (fin_ret (.inl rfl) hf6 (vs := [.agg [.s (.int .u8 (IntKind.wrap .u8 (IntKind.wrap .u16 (Int.tdiv w_ 256)))), .s (.int .u8 (IntKind.wrap .u8 (Int.tmod w_ 256))), .s (.int .u8 r_.DP), .s (.int .u8 r_.CC), .s (.int .u16 r_.X), .s (.int .u16 r_.Y), .s (.int .u16 r_.U), .s (.int .u16 r_.S), .s (.int .u16 r_.PC)]]) (by kernel_rfl) (SettL.pure (FzL.stat rfl)))
  · have h := if_f h hc1
    refine k_seq ?_
    refine k_reg ?_
    refine mops_en hf4 (by kernel_rfl) fun f5 hf5 => ?_
    refine k_c ?_
    refine k_cond hf5 (t := (code_ == 1)) (by kernel_rfl) (fun hc2 => ?_) (fun hc2 => ?_)
    · have h := if_t h hc2
      refine k_reg ?_
      refine mops_en hf5 (by kernel_rfl) fun f6 hf6 => ?_
      refine k_b ?_
      refine k_c ?_
      refine k_seq ?_
      refine k_reg ?_
      refine mops_en hf6 (by kernel_rfl) fun f7 hf7 => ?_
      refine k_c ?_
      refine k_ret ?_
      obtain rfl := Option.some.inj h
      exact k_fin (fin_ret (.inl rfl) hf7 (vs := [.agg [.s (.int .u8 r_.A), .s (.int .u8 r_.B), .s (.int .u8 r_.DP), .s (.int .u8 r_.CC), .s (.int .u16 w_), .s (.int .u16 r_.Y), .s (.int .u16 r_.U), .s (.int .u16 r_.S), .s (.int .u16 r_.PC)]]) (by kernel_rfl) (SettL.pure (FzL.stat rfl)))
    · have h := if_f h hc2
      refine k_seq ?_
      refine k_reg ?_
      refine mops_en hf5 (by kernel_rfl) fun f6 hf6 => ?_
      refine k_c ?_
      refine k_cond hf6 (t := (code_ == 2)) (by kernel_rfl) (fun hc3 => ?_) (fun hc3 => ?_)
      · have h := if_t h hc3
        refine k_reg ?_
        refine mops_en hf6 (by kernel_rfl) fun f7 hf7 => ?_
        refine k_b ?_
        refine k_c ?_
        refine k_seq ?_
        refine k_reg ?_
        refine mops_en hf7 (by kernel_rfl) fun f8 hf8 => ?_
        refine k_c ?_
        refine k_ret ?_
        obtain rfl := Option.some.inj h
        exact k_fin (fin_ret (.inl rfl) hf8 (vs := [.agg [.s (.int .u8 r_.A), .s (.int .u8 r_.B), .s (.int .u8 r_.DP), .s (.int .u8 r_.CC), .s (.int .u16 r_.X), .s (.int .u16 w_), .s (.int .u16 r_.U), .s (.int .u16 r_.S), .s (.int .u16 r_.PC)]]) (by kernel_rfl) (SettL.pure (FzL.stat rfl)))
      · have h := if_f h hc3
        refine k_seq ?_
        refine k_reg ?_
        refine mops_en hf6 (by kernel_rfl) fun f7 hf7 => ?_
        refine k_c ?_
        refine k_cond hf7 (t := (code_ == 3)) (by kernel_rfl) (fun hc4 => ?_) (fun hc4 => ?_)
        · have h := if_t h hc4
          refine k_reg ?_
          refine mops_en hf7 (by kernel_rfl) fun f8 hf8 => ?_
          refine k_b ?_
          refine k_c ?_
          refine k_seq ?_
          refine k_reg ?_
          refine mops_en hf8 (by kernel_rfl) fun f9 hf9 => ?_
          refine k_c ?_
          refine k_ret ?_
          obtain rfl := Option.some.inj h
          exact k_fin (fin_ret (.inl rfl) hf9 (vs := [.agg [.s (.int .u8 r_.A), .s (.int .u8 r_.B), .s (.int .u8 r_.DP), .s (.int .u8 r_.CC), .s (.int .u16 r_.X), .s (.int .u16 r_.Y), .s (.int .u16 w_), .s (.int .u16 r_.S), .s (.int .u16 r_.PC)]]) (by kernel_rfl) (SettL.pure (FzL.stat rfl)))
        · have h := if_f h hc4
          refine k_seq ?_
          refine k_reg ?_
          refine mops_en hf7 (by kernel_rfl) fun f8 hf8 => ?_
          refine k_c ?_
          refine k_cond hf8 (t := (code_ == 4)) (by kernel_rfl) (fun hc5 => ?_) (fun hc5 => ?_)
          · have h := if_t h hc5
            refine k_reg ?_
            refine mops_en hf8 (by kernel_rfl) fun f9 hf9 => ?_
            refine k_b ?_
            refine k_c ?_
            refine k_seq ?_
            refine k_reg ?_
            refine mops_en hf9 (by kernel_rfl) fun f10 hf10 => ?_
            refine k_c ?_
            refine k_ret ?_
            obtain rfl := Option.some.inj h
            exact k_fin (fin_ret (.inl rfl) hf10 (vs := [.agg [.s (.int .u8 r_.A), .s (.int .u8 r_.B), .s (.int .u8 r_.DP), .s (.int .u8 r_.CC), .s (.int .u16 r_.X), .s (.int .u16 r_.Y), .s (.int .u16 r_.U), .s (.int .u16 w_), .s (.int .u16 r_.PC)]]) (by kernel_rfl) (SettL.pure (FzL.stat rfl)))
          · have h := if_f h hc5
            refine k_seq ?_
            refine k_reg ?_
            refine mops_en hf8 (by kernel_rfl) fun f9 hf9 => ?_
            refine k_c ?_
            refine k_cond hf9 (t := (code_ == 5)) (by kernel_rfl) (fun hc6 => ?_) (fun hc6 => ?_)
            · have h := if_t h hc6
              refine k_reg ?_
              refine mops_en hf9 (by kernel_rfl) fun f10 hf10 => ?_
              refine k_b ?_
              refine k_c ?_
              refine k_seq ?_
              refine k_reg ?_
              refine mops_en hf10 (by kernel_rfl) fun f11 hf11 => ?_
              refine k_c ?_
              refine k_ret ?_
              obtain rfl := Option.some.inj h
              exact k_fin (fin_ret (.inl rfl) hf11 (vs := [.agg [.s (.int .u8 r_.A), .s (.int .u8 r_.B), .s (.int .u8 r_.DP), .s (.int .u8 r_.CC), .s (.int .u16 r_.X), .s (.int .u16 r_.Y), .s (.int .u16 r_.U), .s (.int .u16 r_.S), .s (.int .u16 w_)]]) (by kernel_rfl) (SettL.pure (FzL.stat rfl)))
            · have h := if_f h hc6
              refine k_seq ?_
              refine k_reg ?_
              refine mops_en hf9 (by kernel_rfl) fun f10 hf10 => ?_
              refine k_c ?_
              refine k_cond hf10 (t := (code_ == 8)) (by kernel_rfl) (fun hc7 => ?_) (fun hc7 => ?_)
              · have h := if_t h hc7
                refine k_reg ?_
                refine mops_en hf10 (by kernel_rfl) fun f11 hf11 => ?_
                refine k_b ?_
                refine k_c ?_
                refine k_seq ?_
                refine k_reg ?_
                refine mops_en hf11 (by kernel_rfl) fun f12 hf12 => ?_
                refine k_c ?_
                refine k_ret ?_
                obtain rfl := Option.some.inj h
                exact k_fin (fin_ret (.inl rfl) hf12 (vs := [.agg [.s (.int .u8 (IntKind.wrap .u8 (Int.tmod w_ 256))), .s (.int .u8 r_.B), .s (.int .u8 r_.DP), .s (.int .u8 r_.CC), .s (.int .u16 r_.X), .s (.int .u16 r_.Y), .s (.int .u16 r_.U), .s (.int .u16 r_.S), .s (.int .u16 r_.PC)]]) (by kernel_rfl) (SettL.pure (FzL.stat rfl)))
              · have h := if_f h hc7
                refine k_seq ?_
                refine k_reg ?_
                refine mops_en hf10 (by kernel_rfl) fun f11 hf11 => ?_
                refine k_c ?_
                refine k_cond hf11 (t := (code_ == 9)) (by kernel_rfl) (fun hc8 => ?_) (fun hc8 => ?_)
                · have h := if_t h hc8
                  refine k_reg ?_
                  refine mops_en hf11 (by kernel_rfl) fun f12 hf12 => ?_
                  refine k_b ?_
                  refine k_c ?_
                  refine k_seq ?_
                  refine k_reg ?_
                  refine mops_en hf12 (by kernel_rfl) fun f13 hf13 => ?_
                  refine k_c ?_
                  refine k_ret ?_
                  obtain rfl := Option.some.inj h
                  exact k_fin (fin_ret (.inl rfl) hf13 (vs := [.agg [.s (.int .u8 r_.A), .s (.int .u8 (IntKind.wrap .u8 (Int.tmod w_ 256))), .s (.int .u8 r_.DP), .s (.int .u8 r_.CC), .s (.int .u16 r_.X), .s (.int .u16 r_.Y), .s (.int .u16 r_.U), .s (.int .u16 r_.S), .s (.int .u16 r_.PC)]]) (by kernel_rfl) (SettL.pure (FzL.stat rfl)))
                · have h := if_f h hc8
                  refine k_seq ?_
                  refine k_reg ?_
                  refine mops_en hf11 (by kernel_rfl) fun f12 hf12 => ?_
                  refine k_c ?_
                  refine k_cond hf12 (t := (code_ == 10)) (by kernel_rfl) (fun hc9 => ?_) (fun hc9 => ?_)
                  · have h := if_t h hc9
                    refine k_reg ?_
                    refine mops_en hf12 (by kernel_rfl) fun f13 hf13 => ?_
                    refine k_b ?_
                    refine k_c ?_
                    refine k_seq ?_
                    refine k_reg ?_
                    refine mops_end [6] hf13 (l' := [⟨6, [], .ptr 1 0 0⟩]) (L' := [⟨0, .mem, 1, [.s (.int .u8 r_.A), .s (.int .u8 r_.B), .s (.int .u8 r_.DP), .s (.int .u8 (IntKind.wrap .u8 (Int.tmod w_ 256))), .s (.int .u16 r_.X), .s (.int .u16 r_.Y), .s (.int .u16 r_.U), .s (.int .u16 r_.S), .s (.int .u16 r_.PC)]⟩, ⟨0, .mem, 1, [.s (.int .u8 r_.A), .s (.int .u8 r_.B), .s (.int .u8 r_.DP), .s (.int .u8 (IntKind.wrap .u8 (Int.tmod w_ 256))), .s (.int .u16 r_.X), .s (.int .u16 r_.Y), .s (.int .u16 r_.U), .s (.int .u16 r_.S), .s (.int .u16 r_.PC)]⟩]) (by kernel_rfl) fun f14 hf14 => ?_
                    refine k_c ?_
                    refine k_ret ?_
                    obtain rfl := Option.some.inj h
                    exact k_fin (fin_ret (.inl rfl) hf14 (vs := [.agg [.s (.int .u8 r_.A), .s (.int .u8 r_.B), .s (.int .u8 r_.DP), .s (.int .u8 (IntKind.wrap .u8 (Int.tmod w_ 256))), .s (.int .u16 r_.X), .s (.int .u16 r_.Y), .s (.int .u16 r_.U), .s (.int .u16 r_.S), .s (.int .u16 r_.PC)]]) (by kernel_rfl) (SettL.pure (FzL.stat rfl)))
                  · have h := if_f h hc9
                    refine k_seq ?_
                    refine k_reg ?_
                    refine mops_en hf12 (by kernel_rfl) fun f13 hf13 => ?_
                    refine k_c ?_
                    refine k_cond hf13 (t := (code_ == 11)) (by kernel_rfl) (fun hc10 => ?_) (fun hc10 => ?_)
                    · have h := if_t h hc10
                      refine k_reg ?_
                      refine mops_end [3, 6] hf13 (l' := [⟨3, [], .ptr 0 0 0⟩, ⟨6, [], .ptr 1 0 0⟩]) (L' := [⟨0, .mem, 1, [.s (.int .u8 r_.A), .s (.int .u8 r_.B), .s (.int .u8 (IntKind.wrap .u8 (Int.tmod w_ 256))), .s (.int .u8 r_.CC), .s (.int .u16 r_.X), .s (.int .u16 r_.Y), .s (.int .u16 r_.U), .s (.int .u16 r_.S), .s (.int .u16 r_.PC)]⟩, ⟨0, .mem, 1, [.s (.int .u8 0), .s (.int .u8 0), .s (.int .u8 0), .s (.int .u8 0), .s (.int .u16 0), .s (.int .u16 0), .s (.int .u16 0), .s (.int .u16 0), .s (.int .u16 0)]⟩]) (by kernel_rfl) fun f14 hf14 => ?_
                      refine k_b ?_
                      refine k_c ?_
                      refine k_seq ?_
                      refine k_reg ?_
                      refine mops_en hf14 (by kernel_rfl) fun f15 hf15 => ?_
                      refine k_c ?_
                      refine k_ret ?_
                      obtain rfl := Option.some.inj h
                      exact k_fin (fin_ret (.inl rfl) hf15 (vs := [.agg [.s (.int .u8 r_.A), .s (.int .u8 r_.B), .s (.int .u8 (IntKind.wrap .u8 (Int.tmod w_ 256))), .s (.int .u8 r_.CC), .s (.int .u16 r_.X), .s (.int .u16 r_.Y), .s (.int .u16 r_.U), .s (.int .u16 r_.S), .s (.int .u16 r_.PC)]]) (by kernel_rfl) (SettL.pure (FzL.stat rfl)))
                    · have h := if_f h hc10
                      refine k_skip ?_
                      refine k_b ?_
                      refine k_c ?_
                      refine k_seq ?_
                      refine k_reg ?_
                      refine mops_end [6] hf13 (l' := [⟨6, [], .ptr 1 0 0⟩]) (L' := [⟨0, .mem, 1, [.s (.int .u8 r_.A), .s (.int .u8 r_.B), .s (.int .u8 r_.DP), .s (.int .u8 r_.CC), .s (.int .u16 r_.X), .s (.int .u16 r_.Y), .s (.int .u16 r_.U), .s (.int .u16 r_.S), .s (.int .u16 r_.PC)]⟩, ⟨0, .mem, 1, [.s (.int .u8 r_.A), .s (.int .u8 r_.B), .s (.int .u8 r_.DP), .s (.int .u8 r_.CC), .s (.int .u16 r_.X), .s (.int .u16 r_.Y), .s (.int .u16 r_.U), .s (.int .u16 r_.S), .s (.int .u16 r_.PC)]⟩]) (by kernel_rfl) fun f14 hf14 => ?_
                      refine k_c ?_
                      refine k_ret ?_
                      obtain rfl := Option.some.inj h
                      exact k_fin (fin_ret (.inl rfl) hf14 (vs := [.agg [.s (.int .u8 r_.A), .s (.int .u8 r_.B), .s (.int .u8 r_.DP), .s (.int .u8 r_.CC), .s (.int .u16 r_.X), .s (.int .u16 r_.Y), .s (.int .u16 r_.U), .s (.int .u16 r_.S), .s (.int .u16 r_.PC)]]) (by kernel_rfl) (SettL.pure (FzL.stat rfl)))
end Go.Proofs.YtiedenhkailolaaDoorK
