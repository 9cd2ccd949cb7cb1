/- The Go functions come to the functions over typed data. Printed by a program of this work. -/
import Derived.Test.YtiedenhkailolaaDoorF
import Derived.Test.YtiedenhkailolaaDoorProg
import Derived.Test.YtiedenhkailolaaDoorSf
namespace Go.Proofs.YtiedenhkailolaaDoorK
set_option linter.unusedVariables false
set_option linter.unusedSimpArgs false
set_option maxHeartbeats 4000000
open Go.RowKit
attribute [local irreducible] dwv mops lops lqops lwops kont iter run runK rk okK ex E1 vals val chain chB sel resF
def unicode_utf8_DecodeRuneInString_i0 : List Op1 := [(oM 2 (.k (.int .i32 0)) []), (oM 3 (.k (.int .i64 0)) [0])]
def unicode_utf8_DecodeRuneInString_i1 : List Op1 := [(oM 4 (.t 0) []), (oE 5 (.bin .neq (.t 4) (.k (.string ⟨#[]⟩))) [0]), (oM 6 (.t 5) [1]), (oG 7 (.mv (.t 0)) 6 true [2]), (oG 8 (.ixs (.t 7) (.k (.int .i64 0))) 6 true [3, 2]), (oG 9 (.bin .lss (.t 8) (.k (.int .u8 128))) 6 true [4, 2]), (oE 10 (.pick (.t 6) (.t 9) (.k (.bool false))) [2, 5])]
def unicode_utf8_DecodeRuneInString_i2 : List Op1 := [(oM 11 (.t 0) []), (oE 12 (.ixs (.t 11) (.k (.int .i64 0))) [0]), (oE 13 (.cint .i32 (.t 12)) [1]), (oM 2 (.t 13) [2, 0, 1, 2]), (oM 3 (.k (.int .i64 1)) [3, 0, 1, 2, 3])]
def unicode_utf8_DecodeRuneInString_i3 : IR := .ret
def unicode_utf8_DecodeRuneInString_i4 : List Op1 := [(oM 15 (.t 0) []), (oC 16 50 [(.t 15)] [0]), (oM 14 (.t 16) [1]), (oE 17 (.ext 0 (.t 14)) [2]), (oE 18 (.ext 1 (.t 14)) [2]), (oM 2 (.t 17) [3, 1, 0, 1, 2, 3]), (oM 3 (.t 18) [4, 5, 0, 1, 2, 3, 4, 5])]
def unicode_utf8_DecodeRuneInString_i5 : IR := (.cond (.t 10) (.seq (.reg false unicode_utf8_DecodeRuneInString_i2) unicode_utf8_DecodeRuneInString_i3) (.reg false unicode_utf8_DecodeRuneInString_i4))
def unicode_utf8_DecodeRuneInString_i6 : IR := .ret
def unicode_utf8_DecodeRuneInString_i7 : IR := (.seq (.seq (.reg false unicode_utf8_DecodeRuneInString_i1) unicode_utf8_DecodeRuneInString_i5) unicode_utf8_DecodeRuneInString_i6)
def unicode_utf8_DecodeRuneInString_ir : IR := (.seq (.reg false unicode_utf8_DecodeRuneInString_i0) unicode_utf8_DecodeRuneInString_i7)
theorem unicode_utf8_DecodeRuneInString_cfn : cFn Tryd.prog 45 = some (unicode_utf8_DecodeRuneInString_ir, [(.t 2), (.t 3)], 19) := by kernel_rfl
def unicode_utf8_DecodeRuneInString_V (r : (Int × Int)) : V := .tup [.s (.int .i32 r.1), .s (.int .i64 r.2)]
def unicode_utf8_DecodeRuneInString_C (r : (Int × Int)) : X → Fr → Hp → Prop := FinL [(.t 2), (.t 3)] [] (unicode_utf8_DecodeRuneInString_V r) []
theorem unicode_utf8_DecodeRuneInString_ok (s_ : ByteArray) (r : (Int × Int)) (h : unicode_utf8_DecodeRuneInString s_ = some r) : Pure Tryd.prog 45 [.s (.string s_)] (unicode_utf8_DecodeRuneInString_V r) := by
  refine ConL.of unicode_utf8_DecodeRuneInString_cfn (Nat.le_of_ble_eq_true (by kernel_rfl)) (Nat.le_of_ble_eq_true (by kernel_rfl)) ?_
  refine k_start ?_
  show dwv Tryd.prog [] unicode_utf8_DecodeRuneInString_ir (kont Tryd.prog [] (unicode_utf8_DecodeRuneInString_C r) []) (fr0 [.s (.string s_)]) []
  have hf : FOk (fr0 [.s (.string s_)]) [⟨0, [], .s (.string s_)⟩] := ⟨⟨fun _ => rfl, fun h => (h trivial).elim⟩, trivial⟩
  generalize fr0 [.s (.string s_)] = f at hf ⊢
  unfold unicode_utf8_DecodeRuneInString at h
  refine k_seq ?_
  refine k_reg ?_
  refine mops_en hf (by kernel_rfl) fun f1 hf1 => ?_
  refine k_c ?_
  refine k_seq ?_
  refine k_seq ?_
  refine k_reg ?_
  refine mops_sg 4 hf1 (by kernel_rfl) fun f2 hf2 => ?_
  obtain ⟨c1, h⟩ := as_ok h
  refine mops_gadv (dst := (some 8)) (op := (.ixs (.t 7) (.k (.int .i64 0)))) (aft := [3, 2]) (t := 6) (w := true) (ch := [(6, true)]) (b := (!(s_.toList == (⟨#[]⟩ : ByteArray).toList))) (v := .s (.int .u8 (bt s_ (0)))) (by kernel_rfl) hf2 (by kernel_rfl) (by kernel_rfl) (by kernel_rfl) (fun hb2 => e_ixs (t := s_) (k := .i64) (iv := 0) (by kernel_rfl) (by kernel_rfl) (c1 hb2)) fun f3 hf3 => ?_
  refine mops_en hf3 (by kernel_rfl) fun f4 hf4 => ?_
  refine k_c ?_
  refine k_cond hf4 (t := ((!(s_.toList == (⟨#[]⟩ : ByteArray).toList)) && (decide ((bt s_ (0)) < 128)))) (by kernel_rfl) (fun hc3 => ?_) (fun hc3 => ?_)
  · have h := if_t h hc3
    refine k_seq ?_
    refine k_reg ?_
    refine mops_sg 1 hf4 (by kernel_rfl) fun f5 hf5 => ?_
    obtain ⟨c4, h⟩ := as_ok h
    refine mops_adv rfl (v := .s (.int .u8 (bt s_ (0)))) hf5 (by kernel_rfl) (e_ixs (t := s_) (k := .i64) (iv := 0) (by kernel_rfl) (by kernel_rfl) c4) fun f6 hf6 => ?_
    refine mops_en hf6 (by kernel_rfl) fun f7 hf7 => ?_
    refine k_c ?_
    refine k_ret ?_
    refine x_c nofun ?_
    obtain rfl := Option.some.inj h
    exact k_fin (fin_ret (.inl rfl) hf7 (vs := [.s (.int .i32 (IntKind.wrap .i32 (bt s_ (0)))), .s (.int .i64 1)]) (by kernel_rfl) (SettL.pure (FzL.tup (FzsL.cons (FzL.stat rfl) (FzsL.cons (FzL.stat rfl) FzsL.nil)))))
  · have h := if_f h hc3
    cases h
def strings_Index_i0 : List Op1 := [(oM 4 (.k (.int .i64 0)) [])]
def strings_Index_i1 : List Op1 := [(oM 5 (.t 0) []), (oM 6 (.t 1) []), (oC 7 47 [(.t 5), (.t 6)] [0, 1]), (oM 4 (.t 7) [2, 2, 0, 1, 2])]
def strings_Index_i2 : IR := .ret
def strings_Index_i3 : IR := (.seq (.reg false strings_Index_i1) strings_Index_i2)
def strings_Index_ir : IR := (.seq (.reg false strings_Index_i0) strings_Index_i3)
theorem strings_Index_cfn : cFn Tryd.prog 41 = some (strings_Index_ir, [(.t 4)], 8) := by kernel_rfl
def strings_Index_V (r : (Int)) : V := .s (.int .i64 r)
def strings_Index_C (r : (Int)) : X → Fr → Hp → Prop := FinL [(.t 4)] [] (strings_Index_V r) []
theorem strings_Index_ok (s_ : ByteArray) (substr_ : ByteArray) (r : (Int)) (h : strings_Index s_ substr_ = some r) : Pure Tryd.prog 41 [.s (.string s_), .s (.string substr_)] (strings_Index_V r) := by
  refine ConL.of strings_Index_cfn (Nat.le_of_ble_eq_true (by kernel_rfl)) (Nat.le_of_ble_eq_true (by kernel_rfl)) ?_
  refine k_start ?_
  show dwv Tryd.prog [] strings_Index_ir (kont Tryd.prog [] (strings_Index_C r) []) (fr0 [.s (.string s_), .s (.string substr_)]) []
  have hf : FOk (fr0 [.s (.string s_), .s (.string substr_)]) [⟨0, [], .s (.string s_)⟩, ⟨1, [], .s (.string substr_)⟩] := ⟨⟨fun _ => rfl, fun h => (h trivial).elim⟩, ⟨fun _ => rfl, fun h => (h trivial).elim⟩, trivial⟩
  generalize fr0 [.s (.string s_), .s (.string substr_)] = f at hf ⊢
  unfold strings_Index at h
  refine k_seq ?_
  refine k_reg ?_
  refine mops_en hf (by kernel_rfl) fun f1 hf1 => ?_
  refine k_c ?_
  refine k_seq ?_
  refine k_reg ?_
  refine mops_sg 2 hf1 (by kernel_rfl) fun f2 hf2 => ?_
  obtain ⟨r_, hx_r_, h⟩ := Option.bind_eq_some_iff.1 h
  refine mops_call rfl hf2 (av := [.s (.string s_), .s (.string substr_)]) (by kernel_rfl) (v := .s (.int .i64 r_)) (CalL.pure (internal_stringslite_Index_ok s_ substr_ r_ hx_r_) rfl rfl (Nat.le_of_ble_eq_true (by kernel_rfl))) (fun _ => rfl) fun f3 hf3 => ?_
  refine mops_en hf3 (by kernel_rfl) fun f4 hf4 => ?_
  refine k_c ?_
  refine k_ret ?_
  obtain rfl := Option.some.inj h
  exact k_fin (fin_ret (.inl rfl) hf4 (vs := [.s (.int .i64 r_)]) (by kernel_rfl) (SettL.pure (FzL.stat rfl)))
def lists_regs_i0 : List Op1 := [(oE 2 (.zero [(.int .i64 0), (.int .i64 0), (.int .i64 0), (.int .i64 0), (.int .i64 0), (.int .i64 0), (.int .i64 0), (.int .i64 0)]) [])]
def lists_regs_i1 : List Op1 := [(oE 4 (.build [(.int .i64 0), (.int .i64 0), (.int .i64 0), (.int .i64 0), (.int .i64 0), (.int .i64 0), (.int .i64 0), (.int .i64 0)] [(0, (1, (.k (.int .i64 10)))), (1, (1, (.k (.int .i64 8)))), (2, (1, (.k (.int .i64 9)))), (3, (1, (.k (.int .i64 11)))), (4, (1, (.k (.int .i64 1)))), (5, (1, (.k (.int .i64 2)))), (6, (1, (.k (.int .i64 3)))), (7, (1, (.k (.int .i64 5))))]) []), (oE 3 (.zero [(.int .i64 0), (.int .i64 0), (.int .i64 0), (.int .i64 0), (.int .i64 0), (.int .i64 0), (.int .i64 0), (.int .i64 0)]) []), (oN (.store 8 (.t 3) (.t 4)) [1, 0, 0, 1])]
def lists_regs_i2 : List Op1 := [(oM 5 (.t 0) []), (oE 6 (.bin .eql (.t 5) (.k (.int .i64 3))) [0])]
def lists_regs_i3 : List Op1 := [(oE 7 (.iaa 8 1 (.t 3) (.k (.int .i64 6))) []), (oN (.store 1 (.t 7) (.k (.int .i64 4))) [0])]
def lists_regs_i4 : IR := (.cond (.t 6) (.reg false lists_regs_i3) .skip)
def lists_regs_i5 : List Op1 := [(oE 8 (.load true 8 (.t 3)) []), (oN (.store 8 (.t 2) (.t 8)) [0, 0])]
def lists_regs_i6 : IR := .ret
def lists_regs_i7 : IR := (.seq (.reg false lists_regs_i5) lists_regs_i6)
def lists_regs_i8 : IR := (.seq (.seq (.reg false lists_regs_i2) lists_regs_i4) lists_regs_i7)
def lists_regs_i9 : IR := (.seq (.reg false lists_regs_i1) lists_regs_i8)
def lists_regs_ir : IR := (.seq (.reg false lists_regs_i0) lists_regs_i9)
theorem lists_regs_cfn : cFn Tryd.prog 23 = some (lists_regs_ir, [(.c 2 true 8)], 9) := by kernel_rfl
def lists_regs_V (r : (A8_i64)) : V := .agg [.s (.int .i64 r.a0), .s (.int .i64 r.a1), .s (.int .i64 r.a2), .s (.int .i64 r.a3), .s (.int .i64 r.a4), .s (.int .i64 r.a5), .s (.int .i64 r.a6), .s (.int .i64 r.a7)]
def lists_regs_C (r : (A8_i64)) : X → Fr → Hp → Prop := FinL [(.c 2 true 8)] [] (lists_regs_V r) []
theorem lists_regs_ok (stack_ : Int) (r : (A8_i64)) (h : lists_regs stack_ = some r) : Pure Tryd.prog 23 [.s (.int .i64 stack_)] (lists_regs_V r) := by
  refine ConL.of lists_regs_cfn (Nat.le_of_ble_eq_true (by kernel_rfl)) (Nat.le_of_ble_eq_true (by kernel_rfl)) ?_
  refine k_start ?_
  show dwv Tryd.prog [] lists_regs_ir (kont Tryd.prog [] (lists_regs_C r) []) (fr0 [.s (.int .i64 stack_)]) []
  have hf : FOk (fr0 [.s (.int .i64 stack_)]) [⟨0, [], .s (.int .i64 stack_)⟩] := ⟨⟨fun _ => rfl, fun h => (h trivial).elim⟩, trivial⟩
  generalize fr0 [.s (.int .i64 stack_)] = f at hf ⊢
  unfold lists_regs at h
  refine k_seq ?_
  refine k_reg ?_
  refine mops_en hf (by kernel_rfl) fun f1 hf1 => ?_
  refine k_c ?_
  refine k_seq ?_
  refine k_reg ?_
  refine mops_en hf1 (by kernel_rfl) fun f2 hf2 => ?_
  refine k_c ?_
  refine k_seq ?_
  refine k_seq ?_
  refine k_reg ?_
  refine mops_en hf2 (by kernel_rfl) fun f3 hf3 => ?_
  refine k_c ?_
  refine k_cond hf3 (t := (stack_ == 3)) (by kernel_rfl) (fun hc1 => ?_) (fun hc1 => ?_)
  · have h := if_t h hc1
    refine k_reg ?_
    refine mops_en hf3 (by kernel_rfl) fun f4 hf4 => ?_
    refine k_c ?_
    refine k_seq ?_
    refine k_reg ?_
    refine mops_en hf4 (by kernel_rfl) fun f5 hf5 => ?_
    refine k_c ?_
    refine k_ret ?_
    obtain rfl := Option.some.inj h
    exact k_fin (fin_ret (.inl rfl) hf5 (vs := [.agg [.s (.int .i64 10), .s (.int .i64 8), .s (.int .i64 9), .s (.int .i64 11), .s (.int .i64 1), .s (.int .i64 2), .s (.int .i64 4), .s (.int .i64 5)]]) (by kernel_rfl) (SettL.pure (FzL.stat rfl)))
  · have h := if_f h hc1
    refine k_skip ?_
    refine k_c ?_
    refine k_seq ?_
    refine k_reg ?_
    refine mops_en hf3 (by kernel_rfl) fun f4 hf4 => ?_
    refine k_c ?_
    refine k_ret ?_
    obtain rfl := Option.some.inj h
    exact k_fin (fin_ret (.inl rfl) hf4 (vs := [.agg [.s (.int .i64 10), .s (.int .i64 8), .s (.int .i64 9), .s (.int .i64 11), .s (.int .i64 1), .s (.int .i64 2), .s (.int .i64 3), .s (.int .i64 5)]]) (by kernel_rfl) (SettL.pure (FzL.stat rfl)))
def ops_Reg_i0 : List Op1 := [(oM 2 (.k (.string ⟨#[]⟩)) [])]
def ops_Reg_i1 : List Op1 := [(oM 3 (.t 0) [])]
def ops_Reg_i2 : List Op1 := [(oE 5 (.bin .eql (.t 3) (.k (.int .i64 0))) []), (oM 4 (.t 5) [0])]
def ops_Reg_i3 : List Op1 := [(oM 2 (.k (.string ⟨#[68]⟩)) [])]
def ops_Reg_i4 : IR := .ret
def ops_Reg_i5 : List Op1 := [(oE 7 (.bin .eql (.t 3) (.k (.int .i64 1))) []), (oM 6 (.t 7) [0])]
def ops_Reg_i6 : List Op1 := [(oM 2 (.k (.string ⟨#[88]⟩)) [])]
def ops_Reg_i7 : IR := .ret
def ops_Reg_i8 : List Op1 := [(oE 9 (.bin .eql (.t 3) (.k (.int .i64 2))) []), (oM 8 (.t 9) [0])]
def ops_Reg_i9 : List Op1 := [(oM 2 (.k (.string ⟨#[89]⟩)) [])]
def ops_Reg_i10 : IR := .ret
def ops_Reg_i11 : List Op1 := [(oE 11 (.bin .eql (.t 3) (.k (.int .i64 3))) []), (oM 10 (.t 11) [0])]
def ops_Reg_i12 : List Op1 := [(oM 2 (.k (.string ⟨#[85]⟩)) [])]
def ops_Reg_i13 : IR := .ret
def ops_Reg_i14 : List Op1 := [(oE 13 (.bin .eql (.t 3) (.k (.int .i64 4))) []), (oM 12 (.t 13) [0])]
def ops_Reg_i15 : List Op1 := [(oM 2 (.k (.string ⟨#[83]⟩)) [])]
def ops_Reg_i16 : IR := .ret
def ops_Reg_i17 : List Op1 := [(oE 15 (.bin .eql (.t 3) (.k (.int .i64 5))) []), (oM 14 (.t 15) [0])]
def ops_Reg_i18 : List Op1 := [(oM 2 (.k (.string ⟨#[80, 67]⟩)) [])]
def ops_Reg_i19 : IR := .ret
def ops_Reg_i20 : List Op1 := [(oE 17 (.bin .eql (.t 3) (.k (.int .i64 8))) []), (oM 16 (.t 17) [0])]
def ops_Reg_i21 : List Op1 := [(oM 2 (.k (.string ⟨#[65]⟩)) [])]
def ops_Reg_i22 : IR := .ret
def ops_Reg_i23 : List Op1 := [(oE 19 (.bin .eql (.t 3) (.k (.int .i64 9))) []), (oM 18 (.t 19) [0])]
def ops_Reg_i24 : List Op1 := [(oM 2 (.k (.string ⟨#[66]⟩)) [])]
def ops_Reg_i25 : IR := .ret
def ops_Reg_i26 : List Op1 := [(oE 21 (.bin .eql (.t 3) (.k (.int .i64 10))) []), (oM 20 (.t 21) [0])]
def ops_Reg_i27 : List Op1 := [(oM 2 (.k (.string ⟨#[67, 67]⟩)) [])]
def ops_Reg_i28 : IR := .ret
def ops_Reg_i29 : List Op1 := [(oE 23 (.bin .eql (.t 3) (.k (.int .i64 11))) []), (oM 22 (.t 23) [0])]
def ops_Reg_i30 : List Op1 := [(oM 2 (.k (.string ⟨#[68, 80]⟩)) [])]
def ops_Reg_i31 : IR := .ret
def ops_Reg_i32 : IR := (.cond (.t 22) (.seq (.reg false ops_Reg_i30) ops_Reg_i31) .skip)
def ops_Reg_i33 : IR := (.cond (.t 20) (.seq (.reg false ops_Reg_i27) ops_Reg_i28) (.seq (.reg false ops_Reg_i29) ops_Reg_i32))
def ops_Reg_i34 : IR := (.cond (.t 18) (.seq (.reg false ops_Reg_i24) ops_Reg_i25) (.seq (.reg false ops_Reg_i26) ops_Reg_i33))
def ops_Reg_i35 : IR := (.cond (.t 16) (.seq (.reg false ops_Reg_i21) ops_Reg_i22) (.seq (.reg false ops_Reg_i23) ops_Reg_i34))
def ops_Reg_i36 : IR := (.cond (.t 14) (.seq (.reg false ops_Reg_i18) ops_Reg_i19) (.seq (.reg false ops_Reg_i20) ops_Reg_i35))
def ops_Reg_i37 : IR := (.cond (.t 12) (.seq (.reg false ops_Reg_i15) ops_Reg_i16) (.seq (.reg false ops_Reg_i17) ops_Reg_i36))
def ops_Reg_i38 : IR := (.cond (.t 10) (.seq (.reg false ops_Reg_i12) ops_Reg_i13) (.seq (.reg false ops_Reg_i14) ops_Reg_i37))
def ops_Reg_i39 : IR := (.cond (.t 8) (.seq (.reg false ops_Reg_i9) ops_Reg_i10) (.seq (.reg false ops_Reg_i11) ops_Reg_i38))
def ops_Reg_i40 : IR := (.cond (.t 6) (.seq (.reg false ops_Reg_i6) ops_Reg_i7) (.seq (.reg false ops_Reg_i8) ops_Reg_i39))
def ops_Reg_i41 : IR := (.cond (.t 4) (.seq (.reg false ops_Reg_i3) ops_Reg_i4) (.seq (.reg false ops_Reg_i5) ops_Reg_i40))
def ops_Reg_i42 : IR := (.block 0 (.seq (.reg false ops_Reg_i2) ops_Reg_i41))
def ops_Reg_i43 : List Op1 := [(oM 2 (.k (.string ⟨#[]⟩)) [])]
def ops_Reg_i44 : IR := .ret
def ops_Reg_i45 : IR := (.seq (.reg false ops_Reg_i43) ops_Reg_i44)
def ops_Reg_i46 : IR := (.seq (.seq (.reg false ops_Reg_i1) ops_Reg_i42) ops_Reg_i45)
def ops_Reg_ir : IR := (.seq (.reg false ops_Reg_i0) ops_Reg_i46)
theorem ops_Reg_cfn : cFn Tryd.prog 32 = some (ops_Reg_ir, [(.t 2)], 24) := by kernel_rfl
def ops_Reg_V (r : (ByteArray)) : V := .s (.string r)
def ops_Reg_C (r : (ByteArray)) : X → Fr → Hp → Prop := FinL [(.t 2)] [] (ops_Reg_V r) []
theorem ops_Reg_ok (code_ : Int) (r : (ByteArray)) (h : ops_Reg code_ = some r) : Pure Tryd.prog 32 [.s (.int .i64 code_)] (ops_Reg_V r) := by
  refine ConL.of ops_Reg_cfn (Nat.le_of_ble_eq_true (by kernel_rfl)) (Nat.le_of_ble_eq_true (by kernel_rfl)) ?_
  refine k_start ?_
  show dwv Tryd.prog [] ops_Reg_ir (kont Tryd.prog [] (ops_Reg_C r) []) (fr0 [.s (.int .i64 code_)]) []
  have hf : FOk (fr0 [.s (.int .i64 code_)]) [⟨0, [], .s (.int .i64 code_)⟩] := ⟨⟨fun _ => rfl, fun h => (h trivial).elim⟩, trivial⟩
  generalize fr0 [.s (.int .i64 code_)] = f at hf ⊢
  unfold ops_Reg at h
  refine k_seq ?_
  refine k_reg ?_
  refine mops_en hf (by kernel_rfl) fun f1 hf1 => ?_
  refine k_c ?_
  refine k_seq ?_
  refine k_seq ?_
  refine k_reg ?_
  refine mops_en hf1 (by kernel_rfl) fun f2 hf2 => ?_
  refine k_c ?_
  refine k_block ?_
  refine k_seq ?_
  refine k_reg ?_
  refine mops_en hf2 (by kernel_rfl) fun f3 hf3 => ?_
  refine k_c ?_
  refine k_cond hf3 (t := (code_ == 0)) (by kernel_rfl) (fun hc1 => ?_) (fun hc1 => ?_)
  · have h := if_t h hc1
    refine k_seq ?_
    refine k_reg ?_
    refine mops_en hf3 (by kernel_rfl) fun f4 hf4 => ?_
    refine k_c ?_
    refine k_ret ?_
    refine x_br ?_
    refine x_c nofun ?_
    obtain rfl := Option.some.inj h
    exact k_fin (fin_ret (.inl rfl) hf4 (vs := [.s (.string (⟨#[68]⟩ : ByteArray))]) (by kernel_rfl) (SettL.pure (FzL.stat rfl)))
  · have h := if_f h hc1
    refine k_seq ?_
    refine k_reg ?_
    refine mops_en hf3 (by kernel_rfl) fun f4 hf4 => ?_
    refine k_c ?_
    refine k_cond hf4 (t := (code_ == 1)) (by kernel_rfl) (fun hc2 => ?_) (fun hc2 => ?_)
    · have h := if_t h hc2
      refine k_seq ?_
      refine k_reg ?_
      refine mops_en hf4 (by kernel_rfl) fun f5 hf5 => ?_
      refine k_c ?_
      refine k_ret ?_
      refine x_br ?_
      refine x_c nofun ?_
      obtain rfl := Option.some.inj h
      exact k_fin (fin_ret (.inl rfl) hf5 (vs := [.s (.string (⟨#[88]⟩ : ByteArray))]) (by kernel_rfl) (SettL.pure (FzL.stat rfl)))
    · have h := if_f h hc2
      refine k_seq ?_
      refine k_reg ?_
      refine mops_en hf4 (by kernel_rfl) fun f5 hf5 => ?_
      refine k_c ?_
      refine k_cond hf5 (t := (code_ == 2)) (by kernel_rfl) (fun hc3 => ?_) (fun hc3 => ?_)
      · have h := if_t h hc3
        refine k_seq ?_
        refine k_reg ?_
        refine mops_en hf5 (by kernel_rfl) fun f6 hf6 => ?_
        refine k_c ?_
        refine k_ret ?_
        refine x_br ?_
        refine x_c nofun ?_
        obtain rfl := Option.some.inj h
        exact k_fin (fin_ret (.inl rfl) hf6 (vs := [.s (.string (⟨#[89]⟩ : ByteArray))]) (by kernel_rfl) (SettL.pure (FzL.stat rfl)))
      · have h := if_f h hc3
        refine k_seq ?_
        refine k_reg ?_
        refine mops_en hf5 (by kernel_rfl) fun f6 hf6 => ?_
        refine k_c ?_
        refine k_cond hf6 (t := (code_ == 3)) (by kernel_rfl) (fun hc4 => ?_) (fun hc4 => ?_)
        · have h := if_t h hc4
          refine k_seq ?_
          refine k_reg ?_
          refine mops_en hf6 (by kernel_rfl) fun f7 hf7 => ?_
          refine k_c ?_
          refine k_ret ?_
          refine x_br ?_
          refine x_c nofun ?_
          obtain rfl := Option.some.inj h
          exact k_fin (fin_ret (.inl rfl) hf7 (vs := [.s (.string (⟨#[85]⟩ : ByteArray))]) (by kernel_rfl) (SettL.pure (FzL.stat rfl)))
        · have h := if_f h hc4
          refine k_seq ?_
          refine k_reg ?_
          refine mops_en hf6 (by kernel_rfl) fun f7 hf7 => ?_
          refine k_c ?_
          refine k_cond hf7 (t := (code_ == 4)) (by kernel_rfl) (fun hc5 => ?_) (fun hc5 => ?_)
          · have h := if_t h hc5
            refine k_seq ?_
            refine k_reg ?_
            refine mops_en hf7 (by kernel_rfl) fun f8 hf8 => ?_
            refine k_c ?_
            refine k_ret ?_
            refine x_br ?_
            refine x_c nofun ?_
            obtain rfl := Option.some.inj h
            exact k_fin (fin_ret (.inl rfl) hf8 (vs := [.s (.string (⟨#[83]⟩ : ByteArray))]) (by kernel_rfl) (SettL.pure (FzL.stat rfl)))
          · have h := if_f h hc5
            refine k_seq ?_
            refine k_reg ?_
            refine mops_en hf7 (by kernel_rfl) fun f8 hf8 => ?_
            refine k_c ?_
            refine k_cond hf8 (t := (code_ == 5)) (by kernel_rfl) (fun hc6 => ?_) (fun hc6 => ?_)
            · have h := if_t h hc6
              refine k_seq ?_
              refine k_reg ?_
              refine mops_en hf8 (by kernel_rfl) fun f9 hf9 => ?_
              refine k_c ?_
              refine k_ret ?_
              refine x_br ?_
              refine x_c nofun ?_
              obtain rfl := Option.some.inj h
              exact k_fin (fin_ret (.inl rfl) hf9 (vs := [.s (.string (⟨#[80, 67]⟩ : ByteArray))]) (by kernel_rfl) (SettL.pure (FzL.stat rfl)))
            · have h := if_f h hc6
              refine k_seq ?_
              refine k_reg ?_
              refine mops_en hf8 (by kernel_rfl) fun f9 hf9 => ?_
              refine k_c ?_
              refine k_cond hf9 (t := (code_ == 8)) (by kernel_rfl) (fun hc7 => ?_) (fun hc7 => ?_)
              · have h := if_t h hc7
                refine k_seq ?_
                refine k_reg ?_
                refine mops_en hf9 (by kernel_rfl) fun f10 hf10 => ?_
                refine k_c ?_
                refine k_ret ?_
                refine x_br ?_
                refine x_c nofun ?_
                obtain rfl := Option.some.inj h
                exact k_fin (fin_ret (.inl rfl) hf10 (vs := [.s (.string (⟨#[65]⟩ : ByteArray))]) (by kernel_rfl) (SettL.pure (FzL.stat rfl)))
              · have h := if_f h hc7
                refine k_seq ?_
                refine k_reg ?_
                refine mops_en hf9 (by kernel_rfl) fun f10 hf10 => ?_
                refine k_c ?_
                refine k_cond hf10 (t := (code_ == 9)) (by kernel_rfl) (fun hc8 => ?_) (fun hc8 => ?_)
                · have h := if_t h hc8
                  refine k_seq ?_
                  refine k_reg ?_
                  refine mops_en hf10 (by kernel_rfl) fun f11 hf11 => ?_
                  refine k_c ?_
                  refine k_ret ?_
                  refine x_br ?_
                  refine x_c nofun ?_
                  obtain rfl := Option.some.inj h
                  exact k_fin (fin_ret (.inl rfl) hf11 (vs := [.s (.string (⟨#[66]⟩ : ByteArray))]) (by kernel_rfl) (SettL.pure (FzL.stat rfl)))
                · have h := if_f h hc8
                  refine k_seq ?_
                  refine k_reg ?_
                  refine mops_en hf10 (by kernel_rfl) fun f11 hf11 => ?_
                  refine k_c ?_
                  refine k_cond hf11 (t := (code_ == 10)) (by kernel_rfl) (fun hc9 => ?_) (fun hc9 => ?_)
                  · have h := if_t h hc9
                    refine k_seq ?_
                    refine k_reg ?_
                    refine mops_en hf11 (by kernel_rfl) fun f12 hf12 => ?_
                    refine k_c ?_
                    refine k_ret ?_
                    refine x_br ?_
                    refine x_c nofun ?_
                    obtain rfl := Option.some.inj h
                    exact k_fin (fin_ret (.inl rfl) hf12 (vs := [.s (.string (⟨#[67, 67]⟩ : ByteArray))]) (by kernel_rfl) (SettL.pure (FzL.stat rfl)))
                  · have h := if_f h hc9
                    refine k_seq ?_
                    refine k_reg ?_
                    refine mops_en hf11 (by kernel_rfl) fun f12 hf12 => ?_
                    refine k_c ?_
                    refine k_cond hf12 (t := (code_ == 11)) (by kernel_rfl) (fun hc10 => ?_) (fun hc10 => ?_)
                    · have h := if_t h hc10
                      refine k_seq ?_
                      refine k_reg ?_
                      refine mops_en hf12 (by kernel_rfl) fun f13 hf13 => ?_
                      refine k_c ?_
                      refine k_ret ?_
                      refine x_br ?_
                      refine x_c nofun ?_
                      obtain rfl := Option.some.inj h
                      exact k_fin (fin_ret (.inl rfl) hf13 (vs := [.s (.string (⟨#[68, 80]⟩ : ByteArray))]) (by kernel_rfl) (SettL.pure (FzL.stat rfl)))
                    · have h := if_f h hc10
                      refine k_skip ?_
                      refine k_b ?_
                      refine k_c ?_
                      refine k_seq ?_
                      refine k_reg ?_
                      refine mops_en hf12 (by kernel_rfl) fun f13 hf13 => ?_
                      refine k_c ?_
                      refine k_ret ?_
                      obtain rfl := Option.some.inj h
                      exact k_fin (fin_ret (.inl rfl) hf13 (vs := [.s (.string (⟨#[]⟩ : ByteArray))]) (by kernel_rfl) (SettL.pure (FzL.stat rfl)))
def spinetlaw17_names_i0 : List Op1 := [(oE 2 (.nilg 1) [])]
def spinetlaw17_names_i1 : List Op1 := [(oE 5 (.bslo 1 1 [(.string ⟨#[]⟩)] [(0, (1, (.k (.string ⟨#[]⟩))))]) []), (oM 3 (.t 5) [0, 0])]
def spinetlaw17_names_i2 : List Op1 := [(oM 4 (.k (.int .i64 0)) [])]
def spinetlaw17_names_i3 : List Op1 := [(oM 6 (.t 4) []), (oM 7 (.t 0) []), (oE 8 (.lens (.t 7)) [1]), (oE 9 (.bin .lss (.t 6) (.t 8)) [0, 2])]
def spinetlaw17_names_i4 : IR := (.cond (.t 9) .skip (.exit 0))
def spinetlaw17_names_i5 : List Op1 := [(oM 12 (.t 0) []), (oM 13 (.t 4) []), (oE 14 (.ixs (.t 12) (.t 13)) [0, 1]), (oE 15 (.bin .eql (.t 14) (.k (.int .u8 44))) [2])]
def spinetlaw17_names_i6 : List Op1 := [(oM 16 (.t 3) []), (oE 17 (.bslo 1 1 [(.string ⟨#[]⟩)] [(0, (1, (.k (.string ⟨#[]⟩))))]) []), (oE 18 (.app 9 1 16 (.t 16) (.t 17)) [0, 1]), (oM 3 (.t 18) [2, 2, 0, 1, 2])]
def spinetlaw17_names_i7 : List An := [(aO (oM 19 (.t 3) []) false 0 0), (aO (oM 20 (.t 3) []) false 0 0), (aO (oE 21 (.len (.t 20)) [1]) false 0 0), (aO (oE 22 (.bin .sub (.t 21) (.k (.int .i64 1))) [2]) false 0 0), (aO (oE 23 (.ias 1 (.t 19) (.t 22)) [0, 3]) false 0 0), (aO (oE 24 (.load false 1 (.t 23)) [4]) false 0 0), (aO (oM 25 (.t 0) []) false 0 0), (aO (oM 26 (.t 4) []) false 0 0), (aO (oM 27 (.t 4) []) false 0 0), (aO (oE 28 (.bin .add (.t 27) (.k (.int .i64 1))) [8]) false 0 0), (aO (oE 29 (.sstr (.t 25) (some (.t 26)) (some (.t 28))) [6, 7, 9]) false 0 0), (aO (oE 30 (.bin .add (.t 24) (.t 29)) [5, 10]) false 0 0), (aO (oE 31 (.ias 1 (.t 19) (.t 22)) [0, 3, 0, 1, 2, 3, 4, 5, 6, 7, 8, 9, 10, 11]) false 0 0), (aO (oN (.store 1 (.t 31) (.t 30)) [12, 11, 0, 1, 2, 3, 4, 5, 6, 7, 8, 9, 10, 11]) true 0 1)]
def spinetlaw17_names_i8 : IR := (.cond (.t 15) (.reg false spinetlaw17_names_i6) (.regw spinetlaw17_names_i7))
def spinetlaw17_names_i9 : List Op1 := [(oM 10 (.t 4) []), (oE 11 (.bin .add (.t 10) (.k (.int .i64 1))) [0]), (oM 4 (.t 11) [1, 0, 1])]
def spinetlaw17_names_i10 : IR := (.reg false spinetlaw17_names_i9)
def spinetlaw17_names_i11 : IR := (.seq (.block 1 (.seq (.reg false spinetlaw17_names_i5) spinetlaw17_names_i8)) spinetlaw17_names_i10)
def spinetlaw17_names_i12 : IR := (.seq (.seq (.reg false spinetlaw17_names_i3) spinetlaw17_names_i4) spinetlaw17_names_i11)
def spinetlaw17_names_i13 : IR := (.block 0 (.loop spinetlaw17_names_i12))
def spinetlaw17_names_i14 : List Op1 := [(oM 32 (.t 3) []), (oM 2 (.t 32) [0, 0])]
def spinetlaw17_names_i15 : IR := .ret
def spinetlaw17_names_i16 : IR := (.seq (.reg false spinetlaw17_names_i14) spinetlaw17_names_i15)
def spinetlaw17_names_i17 : IR := (.seq (.seq (.reg false spinetlaw17_names_i2) spinetlaw17_names_i13) spinetlaw17_names_i16)
def spinetlaw17_names_i18 : IR := (.seq (.reg false spinetlaw17_names_i1) spinetlaw17_names_i17)
def spinetlaw17_names_ir : IR := (.seq (.reg false spinetlaw17_names_i0) spinetlaw17_names_i18)
theorem spinetlaw17_names_cfn : cFn Tryd.prog 8 = some (spinetlaw17_names_ir, [(.t 2)], 33) := by kernel_rfl
def spinetlaw17_names_V (r : ((List ByteArray))) : V := .sl false r.length (cat nS r)
def spinetlaw17_names_C (r : ((List ByteArray))) : X → Fr → Hp → Prop := FinL [(.t 2)] [] (spinetlaw17_names_V r) []
theorem spinetlaw17_names_ok (s_ : ByteArray) (r : ((List ByteArray))) (h : spinetlaw17_names s_ = some r) : Pure Tryd.prog 8 [.s (.string s_)] (spinetlaw17_names_V r) := by
  refine ConL.of spinetlaw17_names_cfn (Nat.le_of_ble_eq_true (by kernel_rfl)) (Nat.le_of_ble_eq_true (by kernel_rfl)) ?_
  refine k_start ?_
  show dwv Tryd.prog [] spinetlaw17_names_ir (kont Tryd.prog [] (spinetlaw17_names_C r) []) (fr0 [.s (.string s_)]) []
  have hf : FOk (fr0 [.s (.string s_)]) [⟨0, [], .s (.string s_)⟩] := ⟨⟨fun _ => rfl, fun h => (h trivial).elim⟩, trivial⟩
  generalize fr0 [.s (.string s_)] = f at hf ⊢
  unfold spinetlaw17_names at h
  refine k_seq ?_
  refine k_reg ?_
  refine mops_en hf (by kernel_rfl) fun f1 hf1 => ?_
  refine k_c ?_
  refine k_seq ?_
  refine k_reg ?_
  refine mops_en hf1 (by kernel_rfl) fun f2 hf2 => ?_
  refine k_c ?_
  refine k_seq ?_
  refine k_seq ?_
  refine k_reg ?_
  refine mops_en hf2 (by kernel_rfl) fun f3 hf3 => ?_
  refine k_c ?_
  refine k_block ?_
  obtain ⟨o0, hx0, h⟩ := Option.bind_eq_some_iff.1 h
  have hgo0 : ∀ (l_2 : (List ByteArray)) (v_2 : Nat) (m_2 : Nat) (hn_2 : l_2.length = m_2), l_2 = o0 → ∀ f, FOk f [⟨2, [], .ref 0 0 0 0⟩, ⟨3, [], .ref 1 v_2 0 m_2⟩] → kont Tryd.prog [] (spinetlaw17_names_C r) ((.c spinetlaw17_names_i16) :: []) .normal f [⟨0, .grow, 1, cat nS ([] : List ByteArray)⟩, ⟨v_2, .grow, 1, cat nS l_2⟩] := by
    intro l_2 v_2 m_2 hn_2 e f hf
    subst e
    refine k_c ?_
    refine k_seq ?_
    refine k_reg ?_
    refine mops_en hf (by kernel_rfl) fun f1 hf1 => ?_
    refine k_c ?_
    refine k_ret ?_
    obtain rfl := Option.some.inj h
    exact k_fin (fin_ret (.inl rfl) hf1 (vs := [.ref 1 v_2 0 m_2]) (by kernel_rfl) (SettL.pure (FzL.whole (g := nS) (kd := .grow) (l := l_2) (by kernel_rfl) hn_2 (live_grow (by kernel_rfl)))))
  refine k_loop BIG ?_
  refine loop_ind (fun n f L => ∃ (l_1 : (List ByteArray)) (i_1 : Int) (v_1 : Nat) (m_1 : Nat) (hn_1 : l_1.length = m_1), spinetlaw17_names_l0 s_ n l_1 i_1 = some o0 ∧ FOk f [⟨0, [], .s (.string s_)⟩, ⟨2, [], .ref 0 0 0 0⟩, ⟨3, [], .ref 1 v_1 0 m_1⟩, ⟨4, [], .s (.int .i64 i_1)⟩] ∧ L = [⟨0, .grow, 1, cat nS ([] : List ByteArray)⟩, ⟨v_1, .grow, 1, cat nS l_1⟩]) ?_ ?_ BIG _ _ ⟨[(⟨#[]⟩ : ByteArray)], (0), (0), (1), (by kernel_rfl), hx0, FOk_of [0, 2, 3, 4] hf3 (by kernel_rfl), (by kernel_rfl)⟩
  · rintro f L ⟨l_1, i_1, v_1, m_1, hn_1, h, _⟩
    cases (show (none : Option _) = some _ from h)
  · rintro n0 R0 ih f L ⟨l_1, i_1, v_1, m_1, hn_1, h, hf, rfl⟩
    rw [spinetlaw17_names_l0] at h
    refine k_seq ?_
    refine k_seq ?_
    refine k_reg ?_
    refine mops_en hf (by kernel_rfl) fun f1 hf1 => ?_
    refine k_c ?_
    refine k_cond hf1 (t := (decide (i_1 < (sln s_)))) (by kernel_rfl) (fun hc1 => ?_) (fun hc1 => ?_)
    · have h := if_t h hc1
      refine k_skip ?_
      refine k_c ?_
      refine k_seq ?_
      refine k_block ?_
      refine k_seq ?_
      refine k_reg ?_
      refine mops_sg 2 hf1 (by kernel_rfl) fun f2 hf2 => ?_
      obtain ⟨c2, h⟩ := as_ok h
      refine mops_adv rfl (v := .s (.int .u8 (bt s_ i_1))) hf2 (by kernel_rfl) (e_ixs (t := s_) (k := .i64) (iv := i_1) (by kernel_rfl) (by kernel_rfl) c2) fun f3 hf3 => ?_
      refine mops_en hf3 (by kernel_rfl) fun f4 hf4 => ?_
      refine k_c ?_
      refine k_cond hf4 (t := ((bt s_ i_1) == 44)) (by kernel_rfl) (fun hc3 => ?_) (fun hc3 => ?_)
      · have h := if_t h hc3
        refine k_reg ?_
        refine mops_sg 2 hf4 (by kernel_rfl) fun f5 hf5 => ?_
        obtain ⟨c4, h⟩ := as_ok h
        refine mops_adv rfl (v := .ref 1 (v_1 + 1) 0 (l_1 ++ [(⟨#[]⟩ : ByteArray)]).length) hf5 (by kernel_rfl) (e_app (g := nS) (l := l_1) (l' := [(⟨#[]⟩ : ByteArray)]) (b := 1) (ver := v_1) (n := m_1) rfl (by kernel_rfl) hn_1 (live_grow (by kernel_rfl)) (sll_ev (v := .ref 2 0 0 1) (by kernel_rfl) (sll_ref (B := ⟨0, .grow, 1, cat nS [(⟨#[]⟩ : ByteArray)]⟩) (by kernel_rfl) (live_grow (by kernel_rfl)))) (slc_ev (v := .ref 2 0 0 1) (by kernel_rfl) (slc_ref (g := nS) (l := [(⟨#[]⟩ : ByteArray)]) (kd := .grow) (q := 1) (by kernel_rfl) (live_grow (by kernel_rfl)))) c4) fun f6 hf6 => ?_
        refine mops_en hf6 (by kernel_rfl) fun f7 hf7 => ?_
        refine k_b ?_
        refine k_c ?_
        refine k_reg ?_
        refine mops_en hf7 (by kernel_rfl) fun f8 hf8 => ?_
        refine k_l' (vs_cut (l := [⟨0, [], .s (.string s_)⟩, ⟨2, [], .ref 0 0 0 0⟩, ⟨3, [], .ref 1 (v_1 + 1) 0 (l_1 ++ [(⟨#[]⟩ : ByteArray)]).length⟩, ⟨4, [], .s (.int .i64 (IntKind.wrap .i64 (i_1 + 1)))⟩]) 2 (by kernel_rfl) (by kernel_rfl) (L' := [⟨0, .grow, 1, cat nS ([] : List ByteArray)⟩, ⟨(v_1 + 1), .grow, 1, cat nS (l_1 ++ [(⟨#[]⟩ : ByteArray)])⟩]) (by kernel_rfl) ⟨⟨rfl, rfl⟩, ⟨rfl, rfl⟩, ⟨rfl, rfl⟩, ⟨rfl, rfl⟩, trivial⟩ ⟨.inr (.inr (statics_unders _ _ (cat_stat _))), .inr (.inr (statics_unders _ _ (cat_stat _))), trivial⟩ (FOk_of [0, 2, 3, 4] hf8 (by kernel_rfl)) fun f hf => ?_)
        exact ih _ _ ⟨(l_1 ++ [(⟨#[]⟩ : ByteArray)]), (IntKind.wrap .i64 (i_1 + 1)), (v_1 + 1), ((l_1 ++ [(⟨#[]⟩ : ByteArray)]).length), rfl, h, hf, rfl⟩
      · have h := if_f h hc3
        refine k_regw ?_
        refine lw_tight 13 (by kernel_rfl) ?_
        refine mops_seg [0, 2, 3, 4, 6, 7, 8, 9, 12, 13, 14, 15, 19, 20] 2 hf4 (l' := [⟨0, [], .s (.string s_)⟩, ⟨2, [], .ref 0 0 0 0⟩, ⟨3, [], .ref 1 v_1 0 m_1⟩, ⟨4, [], .s (.int .i64 i_1)⟩, ⟨6, [], .s (.int .i64 i_1)⟩, ⟨7, [], .s (.string s_)⟩, ⟨8, [], .s (.int .i64 (sln s_))⟩, ⟨9, [], .s (.bool (decide (i_1 < (sln s_))))⟩, ⟨12, [], .s (.string s_)⟩, ⟨13, [], .s (.int .i64 i_1)⟩, ⟨14, [], .s (.int .u8 (bt s_ i_1))⟩, ⟨15, [], .s (.bool ((bt s_ i_1) == 44))⟩, ⟨19, [], .ref 1 v_1 0 m_1⟩, ⟨20, [], .ref 1 v_1 0 m_1⟩]) (L' := [⟨0, .grow, 1, cat nS ([] : List ByteArray)⟩, ⟨v_1, .grow, 1, cat nS l_1⟩]) (by kernel_rfl) fun f5 hf5 => ?_
        refine mops_adv rfl (v := .s (.int .i64 (ln l_1))) hf5 (by kernel_rfl) (e_len_ref (l := l_1) (B := ⟨v_1, .grow, 1, cat nS l_1⟩) (b := 1) (ver := v_1) (n := m_1) (by kernel_rfl) hn_1 (live_grow (by kernel_rfl))) fun f6 hf6 => ?_
        refine mops_seg [0, 2, 3, 4, 6, 7, 8, 9, 12, 13, 14, 15, 19, 20, 21, 22] 1 hf6 (l' := [⟨0, [], .s (.string s_)⟩, ⟨2, [], .ref 0 0 0 0⟩, ⟨3, [], .ref 1 v_1 0 m_1⟩, ⟨4, [], .s (.int .i64 i_1)⟩, ⟨6, [], .s (.int .i64 i_1)⟩, ⟨7, [], .s (.string s_)⟩, ⟨8, [], .s (.int .i64 (sln s_))⟩, ⟨9, [], .s (.bool (decide (i_1 < (sln s_))))⟩, ⟨12, [], .s (.string s_)⟩, ⟨13, [], .s (.int .i64 i_1)⟩, ⟨14, [], .s (.int .u8 (bt s_ i_1))⟩, ⟨15, [], .s (.bool ((bt s_ i_1) == 44))⟩, ⟨19, [], .ref 1 v_1 0 m_1⟩, ⟨20, [], .ref 1 v_1 0 m_1⟩, ⟨21, [], .s (.int .i64 (ln l_1))⟩, ⟨22, [], .s (.int .i64 (IntKind.wrap .i64 ((ln l_1) - 1)))⟩]) (L' := [⟨0, .grow, 1, cat nS ([] : List ByteArray)⟩, ⟨v_1, .grow, 1, cat nS l_1⟩]) (by kernel_rfl) fun f7 hf7 => ?_
        obtain ⟨c5, h⟩ := as_ok h
        refine mops_adv rfl (v := .ptr 1 v_1 (0 + ((IntKind.wrap .i64 ((ln l_1) - 1)) : Int).toNat * 1)) hf7 (by kernel_rfl) (e_ias_ref (l := l_1) (B := ⟨v_1, .grow, 1, cat nS l_1⟩) (b := 1) (ver := v_1) (n := m_1) (k := .i64) (iv := (IntKind.wrap .i64 ((ln l_1) - 1))) (by kernel_rfl) (by kernel_rfl) hn_1 (live_grow (by kernel_rfl)) c5) fun f8 hf8 => ?_
        refine mops_adv rfl (v := .s (.string (gt l_1 (IntKind.wrap .i64 ((ln l_1) - 1))))) hf8 (by kernel_rfl) (e_load_pe (g := nS) (l := l_1) (iv := (IntKind.wrap .i64 ((ln l_1) - 1))) (kd := .grow) (q := 1) (b := 1) (ver := v_1) [] (by kernel_rfl) (live_grow (by kernel_rfl)) c5 (by kernel_rfl) (by kernel_rfl)) fun f9 hf9 => ?_
        refine mops_seg [0, 2, 3, 4, 6, 7, 8, 9, 12, 13, 14, 15, 19, 20, 21, 22, 23, 24, 25, 26, 27, 28] 4 hf9 (l' := [⟨0, [], .s (.string s_)⟩, ⟨2, [], .ref 0 0 0 0⟩, ⟨3, [], .ref 1 v_1 0 m_1⟩, ⟨4, [], .s (.int .i64 i_1)⟩, ⟨6, [], .s (.int .i64 i_1)⟩, ⟨7, [], .s (.string s_)⟩, ⟨8, [], .s (.int .i64 (sln s_))⟩, ⟨9, [], .s (.bool (decide (i_1 < (sln s_))))⟩, ⟨12, [], .s (.string s_)⟩, ⟨13, [], .s (.int .i64 i_1)⟩, ⟨14, [], .s (.int .u8 (bt s_ i_1))⟩, ⟨15, [], .s (.bool ((bt s_ i_1) == 44))⟩, ⟨19, [], .ref 1 v_1 0 m_1⟩, ⟨20, [], .ref 1 v_1 0 m_1⟩, ⟨21, [], .s (.int .i64 (ln l_1))⟩, ⟨22, [], .s (.int .i64 (IntKind.wrap .i64 ((ln l_1) - 1)))⟩, ⟨23, [], .ptr 1 v_1 (0 + ((IntKind.wrap .i64 ((ln l_1) - 1)) : Int).toNat * 1)⟩, ⟨24, [], .s (.string (gt l_1 (IntKind.wrap .i64 ((ln l_1) - 1))))⟩, ⟨25, [], .s (.string s_)⟩, ⟨26, [], .s (.int .i64 i_1)⟩, ⟨27, [], .s (.int .i64 i_1)⟩, ⟨28, [], .s (.int .i64 (IntKind.wrap .i64 (i_1 + 1)))⟩]) (L' := [⟨0, .grow, 1, cat nS ([] : List ByteArray)⟩, ⟨v_1, .grow, 1, cat nS l_1⟩]) (by kernel_rfl) fun f10 hf10 => ?_
        obtain ⟨c6, h⟩ := as_ok h
        refine mops_adv rfl (v := .s (.string (s_.extract (i_1 : Int).toNat ((IntKind.wrap .i64 (i_1 + 1)) : Int).toNat))) hf10 (by kernel_rfl) (e_sstr (t := s_) (by kernel_rfl) (b_ss (k := .i64) (k' := .i64) (iv := i_1) (jv := (IntKind.wrap .i64 (i_1 + 1))) (by kernel_rfl) (by kernel_rfl) c6)) fun f11 hf11 => ?_
        obtain ⟨c7, h⟩ := as_ok h
        refine mops_adv rfl (v := .s (.string ((gt l_1 (IntKind.wrap .i64 ((ln l_1) - 1))) ++ (s_.extract (i_1 : Int).toNat ((IntKind.wrap .i64 (i_1 + 1)) : Int).toNat)))) hf11 (by kernel_rfl) (e_sadd (t := (gt l_1 (IntKind.wrap .i64 ((ln l_1) - 1)))) (t' := (s_.extract (i_1 : Int).toNat ((IntKind.wrap .i64 (i_1 + 1)) : Int).toNat)) (by kernel_rfl) (by kernel_rfl) c7) fun f12 hf12 => ?_
        obtain ⟨c8, h⟩ := as_ok h
        refine mops_adv rfl (v := .ptr 1 v_1 (0 + ((IntKind.wrap .i64 ((ln l_1) - 1)) : Int).toNat * 1)) hf12 (by kernel_rfl) (e_ias_ref (l := l_1) (B := ⟨v_1, .grow, 1, cat nS l_1⟩) (b := 1) (ver := v_1) (n := m_1) (k := .i64) (iv := (IntKind.wrap .i64 ((ln l_1) - 1))) (by kernel_rfl) (by kernel_rfl) hn_1 (live_grow (by kernel_rfl)) c8) fun f13 hf13 => ?_
        refine mops_end [0, 2, 3, 4, 6, 7, 8, 9, 12, 13, 14, 15, 19, 20, 21, 22, 23, 24, 25, 26, 27, 28, 29, 30, 31] hf13 (l' := [⟨0, [], .s (.string s_)⟩, ⟨2, [], .ref 0 0 0 0⟩, ⟨3, [], .ref 1 v_1 0 m_1⟩, ⟨4, [], .s (.int .i64 i_1)⟩, ⟨6, [], .s (.int .i64 i_1)⟩, ⟨7, [], .s (.string s_)⟩, ⟨8, [], .s (.int .i64 (sln s_))⟩, ⟨9, [], .s (.bool (decide (i_1 < (sln s_))))⟩, ⟨12, [], .s (.string s_)⟩, ⟨13, [], .s (.int .i64 i_1)⟩, ⟨14, [], .s (.int .u8 (bt s_ i_1))⟩, ⟨15, [], .s (.bool ((bt s_ i_1) == 44))⟩, ⟨19, [], .ref 1 v_1 0 m_1⟩, ⟨20, [], .ref 1 v_1 0 m_1⟩, ⟨21, [], .s (.int .i64 (ln l_1))⟩, ⟨22, [], .s (.int .i64 (IntKind.wrap .i64 ((ln l_1) - 1)))⟩, ⟨23, [], .ptr 1 v_1 (0 + ((IntKind.wrap .i64 ((ln l_1) - 1)) : Int).toNat * 1)⟩, ⟨24, [], .s (.string (gt l_1 (IntKind.wrap .i64 ((ln l_1) - 1))))⟩, ⟨25, [], .s (.string s_)⟩, ⟨26, [], .s (.int .i64 i_1)⟩, ⟨27, [], .s (.int .i64 i_1)⟩, ⟨28, [], .s (.int .i64 (IntKind.wrap .i64 (i_1 + 1)))⟩, ⟨29, [], .s (.string (s_.extract (i_1 : Int).toNat ((IntKind.wrap .i64 (i_1 + 1)) : Int).toNat))⟩, ⟨30, [], .s (.string ((gt l_1 (IntKind.wrap .i64 ((ln l_1) - 1))) ++ (s_.extract (i_1 : Int).toNat ((IntKind.wrap .i64 (i_1 + 1)) : Int).toNat)))⟩, ⟨31, [], .ptr 1 v_1 (0 + ((IntKind.wrap .i64 ((ln l_1) - 1)) : Int).toNat * 1)⟩]) (L' := [⟨0, .grow, 1, cat nS ([] : List ByteArray)⟩, ⟨v_1, .grow, 1, cat nS l_1⟩]) (by kernel_rfl) fun f14 hf14 => ?_
        intro _
        refine lw_w (a := ⟨⟨none, (.e (.store 1 (.t 31) (.t 30))), none, [12, 11, 0, 1, 2, 3, 4, 5, 6, 7, 8, 9, 10, 11]⟩, true, 0, 1⟩) (by kernel_rfl) rfl rfl ?_
        refine mops_adv rfl (v := .s undef) hf14 (by kernel_rfl) (e_store_pe (g := nS) (l := l_1) (iv := (IntKind.wrap .i64 ((ln l_1) - 1))) (kd := .grow) (q := 1) (b := 1) (ver := v_1) (ys := [.s (.string ((gt l_1 (IntKind.wrap .i64 ((ln l_1) - 1))) ++ (s_.extract (i_1 : Int).toNat ((IntKind.wrap .i64 (i_1 + 1)) : Int).toNat)))]) (a := ((gt l_1 (IntKind.wrap .i64 ((ln l_1) - 1))) ++ (s_.extract (i_1 : Int).toNat ((IntKind.wrap .i64 (i_1 + 1)) : Int).toNat))) [] (by kernel_rfl) (live_grow (by kernel_rfl)) (by kernel_rfl) (by kernel_rfl) (by kernel_rfl) c8 (by kernel_rfl) (by kernel_rfl)) fun f15 hf15 => ?_
        refine mops_end [0, 2, 3, 4, 6, 7, 8, 9, 12, 13, 14, 15, 19, 20, 21, 22, 23, 24, 25, 26, 27, 28, 29, 30, 31] hf15 (l' := [⟨0, [], .s (.string s_)⟩, ⟨2, [], .ref 0 0 0 0⟩, ⟨3, [], .ref 1 v_1 0 m_1⟩, ⟨4, [], .s (.int .i64 i_1)⟩, ⟨6, [], .s (.int .i64 i_1)⟩, ⟨7, [], .s (.string s_)⟩, ⟨8, [], .s (.int .i64 (sln s_))⟩, ⟨9, [], .s (.bool (decide (i_1 < (sln s_))))⟩, ⟨12, [], .s (.string s_)⟩, ⟨13, [], .s (.int .i64 i_1)⟩, ⟨14, [], .s (.int .u8 (bt s_ i_1))⟩, ⟨15, [], .s (.bool ((bt s_ i_1) == 44))⟩, ⟨19, [], .ref 1 v_1 0 m_1⟩, ⟨20, [], .ref 1 v_1 0 m_1⟩, ⟨21, [], .s (.int .i64 (ln l_1))⟩, ⟨22, [], .s (.int .i64 (IntKind.wrap .i64 ((ln l_1) - 1)))⟩, ⟨23, [], .ptr 1 v_1 (0 + ((IntKind.wrap .i64 ((ln l_1) - 1)) : Int).toNat * 1)⟩, ⟨24, [], .s (.string (gt l_1 (IntKind.wrap .i64 ((ln l_1) - 1))))⟩, ⟨25, [], .s (.string s_)⟩, ⟨26, [], .s (.int .i64 i_1)⟩, ⟨27, [], .s (.int .i64 i_1)⟩, ⟨28, [], .s (.int .i64 (IntKind.wrap .i64 (i_1 + 1)))⟩, ⟨29, [], .s (.string (s_.extract (i_1 : Int).toNat ((IntKind.wrap .i64 (i_1 + 1)) : Int).toNat))⟩, ⟨30, [], .s (.string ((gt l_1 (IntKind.wrap .i64 ((ln l_1) - 1))) ++ (s_.extract (i_1 : Int).toNat ((IntKind.wrap .i64 (i_1 + 1)) : Int).toNat)))⟩, ⟨31, [], .ptr 1 v_1 (0 + ((IntKind.wrap .i64 ((ln l_1) - 1)) : Int).toNat * 1)⟩]) (L' := [⟨0, .grow, 1, cat nS ([] : List ByteArray)⟩, ⟨v_1, .grow, 1, cat nS (st l_1 (IntKind.wrap .i64 ((ln l_1) - 1)) ((gt l_1 (IntKind.wrap .i64 ((ln l_1) - 1))) ++ (s_.extract (i_1 : Int).toNat ((IntKind.wrap .i64 (i_1 + 1)) : Int).toNat)))⟩]) (by kernel_rfl) fun f16 hf16 => ?_
        refine ⟨trivial, ?_⟩
        refine lw_end (by kernel_rfl) ?_
        refine k_b ?_
        refine k_c ?_
        refine k_reg ?_
        refine mops_en hf16 (by kernel_rfl) fun f17 hf17 => ?_
        refine k_l ?_
        exact ih _ _ ⟨(st l_1 (IntKind.wrap .i64 ((ln l_1) - 1)) ((gt l_1 (IntKind.wrap .i64 ((ln l_1) - 1))) ++ (s_.extract (i_1 : Int).toNat ((IntKind.wrap .i64 (i_1 + 1)) : Int).toNat))), (IntKind.wrap .i64 (i_1 + 1)), v_1, m_1, (st_len.trans hn_1), h, FOk_of [0, 2, 3, 4] hf17 (by kernel_rfl), (by kernel_rfl)⟩
    · have h := if_f h hc1
      refine k_exit ?_
      refine x_c nofun ?_
      refine x_l nofun ?_
      refine x_b ?_
      refine k_hp (L' := [⟨0, .grow, 1, cat nS ([] : List ByteArray)⟩, ⟨v_1, .grow, 1, cat nS l_1⟩]) (by kernel_rfl) ?_
      exact hgo0 l_1 v_1 m_1 hn_1 (Option.some.inj h) _ (FOk_of [2, 3] hf1 (by kernel_rfl))
def spinetref13_Reg_i0 : List Op1 := [(oM 2 (.k (.string ⟨#[]⟩)) [])]
def spinetref13_Reg_i1 : List Op1 := [(oE 4 (.build [(.string ⟨#[]⟩), (.string ⟨#[]⟩), (.string ⟨#[]⟩), (.string ⟨#[]⟩), (.string ⟨#[]⟩), (.string ⟨#[]⟩), (.string ⟨#[]⟩), (.string ⟨#[]⟩), (.string ⟨#[]⟩), (.string ⟨#[]⟩), (.string ⟨#[]⟩), (.string ⟨#[]⟩)] [(0, (1, (.k (.string ⟨#[68]⟩)))), (1, (1, (.k (.string ⟨#[88]⟩)))), (2, (1, (.k (.string ⟨#[89]⟩)))), (3, (1, (.k (.string ⟨#[85]⟩)))), (4, (1, (.k (.string ⟨#[83]⟩)))), (5, (1, (.k (.string ⟨#[80, 67]⟩)))), (6, (1, (.k (.string ⟨#[]⟩)))), (7, (1, (.k (.string ⟨#[]⟩)))), (8, (1, (.k (.string ⟨#[65]⟩)))), (9, (1, (.k (.string ⟨#[66]⟩)))), (10, (1, (.k (.string ⟨#[67, 67]⟩)))), (11, (1, (.k (.string ⟨#[68, 80]⟩))))]) []), (oE 3 (.zero [(.string ⟨#[]⟩), (.string ⟨#[]⟩), (.string ⟨#[]⟩), (.string ⟨#[]⟩), (.string ⟨#[]⟩), (.string ⟨#[]⟩), (.string ⟨#[]⟩), (.string ⟨#[]⟩), (.string ⟨#[]⟩), (.string ⟨#[]⟩), (.string ⟨#[]⟩), (.string ⟨#[]⟩)]) []), (oN (.store 12 (.t 3) (.t 4)) [1, 0, 0, 1])]
def spinetref13_Reg_i2 : List Op1 := [(oM 5 (.t 0) []), (oE 6 (.bin .lss (.t 5) (.k (.int .i64 0))) [0]), (oM 7 (.t 6) [1]), (oG 8 (.mv (.t 0)) 7 false [2]), (oG 9 (.bin .gtr (.t 8) (.k (.int .i64 11))) 7 false [3, 2]), (oE 10 (.pick (.t 7) (.k (.bool true)) (.t 9)) [2, 4])]
def spinetref13_Reg_i3 : List Op1 := [(oM 2 (.k (.string ⟨#[]⟩)) [])]
def spinetref13_Reg_i4 : IR := .ret
def spinetref13_Reg_i5 : IR := (.cond (.t 10) (.seq (.reg false spinetref13_Reg_i3) spinetref13_Reg_i4) .skip)
def spinetref13_Reg_i6 : List Op1 := [(oM 11 (.t 0) []), (oE 12 (.iaa 12 1 (.t 3) (.t 11)) [0]), (oE 13 (.load false 1 (.t 12)) [1]), (oM 2 (.t 13) [2, 0, 1, 2])]
def spinetref13_Reg_i7 : IR := .ret
def spinetref13_Reg_i8 : IR := (.seq (.reg false spinetref13_Reg_i6) spinetref13_Reg_i7)
def spinetref13_Reg_i9 : IR := (.seq (.seq (.reg false spinetref13_Reg_i2) spinetref13_Reg_i5) spinetref13_Reg_i8)
def spinetref13_Reg_i10 : IR := (.seq (.reg false spinetref13_Reg_i1) spinetref13_Reg_i9)
def spinetref13_Reg_ir : IR := (.seq (.reg false spinetref13_Reg_i0) spinetref13_Reg_i10)
theorem spinetref13_Reg_cfn : cFn Tryd.prog 9 = some (spinetref13_Reg_ir, [(.t 2)], 14) := by kernel_rfl
def spinetref13_Reg_V (r : (ByteArray)) : V := .s (.string r)
def spinetref13_Reg_C (r : (ByteArray)) : X → Fr → Hp → Prop := FinL [(.t 2)] [] (spinetref13_Reg_V r) []
theorem spinetref13_Reg_ok (code_ : Int) (r : (ByteArray)) (h : spinetref13_Reg code_ = some r) : Pure Tryd.prog 9 [.s (.int .i64 code_)] (spinetref13_Reg_V r) := by
  refine ConL.of spinetref13_Reg_cfn (Nat.le_of_ble_eq_true (by kernel_rfl)) (Nat.le_of_ble_eq_true (by kernel_rfl)) ?_
  refine k_start ?_
  show dwv Tryd.prog [] spinetref13_Reg_ir (kont Tryd.prog [] (spinetref13_Reg_C r) []) (fr0 [.s (.int .i64 code_)]) []
  have hf : FOk (fr0 [.s (.int .i64 code_)]) [⟨0, [], .s (.int .i64 code_)⟩] := ⟨⟨fun _ => rfl, fun h => (h trivial).elim⟩, trivial⟩
  generalize fr0 [.s (.int .i64 code_)] = f at hf ⊢
  unfold spinetref13_Reg at h
  refine k_seq ?_
  refine k_reg ?_
  refine mops_en hf (by kernel_rfl) fun f1 hf1 => ?_
  refine k_c ?_
  refine k_seq ?_
  refine k_reg ?_
  refine mops_en hf1 (by kernel_rfl) fun f2 hf2 => ?_
  refine k_c ?_
  refine k_seq ?_
  refine k_seq ?_
  refine k_reg ?_
  refine mops_en hf2 (by kernel_rfl) fun f3 hf3 => ?_
  refine k_c ?_
  refine k_cond hf3 (t := ((decide (code_ < 0)) || (decide (11 < code_)))) (by kernel_rfl) (fun hc1 => ?_) (fun hc1 => ?_)
  · have h := if_t h hc1
    refine k_seq ?_
    refine k_reg ?_
    refine mops_en hf3 (by kernel_rfl) fun f4 hf4 => ?_
    refine k_c ?_
    refine k_ret ?_
    refine x_c nofun ?_
    obtain rfl := Option.some.inj h
    exact k_fin (fin_ret (.inl rfl) hf4 (vs := [.s (.string (⟨#[]⟩ : ByteArray))]) (by kernel_rfl) (SettL.pure (FzL.stat rfl)))
  · have h := if_f h hc1
    refine k_skip ?_
    refine k_c ?_
    refine k_seq ?_
    refine k_reg ?_
    refine mops_sg 1 hf3 (by kernel_rfl) fun f4 hf4 => ?_
    obtain ⟨c2, h⟩ := as_ok h
    refine mops_adv rfl (v := .ptr 0 0 (0 + (code_ : Int).toNat * 1)) hf4 (by kernel_rfl) (e_iaa (n := 12) (xv := .ptr 0 0 0) (k := .i64) (iv := code_) (p := .ptr 0 0 (0 + (code_ : Int).toNat * 1)) (by kernel_rfl) (by kernel_rfl) (by kernel_rfl) (by kernel_rfl) c2) fun f5 hf5 => ?_
    refine mops_adv rfl (v := .s (.string (gt [(⟨#[68]⟩ : ByteArray), (⟨#[88]⟩ : ByteArray), (⟨#[89]⟩ : ByteArray), (⟨#[85]⟩ : ByteArray), (⟨#[83]⟩ : ByteArray), (⟨#[80, 67]⟩ : ByteArray), (⟨#[]⟩ : ByteArray), (⟨#[]⟩ : ByteArray), (⟨#[65]⟩ : ByteArray), (⟨#[66]⟩ : ByteArray), (⟨#[67, 67]⟩ : ByteArray), (⟨#[68, 80]⟩ : ByteArray)] code_))) hf5 (by kernel_rfl) (e_load_pe (g := nS) (l := [(⟨#[68]⟩ : ByteArray), (⟨#[88]⟩ : ByteArray), (⟨#[89]⟩ : ByteArray), (⟨#[85]⟩ : ByteArray), (⟨#[83]⟩ : ByteArray), (⟨#[80, 67]⟩ : ByteArray), (⟨#[]⟩ : ByteArray), (⟨#[]⟩ : ByteArray), (⟨#[65]⟩ : ByteArray), (⟨#[66]⟩ : ByteArray), (⟨#[67, 67]⟩ : ByteArray), (⟨#[68, 80]⟩ : ByteArray)]) (iv := code_) (kd := .mem) (q := 1) (b := 0) (ver := 0) [] (by kernel_rfl) (live_mem (by kernel_rfl)) (arr_h (l := [(⟨#[68]⟩ : ByteArray), (⟨#[88]⟩ : ByteArray), (⟨#[89]⟩ : ByteArray), (⟨#[85]⟩ : ByteArray), (⟨#[83]⟩ : ByteArray), (⟨#[80, 67]⟩ : ByteArray), (⟨#[]⟩ : ByteArray), (⟨#[]⟩ : ByteArray), (⟨#[65]⟩ : ByteArray), (⟨#[66]⟩ : ByteArray), (⟨#[67, 67]⟩ : ByteArray), (⟨#[68, 80]⟩ : ByteArray)]) c2 (by kernel_rfl)) (by kernel_rfl) (by kernel_rfl)) fun f6 hf6 => ?_
    refine mops_en hf6 (by kernel_rfl) fun f7 hf7 => ?_
    refine k_c ?_
    refine k_ret ?_
    obtain rfl := Option.some.inj h
    exact k_fin (fin_ret (.inl rfl) hf7 (vs := [.s (.string (gt [(⟨#[68]⟩ : ByteArray), (⟨#[88]⟩ : ByteArray), (⟨#[89]⟩ : ByteArray), (⟨#[85]⟩ : ByteArray), (⟨#[83]⟩ : ByteArray), (⟨#[80, 67]⟩ : ByteArray), (⟨#[]⟩ : ByteArray), (⟨#[]⟩ : ByteArray), (⟨#[65]⟩ : ByteArray), (⟨#[66]⟩ : ByteArray), (⟨#[67, 67]⟩ : ByteArray), (⟨#[68, 80]⟩ : ByteArray)] code_))]) (by kernel_rfl) (SettL.pure (FzL.stat rfl)))
def spinetref17_Code_i0 : List Op1 := [(oM 4 (.k (.int .i64 0)) [])]
def spinetref17_Code_i1 : List Op1 := [(oE 6 (.build [(.int .i64 0), (.int .i64 0), (.int .i64 0), (.int .i64 0), (.int .i64 0), (.int .i64 0), (.int .i64 0), (.int .i64 0)] [(0, (1, (.k (.int .i64 10)))), (1, (1, (.k (.int .i64 8)))), (2, (1, (.k (.int .i64 9)))), (3, (1, (.k (.int .i64 11)))), (4, (1, (.k (.int .i64 1)))), (5, (1, (.k (.int .i64 2)))), (6, (1, (.k (.int .i64 3)))), (7, (1, (.k (.int .i64 5))))]) []), (oE 5 (.zero [(.int .i64 0), (.int .i64 0), (.int .i64 0), (.int .i64 0), (.int .i64 0), (.int .i64 0), (.int .i64 0), (.int .i64 0)]) []), (oN (.store 8 (.t 5) (.t 6)) [1, 0, 0, 1])]
def spinetref17_Code_i2 : List Op1 := [(oM 7 (.t 1) []), (oM 8 (.t 7) [0]), (oG 9 (.mv (.t 0)) 8 true [1]), (oG 10 (.bin .eql (.t 9) (.k (.int .i64 6))) 8 true [2, 1]), (oE 11 (.pick (.t 8) (.t 10) (.k (.bool false))) [1, 3])]
def spinetref17_Code_i3 : List Op1 := [(oM 4 (.k (.int .i64 4)) [])]
def spinetref17_Code_i4 : IR := .ret
def spinetref17_Code_i5 : IR := (.cond (.t 11) (.seq (.reg false spinetref17_Code_i3) spinetref17_Code_i4) .skip)
def spinetref17_Code_i6 : List Op1 := [(oM 12 (.t 0) []), (oE 13 (.iaa 8 1 (.t 5) (.t 12)) [0]), (oE 14 (.load false 1 (.t 13)) [1]), (oM 4 (.t 14) [2, 0, 1, 2])]
def spinetref17_Code_i7 : IR := .ret
def spinetref17_Code_i8 : IR := (.seq (.reg false spinetref17_Code_i6) spinetref17_Code_i7)
def spinetref17_Code_i9 : IR := (.seq (.seq (.reg false spinetref17_Code_i2) spinetref17_Code_i5) spinetref17_Code_i8)
def spinetref17_Code_i10 : IR := (.seq (.reg false spinetref17_Code_i1) spinetref17_Code_i9)
def spinetref17_Code_ir : IR := (.seq (.reg false spinetref17_Code_i0) spinetref17_Code_i10)
theorem spinetref17_Code_cfn : cFn Tryd.prog 10 = some (spinetref17_Code_ir, [(.t 4)], 15) := by kernel_rfl
def spinetref17_Code_V (r : (Int)) : V := .s (.int .i64 r)
def spinetref17_Code_C (r : (Int)) : X → Fr → Hp → Prop := FinL [(.t 4)] [] (spinetref17_Code_V r) []
theorem spinetref17_Code_ok (place_ : Int) (user_ : Bool) (r : (Int)) (h : spinetref17_Code place_ user_ = some r) : Pure Tryd.prog 10 [.s (.int .i64 place_), .s (.bool user_)] (spinetref17_Code_V r) := by
  refine ConL.of spinetref17_Code_cfn (Nat.le_of_ble_eq_true (by kernel_rfl)) (Nat.le_of_ble_eq_true (by kernel_rfl)) ?_
  refine k_start ?_
  show dwv Tryd.prog [] spinetref17_Code_ir (kont Tryd.prog [] (spinetref17_Code_C r) []) (fr0 [.s (.int .i64 place_), .s (.bool user_)]) []
  have hf : FOk (fr0 [.s (.int .i64 place_), .s (.bool user_)]) [⟨0, [], .s (.int .i64 place_)⟩, ⟨1, [], .s (.bool user_)⟩] := ⟨⟨fun _ => rfl, fun h => (h trivial).elim⟩, ⟨fun _ => rfl, fun h => (h trivial).elim⟩, trivial⟩
  generalize fr0 [.s (.int .i64 place_), .s (.bool user_)] = f at hf ⊢
  unfold spinetref17_Code at h
  refine k_seq ?_
  refine k_reg ?_
  refine mops_en hf (by kernel_rfl) fun f1 hf1 => ?_
  refine k_c ?_
  refine k_seq ?_
  refine k_reg ?_
  refine mops_en hf1 (by kernel_rfl) fun f2 hf2 => ?_
  refine k_c ?_
  refine k_seq ?_
  refine k_seq ?_
  refine k_reg ?_
  refine mops_en hf2 (by kernel_rfl) fun f3 hf3 => ?_
  refine k_c ?_
  refine k_cond hf3 (t := (user_ && (place_ == 6))) (by kernel_rfl) (fun hc1 => ?_) (fun hc1 => ?_)
  · have h := if_t h hc1
    refine k_seq ?_
    refine k_reg ?_
    refine mops_en hf3 (by kernel_rfl) fun f4 hf4 => ?_
    refine k_c ?_
    refine k_ret ?_
    refine x_c nofun ?_
    obtain rfl := Option.some.inj h
    exact k_fin (fin_ret (.inl rfl) hf4 (vs := [.s (.int .i64 4)]) (by kernel_rfl) (SettL.pure (FzL.stat rfl)))
  · have h := if_f h hc1
    refine k_skip ?_
    refine k_c ?_
    refine k_seq ?_
    refine k_reg ?_
    refine mops_sg 1 hf3 (by kernel_rfl) fun f4 hf4 => ?_
    obtain ⟨c2, h⟩ := as_ok h
    refine mops_adv rfl (v := .ptr 0 0 (0 + (place_ : Int).toNat * 1)) hf4 (by kernel_rfl) (e_iaa (n := 8) (xv := .ptr 0 0 0) (k := .i64) (iv := place_) (p := .ptr 0 0 (0 + (place_ : Int).toNat * 1)) (by kernel_rfl) (by kernel_rfl) (by kernel_rfl) (by kernel_rfl) c2) fun f5 hf5 => ?_
    refine mops_adv rfl (v := .s (.int .i64 (gt [10, 8, 9, 11, 1, 2, 3, 5] place_))) hf5 (by kernel_rfl) (e_load_pe (g := (nI .i64)) (l := [10, 8, 9, 11, 1, 2, 3, 5]) (iv := place_) (kd := .mem) (q := 1) (b := 0) (ver := 0) [] (by kernel_rfl) (live_mem (by kernel_rfl)) (arr_h (l := [10, 8, 9, 11, 1, 2, 3, 5]) c2 (by kernel_rfl)) (by kernel_rfl) (by kernel_rfl)) fun f6 hf6 => ?_
    refine mops_en hf6 (by kernel_rfl) fun f7 hf7 => ?_
    refine k_c ?_
    refine k_ret ?_
    obtain rfl := Option.some.inj h
    exact k_fin (fin_ret (.inl rfl) hf7 (vs := [.s (.int .i64 (gt [10, 8, 9, 11, 1, 2, 3, 5] place_))]) (by kernel_rfl) (SettL.pure (FzL.stat rfl)))
end Go.Proofs.YtiedenhkailolaaDoorK
