/- The Go functions come to the functions over typed data. Printed by a program of this work. -/
import Derived.Test.YtiedenhkailolaaDoorF
import Derived.Test.YtiedenhkailolaaDoorProg
import Derived.Test.YtiedenhkailolaaDoorG0
import Derived.Test.YtiedenhkailolaaDoorG1
import Derived.Test.YtiedenhkailolaaDoorG2
namespace Go.Proofs.YtiedenhkailolaaDoorK
set_option linter.unusedVariables false
set_option linter.unusedSimpArgs false
set_option maxHeartbeats 4000000
open Go.RowKit
attribute [local irreducible] dwv mops lops lqops lwops kont iter run runK rk okK ex E1 vals val chain chB sel resF
def strings_Split_i0 : List Op1 := [(oE 4 (.nilg 1) [])]
def strings_Split_i1 : List Op1 := [(oM 5 (.t 0) []), (oM 6 (.t 1) []), (oC 7 34 [(.t 5), (.t 6), (.k (.int .i64 0)), (.k (.int .i64 (-1)))] [0, 1]), (oM 4 (.t 7) [2, 2, 0, 1, 2])]
def strings_Split_i2 : IR := .ret
def strings_Split_i3 : IR := (.seq (.reg false strings_Split_i1) strings_Split_i2)
def strings_Split_ir : IR := (.seq (.reg false strings_Split_i0) strings_Split_i3)
theorem strings_Split_cfn : cFn Tryd.prog 21 = some (strings_Split_ir, [(.t 4)], 8) := by kernel_rfl
def strings_Split_V (r : ((List ByteArray))) : V := .sl false r.length (cat nS r)
def strings_Split_C (r : ((List ByteArray))) : X → Fr → Hp → Prop := FinL [(.t 4)] [] (strings_Split_V r) []
theorem strings_Split_ok (s_ : ByteArray) (sep_ : ByteArray) (r : ((List ByteArray))) (h : strings_Split s_ sep_ = some r) : Pure Tryd.prog 21 [.s (.string s_), .s (.string sep_)] (strings_Split_V r) := by
  refine ConL.of strings_Split_cfn (Nat.le_of_ble_eq_true (by kernel_rfl)) (Nat.le_of_ble_eq_true (by kernel_rfl)) ?_
  refine k_start ?_
  show dwv Tryd.prog [] strings_Split_ir (kont Tryd.prog [] (strings_Split_C r) []) (fr0 [.s (.string s_), .s (.string sep_)]) []
  have hf : FOk (fr0 [.s (.string s_), .s (.string sep_)]) [⟨0, [], .s (.string s_)⟩, ⟨1, [], .s (.string sep_)⟩] := ⟨⟨fun _ => rfl, fun h => (h trivial).elim⟩, ⟨fun _ => rfl, fun h => (h trivial).elim⟩, trivial⟩
  generalize fr0 [.s (.string s_), .s (.string sep_)] = f at hf ⊢
  unfold strings_Split at h
  refine k_seq ?_
  refine k_reg ?_
  refine mops_en hf (by kernel_rfl) fun f1 hf1 => ?_
  refine k_c ?_
  refine k_seq ?_
  refine k_reg ?_
  refine mops_sg 2 hf1 (by kernel_rfl) fun f2 hf2 => ?_
  obtain ⟨r_, hx_r_, h⟩ := Option.bind_eq_some_iff.1 h
  refine mops_call rfl hf2 (av := [.s (.string s_), .s (.string sep_), .s (.int .i64 0), .s (.int .i64 (-1))]) (by kernel_rfl) (v := .sl false r_.length (cat nS r_)) (CalL.pure (strings_genSplit_ok s_ sep_ (0) (-1) r_ hx_r_) rfl (by simp [V.static, statics, cat_stat, strings_genSplit_V]) (Nat.le_of_ble_eq_true (by kernel_rfl))) (fun _ => rfl) fun f3 hf3 => ?_
  refine mops_en hf3 (by kernel_rfl) fun f4 hf4 => ?_
  refine k_c ?_
  refine k_ret ?_
  obtain rfl := Option.some.inj h
  exact k_fin (fin_ret (.inl rfl) hf4 (vs := [.sl false r_.length (cat nS r_)]) (by kernel_rfl) (SettL.pure (FzL.slf (g := nS))))
def lists_Byte_i0 : List Op1 := [(oE 2 (.box (.t 0)) []), (oE 3 (.box (.t 1)) []), (oM 4 (.k (.int .u8 0)) [])]
def lists_Byte_i1 : List Op1 := [(oE 6 (.load true 9 (.t 2)) []), (oE 7 (.build [(.int .u8 0), (.int .u8 0), (.int .u8 0), (.int .u8 0), (.int .u16 0), (.int .u16 0), (.int .u16 0), (.int .u16 0), (.int .u16 0)] [(0, (9, (.t 6)))]) [0]), (oE 8 (.box (.t 7)) [1]), (oM 5 (.t 8) [2, 0, 1, 2])]
def lists_Byte_i2 : List Op1 := [(oE 9 (.fld 1 (.t 3)) []), (oE 10 (.load false 1 (.t 9)) [0])]
def lists_Byte_i3 : List Op1 := [(oM 11 (.t 5) []), (oE 12 (.fld 0 (.t 3)) []), (oE 13 (.load false 1 (.t 12)) [1]), (oC 14 26 [(.t 11), (.t 13)] [0, 2]), (oC 15 25 [(.t 14)] [3, 3]), (oM 4 (.t 15) [4, 4, 0, 1, 2, 3, 4])]
def lists_Byte_i4 : IR := .ret
def lists_Byte_i5 : IR := (.cond (.t 10) (.seq (.reg false lists_Byte_i3) lists_Byte_i4) .skip)
def lists_Byte_i6 : List Op1 := [(oM 16 (.t 5) []), (oE 17 (.fld 0 (.t 3)) []), (oE 18 (.load false 1 (.t 17)) [1]), (oC 19 26 [(.t 16), (.t 18)] [0, 2]), (oC 20 27 [(.t 19)] [3, 3]), (oM 4 (.t 20) [4, 4, 0, 1, 2, 3, 4])]
def lists_Byte_i7 : IR := .ret
def lists_Byte_i8 : IR := (.seq (.reg false lists_Byte_i6) lists_Byte_i7)
def lists_Byte_i9 : IR := (.seq (.seq (.reg false lists_Byte_i2) lists_Byte_i5) lists_Byte_i8)
def lists_Byte_i10 : IR := (.seq (.reg false lists_Byte_i1) lists_Byte_i9)
def lists_Byte_ir : IR := (.seq (.reg false lists_Byte_i0) lists_Byte_i10)
theorem lists_Byte_cfn : cFn Tryd.prog 15 = some (lists_Byte_ir, [(.t 4)], 21) := by kernel_rfl
def lists_Byte_V (r : (Int)) : V := .s (.int .u8 r)
def lists_Byte_C (r : (Int)) : X → Fr → Hp → Prop := FinL [(.t 4)] [] (lists_Byte_V r) []
theorem lists_Byte_ok (r_ : api_Regs) (p_ : lists_Part) (r : (Int)) (h : lists_Byte r_ p_ = some r) : Pure Tryd.prog 15 [.agg [.s (.int .u8 r_.A), .s (.int .u8 r_.B), .s (.int .u8 r_.DP), .s (.int .u8 r_.CC), .s (.int .u16 r_.X), .s (.int .u16 r_.Y), .s (.int .u16 r_.U), .s (.int .u16 r_.S), .s (.int .u16 r_.PC)], .agg [.s (.int .i64 p_.Reg), .s (.bool p_.High)]] (lists_Byte_V r) := by
  refine ConL.of lists_Byte_cfn (Nat.le_of_ble_eq_true (by kernel_rfl)) (Nat.le_of_ble_eq_true (by kernel_rfl)) ?_
  refine k_start ?_
  show dwv Tryd.prog [] lists_Byte_ir (kont Tryd.prog [] (lists_Byte_C r) []) (fr0 [.agg [.s (.int .u8 r_.A), .s (.int .u8 r_.B), .s (.int .u8 r_.DP), .s (.int .u8 r_.CC), .s (.int .u16 r_.X), .s (.int .u16 r_.Y), .s (.int .u16 r_.U), .s (.int .u16 r_.S), .s (.int .u16 r_.PC)], .agg [.s (.int .i64 p_.Reg), .s (.bool p_.High)]]) []
  have hf : FOk (fr0 [.agg [.s (.int .u8 r_.A), .s (.int .u8 r_.B), .s (.int .u8 r_.DP), .s (.int .u8 r_.CC), .s (.int .u16 r_.X), .s (.int .u16 r_.Y), .s (.int .u16 r_.U), .s (.int .u16 r_.S), .s (.int .u16 r_.PC)], .agg [.s (.int .i64 p_.Reg), .s (.bool p_.High)]]) [⟨0, [], .agg [.s (.int .u8 r_.A), .s (.int .u8 r_.B), .s (.int .u8 r_.DP), .s (.int .u8 r_.CC), .s (.int .u16 r_.X), .s (.int .u16 r_.Y), .s (.int .u16 r_.U), .s (.int .u16 r_.S), .s (.int .u16 r_.PC)]⟩, ⟨1, [], .agg [.s (.int .i64 p_.Reg), .s (.bool p_.High)]⟩] := ⟨⟨fun _ => rfl, fun h => (h trivial).elim⟩, ⟨fun _ => rfl, fun h => (h trivial).elim⟩, trivial⟩
  generalize fr0 [.agg [.s (.int .u8 r_.A), .s (.int .u8 r_.B), .s (.int .u8 r_.DP), .s (.int .u8 r_.CC), .s (.int .u16 r_.X), .s (.int .u16 r_.Y), .s (.int .u16 r_.U), .s (.int .u16 r_.S), .s (.int .u16 r_.PC)], .agg [.s (.int .i64 p_.Reg), .s (.bool p_.High)]] = f at hf ⊢
  unfold lists_Byte at h
  refine k_seq ?_
  refine k_reg ?_
  refine mops_en hf (by kernel_rfl) fun f1 hf1 => ?_
  refine k_c ?_
  refine k_seq ?_
  refine k_reg ?_
  refine mops_en hf1 (by kernel_rfl) fun f2 hf2 => ?_
  refine k_c ?_
  refine k_seq ?_
  refine k_seq ?_
  refine k_reg ?_
  refine mops_en hf2 (by kernel_rfl) fun f3 hf3 => ?_
  refine k_c ?_
  refine k_cond hf3 (t := p_.High) (by kernel_rfl) (fun hc1 => ?_) (fun hc1 => ?_)
  · have h := if_t h hc1
    refine k_seq ?_
    refine k_reg ?_
    refine mops_sg 3 hf3 (by kernel_rfl) fun f4 hf4 => ?_
    obtain ⟨r_1, hx_r_1, h⟩ := Option.bind_eq_some_iff.1 h
    refine mops_call rfl hf4 (av := [.ptr 2 0 0, .s (.int .i64 p_.Reg)]) (by kernel_rfl) (v := .s (.int .u16 r_1)) (L' := [⟨0, .mem, 1, [.s (.int .u8 r_.A), .s (.int .u8 r_.B), .s (.int .u8 r_.DP), .s (.int .u8 r_.CC), .s (.int .u16 r_.X), .s (.int .u16 r_.Y), .s (.int .u16 r_.U), .s (.int .u16 r_.S), .s (.int .u16 r_.PC)]⟩, ⟨0, .mem, 1, [.s (.int .i64 p_.Reg), .s (.bool p_.High)]⟩, ⟨0, .mem, 1, [.s (.int .u8 r_.A), .s (.int .u8 r_.B), .s (.int .u8 r_.DP), .s (.int .u8 r_.CC), .s (.int .u16 r_.X), .s (.int .u16 r_.Y), .s (.int .u16 r_.U), .s (.int .u16 r_.S), .s (.int .u16 r_.PC)]⟩]) (CalL.borrow (M := [⟨0, .mem, 1, [.s (.int .u8 r_.A), .s (.int .u8 r_.B), .s (.int .u8 r_.DP), .s (.int .u8 r_.CC), .s (.int .u16 r_.X), .s (.int .u16 r_.Y), .s (.int .u16 r_.U), .s (.int .u16 r_.S), .s (.int .u16 r_.PC)]⟩]) (M' := [⟨0, .mem, 1, [.s (.int .u8 r_.A), .s (.int .u8 r_.B), .s (.int .u8 r_.DP), .s (.int .u8 r_.CC), .s (.int .u16 r_.X), .s (.int .u16 r_.Y), .s (.int .u16 r_.U), .s (.int .u16 r_.S), .s (.int .u16 r_.PC)]⟩]) [2] (file_File_Get_ok (file_File.mk r_) p_.Reg r_1 hx_r_1) (by kernel_rfl) (RNs.cons (RN.ptr (by kernel_rfl)) (RNs.cons (RN.stat rfl) RNs.nil)) (RN.stat rfl) (RBs.cons (RNs.stat rfl) RBs.nil) (RBs.cons (RNs.stat rfl) RBs.nil) (by kernel_rfl) (by kernel_rfl)) (by intro h; cases h) fun f5 hf5 => ?_
    obtain ⟨r_2, hx_r_2, h⟩ := Option.bind_eq_some_iff.1 h
    refine mops_call rfl hf5 (av := [.s (.int .u16 r_1)]) (by kernel_rfl) (v := .s (.int .u8 r_2)) (CalL.pure (octet_High_ok r_1 r_2 hx_r_2) rfl rfl (Nat.le_of_ble_eq_true (by kernel_rfl))) (fun _ => rfl) fun f6 hf6 => ?_
    refine mops_en hf6 (by kernel_rfl) fun f7 hf7 => ?_
    refine k_c ?_
    refine k_ret ?_
    refine x_c nofun ?_
    obtain rfl := Option.some.inj h
    exact k_fin (fin_ret (.inl rfl) hf7 (vs := [.s (.int .u8 r_2)]) (by kernel_rfl) (SettL.pure (FzL.stat rfl)))
  · have h := if_f h hc1
    refine k_skip ?_
    refine k_c ?_
    refine k_seq ?_
    refine k_reg ?_
    refine mops_sg 3 hf3 (by kernel_rfl) fun f4 hf4 => ?_
    obtain ⟨r_3, hx_r_3, h⟩ := Option.bind_eq_some_iff.1 h
    refine mops_call rfl hf4 (av := [.ptr 2 0 0, .s (.int .i64 p_.Reg)]) (by kernel_rfl) (v := .s (.int .u16 r_3)) (L' := [⟨0, .mem, 1, [.s (.int .u8 r_.A), .s (.int .u8 r_.B), .s (.int .u8 r_.DP), .s (.int .u8 r_.CC), .s (.int .u16 r_.X), .s (.int .u16 r_.Y), .s (.int .u16 r_.U), .s (.int .u16 r_.S), .s (.int .u16 r_.PC)]⟩, ⟨0, .mem, 1, [.s (.int .i64 p_.Reg), .s (.bool p_.High)]⟩, ⟨0, .mem, 1, [.s (.int .u8 r_.A), .s (.int .u8 r_.B), .s (.int .u8 r_.DP), .s (.int .u8 r_.CC), .s (.int .u16 r_.X), .s (.int .u16 r_.Y), .s (.int .u16 r_.U), .s (.int .u16 r_.S), .s (.int .u16 r_.PC)]⟩]) (CalL.borrow (M := [⟨0, .mem, 1, [.s (.int .u8 r_.A), .s (.int .u8 r_.B), .s (.int .u8 r_.DP), .s (.int .u8 r_.CC), .s (.int .u16 r_.X), .s (.int .u16 r_.Y), .s (.int .u16 r_.U), .s (.int .u16 r_.S), .s (.int .u16 r_.PC)]⟩]) (M' := [⟨0, .mem, 1, [.s (.int .u8 r_.A), .s (.int .u8 r_.B), .s (.int .u8 r_.DP), .s (.int .u8 r_.CC), .s (.int .u16 r_.X), .s (.int .u16 r_.Y), .s (.int .u16 r_.U), .s (.int .u16 r_.S), .s (.int .u16 r_.PC)]⟩]) [2] (file_File_Get_ok (file_File.mk r_) p_.Reg r_3 hx_r_3) (by kernel_rfl) (RNs.cons (RN.ptr (by kernel_rfl)) (RNs.cons (RN.stat rfl) RNs.nil)) (RN.stat rfl) (RBs.cons (RNs.stat rfl) RBs.nil) (RBs.cons (RNs.stat rfl) RBs.nil) (by kernel_rfl) (by kernel_rfl)) (by intro h; cases h) fun f5 hf5 => ?_
    obtain ⟨r_4, hx_r_4, h⟩ := Option.bind_eq_some_iff.1 h
    refine mops_call rfl hf5 (av := [.s (.int .u16 r_3)]) (by kernel_rfl) (v := .s (.int .u8 r_4)) (CalL.pure (octet_Low_ok r_3 r_4 hx_r_4) rfl rfl (Nat.le_of_ble_eq_true (by kernel_rfl))) (fun _ => rfl) fun f6 hf6 => ?_
    refine mops_en hf6 (by kernel_rfl) fun f7 hf7 => ?_
    refine k_c ?_
    refine k_ret ?_
    obtain rfl := Option.some.inj h
    exact k_fin (fin_ret (.inl rfl) hf7 (vs := [.s (.int .u8 r_4)]) (by kernel_rfl) (SettL.pure (FzL.stat rfl)))
def lists_With_i0 : List Op1 := [(oE 3 (.box (.t 0)) []), (oE 4 (.box (.t 1)) []), (oE 6 (.zero [(.int .u8 0), (.int .u8 0), (.int .u8 0), (.int .u8 0), (.int .u16 0), (.int .u16 0), (.int .u16 0), (.int .u16 0), (.int .u16 0)]) [])]
def lists_With_i1 : List Op1 := [(oE 9 (.load true 9 (.t 3)) []), (oE 10 (.build [(.int .u8 0), (.int .u8 0), (.int .u8 0), (.int .u8 0), (.int .u16 0), (.int .u16 0), (.int .u16 0), (.int .u16 0), (.int .u16 0)] [(0, (9, (.t 9)))]) [0]), (oE 11 (.box (.t 10)) [1]), (oM 7 (.t 11) [2, 0, 1, 2])]
def lists_With_i2 : List Op1 := [(oM 12 (.t 7) []), (oE 13 (.fld 0 (.t 4)) []), (oE 14 (.load false 1 (.t 13)) [1]), (oC 15 26 [(.t 12), (.t 14)] [0, 2]), (oM 8 (.t 15) [3, 3, 0, 1, 2, 3])]
def lists_With_i3 : List Op1 := [(oE 16 (.fld 1 (.t 4)) []), (oE 17 (.load false 1 (.t 16)) [0])]
def lists_With_i4 : List An := [(aO (oM 18 (.t 7) []) false 0 0), (aO (oE 19 (.fld 0 (.t 4)) []) false 0 0), (aO (oE 20 (.load false 1 (.t 19)) [1]) false 0 0), (aO (oM 21 (.t 2) []) false 0 0), (aO (oM 22 (.t 8) []) false 0 0), (aO (oC 23 27 [(.t 22)] [4]) false 0 0), (aO (oC 24 30 [(.t 21), (.t 23)] [3, 5, 5]) false 0 0), (aO (oC 25 29 [(.t 18), (.t 20), (.t 24)] [0, 2, 6, 6]) true 0 1)]
def lists_With_i5 : List An := [(aO (oM 26 (.t 7) []) false 0 0), (aO (oE 27 (.fld 0 (.t 4)) []) false 0 0), (aO (oE 28 (.load false 1 (.t 27)) [1]) false 0 0), (aO (oM 29 (.t 8) []) false 0 0), (aO (oC 30 25 [(.t 29)] [3]) false 0 0), (aO (oM 31 (.t 2) []) false 0 0), (aO (oC 32 30 [(.t 30), (.t 31)] [4, 5, 4]) false 0 0), (aO (oC 33 29 [(.t 26), (.t 28), (.t 32)] [0, 2, 6, 6]) true 0 1)]
def lists_With_i6 : IR := (.cond (.t 17) (.regw lists_With_i4) (.regw lists_With_i5))
def lists_With_i7 : List Op1 := [(oM 34 (.t 7) []), (oE 35 (.nilc (.t 34)) [0]), (oE 36 (.fld 0 (.t 35)) [1]), (oE 37 (.load true 9 (.t 36)) [2]), (oN (.store 9 (.t 6) (.t 37)) [3, 0, 1, 2, 3])]
def lists_With_i8 : IR := .ret
def lists_With_i9 : IR := (.seq (.reg false lists_With_i7) lists_With_i8)
def lists_With_i10 : IR := (.seq (.seq (.reg false lists_With_i3) lists_With_i6) lists_With_i9)
def lists_With_i11 : IR := (.seq (.reg false lists_With_i2) lists_With_i10)
def lists_With_i12 : IR := (.seq (.reg false lists_With_i1) lists_With_i11)
def lists_With_ir : IR := (.seq (.reg false lists_With_i0) lists_With_i12)
theorem lists_With_cfn : cFn Tryd.prog 17 [29] = some (lists_With_ir, [(.c 6 true 9)], 38) := by kernel_rfl
def lists_With_V (r : (api_Regs)) : V := .agg [.s (.int .u8 r.A), .s (.int .u8 r.B), .s (.int .u8 r.DP), .s (.int .u8 r.CC), .s (.int .u16 r.X), .s (.int .u16 r.Y), .s (.int .u16 r.U), .s (.int .u16 r.S), .s (.int .u16 r.PC)]
def lists_With_C (r : (api_Regs)) : X → Fr → Hp → Prop := FinL [(.c 6 true 9)] [] (lists_With_V r) []
theorem lists_With_ok (r_ : api_Regs) (p_ : lists_Part) (b_ : Int) (r : (api_Regs)) (h : lists_With r_ p_ b_ = some r) : Pure Tryd.prog 17 [.agg [.s (.int .u8 r_.A), .s (.int .u8 r_.B), .s (.int .u8 r_.DP), .s (.int .u8 r_.CC), .s (.int .u16 r_.X), .s (.int .u16 r_.Y), .s (.int .u16 r_.U), .s (.int .u16 r_.S), .s (.int .u16 r_.PC)], .agg [.s (.int .i64 p_.Reg), .s (.bool p_.High)], .s (.int .u8 b_)] (lists_With_V r) := by
  refine ConL.of lists_With_cfn (Nat.le_of_ble_eq_true (by kernel_rfl)) (Nat.le_of_ble_eq_true (by kernel_rfl)) ?_
  refine k_start ?_
  show dwv Tryd.prog [] lists_With_ir (kont Tryd.prog [] (lists_With_C r) []) (fr0 [.agg [.s (.int .u8 r_.A), .s (.int .u8 r_.B), .s (.int .u8 r_.DP), .s (.int .u8 r_.CC), .s (.int .u16 r_.X), .s (.int .u16 r_.Y), .s (.int .u16 r_.U), .s (.int .u16 r_.S), .s (.int .u16 r_.PC)], .agg [.s (.int .i64 p_.Reg), .s (.bool p_.High)], .s (.int .u8 b_)]) []
  have hf : FOk (fr0 [.agg [.s (.int .u8 r_.A), .s (.int .u8 r_.B), .s (.int .u8 r_.DP), .s (.int .u8 r_.CC), .s (.int .u16 r_.X), .s (.int .u16 r_.Y), .s (.int .u16 r_.U), .s (.int .u16 r_.S), .s (.int .u16 r_.PC)], .agg [.s (.int .i64 p_.Reg), .s (.bool p_.High)], .s (.int .u8 b_)]) [⟨0, [], .agg [.s (.int .u8 r_.A), .s (.int .u8 r_.B), .s (.int .u8 r_.DP), .s (.int .u8 r_.CC), .s (.int .u16 r_.X), .s (.int .u16 r_.Y), .s (.int .u16 r_.U), .s (.int .u16 r_.S), .s (.int .u16 r_.PC)]⟩, ⟨1, [], .agg [.s (.int .i64 p_.Reg), .s (.bool p_.High)]⟩, ⟨2, [], .s (.int .u8 b_)⟩] := ⟨⟨fun _ => rfl, fun h => (h trivial).elim⟩, ⟨fun _ => rfl, fun h => (h trivial).elim⟩, ⟨fun _ => rfl, fun h => (h trivial).elim⟩, trivial⟩
  generalize fr0 [.agg [.s (.int .u8 r_.A), .s (.int .u8 r_.B), .s (.int .u8 r_.DP), .s (.int .u8 r_.CC), .s (.int .u16 r_.X), .s (.int .u16 r_.Y), .s (.int .u16 r_.U), .s (.int .u16 r_.S), .s (.int .u16 r_.PC)], .agg [.s (.int .i64 p_.Reg), .s (.bool p_.High)], .s (.int .u8 b_)] = f at hf ⊢
  unfold lists_With at h
  refine k_seq ?_
  refine k_reg ?_
  refine mops_en hf (by kernel_rfl) fun f1 hf1 => ?_
  refine k_c ?_
  refine k_seq ?_
  refine k_reg ?_
  refine mops_en hf1 (by kernel_rfl) fun f2 hf2 => ?_
  refine k_c ?_
  refine k_seq ?_
  refine k_reg ?_
  refine mops_sg 3 hf2 (by kernel_rfl) fun f3 hf3 => ?_
  obtain ⟨r_1, hx_r_1, h⟩ := Option.bind_eq_some_iff.1 h
  refine mops_call rfl hf3 (av := [.ptr 3 0 0, .s (.int .i64 p_.Reg)]) (by kernel_rfl) (v := .s (.int .u16 r_1)) (L' := [⟨0, .mem, 1, [.s (.int .u8 r_.A), .s (.int .u8 r_.B), .s (.int .u8 r_.DP), .s (.int .u8 r_.CC), .s (.int .u16 r_.X), .s (.int .u16 r_.Y), .s (.int .u16 r_.U), .s (.int .u16 r_.S), .s (.int .u16 r_.PC)]⟩, ⟨0, .mem, 1, [.s (.int .i64 p_.Reg), .s (.bool p_.High)]⟩, ⟨0, .mem, 1, [.s (.int .u8 0), .s (.int .u8 0), .s (.int .u8 0), .s (.int .u8 0), .s (.int .u16 0), .s (.int .u16 0), .s (.int .u16 0), .s (.int .u16 0), .s (.int .u16 0)]⟩, ⟨0, .mem, 1, [.s (.int .u8 r_.A), .s (.int .u8 r_.B), .s (.int .u8 r_.DP), .s (.int .u8 r_.CC), .s (.int .u16 r_.X), .s (.int .u16 r_.Y), .s (.int .u16 r_.U), .s (.int .u16 r_.S), .s (.int .u16 r_.PC)]⟩]) (CalL.borrow (M := [⟨0, .mem, 1, [.s (.int .u8 r_.A), .s (.int .u8 r_.B), .s (.int .u8 r_.DP), .s (.int .u8 r_.CC), .s (.int .u16 r_.X), .s (.int .u16 r_.Y), .s (.int .u16 r_.U), .s (.int .u16 r_.S), .s (.int .u16 r_.PC)]⟩]) (M' := [⟨0, .mem, 1, [.s (.int .u8 r_.A), .s (.int .u8 r_.B), .s (.int .u8 r_.DP), .s (.int .u8 r_.CC), .s (.int .u16 r_.X), .s (.int .u16 r_.Y), .s (.int .u16 r_.U), .s (.int .u16 r_.S), .s (.int .u16 r_.PC)]⟩]) [3] (file_File_Get_ok (file_File.mk r_) p_.Reg r_1 hx_r_1) (by kernel_rfl) (RNs.cons (RN.ptr (by kernel_rfl)) (RNs.cons (RN.stat rfl) RNs.nil)) (RN.stat rfl) (RBs.cons (RNs.stat rfl) RBs.nil) (RBs.cons (RNs.stat rfl) RBs.nil) (by kernel_rfl) (by kernel_rfl)) (by intro h; cases h) fun f4 hf4 => ?_
  refine mops_en hf4 (by kernel_rfl) fun f5 hf5 => ?_
  refine k_c ?_
  refine k_seq ?_
  refine k_seq ?_
  refine k_reg ?_
  refine mops_en hf5 (by kernel_rfl) fun f6 hf6 => ?_
  refine k_c ?_
  have hj1 : ∀ (m_ : Int) (m_1 : Int) (m_2 : Int) (m_3 : Int) (m_4 : Int) (m_5 : Int) (m_6 : Int) (m_7 : Int) (m_8 : Int), lists_With_j0 m_ m_1 m_2 m_3 m_4 m_5 m_6 m_7 m_8 = some r → ∀ f, FOk f [⟨6, [], .ptr 2 0 0⟩, ⟨7, [], .ptr 3 0 0⟩] → kont Tryd.prog [] (lists_With_C r) ((.c lists_With_i9) :: []) .normal f [⟨0, .mem, 1, [.s (.int .u8 r_.A), .s (.int .u8 r_.B), .s (.int .u8 r_.DP), .s (.int .u8 r_.CC), .s (.int .u16 r_.X), .s (.int .u16 r_.Y), .s (.int .u16 r_.U), .s (.int .u16 r_.S), .s (.int .u16 r_.PC)]⟩, ⟨0, .mem, 1, [.s (.int .i64 p_.Reg), .s (.bool p_.High)]⟩, ⟨0, .mem, 1, [.s (.int .u8 0), .s (.int .u8 0), .s (.int .u8 0), .s (.int .u8 0), .s (.int .u16 0), .s (.int .u16 0), .s (.int .u16 0), .s (.int .u16 0), .s (.int .u16 0)]⟩, ⟨0, .mem, 1, [.s (.int .u8 m_), .s (.int .u8 m_1), .s (.int .u8 m_2), .s (.int .u8 m_3), .s (.int .u16 m_4), .s (.int .u16 m_5), .s (.int .u16 m_6), .s (.int .u16 m_7), .s (.int .u16 m_8)]⟩] := by
    intro m_ m_1 m_2 m_3 m_4 m_5 m_6 m_7 m_8 h f hf
    unfold lists_With_j0 at h
    refine k_c ?_
    refine k_seq ?_
    refine k_reg ?_
    refine mops_en hf (by kernel_rfl) fun f1 hf1 => ?_
    refine k_c ?_
    refine k_ret ?_
    obtain rfl := Option.some.inj h
    exact k_fin (fin_ret (.inl rfl) hf1 (vs := [.agg [.s (.int .u8 m_), .s (.int .u8 m_1), .s (.int .u8 m_2), .s (.int .u8 m_3), .s (.int .u16 m_4), .s (.int .u16 m_5), .s (.int .u16 m_6), .s (.int .u16 m_7), .s (.int .u16 m_8)]]) (by kernel_rfl) (SettL.pure (FzL.stat rfl)))
  refine k_cond hf6 (t := p_.High) (by kernel_rfl) (fun hc1 => ?_) (fun hc1 => ?_)
  · have h := if_t h hc1
    refine k_regw ?_
    refine lw_tight 7 (by kernel_rfl) ?_
    refine mops_seg [6, 7, 18, 20, 21, 22] 5 hf6 (l' := [⟨6, [], .ptr 2 0 0⟩, ⟨7, [], .ptr 3 0 0⟩, ⟨18, [], .ptr 3 0 0⟩, ⟨20, [], .s (.int .i64 p_.Reg)⟩, ⟨21, [], .s (.int .u8 b_)⟩, ⟨22, [], .s (.int .u16 r_1)⟩]) (L' := [⟨0, .mem, 1, [.s (.int .u8 r_.A), .s (.int .u8 r_.B), .s (.int .u8 r_.DP), .s (.int .u8 r_.CC), .s (.int .u16 r_.X), .s (.int .u16 r_.Y), .s (.int .u16 r_.U), .s (.int .u16 r_.S), .s (.int .u16 r_.PC)]⟩, ⟨0, .mem, 1, [.s (.int .i64 p_.Reg), .s (.bool p_.High)]⟩, ⟨0, .mem, 1, [.s (.int .u8 0), .s (.int .u8 0), .s (.int .u8 0), .s (.int .u8 0), .s (.int .u16 0), .s (.int .u16 0), .s (.int .u16 0), .s (.int .u16 0), .s (.int .u16 0)]⟩, ⟨0, .mem, 1, [.s (.int .u8 r_.A), .s (.int .u8 r_.B), .s (.int .u8 r_.DP), .s (.int .u8 r_.CC), .s (.int .u16 r_.X), .s (.int .u16 r_.Y), .s (.int .u16 r_.U), .s (.int .u16 r_.S), .s (.int .u16 r_.PC)]⟩]) (by kernel_rfl) fun f7 hf7 => ?_
    obtain ⟨r_2, hx_r_2, h⟩ := Option.bind_eq_some_iff.1 h
    refine mops_call rfl hf7 (av := [.s (.int .u16 r_1)]) (by kernel_rfl) (v := .s (.int .u8 r_2)) (CalL.pure (octet_Low_ok r_1 r_2 hx_r_2) rfl rfl (Nat.le_of_ble_eq_true (by kernel_rfl))) (fun _ => rfl) fun f8 hf8 => ?_
    obtain ⟨r_3, hx_r_3, h⟩ := Option.bind_eq_some_iff.1 h
    refine mops_call rfl hf8 (av := [.s (.int .u8 b_), .s (.int .u8 r_2)]) (by kernel_rfl) (v := .s (.int .u16 r_3)) (CalL.pure (octet_Word_ok b_ r_2 r_3 hx_r_3) rfl rfl (Nat.le_of_ble_eq_true (by kernel_rfl))) (fun _ => rfl) fun f9 hf9 => ?_
    refine mops_end [6, 7, 18, 20, 24] hf9 (l' := [⟨6, [], .ptr 2 0 0⟩, ⟨7, [], .ptr 3 0 0⟩, ⟨18, [], .ptr 3 0 0⟩, ⟨20, [], .s (.int .i64 p_.Reg)⟩, ⟨24, [], .s (.int .u16 r_3)⟩]) (L' := [⟨0, .mem, 1, [.s (.int .u8 r_.A), .s (.int .u8 r_.B), .s (.int .u8 r_.DP), .s (.int .u8 r_.CC), .s (.int .u16 r_.X), .s (.int .u16 r_.Y), .s (.int .u16 r_.U), .s (.int .u16 r_.S), .s (.int .u16 r_.PC)]⟩, ⟨0, .mem, 1, [.s (.int .i64 p_.Reg), .s (.bool p_.High)]⟩, ⟨0, .mem, 1, [.s (.int .u8 0), .s (.int .u8 0), .s (.int .u8 0), .s (.int .u8 0), .s (.int .u16 0), .s (.int .u16 0), .s (.int .u16 0), .s (.int .u16 0), .s (.int .u16 0)]⟩, ⟨0, .mem, 1, [.s (.int .u8 r_.A), .s (.int .u8 r_.B), .s (.int .u8 r_.DP), .s (.int .u8 r_.CC), .s (.int .u16 r_.X), .s (.int .u16 r_.Y), .s (.int .u16 r_.U), .s (.int .u16 r_.S), .s (.int .u16 r_.PC)]⟩]) (by kernel_rfl) fun f10 hf10 => ?_
    intro _
    refine lw_w (a := ⟨⟨(some 25), (.call 29 [(.t 18), (.t 20), (.t 24)]), none, [0, 2, 6, 6]⟩, true, 0, 1⟩) (by kernel_rfl) rfl rfl ?_
    obtain ⟨r_4, hx_r_4, h⟩ := Option.bind_eq_some_iff.1 h
    refine mops_call rfl hf10 (av := [.ptr 3 0 0, .s (.int .i64 p_.Reg), .s (.int .u16 r_3)]) (by kernel_rfl) (v := .s (.bool r_4.1)) (L' := [⟨0, .mem, 1, [.s (.int .u8 r_.A), .s (.int .u8 r_.B), .s (.int .u8 r_.DP), .s (.int .u8 r_.CC), .s (.int .u16 r_.X), .s (.int .u16 r_.Y), .s (.int .u16 r_.U), .s (.int .u16 r_.S), .s (.int .u16 r_.PC)]⟩, ⟨0, .mem, 1, [.s (.int .i64 p_.Reg), .s (.bool p_.High)]⟩, ⟨0, .mem, 1, [.s (.int .u8 0), .s (.int .u8 0), .s (.int .u8 0), .s (.int .u8 0), .s (.int .u16 0), .s (.int .u16 0), .s (.int .u16 0), .s (.int .u16 0), .s (.int .u16 0)]⟩, ⟨0, .mem, 1, [.s (.int .u8 r_4.2.Regs.A), .s (.int .u8 r_4.2.Regs.B), .s (.int .u8 r_4.2.Regs.DP), .s (.int .u8 r_4.2.Regs.CC), .s (.int .u16 r_4.2.Regs.X), .s (.int .u16 r_4.2.Regs.Y), .s (.int .u16 r_4.2.Regs.U), .s (.int .u16 r_4.2.Regs.S), .s (.int .u16 r_4.2.Regs.PC)]⟩]) (CalL.borrow (M := [⟨0, .mem, 1, [.s (.int .u8 r_.A), .s (.int .u8 r_.B), .s (.int .u8 r_.DP), .s (.int .u8 r_.CC), .s (.int .u16 r_.X), .s (.int .u16 r_.Y), .s (.int .u16 r_.U), .s (.int .u16 r_.S), .s (.int .u16 r_.PC)]⟩]) (M' := [⟨0, .mem, 1, [.s (.int .u8 r_4.2.Regs.A), .s (.int .u8 r_4.2.Regs.B), .s (.int .u8 r_4.2.Regs.DP), .s (.int .u8 r_4.2.Regs.CC), .s (.int .u16 r_4.2.Regs.X), .s (.int .u16 r_4.2.Regs.Y), .s (.int .u16 r_4.2.Regs.U), .s (.int .u16 r_4.2.Regs.S), .s (.int .u16 r_4.2.Regs.PC)]⟩]) [3] (file_File_Set_ok (file_File.mk r_) p_.Reg r_3 r_4 hx_r_4) (by kernel_rfl) (RNs.cons (RN.ptr (by kernel_rfl)) (RNs.cons (RN.stat rfl) (RNs.cons (RN.stat rfl) RNs.nil))) (RN.stat rfl) (RBs.cons (RNs.stat rfl) RBs.nil) (RBs.cons (RNs.stat rfl) RBs.nil) (by kernel_rfl) (by kernel_rfl)) (by intro h; cases h) fun f11 hf11 => ?_
    refine mops_end [6, 7] hf11 (l' := [⟨6, [], .ptr 2 0 0⟩, ⟨7, [], .ptr 3 0 0⟩]) (L' := [⟨0, .mem, 1, [.s (.int .u8 r_.A), .s (.int .u8 r_.B), .s (.int .u8 r_.DP), .s (.int .u8 r_.CC), .s (.int .u16 r_.X), .s (.int .u16 r_.Y), .s (.int .u16 r_.U), .s (.int .u16 r_.S), .s (.int .u16 r_.PC)]⟩, ⟨0, .mem, 1, [.s (.int .i64 p_.Reg), .s (.bool p_.High)]⟩, ⟨0, .mem, 1, [.s (.int .u8 0), .s (.int .u8 0), .s (.int .u8 0), .s (.int .u8 0), .s (.int .u16 0), .s (.int .u16 0), .s (.int .u16 0), .s (.int .u16 0), .s (.int .u16 0)]⟩, ⟨0, .mem, 1, [.s (.int .u8 r_4.2.Regs.A), .s (.int .u8 r_4.2.Regs.B), .s (.int .u8 r_4.2.Regs.DP), .s (.int .u8 r_4.2.Regs.CC), .s (.int .u16 r_4.2.Regs.X), .s (.int .u16 r_4.2.Regs.Y), .s (.int .u16 r_4.2.Regs.U), .s (.int .u16 r_4.2.Regs.S), .s (.int .u16 r_4.2.Regs.PC)]⟩]) (by kernel_rfl) fun f12 hf12 => ?_
    refine ⟨trivial, ?_⟩
    refine lw_end (by kernel_rfl) ?_
    exact hj1 r_4.2.Regs.A r_4.2.Regs.B r_4.2.Regs.DP r_4.2.Regs.CC r_4.2.Regs.X r_4.2.Regs.Y r_4.2.Regs.U r_4.2.Regs.S r_4.2.Regs.PC h _ (FOk_of [6, 7] hf12 (by kernel_rfl))
  · have h := if_f h hc1
    refine k_regw ?_
    refine lw_tight 7 (by kernel_rfl) ?_
    refine mops_seg [2, 6, 7, 26, 28, 29] 4 hf6 (l' := [⟨2, [], .s (.int .u8 b_)⟩, ⟨6, [], .ptr 2 0 0⟩, ⟨7, [], .ptr 3 0 0⟩, ⟨26, [], .ptr 3 0 0⟩, ⟨28, [], .s (.int .i64 p_.Reg)⟩, ⟨29, [], .s (.int .u16 r_1)⟩]) (L' := [⟨0, .mem, 1, [.s (.int .u8 r_.A), .s (.int .u8 r_.B), .s (.int .u8 r_.DP), .s (.int .u8 r_.CC), .s (.int .u16 r_.X), .s (.int .u16 r_.Y), .s (.int .u16 r_.U), .s (.int .u16 r_.S), .s (.int .u16 r_.PC)]⟩, ⟨0, .mem, 1, [.s (.int .i64 p_.Reg), .s (.bool p_.High)]⟩, ⟨0, .mem, 1, [.s (.int .u8 0), .s (.int .u8 0), .s (.int .u8 0), .s (.int .u8 0), .s (.int .u16 0), .s (.int .u16 0), .s (.int .u16 0), .s (.int .u16 0), .s (.int .u16 0)]⟩, ⟨0, .mem, 1, [.s (.int .u8 r_.A), .s (.int .u8 r_.B), .s (.int .u8 r_.DP), .s (.int .u8 r_.CC), .s (.int .u16 r_.X), .s (.int .u16 r_.Y), .s (.int .u16 r_.U), .s (.int .u16 r_.S), .s (.int .u16 r_.PC)]⟩]) (by kernel_rfl) fun f7 hf7 => ?_
    obtain ⟨r_5, hx_r_5, h⟩ := Option.bind_eq_some_iff.1 h
    refine mops_call rfl hf7 (av := [.s (.int .u16 r_1)]) (by kernel_rfl) (v := .s (.int .u8 r_5)) (CalL.pure (octet_High_ok r_1 r_5 hx_r_5) rfl rfl (Nat.le_of_ble_eq_true (by kernel_rfl))) (fun _ => rfl) fun f8 hf8 => ?_
    refine mops_seg [6, 7, 26, 28, 30, 31] 1 hf8 (l' := [⟨6, [], .ptr 2 0 0⟩, ⟨7, [], .ptr 3 0 0⟩, ⟨26, [], .ptr 3 0 0⟩, ⟨28, [], .s (.int .i64 p_.Reg)⟩, ⟨30, [], .s (.int .u8 r_5)⟩, ⟨31, [], .s (.int .u8 b_)⟩]) (L' := [⟨0, .mem, 1, [.s (.int .u8 r_.A), .s (.int .u8 r_.B), .s (.int .u8 r_.DP), .s (.int .u8 r_.CC), .s (.int .u16 r_.X), .s (.int .u16 r_.Y), .s (.int .u16 r_.U), .s (.int .u16 r_.S), .s (.int .u16 r_.PC)]⟩, ⟨0, .mem, 1, [.s (.int .i64 p_.Reg), .s (.bool p_.High)]⟩, ⟨0, .mem, 1, [.s (.int .u8 0), .s (.int .u8 0), .s (.int .u8 0), .s (.int .u8 0), .s (.int .u16 0), .s (.int .u16 0), .s (.int .u16 0), .s (.int .u16 0), .s (.int .u16 0)]⟩, ⟨0, .mem, 1, [.s (.int .u8 r_.A), .s (.int .u8 r_.B), .s (.int .u8 r_.DP), .s (.int .u8 r_.CC), .s (.int .u16 r_.X), .s (.int .u16 r_.Y), .s (.int .u16 r_.U), .s (.int .u16 r_.S), .s (.int .u16 r_.PC)]⟩]) (by kernel_rfl) fun f9 hf9 => ?_
    obtain ⟨r_6, hx_r_6, h⟩ := Option.bind_eq_some_iff.1 h
    refine mops_call rfl hf9 (av := [.s (.int .u8 r_5), .s (.int .u8 b_)]) (by kernel_rfl) (v := .s (.int .u16 r_6)) (CalL.pure (octet_Word_ok r_5 b_ r_6 hx_r_6) rfl rfl (Nat.le_of_ble_eq_true (by kernel_rfl))) (fun _ => rfl) fun f10 hf10 => ?_
    refine mops_end [6, 7, 26, 28, 32] hf10 (l' := [⟨6, [], .ptr 2 0 0⟩, ⟨7, [], .ptr 3 0 0⟩, ⟨26, [], .ptr 3 0 0⟩, ⟨28, [], .s (.int .i64 p_.Reg)⟩, ⟨32, [], .s (.int .u16 r_6)⟩]) (L' := [⟨0, .mem, 1, [.s (.int .u8 r_.A), .s (.int .u8 r_.B), .s (.int .u8 r_.DP), .s (.int .u8 r_.CC), .s (.int .u16 r_.X), .s (.int .u16 r_.Y), .s (.int .u16 r_.U), .s (.int .u16 r_.S), .s (.int .u16 r_.PC)]⟩, ⟨0, .mem, 1, [.s (.int .i64 p_.Reg), .s (.bool p_.High)]⟩, ⟨0, .mem, 1, [.s (.int .u8 0), .s (.int .u8 0), .s (.int .u8 0), .s (.int .u8 0), .s (.int .u16 0), .s (.int .u16 0), .s (.int .u16 0), .s (.int .u16 0), .s (.int .u16 0)]⟩, ⟨0, .mem, 1, [.s (.int .u8 r_.A), .s (.int .u8 r_.B), .s (.int .u8 r_.DP), .s (.int .u8 r_.CC), .s (.int .u16 r_.X), .s (.int .u16 r_.Y), .s (.int .u16 r_.U), .s (.int .u16 r_.S), .s (.int .u16 r_.PC)]⟩]) (by kernel_rfl) fun f11 hf11 => ?_
    intro _
    refine lw_w (a := ⟨⟨(some 33), (.call 29 [(.t 26), (.t 28), (.t 32)]), none, [0, 2, 6, 6]⟩, true, 0, 1⟩) (by kernel_rfl) rfl rfl ?_
    obtain ⟨r_7, hx_r_7, h⟩ := Option.bind_eq_some_iff.1 h
    refine mops_call rfl hf11 (av := [.ptr 3 0 0, .s (.int .i64 p_.Reg), .s (.int .u16 r_6)]) (by kernel_rfl) (v := .s (.bool r_7.1)) (L' := [⟨0, .mem, 1, [.s (.int .u8 r_.A), .s (.int .u8 r_.B), .s (.int .u8 r_.DP), .s (.int .u8 r_.CC), .s (.int .u16 r_.X), .s (.int .u16 r_.Y), .s (.int .u16 r_.U), .s (.int .u16 r_.S), .s (.int .u16 r_.PC)]⟩, ⟨0, .mem, 1, [.s (.int .i64 p_.Reg), .s (.bool p_.High)]⟩, ⟨0, .mem, 1, [.s (.int .u8 0), .s (.int .u8 0), .s (.int .u8 0), .s (.int .u8 0), .s (.int .u16 0), .s (.int .u16 0), .s (.int .u16 0), .s (.int .u16 0), .s (.int .u16 0)]⟩, ⟨0, .mem, 1, [.s (.int .u8 r_7.2.Regs.A), .s (.int .u8 r_7.2.Regs.B), .s (.int .u8 r_7.2.Regs.DP), .s (.int .u8 r_7.2.Regs.CC), .s (.int .u16 r_7.2.Regs.X), .s (.int .u16 r_7.2.Regs.Y), .s (.int .u16 r_7.2.Regs.U), .s (.int .u16 r_7.2.Regs.S), .s (.int .u16 r_7.2.Regs.PC)]⟩]) (CalL.borrow (M := [⟨0, .mem, 1, [.s (.int .u8 r_.A), .s (.int .u8 r_.B), .s (.int .u8 r_.DP), .s (.int .u8 r_.CC), .s (.int .u16 r_.X), .s (.int .u16 r_.Y), .s (.int .u16 r_.U), .s (.int .u16 r_.S), .s (.int .u16 r_.PC)]⟩]) (M' := [⟨0, .mem, 1, [.s (.int .u8 r_7.2.Regs.A), .s (.int .u8 r_7.2.Regs.B), .s (.int .u8 r_7.2.Regs.DP), .s (.int .u8 r_7.2.Regs.CC), .s (.int .u16 r_7.2.Regs.X), .s (.int .u16 r_7.2.Regs.Y), .s (.int .u16 r_7.2.Regs.U), .s (.int .u16 r_7.2.Regs.S), .s (.int .u16 r_7.2.Regs.PC)]⟩]) [3] (file_File_Set_ok (file_File.mk r_) p_.Reg r_6 r_7 hx_r_7) (by kernel_rfl) (RNs.cons (RN.ptr (by kernel_rfl)) (RNs.cons (RN.stat rfl) (RNs.cons (RN.stat rfl) RNs.nil))) (RN.stat rfl) (RBs.cons (RNs.stat rfl) RBs.nil) (RBs.cons (RNs.stat rfl) RBs.nil) (by kernel_rfl) (by kernel_rfl)) (by intro h; cases h) fun f12 hf12 => ?_
    refine mops_end [6, 7] hf12 (l' := [⟨6, [], .ptr 2 0 0⟩, ⟨7, [], .ptr 3 0 0⟩]) (L' := [⟨0, .mem, 1, [.s (.int .u8 r_.A), .s (.int .u8 r_.B), .s (.int .u8 r_.DP), .s (.int .u8 r_.CC), .s (.int .u16 r_.X), .s (.int .u16 r_.Y), .s (.int .u16 r_.U), .s (.int .u16 r_.S), .s (.int .u16 r_.PC)]⟩, ⟨0, .mem, 1, [.s (.int .i64 p_.Reg), .s (.bool p_.High)]⟩, ⟨0, .mem, 1, [.s (.int .u8 0), .s (.int .u8 0), .s (.int .u8 0), .s (.int .u8 0), .s (.int .u16 0), .s (.int .u16 0), .s (.int .u16 0), .s (.int .u16 0), .s (.int .u16 0)]⟩, ⟨0, .mem, 1, [.s (.int .u8 r_7.2.Regs.A), .s (.int .u8 r_7.2.Regs.B), .s (.int .u8 r_7.2.Regs.DP), .s (.int .u8 r_7.2.Regs.CC), .s (.int .u16 r_7.2.Regs.X), .s (.int .u16 r_7.2.Regs.Y), .s (.int .u16 r_7.2.Regs.U), .s (.int .u16 r_7.2.Regs.S), .s (.int .u16 r_7.2.Regs.PC)]⟩]) (by kernel_rfl) fun f13 hf13 => ?_
    refine ⟨trivial, ?_⟩
    refine lw_end (by kernel_rfl) ?_
    exact hj1 r_7.2.Regs.A r_7.2.Regs.B r_7.2.Regs.DP r_7.2.Regs.CC r_7.2.Regs.X r_7.2.Regs.Y r_7.2.Regs.U r_7.2.Regs.S r_7.2.Regs.PC h _ (FOk_of [6, 7] hf13 (by kernel_rfl))
end Go.Proofs.YtiedenhkailolaaDoorK
