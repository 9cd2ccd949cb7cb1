/- The Go functions come to the functions over typed data. Printed by a program of this work. -/
import Derived.Test.YtiedenhkailolaaDoorF
import Derived.Test.YtiedenhkailolaaDoorProg
import Derived.Test.YtiedenhkailolaaDoorG0
namespace Go.Proofs.YtiedenhkailolaaDoorK
set_option linter.unusedVariables false
set_option linter.unusedSimpArgs false
set_option maxHeartbeats 4000000
open Go.RowKit
attribute [local irreducible] dwv mops lops lqops lwops kont iter run runK rk okK ex E1 vals val chain chB sel resF
def spinetref17_Byte_i0 : List Op1 := [(oE 2 (.box (.t 0)) []), (oE 3 (.box (.t 1)) []), (oM 4 (.k (.int .u8 0)) [])]
def spinetref17_Byte_i1 : List Op1 := [(oE 6 (.load true 9 (.t 2)) []), (oE 7 (.fld 0 (.t 3)) []), (oE 8 (.load false 1 (.t 7)) [1]), (oC 9 28 [(.t 6), (.t 8)] [0, 2]), (oM 5 (.t 9) [3, 3, 0, 1, 2, 3])]
def spinetref17_Byte_i2 : List Op1 := [(oE 10 (.fld 1 (.t 3)) []), (oE 11 (.load false 1 (.t 10)) [0])]
def spinetref17_Byte_i3 : List Op1 := [(oM 12 (.t 5) []), (oE 13 (.bin .quo (.t 12) (.k (.int .u16 256))) [0]), (oE 14 (.cint .u8 (.t 13)) [1]), (oM 4 (.t 14) [2, 0, 1, 2])]
def spinetref17_Byte_i4 : IR := .ret
def spinetref17_Byte_i5 : IR := (.cond (.t 11) (.seq (.reg false spinetref17_Byte_i3) spinetref17_Byte_i4) .skip)
def spinetref17_Byte_i6 : List Op1 := [(oM 15 (.t 5) []), (oE 16 (.bin .rem (.t 15) (.k (.int .u16 256))) [0]), (oE 17 (.cint .u8 (.t 16)) [1]), (oM 4 (.t 17) [2, 0, 1, 2])]
def spinetref17_Byte_i7 : IR := .ret
def spinetref17_Byte_i8 : IR := (.seq (.reg false spinetref17_Byte_i6) spinetref17_Byte_i7)
def spinetref17_Byte_i9 : IR := (.seq (.seq (.reg false spinetref17_Byte_i2) spinetref17_Byte_i5) spinetref17_Byte_i8)
def spinetref17_Byte_i10 : IR := (.seq (.reg false spinetref17_Byte_i1) spinetref17_Byte_i9)
def spinetref17_Byte_ir : IR := (.seq (.reg false spinetref17_Byte_i0) spinetref17_Byte_i10)
theorem spinetref17_Byte_cfn : cFn Tryd.prog 16 = some (spinetref17_Byte_ir, [(.t 4)], 18) := by kernel_rfl
def spinetref17_Byte_V (r : (Int)) : V := .s (.int .u8 r)
def spinetref17_Byte_C (r : (Int)) : X → Fr → Hp → Prop := FinL [(.t 4)] [] (spinetref17_Byte_V r) []
theorem spinetref17_Byte_ok (r_ : api_Regs) (p_ : spinetref17_Part) (r : (Int)) (h : spinetref17_Byte r_ p_ = some r) : Pure Tryd.prog 16 [.agg [.s (.int .u8 r_.A), .s (.int .u8 r_.B), .s (.int .u8 r_.DP), .s (.int .u8 r_.CC), .s (.int .u16 r_.X), .s (.int .u16 r_.Y), .s (.int .u16 r_.U), .s (.int .u16 r_.S), .s (.int .u16 r_.PC)], .agg [.s (.int .i64 p_.Reg), .s (.bool p_.High)]] (spinetref17_Byte_V r) := by
  refine ConL.of spinetref17_Byte_cfn (Nat.le_of_ble_eq_true (by kernel_rfl)) (Nat.le_of_ble_eq_true (by kernel_rfl)) ?_
  refine k_start ?_
  show dwv Tryd.prog [] spinetref17_Byte_ir (kont Tryd.prog [] (spinetref17_Byte_C r) []) (fr0 [.agg [.s (.int .u8 r_.A), .s (.int .u8 r_.B), .s (.int .u8 r_.DP), .s (.int .u8 r_.CC), .s (.int .u16 r_.X), .s (.int .u16 r_.Y), .s (.int .u16 r_.U), .s (.int .u16 r_.S), .s (.int .u16 r_.PC)], .agg [.s (.int .i64 p_.Reg), .s (.bool p_.High)]]) []
  have hf : FOk (fr0 [.agg [.s (.int .u8 r_.A), .s (.int .u8 r_.B), .s (.int .u8 r_.DP), .s (.int .u8 r_.CC), .s (.int .u16 r_.X), .s (.int .u16 r_.Y), .s (.int .u16 r_.U), .s (.int .u16 r_.S), .s (.int .u16 r_.PC)], .agg [.s (.int .i64 p_.Reg), .s (.bool p_.High)]]) [⟨0, [], .agg [.s (.int .u8 r_.A), .s (.int .u8 r_.B), .s (.int .u8 r_.DP), .s (.int .u8 r_.CC), .s (.int .u16 r_.X), .s (.int .u16 r_.Y), .s (.int .u16 r_.U), .s (.int .u16 r_.S), .s (.int .u16 r_.PC)]⟩, ⟨1, [], .agg [.s (.int .i64 p_.Reg), .s (.bool p_.High)]⟩] := ⟨⟨fun _ => rfl, fun h => (h trivial).elim⟩, ⟨fun _ => rfl, fun h => (h trivial).elim⟩, trivial⟩
  generalize fr0 [.agg [.s (.int .u8 r_.A), .s (.int .u8 r_.B), .s (.int .u8 r_.DP), .s (.int .u8 r_.CC), .s (.int .u16 r_.X), .s (.int .u16 r_.Y), .s (.int .u16 r_.U), .s (.int .u16 r_.S), .s (.int .u16 r_.PC)], .agg [.s (.int .i64 p_.Reg), .s (.bool p_.High)]] = f at hf ⊢
  unfold spinetref17_Byte at h
  refine k_seq ?_
  refine k_reg ?_
  refine mops_en hf (by kernel_rfl) fun f1 hf1 => ?_
  refine k_c ?_
  refine k_seq ?_
  refine k_reg ?_
  refine mops_sg 3 hf1 (by kernel_rfl) fun f2 hf2 => ?_
  obtain ⟨r_1, hx_r_1, h⟩ := Option.bind_eq_some_iff.1 h
  refine mops_call rfl hf2 (av := [.agg [.s (.int .u8 r_.A), .s (.int .u8 r_.B), .s (.int .u8 r_.DP), .s (.int .u8 r_.CC), .s (.int .u16 r_.X), .s (.int .u16 r_.Y), .s (.int .u16 r_.U), .s (.int .u16 r_.S), .s (.int .u16 r_.PC)], .s (.int .i64 p_.Reg)]) (by kernel_rfl) (v := .s (.int .u16 r_1)) (CalL.pure (spinetref16_Get_ok r_ p_.Reg r_1 hx_r_1) rfl rfl (Nat.le_of_ble_eq_true (by kernel_rfl))) (fun _ => rfl) fun f3 hf3 => ?_
  refine mops_en hf3 (by kernel_rfl) fun f4 hf4 => ?_
  refine k_c ?_
  refine k_seq ?_
  refine k_seq ?_
  refine k_reg ?_
  refine mops_en hf4 (by kernel_rfl) fun f5 hf5 => ?_
  refine k_c ?_
  refine k_cond hf5 (t := p_.High) (by kernel_rfl) (fun hc1 => ?_) (fun hc1 => ?_)
  · have h := if_t h hc1
    refine k_seq ?_
    refine k_reg ?_
    refine mops_en hf5 (by kernel_rfl) fun f6 hf6 => ?_
    refine k_c ?_
    refine k_ret ?_
    refine x_c nofun ?_
    obtain rfl := Option.some.inj h
    exact k_fin (fin_ret (.inl rfl) hf6 (vs := [.s (.int .u8 (IntKind.wrap .u8 (IntKind.wrap .u16 (Int.tdiv r_1 256))))]) (by kernel_rfl) (SettL.pure (FzL.stat rfl)))
  · have h := if_f h hc1
    refine k_skip ?_
    refine k_c ?_
    refine k_seq ?_
    refine k_reg ?_
    refine mops_en hf5 (by kernel_rfl) fun f6 hf6 => ?_
    refine k_c ?_
    refine k_ret ?_
    obtain rfl := Option.some.inj h
    exact k_fin (fin_ret (.inl rfl) hf6 (vs := [.s (.int .u8 (IntKind.wrap .u8 (Int.tmod r_1 256)))]) (by kernel_rfl) (SettL.pure (FzL.stat rfl)))
def file_File_Set_i0 : List Op1 := [(oM 6 (.k (.bool false)) [])]
def file_File_Set_i1 : List Op1 := [(oM 7 (.t 1) [])]
def file_File_Set_i2 : List Op1 := [(oE 9 (.bin .eql (.t 7) (.k (.int .i64 0))) []), (oM 8 (.t 9) [0])]
def file_File_Set_i3 : List Op1 := [(oM 10 (.t 0) []), (oM 11 (.t 0) []), (oM 12 (.t 2) []), (oC 13 25 [(.t 12)] [2]), (oM 14 (.t 2) []), (oC 15 27 [(.t 14)] [4, 3]), (oE 16 (.nilc (.t 10)) [0, 0, 2, 3, 5]), (oE 17 (.fld 0 (.t 16)) [6, 0, 2, 3, 5]), (oE 18 (.fld 0 (.t 17)) [7, 0, 2, 3, 5]), (oN (.store 1 (.t 18) (.t 13)) [8, 3, 5, 0, 2, 3, 5]), (oE 19 (.nilc (.t 11)) [1, 0, 1, 2, 3, 4, 5, 6, 7, 8, 9]), (oE 20 (.fld 0 (.t 19)) [10, 0, 1, 2, 3, 4, 5, 6, 7, 8, 9]), (oE 21 (.fld 1 (.t 20)) [11, 0, 1, 2, 3, 4, 5, 6, 7, 8, 9]), (oN (.store 1 (.t 21) (.t 15)) [12, 5, 9, 0, 1, 2, 3, 4, 5, 6, 7, 8, 9])]
def file_File_Set_i4 : List Op1 := [(oE 23 (.bin .eql (.t 7) (.k (.int .i64 1))) []), (oM 22 (.t 23) [0])]
def file_File_Set_i5 : List Op1 := [(oM 24 (.t 0) []), (oM 25 (.t 2) []), (oE 26 (.nilc (.t 24)) [0, 0, 1]), (oE 27 (.fld 0 (.t 26)) [2, 0, 1]), (oE 28 (.fld 4 (.t 27)) [3, 0, 1]), (oN (.store 1 (.t 28) (.t 25)) [4, 1, 0, 1])]
def file_File_Set_i6 : List Op1 := [(oE 30 (.bin .eql (.t 7) (.k (.int .i64 2))) []), (oM 29 (.t 30) [0])]
def file_File_Set_i7 : List Op1 := [(oM 31 (.t 0) []), (oM 32 (.t 2) []), (oE 33 (.nilc (.t 31)) [0, 0, 1]), (oE 34 (.fld 0 (.t 33)) [2, 0, 1]), (oE 35 (.fld 5 (.t 34)) [3, 0, 1]), (oN (.store 1 (.t 35) (.t 32)) [4, 1, 0, 1])]
def file_File_Set_i8 : List Op1 := [(oE 37 (.bin .eql (.t 7) (.k (.int .i64 3))) []), (oM 36 (.t 37) [0])]
def file_File_Set_i9 : List Op1 := [(oM 38 (.t 0) []), (oM 39 (.t 2) []), (oE 40 (.nilc (.t 38)) [0, 0, 1]), (oE 41 (.fld 0 (.t 40)) [2, 0, 1]), (oE 42 (.fld 6 (.t 41)) [3, 0, 1]), (oN (.store 1 (.t 42) (.t 39)) [4, 1, 0, 1])]
def file_File_Set_i10 : List Op1 := [(oE 44 (.bin .eql (.t 7) (.k (.int .i64 4))) []), (oM 43 (.t 44) [0])]
def file_File_Set_i11 : List Op1 := [(oM 45 (.t 0) []), (oM 46 (.t 2) []), (oE 47 (.nilc (.t 45)) [0, 0, 1]), (oE 48 (.fld 0 (.t 47)) [2, 0, 1]), (oE 49 (.fld 7 (.t 48)) [3, 0, 1]), (oN (.store 1 (.t 49) (.t 46)) [4, 1, 0, 1])]
def file_File_Set_i12 : List Op1 := [(oE 51 (.bin .eql (.t 7) (.k (.int .i64 5))) []), (oM 50 (.t 51) [0])]
def file_File_Set_i13 : List Op1 := [(oM 52 (.t 0) []), (oM 53 (.t 2) []), (oE 54 (.nilc (.t 52)) [0, 0, 1]), (oE 55 (.fld 0 (.t 54)) [2, 0, 1]), (oE 56 (.fld 8 (.t 55)) [3, 0, 1]), (oN (.store 1 (.t 56) (.t 53)) [4, 1, 0, 1])]
def file_File_Set_i14 : List Op1 := [(oE 58 (.bin .eql (.t 7) (.k (.int .i64 8))) []), (oM 57 (.t 58) [0])]
def file_File_Set_i15 : List Op1 := [(oM 59 (.t 0) []), (oM 60 (.t 2) []), (oC 61 27 [(.t 60)] [1]), (oE 62 (.nilc (.t 59)) [0, 0, 1, 2]), (oE 63 (.fld 0 (.t 62)) [3, 0, 1, 2]), (oE 64 (.fld 0 (.t 63)) [4, 0, 1, 2]), (oN (.store 1 (.t 64) (.t 61)) [5, 2, 2, 0, 1, 2])]
def file_File_Set_i16 : List Op1 := [(oE 66 (.bin .eql (.t 7) (.k (.int .i64 9))) []), (oM 65 (.t 66) [0])]
def file_File_Set_i17 : List Op1 := [(oM 67 (.t 0) []), (oM 68 (.t 2) []), (oC 69 27 [(.t 68)] [1]), (oE 70 (.nilc (.t 67)) [0, 0, 1, 2]), (oE 71 (.fld 0 (.t 70)) [3, 0, 1, 2]), (oE 72 (.fld 1 (.t 71)) [4, 0, 1, 2]), (oN (.store 1 (.t 72) (.t 69)) [5, 2, 2, 0, 1, 2])]
def file_File_Set_i18 : List Op1 := [(oE 74 (.bin .eql (.t 7) (.k (.int .i64 10))) []), (oM 73 (.t 74) [0])]
def file_File_Set_i19 : List Op1 := [(oM 75 (.t 0) []), (oM 76 (.t 2) []), (oC 77 27 [(.t 76)] [1]), (oE 78 (.nilc (.t 75)) [0, 0, 1, 2]), (oE 79 (.fld 0 (.t 78)) [3, 0, 1, 2]), (oE 80 (.fld 3 (.t 79)) [4, 0, 1, 2]), (oN (.store 1 (.t 80) (.t 77)) [5, 2, 2, 0, 1, 2])]
def file_File_Set_i20 : List Op1 := [(oE 82 (.bin .eql (.t 7) (.k (.int .i64 11))) []), (oM 81 (.t 82) [0])]
def file_File_Set_i21 : List Op1 := [(oM 83 (.t 0) []), (oM 84 (.t 2) []), (oC 85 27 [(.t 84)] [1]), (oE 86 (.nilc (.t 83)) [0, 0, 1, 2]), (oE 87 (.fld 0 (.t 86)) [3, 0, 1, 2]), (oE 88 (.fld 2 (.t 87)) [4, 0, 1, 2]), (oN (.store 1 (.t 88) (.t 85)) [5, 2, 2, 0, 1, 2])]
def file_File_Set_i22 : List Op1 := [(oM 6 (.k (.bool false)) [])]
def file_File_Set_i23 : IR := .ret
def file_File_Set_i24 : IR := (.cond (.t 81) (.reg false file_File_Set_i21) (.seq (.reg false file_File_Set_i22) file_File_Set_i23))
def file_File_Set_i25 : IR := (.cond (.t 73) (.reg false file_File_Set_i19) (.seq (.reg false file_File_Set_i20) file_File_Set_i24))
def file_File_Set_i26 : IR := (.cond (.t 65) (.reg false file_File_Set_i17) (.seq (.reg false file_File_Set_i18) file_File_Set_i25))
def file_File_Set_i27 : IR := (.cond (.t 57) (.reg false file_File_Set_i15) (.seq (.reg false file_File_Set_i16) file_File_Set_i26))
def file_File_Set_i28 : IR := (.cond (.t 50) (.reg false file_File_Set_i13) (.seq (.reg false file_File_Set_i14) file_File_Set_i27))
def file_File_Set_i29 : IR := (.cond (.t 43) (.reg false file_File_Set_i11) (.seq (.reg false file_File_Set_i12) file_File_Set_i28))
def file_File_Set_i30 : IR := (.cond (.t 36) (.reg false file_File_Set_i9) (.seq (.reg false file_File_Set_i10) file_File_Set_i29))
def file_File_Set_i31 : IR := (.cond (.t 29) (.reg false file_File_Set_i7) (.seq (.reg false file_File_Set_i8) file_File_Set_i30))
def file_File_Set_i32 : IR := (.cond (.t 22) (.reg false file_File_Set_i5) (.seq (.reg false file_File_Set_i6) file_File_Set_i31))
def file_File_Set_i33 : IR := (.cond (.t 8) (.reg false file_File_Set_i3) (.seq (.reg false file_File_Set_i4) file_File_Set_i32))
def file_File_Set_i34 : IR := (.block 0 (.seq (.reg false file_File_Set_i2) file_File_Set_i33))
def file_File_Set_i35 : List Op1 := [(oM 6 (.k (.bool true)) [])]
def file_File_Set_i36 : IR := .ret
def file_File_Set_i37 : IR := (.seq (.reg false file_File_Set_i35) file_File_Set_i36)
def file_File_Set_i38 : IR := (.seq (.seq (.reg false file_File_Set_i1) file_File_Set_i34) file_File_Set_i37)
def file_File_Set_ir : IR := (.seq (.reg false file_File_Set_i0) file_File_Set_i38)
theorem file_File_Set_cfn : cFn Tryd.prog 29 = some (file_File_Set_ir, [(.t 6)], 89) := by kernel_rfl
def file_File_Set_V (r : (Bool × file_File)) : V := .s (.bool r.1)
def file_File_Set_L (f_ : file_File) : Hp := [⟨0, .mem, 1, [.s (.int .u8 f_.Regs.A), .s (.int .u8 f_.Regs.B), .s (.int .u8 f_.Regs.DP), .s (.int .u8 f_.Regs.CC), .s (.int .u16 f_.Regs.X), .s (.int .u16 f_.Regs.Y), .s (.int .u16 f_.Regs.U), .s (.int .u16 f_.Regs.S), .s (.int .u16 f_.Regs.PC)]⟩]
def file_File_Set_C (f_ : file_File) (r : (Bool × file_File)) : X → Fr → Hp → Prop := FinL [(.t 6)] (file_File_Set_L f_) (file_File_Set_V r) [⟨0, .mem, 1, [.s (.int .u8 r.2.Regs.A), .s (.int .u8 r.2.Regs.B), .s (.int .u8 r.2.Regs.DP), .s (.int .u8 r.2.Regs.CC), .s (.int .u16 r.2.Regs.X), .s (.int .u16 r.2.Regs.Y), .s (.int .u16 r.2.Regs.U), .s (.int .u16 r.2.Regs.S), .s (.int .u16 r.2.Regs.PC)]⟩]
theorem file_File_Set_ok (f_ : file_File) (code_ : Int) (w_ : Int) (r : (Bool × file_File)) (h : file_File_Set f_ code_ w_ = some r) : ConL Tryd.prog 29 [.ptr 0 0 0, .s (.int .i64 code_), .s (.int .u16 w_)] [⟨0, .mem, 1, [.s (.int .u8 f_.Regs.A), .s (.int .u8 f_.Regs.B), .s (.int .u8 f_.Regs.DP), .s (.int .u8 f_.Regs.CC), .s (.int .u16 f_.Regs.X), .s (.int .u16 f_.Regs.Y), .s (.int .u16 f_.Regs.U), .s (.int .u16 f_.Regs.S), .s (.int .u16 f_.Regs.PC)]⟩] (file_File_Set_V r) [⟨0, .mem, 1, [.s (.int .u8 r.2.Regs.A), .s (.int .u8 r.2.Regs.B), .s (.int .u8 r.2.Regs.DP), .s (.int .u8 r.2.Regs.CC), .s (.int .u16 r.2.Regs.X), .s (.int .u16 r.2.Regs.Y), .s (.int .u16 r.2.Regs.U), .s (.int .u16 r.2.Regs.S), .s (.int .u16 r.2.Regs.PC)]⟩] := by
  refine ConL.of file_File_Set_cfn (Nat.le_of_ble_eq_true (by kernel_rfl)) (Nat.le_of_ble_eq_true (by kernel_rfl)) ?_
  refine k_start ?_
  show dwv Tryd.prog (file_File_Set_L f_) file_File_Set_ir (kont Tryd.prog (file_File_Set_L f_) (file_File_Set_C f_ r) []) (fr0 [.ptr 0 0 0, .s (.int .i64 code_), .s (.int .u16 w_)]) [⟨0, .mem, 1, [.s (.int .u8 f_.Regs.A), .s (.int .u8 f_.Regs.B), .s (.int .u8 f_.Regs.DP), .s (.int .u8 f_.Regs.CC), .s (.int .u16 f_.Regs.X), .s (.int .u16 f_.Regs.Y), .s (.int .u16 f_.Regs.U), .s (.int .u16 f_.Regs.S), .s (.int .u16 f_.Regs.PC)]⟩]
  have hf : FOk (fr0 [.ptr 0 0 0, .s (.int .i64 code_), .s (.int .u16 w_)]) [⟨0, [], .ptr 0 0 0⟩, ⟨1, [], .s (.int .i64 code_)⟩, ⟨2, [], .s (.int .u16 w_)⟩] := ⟨⟨fun _ => rfl, fun h => (h trivial).elim⟩, ⟨fun _ => rfl, fun h => (h trivial).elim⟩, ⟨fun _ => rfl, fun h => (h trivial).elim⟩, trivial⟩
  generalize fr0 [.ptr 0 0 0, .s (.int .i64 code_), .s (.int .u16 w_)] = f at hf ⊢
  unfold file_File_Set at h
  refine k_seq ?_
  refine k_reg ?_
  refine mops_en hf (by kernel_rfl) fun f1 hf1 => ?_
  refine k_c ?_
  refine k_seq ?_
  refine k_seq ?_
  refine k_reg ?_
  refine mops_en hf1 (by kernel_rfl) fun f2 hf2 => ?_
  refine k_c ?_
  refine k_block ?_
  refine k_seq ?_
  refine k_reg ?_
  refine mops_en hf2 (by kernel_rfl) fun f3 hf3 => ?_
  refine k_c ?_
  refine k_cond hf3 (t := (code_ == 0)) (by kernel_rfl) (fun hc1 => ?_) (fun hc1 => ?_)
  · have h := if_t h hc1
    refine k_reg ?_
    refine mops_sg 3 hf3 (by kernel_rfl) fun f4 hf4 => ?_
    obtain ⟨r_, hx_r_, h⟩ := Option.bind_eq_some_iff.1 h
    refine mops_call rfl hf4 (av := [.s (.int .u16 w_)]) (by kernel_rfl) (v := .s (.int .u8 r_)) (CalL.pure (octet_High_ok w_ r_ hx_r_) rfl rfl (Nat.le_of_ble_eq_true (by kernel_rfl))) (fun _ => rfl) fun f5 hf5 => ?_
    refine mops_sg 1 hf5 (by kernel_rfl) fun f6 hf6 => ?_
    obtain ⟨r_1, hx_r_1, h⟩ := Option.bind_eq_some_iff.1 h
    refine mops_call rfl hf6 (av := [.s (.int .u16 w_)]) (by kernel_rfl) (v := .s (.int .u8 r_1)) (CalL.pure (octet_Low_ok w_ r_1 hx_r_1) rfl rfl (Nat.le_of_ble_eq_true (by kernel_rfl))) (fun _ => rfl) fun f7 hf7 => ?_
    refine mops_en hf7 (by kernel_rfl) fun f8 hf8 => ?_
    refine k_b ?_
    refine k_c ?_
    refine k_seq ?_
    refine k_reg ?_
    refine mops_en hf8 (by kernel_rfl) fun f9 hf9 => ?_
    refine k_c ?_
    refine k_ret ?_
    obtain rfl := Option.some.inj h
    exact k_fin (fin_ret (.inl rfl) hf9 (vs := [.s (.bool true)]) (by kernel_rfl) (SettL.cutb (L' := [⟨0, .mem, 1, [.s (.int .u8 r_), .s (.int .u8 r_1), .s (.int .u8 f_.Regs.DP), .s (.int .u8 f_.Regs.CC), .s (.int .u16 f_.Regs.X), .s (.int .u16 f_.Regs.Y), .s (.int .u16 f_.Regs.U), .s (.int .u16 f_.Regs.S), .s (.int .u16 f_.Regs.PC)]⟩]) 1 (by kernel_rfl) (by kernel_rfl) (by kernel_rfl) ⟨.inr (.inr rfl), trivial⟩ (FzL.stat rfl)))
  · have h := if_f h hc1
    refine k_seq ?_
    refine k_reg ?_
    refine mops_en hf3 (by kernel_rfl) fun f4 hf4 => ?_
    refine k_c ?_
    refine k_cond hf4 (t := (code_ == 1)) (by kernel_rfl) (fun hc2 => ?_) (fun hc2 => ?_)
    · have h := if_t h hc2
      refine k_reg ?_
      refine mops_en hf4 (by kernel_rfl) fun f5 hf5 => ?_
      refine k_b ?_
      refine k_c ?_
      refine k_seq ?_
      refine k_reg ?_
      refine mops_en hf5 (by kernel_rfl) fun f6 hf6 => ?_
      refine k_c ?_
      refine k_ret ?_
      obtain rfl := Option.some.inj h
      exact k_fin (fin_ret (.inl rfl) hf6 (vs := [.s (.bool true)]) (by kernel_rfl) (SettL.cutb (L' := [⟨0, .mem, 1, [.s (.int .u8 f_.Regs.A), .s (.int .u8 f_.Regs.B), .s (.int .u8 f_.Regs.DP), .s (.int .u8 f_.Regs.CC), .s (.int .u16 w_), .s (.int .u16 f_.Regs.Y), .s (.int .u16 f_.Regs.U), .s (.int .u16 f_.Regs.S), .s (.int .u16 f_.Regs.PC)]⟩]) 1 (by kernel_rfl) (by kernel_rfl) (by kernel_rfl) ⟨.inr (.inr rfl), trivial⟩ (FzL.stat rfl)))
    · have h := if_f h hc2
      refine k_seq ?_
      refine k_reg ?_
      refine mops_en hf4 (by kernel_rfl) fun f5 hf5 => ?_
      refine k_c ?_
      refine k_cond hf5 (t := (code_ == 2)) (by kernel_rfl) (fun hc3 => ?_) (fun hc3 => ?_)
      · have h := if_t h hc3
        refine k_reg ?_
        refine mops_en hf5 (by kernel_rfl) fun f6 hf6 => ?_
        refine k_b ?_
        refine k_c ?_
        refine k_seq ?_
        refine k_reg ?_
        refine mops_en hf6 (by kernel_rfl) fun f7 hf7 => ?_
        refine k_c ?_
        refine k_ret ?_
        obtain rfl := Option.some.inj h
        exact k_fin (fin_ret (.inl rfl) hf7 (vs := [.s (.bool true)]) (by kernel_rfl) (SettL.cutb (L' := [⟨0, .mem, 1, [.s (.int .u8 f_.Regs.A), .s (.int .u8 f_.Regs.B), .s (.int .u8 f_.Regs.DP), .s (.int .u8 f_.Regs.CC), .s (.int .u16 f_.Regs.X), .s (.int .u16 w_), .s (.int .u16 f_.Regs.U), .s (.int .u16 f_.Regs.S), .s (.int .u16 f_.Regs.PC)]⟩]) 1 (by kernel_rfl) (by kernel_rfl) (by kernel_rfl) ⟨.inr (.inr rfl), trivial⟩ (FzL.stat rfl)))
      · have h := if_f h hc3
        refine k_seq ?_
        refine k_reg ?_
        refine mops_en hf5 (by kernel_rfl) fun f6 hf6 => ?_
        refine k_c ?_
        refine k_cond hf6 (t := (code_ == 3)) (by kernel_rfl) (fun hc4 => ?_) (fun hc4 => ?_)
        · have h := if_t h hc4
          refine k_reg ?_
          refine mops_en hf6 (by kernel_rfl) fun f7 hf7 => ?_
          refine k_b ?_
          refine k_c ?_
          refine k_seq ?_
          refine k_reg ?_
          refine mops_en hf7 (by kernel_rfl) fun f8 hf8 => ?_
          refine k_c ?_
          refine k_ret ?_
          obtain rfl := Option.some.inj h
          exact k_fin (fin_ret (.inl rfl) hf8 (vs := [.s (.bool true)]) (by kernel_rfl) (SettL.cutb (L' := [⟨0, .mem, 1, [.s (.int .u8 f_.Regs.A), .s (.int .u8 f_.Regs.B), .s (.int .u8 f_.Regs.DP), .s (.int .u8 f_.Regs.CC), .s (.int .u16 f_.Regs.X), .s (.int .u16 f_.Regs.Y), .s (.int .u16 w_), .s (.int .u16 f_.Regs.S), .s (.int .u16 f_.Regs.PC)]⟩]) 1 (by kernel_rfl) (by kernel_rfl) (by kernel_rfl) ⟨.inr (.inr rfl), trivial⟩ (FzL.stat rfl)))
        · have h := if_f h hc4
          refine k_seq ?_
          refine k_reg ?_
          refine mops_en hf6 (by kernel_rfl) fun f7 hf7 => ?_
          refine k_c ?_
          refine k_cond hf7 (t := (code_ == 4)) (by kernel_rfl) (fun hc5 => ?_) (fun hc5 => ?_)
          · have h := if_t h hc5
            refine k_reg ?_
            refine mops_en hf7 (by kernel_rfl) fun f8 hf8 => ?_
            refine k_b ?_
            refine k_c ?_
            refine k_seq ?_
            refine k_reg ?_
            refine mops_en hf8 (by kernel_rfl) fun f9 hf9 => ?_
            refine k_c ?_
            refine k_ret ?_
            obtain rfl := Option.some.inj h
            exact k_fin (fin_ret (.inl rfl) hf9 (vs := [.s (.bool true)]) (by kernel_rfl) (SettL.cutb (L' := [⟨0, .mem, 1, [.s (.int .u8 f_.Regs.A), .s (.int .u8 f_.Regs.B), .s (.int .u8 f_.Regs.DP), .s (.int .u8 f_.Regs.CC), .s (.int .u16 f_.Regs.X), .s (.int .u16 f_.Regs.Y), .s (.int .u16 f_.Regs.U), .s (.int .u16 w_), .s (.int .u16 f_.Regs.PC)]⟩]) 1 (by kernel_rfl) (by kernel_rfl) (by kernel_rfl) ⟨.inr (.inr rfl), trivial⟩ (FzL.stat rfl)))
          · have h := if_f h hc5
            refine k_seq ?_
            refine k_reg ?_
            refine mops_en hf7 (by kernel_rfl) fun f8 hf8 => ?_
            refine k_c ?_
            refine k_cond hf8 (t := (code_ == 5)) (by kernel_rfl) (fun hc6 => ?_) (fun hc6 => ?_)
            · have h := if_t h hc6
              refine k_reg ?_
              refine mops_en hf8 (by kernel_rfl) fun f9 hf9 => ?_
              refine k_b ?_
              refine k_c ?_
              refine k_seq ?_
              refine k_reg ?_
              refine mops_en hf9 (by kernel_rfl) fun f10 hf10 => ?_
              refine k_c ?_
              refine k_ret ?_
              obtain rfl := Option.some.inj h
              exact k_fin (fin_ret (.inl rfl) hf10 (vs := [.s (.bool true)]) (by kernel_rfl) (SettL.cutb (L' := [⟨0, .mem, 1, [.s (.int .u8 f_.Regs.A), .s (.int .u8 f_.Regs.B), .s (.int .u8 f_.Regs.DP), .s (.int .u8 f_.Regs.CC), .s (.int .u16 f_.Regs.X), .s (.int .u16 f_.Regs.Y), .s (.int .u16 f_.Regs.U), .s (.int .u16 f_.Regs.S), .s (.int .u16 w_)]⟩]) 1 (by kernel_rfl) (by kernel_rfl) (by kernel_rfl) ⟨.inr (.inr rfl), trivial⟩ (FzL.stat rfl)))
            · have h := if_f h hc6
              refine k_seq ?_
              refine k_reg ?_
              refine mops_en hf8 (by kernel_rfl) fun f9 hf9 => ?_
              refine k_c ?_
              refine k_cond hf9 (t := (code_ == 8)) (by kernel_rfl) (fun hc7 => ?_) (fun hc7 => ?_)
              · have h := if_t h hc7
                refine k_reg ?_
                refine mops_sg 2 hf9 (by kernel_rfl) fun f10 hf10 => ?_
                obtain ⟨r_2, hx_r_2, h⟩ := Option.bind_eq_some_iff.1 h
                refine mops_call rfl hf10 (av := [.s (.int .u16 w_)]) (by kernel_rfl) (v := .s (.int .u8 r_2)) (CalL.pure (octet_Low_ok w_ r_2 hx_r_2) rfl rfl (Nat.le_of_ble_eq_true (by kernel_rfl))) (fun _ => rfl) fun f11 hf11 => ?_
                refine mops_en hf11 (by kernel_rfl) fun f12 hf12 => ?_
                refine k_b ?_
                refine k_c ?_
                refine k_seq ?_
                refine k_reg ?_
                refine mops_en hf12 (by kernel_rfl) fun f13 hf13 => ?_
                refine k_c ?_
                refine k_ret ?_
                obtain rfl := Option.some.inj h
                exact k_fin (fin_ret (.inl rfl) hf13 (vs := [.s (.bool true)]) (by kernel_rfl) (SettL.cutb (L' := [⟨0, .mem, 1, [.s (.int .u8 r_2), .s (.int .u8 f_.Regs.B), .s (.int .u8 f_.Regs.DP), .s (.int .u8 f_.Regs.CC), .s (.int .u16 f_.Regs.X), .s (.int .u16 f_.Regs.Y), .s (.int .u16 f_.Regs.U), .s (.int .u16 f_.Regs.S), .s (.int .u16 f_.Regs.PC)]⟩]) 1 (by kernel_rfl) (by kernel_rfl) (by kernel_rfl) ⟨.inr (.inr rfl), trivial⟩ (FzL.stat rfl)))
              · have h := if_f h hc7
                refine k_seq ?_
                refine k_reg ?_
                refine mops_en hf9 (by kernel_rfl) fun f10 hf10 => ?_
                refine k_c ?_
                refine k_cond hf10 (t := (code_ == 9)) (by kernel_rfl) (fun hc8 => ?_) (fun hc8 => ?_)
                · have h := if_t h hc8
                  refine k_reg ?_
                  refine mops_sg 2 hf10 (by kernel_rfl) fun f11 hf11 => ?_
                  obtain ⟨r_3, hx_r_3, h⟩ := Option.bind_eq_some_iff.1 h
                  refine mops_call rfl hf11 (av := [.s (.int .u16 w_)]) (by kernel_rfl) (v := .s (.int .u8 r_3)) (CalL.pure (octet_Low_ok w_ r_3 hx_r_3) rfl rfl (Nat.le_of_ble_eq_true (by kernel_rfl))) (fun _ => rfl) fun f12 hf12 => ?_
                  refine mops_en hf12 (by kernel_rfl) fun f13 hf13 => ?_
                  refine k_b ?_
                  refine k_c ?_
                  refine k_seq ?_
                  refine k_reg ?_
                  refine mops_en hf13 (by kernel_rfl) fun f14 hf14 => ?_
                  refine k_c ?_
                  refine k_ret ?_
                  obtain rfl := Option.some.inj h
                  exact k_fin (fin_ret (.inl rfl) hf14 (vs := [.s (.bool true)]) (by kernel_rfl) (SettL.cutb (L' := [⟨0, .mem, 1, [.s (.int .u8 f_.Regs.A), .s (.int .u8 r_3), .s (.int .u8 f_.Regs.DP), .s (.int .u8 f_.Regs.CC), .s (.int .u16 f_.Regs.X), .s (.int .u16 f_.Regs.Y), .s (.int .u16 f_.Regs.U), .s (.int .u16 f_.Regs.S), .s (.int .u16 f_.Regs.PC)]⟩]) 1 (by kernel_rfl) (by kernel_rfl) (by kernel_rfl) ⟨.inr (.inr rfl), trivial⟩ (FzL.stat rfl)))
                · have h := if_f h hc8
                  refine k_seq ?_
                  refine k_reg ?_
                  refine mops_en hf10 (by kernel_rfl) fun f11 hf11 => ?_
                  refine k_c ?_
                  refine k_cond hf11 (t := (code_ == 10)) (by kernel_rfl) (fun hc9 => ?_) (fun hc9 => ?_)
                  · have h := if_t h hc9
                    refine k_reg ?_
                    refine mops_sg 2 hf11 (by kernel_rfl) fun f12 hf12 => ?_
                    obtain ⟨r_4, hx_r_4, h⟩ := Option.bind_eq_some_iff.1 h
                    refine mops_call rfl hf12 (av := [.s (.int .u16 w_)]) (by kernel_rfl) (v := .s (.int .u8 r_4)) (CalL.pure (octet_Low_ok w_ r_4 hx_r_4) rfl rfl (Nat.le_of_ble_eq_true (by kernel_rfl))) (fun _ => rfl) fun f13 hf13 => ?_
                    refine mops_en hf13 (by kernel_rfl) fun f14 hf14 => ?_
                    refine k_b ?_
                    refine k_c ?_
                    refine k_seq ?_
                    refine k_reg ?_
                    refine mops_end [6] hf14 (l' := [⟨6, [], .s (.bool true)⟩]) (L' := [⟨0, .mem, 1, [.s (.int .u8 f_.Regs.A), .s (.int .u8 f_.Regs.B), .s (.int .u8 f_.Regs.DP), .s (.int .u8 r_4), .s (.int .u16 f_.Regs.X), .s (.int .u16 f_.Regs.Y), .s (.int .u16 f_.Regs.U), .s (.int .u16 f_.Regs.S), .s (.int .u16 f_.Regs.PC)]⟩]) (by kernel_rfl) fun f15 hf15 => ?_
                    refine k_c ?_
                    refine k_ret ?_
                    obtain rfl := Option.some.inj h
                    exact k_fin (fin_ret (.inl rfl) hf15 (vs := [.s (.bool true)]) (by kernel_rfl) (SettL.cutb (L' := [⟨0, .mem, 1, [.s (.int .u8 f_.Regs.A), .s (.int .u8 f_.Regs.B), .s (.int .u8 f_.Regs.DP), .s (.int .u8 r_4), .s (.int .u16 f_.Regs.X), .s (.int .u16 f_.Regs.Y), .s (.int .u16 f_.Regs.U), .s (.int .u16 f_.Regs.S), .s (.int .u16 f_.Regs.PC)]⟩]) 1 (by kernel_rfl) (by kernel_rfl) (by kernel_rfl) ⟨.inr (.inr rfl), trivial⟩ (FzL.stat rfl)))
                  · have h := if_f h hc9
                    refine k_seq ?_
                    refine k_reg ?_
                    refine mops_en hf11 (by kernel_rfl) fun f12 hf12 => ?_
                    refine k_c ?_
                    refine k_cond hf12 (t := (code_ == 11)) (by kernel_rfl) (fun hc10 => ?_) (fun hc10 => ?_)
                    · have h := if_t h hc10
                      refine k_reg ?_
                      refine mops_sg 2 hf12 (by kernel_rfl) fun f13 hf13 => ?_
                      obtain ⟨r_5, hx_r_5, h⟩ := Option.bind_eq_some_iff.1 h
                      refine mops_call rfl hf13 (av := [.s (.int .u16 w_)]) (by kernel_rfl) (v := .s (.int .u8 r_5)) (CalL.pure (octet_Low_ok w_ r_5 hx_r_5) rfl rfl (Nat.le_of_ble_eq_true (by kernel_rfl))) (fun _ => rfl) fun f14 hf14 => ?_
                      refine mops_end [6] hf14 (l' := [⟨6, [], .s (.bool false)⟩]) (L' := [⟨0, .mem, 1, [.s (.int .u8 f_.Regs.A), .s (.int .u8 f_.Regs.B), .s (.int .u8 r_5), .s (.int .u8 f_.Regs.CC), .s (.int .u16 f_.Regs.X), .s (.int .u16 f_.Regs.Y), .s (.int .u16 f_.Regs.U), .s (.int .u16 f_.Regs.S), .s (.int .u16 f_.Regs.PC)]⟩]) (by kernel_rfl) fun f15 hf15 => ?_
                      refine k_b ?_
                      refine k_c ?_
                      refine k_seq ?_
                      refine k_reg ?_
                      refine mops_en hf15 (by kernel_rfl) fun f16 hf16 => ?_
                      refine k_c ?_
                      refine k_ret ?_
                      obtain rfl := Option.some.inj h
                      exact k_fin (fin_ret (.inl rfl) hf16 (vs := [.s (.bool true)]) (by kernel_rfl) (SettL.cutb (L' := [⟨0, .mem, 1, [.s (.int .u8 f_.Regs.A), .s (.int .u8 f_.Regs.B), .s (.int .u8 r_5), .s (.int .u8 f_.Regs.CC), .s (.int .u16 f_.Regs.X), .s (.int .u16 f_.Regs.Y), .s (.int .u16 f_.Regs.U), .s (.int .u16 f_.Regs.S), .s (.int .u16 f_.Regs.PC)]⟩]) 1 (by kernel_rfl) (by kernel_rfl) (by kernel_rfl) ⟨.inr (.inr rfl), trivial⟩ (FzL.stat rfl)))
                    · have h := if_f h hc10
                      refine k_seq ?_
                      refine k_reg ?_
                      refine mops_en hf12 (by kernel_rfl) fun f13 hf13 => ?_
                      refine k_c ?_
                      refine k_ret ?_
                      refine x_br ?_
                      refine x_c nofun ?_
                      obtain rfl := Option.some.inj h
                      exact k_fin (fin_ret (.inl rfl) hf13 (vs := [.s (.bool false)]) (by kernel_rfl) (SettL.cutb (L' := [⟨0, .mem, 1, [.s (.int .u8 f_.Regs.A), .s (.int .u8 f_.Regs.B), .s (.int .u8 f_.Regs.DP), .s (.int .u8 f_.Regs.CC), .s (.int .u16 f_.Regs.X), .s (.int .u16 f_.Regs.Y), .s (.int .u16 f_.Regs.U), .s (.int .u16 f_.Regs.S), .s (.int .u16 f_.Regs.PC)]⟩]) 1 (by kernel_rfl) (by kernel_rfl) (by kernel_rfl) ⟨.inr (.inr rfl), trivial⟩ (FzL.stat rfl)))
def spinetref17_With_i0 : List Op1 := [(oE 3 (.box (.t 0)) []), (oE 4 (.box (.t 1)) []), (oE 6 (.zero [(.int .u8 0), (.int .u8 0), (.int .u8 0), (.int .u8 0), (.int .u16 0), (.int .u16 0), (.int .u16 0), (.int .u16 0), (.int .u16 0)]) [])]
def spinetref17_With_i1 : List Op1 := [(oE 8 (.load true 9 (.t 3)) []), (oE 9 (.fld 0 (.t 4)) []), (oE 10 (.load false 1 (.t 9)) [1]), (oC 11 28 [(.t 8), (.t 10)] [0, 2]), (oM 7 (.t 11) [3, 3, 0, 1, 2, 3])]
def spinetref17_With_i2 : List Op1 := [(oE 12 (.fld 1 (.t 4)) []), (oE 13 (.load false 1 (.t 12)) [0])]
def spinetref17_With_i3 : List Op1 := [(oE 14 (.load true 9 (.t 3)) []), (oE 15 (.fld 0 (.t 4)) []), (oE 16 (.load false 1 (.t 15)) [1]), (oM 17 (.t 2) []), (oE 18 (.cint .u16 (.t 17)) [3]), (oE 19 (.bin .mul (.t 18) (.k (.int .u16 256))) [4]), (oM 20 (.t 7) []), (oE 21 (.bin .rem (.t 20) (.k (.int .u16 256))) [6]), (oE 22 (.bin .add (.t 19) (.t 21)) [5, 7]), (oC 23 31 [(.t 14), (.t 16), (.t 22)] [0, 2, 8]), (oN (.store 9 (.t 6) (.t 23)) [9, 9, 0, 1, 2, 3, 4, 5, 6, 7, 8, 9])]
def spinetref17_With_i4 : IR := .ret
def spinetref17_With_i5 : IR := (.cond (.t 13) (.seq (.reg false spinetref17_With_i3) spinetref17_With_i4) .skip)
def spinetref17_With_i6 : List Op1 := [(oE 24 (.load true 9 (.t 3)) []), (oE 25 (.fld 0 (.t 4)) []), (oE 26 (.load false 1 (.t 25)) [1]), (oM 27 (.t 7) []), (oE 28 (.bin .quo (.t 27) (.k (.int .u16 256))) [3]), (oE 29 (.bin .mul (.t 28) (.k (.int .u16 256))) [4]), (oM 30 (.t 2) []), (oE 31 (.cint .u16 (.t 30)) [6]), (oE 32 (.bin .add (.t 29) (.t 31)) [5, 7]), (oC 33 31 [(.t 24), (.t 26), (.t 32)] [0, 2, 8]), (oN (.store 9 (.t 6) (.t 33)) [9, 9, 0, 1, 2, 3, 4, 5, 6, 7, 8, 9])]
def spinetref17_With_i7 : IR := .ret
def spinetref17_With_i8 : IR := (.seq (.reg false spinetref17_With_i6) spinetref17_With_i7)
def spinetref17_With_i9 : IR := (.seq (.seq (.reg false spinetref17_With_i2) spinetref17_With_i5) spinetref17_With_i8)
def spinetref17_With_i10 : IR := (.seq (.reg false spinetref17_With_i1) spinetref17_With_i9)
def spinetref17_With_ir : IR := (.seq (.reg false spinetref17_With_i0) spinetref17_With_i10)
theorem spinetref17_With_cfn : cFn Tryd.prog 18 = some (spinetref17_With_ir, [(.c 6 true 9)], 34) := by kernel_rfl
def spinetref17_With_V (r : (api_Regs)) : V := .agg [.s (.int .u8 r.A), .s (.int .u8 r.B), .s (.int .u8 r.DP), .s (.int .u8 r.CC), .s (.int .u16 r.X), .s (.int .u16 r.Y), .s (.int .u16 r.U), .s (.int .u16 r.S), .s (.int .u16 r.PC)]
def spinetref17_With_C (r : (api_Regs)) : X → Fr → Hp → Prop := FinL [(.c 6 true 9)] [] (spinetref17_With_V r) []
theorem spinetref17_With_ok (r_ : api_Regs) (p_ : spinetref17_Part) (b_ : Int) (r : (api_Regs)) (h : spinetref17_With r_ p_ b_ = some r) : Pure Tryd.prog 18 [.agg [.s (.int .u8 r_.A), .s (.int .u8 r_.B), .s (.int .u8 r_.DP), .s (.int .u8 r_.CC), .s (.int .u16 r_.X), .s (.int .u16 r_.Y), .s (.int .u16 r_.U), .s (.int .u16 r_.S), .s (.int .u16 r_.PC)], .agg [.s (.int .i64 p_.Reg), .s (.bool p_.High)], .s (.int .u8 b_)] (spinetref17_With_V r) := by
  refine ConL.of spinetref17_With_cfn (Nat.le_of_ble_eq_true (by kernel_rfl)) (Nat.le_of_ble_eq_true (by kernel_rfl)) ?_
  refine k_start ?_
  show dwv Tryd.prog [] spinetref17_With_ir (kont Tryd.prog [] (spinetref17_With_C r) []) (fr0 [.agg [.s (.int .u8 r_.A), .s (.int .u8 r_.B), .s (.int .u8 r_.DP), .s (.int .u8 r_.CC), .s (.int .u16 r_.X), .s (.int .u16 r_.Y), .s (.int .u16 r_.U), .s (.int .u16 r_.S), .s (.int .u16 r_.PC)], .agg [.s (.int .i64 p_.Reg), .s (.bool p_.High)], .s (.int .u8 b_)]) []
  have hf : FOk (fr0 [.agg [.s (.int .u8 r_.A), .s (.int .u8 r_.B), .s (.int .u8 r_.DP), .s (.int .u8 r_.CC), .s (.int .u16 r_.X), .s (.int .u16 r_.Y), .s (.int .u16 r_.U), .s (.int .u16 r_.S), .s (.int .u16 r_.PC)], .agg [.s (.int .i64 p_.Reg), .s (.bool p_.High)], .s (.int .u8 b_)]) [⟨0, [], .agg [.s (.int .u8 r_.A), .s (.int .u8 r_.B), .s (.int .u8 r_.DP), .s (.int .u8 r_.CC), .s (.int .u16 r_.X), .s (.int .u16 r_.Y), .s (.int .u16 r_.U), .s (.int .u16 r_.S), .s (.int .u16 r_.PC)]⟩, ⟨1, [], .agg [.s (.int .i64 p_.Reg), .s (.bool p_.High)]⟩, ⟨2, [], .s (.int .u8 b_)⟩] := ⟨⟨fun _ => rfl, fun h => (h trivial).elim⟩, ⟨fun _ => rfl, fun h => (h trivial).elim⟩, ⟨fun _ => rfl, fun h => (h trivial).elim⟩, trivial⟩
  generalize fr0 [.agg [.s (.int .u8 r_.A), .s (.int .u8 r_.B), .s (.int .u8 r_.DP), .s (.int .u8 r_.CC), .s (.int .u16 r_.X), .s (.int .u16 r_.Y), .s (.int .u16 r_.U), .s (.int .u16 r_.S), .s (.int .u16 r_.PC)], .agg [.s (.int .i64 p_.Reg), .s (.bool p_.High)], .s (.int .u8 b_)] = f at hf ⊢
  unfold spinetref17_With at h
  refine k_seq ?_
  refine k_reg ?_
  refine mops_en hf (by kernel_rfl) fun f1 hf1 => ?_
  refine k_c ?_
  refine k_seq ?_
  refine k_reg ?_
  refine mops_sg 3 hf1 (by kernel_rfl) fun f2 hf2 => ?_
  obtain ⟨r_1, hx_r_1, h⟩ := Option.bind_eq_some_iff.1 h
  refine mops_call rfl hf2 (av := [.agg [.s (.int .u8 r_.A), .s (.int .u8 r_.B), .s (.int .u8 r_.DP), .s (.int .u8 r_.CC), .s (.int .u16 r_.X), .s (.int .u16 r_.Y), .s (.int .u16 r_.U), .s (.int .u16 r_.S), .s (.int .u16 r_.PC)], .s (.int .i64 p_.Reg)]) (by kernel_rfl) (v := .s (.int .u16 r_1)) (CalL.pure (spinetref16_Get_ok r_ p_.Reg r_1 hx_r_1) rfl rfl (Nat.le_of_ble_eq_true (by kernel_rfl))) (fun _ => rfl) fun f3 hf3 => ?_
  refine mops_en hf3 (by kernel_rfl) fun f4 hf4 => ?_
  refine k_c ?_
  refine k_seq ?_
  refine k_seq ?_
  refine k_reg ?_
  refine mops_en hf4 (by kernel_rfl) fun f5 hf5 => ?_
  refine k_c ?_
  refine k_cond hf5 (t := p_.High) (by kernel_rfl) (fun hc1 => ?_) (fun hc1 => ?_)
  · have h := if_t h hc1
    refine k_seq ?_
    refine k_reg ?_
    refine mops_sg 9 hf5 (by kernel_rfl) fun f6 hf6 => ?_
    obtain ⟨r_2, hx_r_2, h⟩ := Option.bind_eq_some_iff.1 h
    refine mops_call rfl hf6 (av := [.agg [.s (.int .u8 r_.A), .s (.int .u8 r_.B), .s (.int .u8 r_.DP), .s (.int .u8 r_.CC), .s (.int .u16 r_.X), .s (.int .u16 r_.Y), .s (.int .u16 r_.U), .s (.int .u16 r_.S), .s (.int .u16 r_.PC)], .s (.int .i64 p_.Reg), .s (.int .u16 (IntKind.wrap .u16 ((IntKind.wrap .u16 ((IntKind.wrap .u16 b_) * 256)) + (Int.tmod r_1 256))))]) (by kernel_rfl) (v := .agg [.s (.int .u8 r_2.A), .s (.int .u8 r_2.B), .s (.int .u8 r_2.DP), .s (.int .u8 r_2.CC), .s (.int .u16 r_2.X), .s (.int .u16 r_2.Y), .s (.int .u16 r_2.U), .s (.int .u16 r_2.S), .s (.int .u16 r_2.PC)]) (CalL.pure (spinetref16_Set_ok r_ p_.Reg (IntKind.wrap .u16 ((IntKind.wrap .u16 ((IntKind.wrap .u16 b_) * 256)) + (Int.tmod r_1 256))) r_2 hx_r_2) rfl rfl (Nat.le_of_ble_eq_true (by kernel_rfl))) (fun _ => rfl) fun f7 hf7 => ?_
    refine mops_en hf7 (by kernel_rfl) fun f8 hf8 => ?_
    refine k_c ?_
    refine k_ret ?_
    refine x_c nofun ?_
    obtain rfl := Option.some.inj h
    exact k_fin (fin_ret (.inl rfl) hf8 (vs := [.agg [.s (.int .u8 r_2.A), .s (.int .u8 r_2.B), .s (.int .u8 r_2.DP), .s (.int .u8 r_2.CC), .s (.int .u16 r_2.X), .s (.int .u16 r_2.Y), .s (.int .u16 r_2.U), .s (.int .u16 r_2.S), .s (.int .u16 r_2.PC)]]) (by kernel_rfl) (SettL.pure (FzL.stat rfl)))
  · have h := if_f h hc1
    refine k_skip ?_
    refine k_c ?_
    refine k_seq ?_
    refine k_reg ?_
    refine mops_sg 9 hf5 (by kernel_rfl) fun f6 hf6 => ?_
    obtain ⟨r_3, hx_r_3, h⟩ := Option.bind_eq_some_iff.1 h
    refine mops_call rfl hf6 (av := [.agg [.s (.int .u8 r_.A), .s (.int .u8 r_.B), .s (.int .u8 r_.DP), .s (.int .u8 r_.CC), .s (.int .u16 r_.X), .s (.int .u16 r_.Y), .s (.int .u16 r_.U), .s (.int .u16 r_.S), .s (.int .u16 r_.PC)], .s (.int .i64 p_.Reg), .s (.int .u16 (IntKind.wrap .u16 ((IntKind.wrap .u16 ((IntKind.wrap .u16 (Int.tdiv r_1 256)) * 256)) + (IntKind.wrap .u16 b_))))]) (by kernel_rfl) (v := .agg [.s (.int .u8 r_3.A), .s (.int .u8 r_3.B), .s (.int .u8 r_3.DP), .s (.int .u8 r_3.CC), .s (.int .u16 r_3.X), .s (.int .u16 r_3.Y), .s (.int .u16 r_3.U), .s (.int .u16 r_3.S), .s (.int .u16 r_3.PC)]) (CalL.pure (spinetref16_Set_ok r_ p_.Reg (IntKind.wrap .u16 ((IntKind.wrap .u16 ((IntKind.wrap .u16 (Int.tdiv r_1 256)) * 256)) + (IntKind.wrap .u16 b_))) r_3 hx_r_3) rfl rfl (Nat.le_of_ble_eq_true (by kernel_rfl))) (fun _ => rfl) fun f7 hf7 => ?_
    refine mops_en hf7 (by kernel_rfl) fun f8 hf8 => ?_
    refine k_c ?_
    refine k_ret ?_
    obtain rfl := Option.some.inj h
    exact k_fin (fin_ret (.inl rfl) hf8 (vs := [.agg [.s (.int .u8 r_3.A), .s (.int .u8 r_3.B), .s (.int .u8 r_3.DP), .s (.int .u8 r_3.CC), .s (.int .u16 r_3.X), .s (.int .u16 r_3.Y), .s (.int .u16 r_3.U), .s (.int .u16 r_3.S), .s (.int .u16 r_3.PC)]]) (by kernel_rfl) (SettL.pure (FzL.stat rfl)))
end Go.Proofs.YtiedenhkailolaaDoorK
