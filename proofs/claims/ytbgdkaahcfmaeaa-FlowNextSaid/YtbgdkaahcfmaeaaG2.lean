/- The Go functions come to the functions over typed data. Printed by a program of this work. -/
import Derived.Test.YtbgdkaahcfmaeaaF
import Derived.Test.YtbgdkaahcfmaeaaProg
namespace Go.Proofs.YtbgdkaahcfmaeaaK
set_option linter.unusedVariables false
set_option linter.unusedSimpArgs false
set_option maxHeartbeats 4000000
open Go.RowKit
attribute [local irreducible] dwv mops lops lqops lwops kont iter run runK ex E1 vals val chain chB sel resF
def spinetref54_Next_i0 : List Op1 := [⟨(some 2), (.e (.box (.t 0))), none, []⟩, ⟨(some 4), (.e (.nilg 1)), none, []⟩, ⟨(some 5), (.e (.mv (.k (.bool false)))), none, [1]⟩]
def spinetref54_Next_i1 : List Op1 := [⟨(some 12), (.e (.mv (.t 1))), none, []⟩, ⟨(some 13), (.e (.fld 7 (.t 2))), none, []⟩, ⟨(some 14), (.e (.load false 1 (.t 13))), none, [1]⟩, ⟨(some 15), (.e (.cint .u16 (.t 14))), none, [2]⟩, ⟨(some 16), (.e (.bin .add (.t 12) (.t 15))), none, [0, 3]⟩, ⟨(some 6), (.e (.mv (.t 16))), none, [4, 0, 1, 2, 3, 4]⟩]
def spinetref54_Next_i2 : List Op1 := [⟨(some 17), (.e (.mv (.t 6))), none, []⟩, ⟨(some 18), (.e (.fld 6 (.t 2))), none, []⟩, ⟨(some 19), (.e (.load false 1 (.t 18))), none, [1]⟩, ⟨(some 20), (.e (.bin .add (.t 17) (.t 19))), none, [0, 2]⟩, ⟨(some 7), (.e (.mv (.t 20))), none, [3, 0, 1, 2, 3]⟩]
def spinetref54_Next_i3 : List Op1 := [⟨(some 21), (.e (.fld 2 (.t 2))), none, []⟩, ⟨(some 22), (.e (.fld 0 (.t 21))), none, [0]⟩, ⟨(some 23), (.e (.load false 1 (.t 22))), none, [1]⟩, ⟨(some 24), (.e (.fld 2 (.t 2))), none, []⟩, ⟨(some 25), (.e (.fld 2 (.t 24))), none, [3]⟩, ⟨(some 26), (.e (.load false 1 (.t 25))), none, [4]⟩, ⟨(some 8), (.e (.mv (.t 23))), none, [2, 0, 1, 2]⟩, ⟨(some 9), (.e (.mv (.t 26))), none, [5, 6, 0, 1, 2, 3, 4, 5, 6]⟩]
def spinetref54_Next_i4 : List Op1 := [⟨(some 27), (.e (.fld 5 (.t 2))), none, []⟩, ⟨(some 28), (.e (.load false 1 (.t 27))), none, [0]⟩, ⟨(some 29), (.e (.bin .quo (.t 28) (.k (.int .u8 16)))), none, [1]⟩, ⟨(some 30), (.e (.fld 5 (.t 2))), none, []⟩, ⟨(some 31), (.e (.load false 1 (.t 30))), none, [3]⟩, ⟨(some 32), (.e (.bin .rem (.t 31) (.k (.int .u8 16)))), none, [4]⟩, ⟨(some 10), (.e (.mv (.t 29))), none, [2, 0, 1, 2]⟩, ⟨(some 11), (.e (.mv (.t 32))), none, [5, 6, 0, 1, 2, 3, 4, 5, 6]⟩]
def spinetref54_Next_i5 : List Op1 := [⟨(some 33), (.e (.mv (.t 8))), none, []⟩]
def spinetref54_Next_i6 : List Op1 := [⟨(some 35), (.e (.bin .eql (.t 33) (.k (.int .i64 34)))), none, []⟩, ⟨(some 34), (.e (.mv (.t 35))), none, [0]⟩]
def spinetref54_Next_i7 : List Op1 := [⟨(some 36), (.e (.bin .eql (.t 33) (.k (.int .i64 35)))), none, []⟩, ⟨(some 34), (.e (.mv (.t 36))), none, [0]⟩]
def spinetref54_Next_i8 : IR := (.cond (.t 34) .skip (.reg false spinetref54_Next_i7))
def spinetref54_Next_i9 : List Op1 := [⟨(some 37), (.e (.mv (.t 9))), none, []⟩, ⟨(some 38), (.e (.bin .eql (.t 37) (.k (.int .i64 0)))), none, [0]⟩]
def spinetref54_Next_i10 : List Op1 := [⟨(some 39), (.e (.mv (.t 7))), none, []⟩, ⟨(some 40), (.e (.bslo 1 1 [(.int .u16 0)] [(0, (1, (.t 39)))])), none, [0]⟩, ⟨(some 4), (.e (.mv (.t 40))), none, [1, 0, 1]⟩, ⟨(some 5), (.e (.mv (.k (.bool true)))), none, [2, 0, 1, 2]⟩]
def spinetref54_Next_i11 : IR := .ret
def spinetref54_Next_i12 : IR := (.cond (.t 38) (.seq (.reg false spinetref54_Next_i10) spinetref54_Next_i11) .skip)
def spinetref54_Next_i13 : List Op1 := [⟨(some 41), (.e (.mv (.t 9))), none, []⟩, ⟨(some 42), (.e (.bin .eql (.t 41) (.k (.int .i64 1)))), none, [0]⟩]
def spinetref54_Next_i14 : List Op1 := [⟨(some 43), (.e (.mv (.t 6))), none, []⟩, ⟨(some 44), (.e (.bslo 1 1 [(.int .u16 0)] [(0, (1, (.t 43)))])), none, [0]⟩, ⟨(some 4), (.e (.mv (.t 44))), none, [1, 0, 1]⟩, ⟨(some 5), (.e (.mv (.k (.bool true)))), none, [2, 0, 1, 2]⟩]
def spinetref54_Next_i15 : IR := .ret
def spinetref54_Next_i16 : IR := (.cond (.t 42) (.seq (.reg false spinetref54_Next_i14) spinetref54_Next_i15) .skip)
def spinetref54_Next_i17 : List Op1 := [⟨(some 45), (.e (.mv (.t 7))), none, []⟩, ⟨(some 46), (.e (.mv (.t 6))), none, []⟩, ⟨(some 47), (.e (.bslo 1 2 [(.int .u16 0), (.int .u16 0)] [(0, (1, (.t 45))), (1, (1, (.t 46)))])), none, [0, 1]⟩, ⟨(some 4), (.e (.mv (.t 47))), none, [2, 0, 1, 2]⟩, ⟨(some 5), (.e (.mv (.k (.bool true)))), none, [3, 0, 1, 2, 3]⟩]
def spinetref54_Next_i18 : IR := .ret
def spinetref54_Next_i19 : IR := (.seq (.reg false spinetref54_Next_i17) spinetref54_Next_i18)
def spinetref54_Next_i20 : IR := (.seq (.seq (.reg false spinetref54_Next_i13) spinetref54_Next_i16) spinetref54_Next_i19)
def spinetref54_Next_i21 : List Op1 := [⟨(some 49), (.e (.bin .eql (.t 33) (.k (.int .i64 36)))), none, []⟩, ⟨(some 48), (.e (.mv (.t 49))), none, [0]⟩]
def spinetref54_Next_i22 : List Op1 := [⟨(some 50), (.e (.mv (.t 7))), none, []⟩, ⟨(some 51), (.e (.bslo 1 1 [(.int .u16 0)] [(0, (1, (.t 50)))])), none, [0]⟩, ⟨(some 4), (.e (.mv (.t 51))), none, [1, 0, 1]⟩, ⟨(some 5), (.e (.mv (.k (.bool true)))), none, [2, 0, 1, 2]⟩]
def spinetref54_Next_i23 : IR := .ret
def spinetref54_Next_i24 : List Op1 := [⟨(some 53), (.e (.bin .eql (.t 33) (.k (.int .i64 37)))), none, []⟩, ⟨(some 52), (.e (.mv (.t 53))), none, [0]⟩]
def spinetref54_Next_i25 : List Op1 := [⟨(some 54), (.e (.bin .eql (.t 33) (.k (.int .i64 38)))), none, []⟩, ⟨(some 52), (.e (.mv (.t 54))), none, [0]⟩]
def spinetref54_Next_i26 : IR := (.cond (.t 52) .skip (.reg false spinetref54_Next_i25))
def spinetref54_Next_i27 : List Op1 := [⟨(some 55), (.e (.mv (.t 7))), none, []⟩, ⟨(some 56), (.e (.mv (.t 6))), none, []⟩, ⟨(some 57), (.e (.bslo 1 2 [(.int .u16 0), (.int .u16 0)] [(0, (1, (.t 55))), (1, (1, (.t 56)))])), none, [0, 1]⟩, ⟨(some 4), (.e (.mv (.t 57))), none, [2, 0, 1, 2]⟩, ⟨(some 5), (.e (.mv (.k (.bool true)))), none, [3, 0, 1, 2, 3]⟩]
def spinetref54_Next_i28 : IR := .ret
def spinetref54_Next_i29 : List Op1 := [⟨(some 59), (.e (.bin .eql (.t 33) (.k (.int .i64 32)))), none, []⟩, ⟨(some 58), (.e (.mv (.t 59))), none, [0]⟩]
def spinetref54_Next_i30 : List Op1 := [⟨(some 60), (.e (.fld 2 (.t 2))), none, []⟩, ⟨(some 61), (.e (.fld 1 (.t 60))), none, [0]⟩, ⟨(some 62), (.e (.load false 1 (.t 61))), none, [1]⟩, ⟨(some 63), (.e (.bin .eql (.t 62) (.k (.int .i64 5)))), none, [2]⟩]
def spinetref54_Next_i31 : List Op1 := [⟨(some 64), (.e (.fld 6 (.t 2))), none, []⟩, ⟨(some 65), (.e (.load false 1 (.t 64))), none, [0]⟩, ⟨(some 66), (.e (.bslo 1 1 [(.int .u16 0)] [(0, (1, (.t 65)))])), none, [1]⟩, ⟨(some 4), (.e (.mv (.t 66))), none, [2, 0, 1, 2]⟩, ⟨(some 5), (.e (.mv (.k (.bool true)))), none, [3, 0, 1, 2, 3]⟩]
def spinetref54_Next_i32 : IR := .ret
def spinetref54_Next_i33 : IR := (.cond (.t 63) (.seq (.reg false spinetref54_Next_i31) spinetref54_Next_i32) .skip)
def spinetref54_Next_i34 : List Op1 := [⟨(some 4), (.e (.nilg 1)), none, []⟩, ⟨(some 5), (.e (.mv (.k (.bool false)))), none, [0, 0]⟩]
def spinetref54_Next_i35 : IR := .ret
def spinetref54_Next_i36 : IR := (.seq (.reg false spinetref54_Next_i34) spinetref54_Next_i35)
def spinetref54_Next_i37 : List Op1 := [⟨(some 68), (.e (.bin .eql (.t 33) (.k (.int .i64 33)))), none, []⟩, ⟨(some 67), (.e (.mv (.t 68))), none, [0]⟩]
def spinetref54_Next_i38 : List Op1 := [⟨(some 69), (.e (.fld 2 (.t 2))), none, []⟩, ⟨(some 70), (.e (.fld 1 (.t 69))), none, [0]⟩, ⟨(some 71), (.e (.load false 1 (.t 70))), none, [1]⟩, ⟨(some 72), (.e (.bin .eql (.t 71) (.k (.int .i64 5)))), none, [2]⟩]
def spinetref54_Next_i39 : List Op1 := [⟨(some 73), (.e (.fld 6 (.t 2))), none, []⟩, ⟨(some 74), (.e (.load false 1 (.t 73))), none, [0]⟩, ⟨(some 75), (.e (.mv (.t 6))), none, []⟩, ⟨(some 76), (.e (.bslo 1 2 [(.int .u16 0), (.int .u16 0)] [(0, (1, (.t 74))), (1, (1, (.t 75)))])), none, [1, 2]⟩, ⟨(some 4), (.e (.mv (.t 76))), none, [3, 0, 1, 2, 3]⟩, ⟨(some 5), (.e (.mv (.k (.bool true)))), none, [4, 0, 1, 2, 3, 4]⟩]
def spinetref54_Next_i40 : IR := .ret
def spinetref54_Next_i41 : IR := (.cond (.t 72) (.seq (.reg false spinetref54_Next_i39) spinetref54_Next_i40) .skip)
def spinetref54_Next_i42 : List Op1 := [⟨(some 77), (.e (.mv (.t 6))), none, []⟩, ⟨(some 78), (.e (.bslo 1 1 [(.int .u16 0)] [(0, (1, (.t 77)))])), none, [0]⟩, ⟨(some 4), (.e (.mv (.t 78))), none, [1, 0, 1]⟩, ⟨(some 5), (.e (.mv (.k (.bool false)))), none, [2, 0, 1, 2]⟩]
def spinetref54_Next_i43 : IR := .ret
def spinetref54_Next_i44 : IR := (.seq (.reg false spinetref54_Next_i42) spinetref54_Next_i43)
def spinetref54_Next_i45 : List Op1 := [⟨(some 80), (.e (.bin .eql (.t 33) (.k (.int .i64 51)))), none, []⟩, ⟨(some 79), (.e (.mv (.t 80))), none, [0]⟩]
def spinetref54_Next_i46 : List Op1 := [⟨(some 81), (.e (.mv (.t 6))), none, []⟩, ⟨(some 82), (.e (.bslo 1 1 [(.int .u16 0)] [(0, (1, (.t 81)))])), none, [0]⟩, ⟨(some 4), (.e (.mv (.t 82))), none, [1, 0, 1]⟩, ⟨(some 5), (.e (.mv (.k (.bool false)))), none, [2, 0, 1, 2]⟩]
def spinetref54_Next_i47 : IR := .ret
def spinetref54_Next_i48 : List Op1 := [⟨(some 84), (.e (.bin .eql (.t 33) (.k (.int .i64 48)))), none, []⟩, ⟨(some 83), (.e (.mv (.t 84))), none, [0]⟩]
def spinetref54_Next_i49 : List Op1 := [⟨(some 85), (.e (.bin .eql (.t 33) (.k (.int .i64 49)))), none, []⟩, ⟨(some 83), (.e (.mv (.t 85))), none, [0]⟩]
def spinetref54_Next_i50 : IR := (.cond (.t 83) .skip (.reg false spinetref54_Next_i49))
def spinetref54_Next_i51 : List Op1 := [⟨(some 4), (.e (.nilg 1)), none, []⟩, ⟨(some 5), (.e (.mv (.k (.bool false)))), none, [0, 0]⟩]
def spinetref54_Next_i52 : IR := .ret
def spinetref54_Next_i53 : List Op1 := [⟨(some 87), (.e (.bin .eql (.t 33) (.k (.int .i64 47)))), none, []⟩, ⟨(some 86), (.e (.mv (.t 87))), none, [0]⟩]
def spinetref54_Next_i54 : List Op1 := [⟨(some 88), (.e (.mv (.t 11))), none, []⟩, ⟨(some 89), (.e (.bin .eql (.t 88) (.k (.int .u8 5)))), none, [0]⟩]
def spinetref54_Next_i55 : List Op1 := [⟨(some 4), (.e (.nilg 1)), none, []⟩, ⟨(some 5), (.e (.mv (.k (.bool false)))), none, [0, 0]⟩]
def spinetref54_Next_i56 : IR := .ret
def spinetref54_Next_i57 : IR := (.cond (.t 89) (.seq (.reg false spinetref54_Next_i55) spinetref54_Next_i56) .skip)
def spinetref54_Next_i58 : List Op1 := [⟨(some 91), (.e (.bin .eql (.t 33) (.k (.int .i64 46)))), none, []⟩, ⟨(some 90), (.e (.mv (.t 91))), none, [0]⟩]
def spinetref54_Next_i59 : List Op1 := [⟨(some 92), (.e (.mv (.t 11))), none, []⟩, ⟨(some 93), (.e (.bin .eql (.t 92) (.k (.int .u8 5)))), none, [0]⟩, ⟨(some 94), (.e (.mv (.t 93))), none, [1]⟩, ⟨(some 95), (.e (.mv (.t 10))), (some (94, false)), [2]⟩, ⟨(some 96), (.e (.bin .eql (.t 95) (.k (.int .u8 5)))), (some (94, false)), [3, 2]⟩, ⟨(some 97), (.e (.pick (.t 94) (.k (.bool true)) (.t 96))), none, [2, 4]⟩]
def spinetref54_Next_i60 : List Op1 := [⟨(some 4), (.e (.nilg 1)), none, []⟩, ⟨(some 5), (.e (.mv (.k (.bool false)))), none, [0, 0]⟩]
def spinetref54_Next_i61 : IR := .ret
def spinetref54_Next_i62 : IR := (.cond (.t 97) (.seq (.reg false spinetref54_Next_i60) spinetref54_Next_i61) .skip)
def spinetref54_Next_i63 : List Op1 := [⟨(some 99), (.e (.bin .eql (.t 33) (.k (.int .i64 31)))), none, []⟩, ⟨(some 98), (.e (.mv (.t 99))), none, [0]⟩]
def spinetref54_Next_i64 : List Op1 := [⟨(some 100), (.e (.fld 5 (.t 2))), none, []⟩, ⟨(some 101), (.e (.load false 1 (.t 100))), none, [0]⟩, ⟨(some 102), (.e (.bin .gtr (.t 101) (.k (.int .u8 127)))), none, [1]⟩]
def spinetref54_Next_i65 : List Op1 := [⟨(some 4), (.e (.nilg 1)), none, []⟩, ⟨(some 5), (.e (.mv (.k (.bool false)))), none, [0, 0]⟩]
def spinetref54_Next_i66 : IR := .ret
def spinetref54_Next_i67 : IR := (.cond (.t 102) (.seq (.reg false spinetref54_Next_i65) spinetref54_Next_i66) .skip)
def spinetref54_Next_i68 : IR := (.cond (.t 98) (.seq (.reg false spinetref54_Next_i64) spinetref54_Next_i67) .skip)
def spinetref54_Next_i69 : IR := (.cond (.t 90) (.seq (.reg false spinetref54_Next_i59) spinetref54_Next_i62) (.seq (.reg false spinetref54_Next_i63) spinetref54_Next_i68))
def spinetref54_Next_i70 : IR := (.cond (.t 86) (.seq (.reg false spinetref54_Next_i54) spinetref54_Next_i57) (.seq (.reg false spinetref54_Next_i58) spinetref54_Next_i69))
def spinetref54_Next_i71 : IR := (.cond (.t 83) (.seq (.reg false spinetref54_Next_i51) spinetref54_Next_i52) (.seq (.reg false spinetref54_Next_i53) spinetref54_Next_i70))
def spinetref54_Next_i72 : IR := (.cond (.t 79) (.seq (.reg false spinetref54_Next_i46) spinetref54_Next_i47) (.seq (.seq (.reg false spinetref54_Next_i48) spinetref54_Next_i50) spinetref54_Next_i71))
def spinetref54_Next_i73 : IR := (.cond (.t 67) (.seq (.seq (.reg false spinetref54_Next_i38) spinetref54_Next_i41) spinetref54_Next_i44) (.seq (.reg false spinetref54_Next_i45) spinetref54_Next_i72))
def spinetref54_Next_i74 : IR := (.cond (.t 58) (.seq (.seq (.reg false spinetref54_Next_i30) spinetref54_Next_i33) spinetref54_Next_i36) (.seq (.reg false spinetref54_Next_i37) spinetref54_Next_i73))
def spinetref54_Next_i75 : IR := (.cond (.t 52) (.seq (.reg false spinetref54_Next_i27) spinetref54_Next_i28) (.seq (.reg false spinetref54_Next_i29) spinetref54_Next_i74))
def spinetref54_Next_i76 : IR := (.cond (.t 48) (.seq (.reg false spinetref54_Next_i22) spinetref54_Next_i23) (.seq (.seq (.reg false spinetref54_Next_i24) spinetref54_Next_i26) spinetref54_Next_i75))
def spinetref54_Next_i77 : IR := (.cond (.t 34) (.seq (.seq (.reg false spinetref54_Next_i9) spinetref54_Next_i12) spinetref54_Next_i20) (.seq (.reg false spinetref54_Next_i21) spinetref54_Next_i76))
def spinetref54_Next_i78 : IR := (.block 0 (.seq (.seq (.reg false spinetref54_Next_i6) spinetref54_Next_i8) spinetref54_Next_i77))
def spinetref54_Next_i79 : List Op1 := [⟨(some 103), (.e (.mv (.t 6))), none, []⟩, ⟨(some 104), (.e (.bslo 1 1 [(.int .u16 0)] [(0, (1, (.t 103)))])), none, [0]⟩, ⟨(some 4), (.e (.mv (.t 104))), none, [1, 0, 1]⟩, ⟨(some 5), (.e (.mv (.k (.bool true)))), none, [2, 0, 1, 2]⟩]
def spinetref54_Next_i80 : IR := .ret
def spinetref54_Next_i81 : IR := (.seq (.reg false spinetref54_Next_i79) spinetref54_Next_i80)
def spinetref54_Next_i82 : IR := (.seq (.seq (.reg false spinetref54_Next_i5) spinetref54_Next_i78) spinetref54_Next_i81)
def spinetref54_Next_i83 : IR := (.seq (.reg true spinetref54_Next_i4) spinetref54_Next_i82)
def spinetref54_Next_i84 : IR := (.seq (.reg true spinetref54_Next_i3) spinetref54_Next_i83)
def spinetref54_Next_i85 : IR := (.seq (.reg false spinetref54_Next_i2) spinetref54_Next_i84)
def spinetref54_Next_i86 : IR := (.seq (.reg false spinetref54_Next_i1) spinetref54_Next_i85)
def spinetref54_Next_ir : IR := (.seq (.reg false spinetref54_Next_i0) spinetref54_Next_i86)
theorem spinetref54_Next_cfn : cFn Try.prog 17 = some (spinetref54_Next_ir, [(.t 4), (.t 5)], 105) := by kernel_rfl
def spinetref54_Next_V (r : ((List Int) × Bool)) : V := .tup [.sl false r.1.length (cat (nI .u16) r.1), .s (.bool r.2)]
def spinetref54_Next_C (r : ((List Int) × Bool)) : X → Fr → Hp → Prop := FinL [(.t 4), (.t 5)] [] (spinetref54_Next_V r) []
theorem spinetref54_Next_ok (i_ : api_Inst) (at_ : Int) (r : ((List Int) × Bool)) (h : spinetref54_Next i_ at_ = some r) : Pure Try.prog 17 [.agg [.s (.int .i64 i_.Page), .s (.int .u8 i_.Code), .s (.int .i64 i_.Entry.Op), .s (.int .i64 i_.Entry.Mode), .s (.int .i64 i_.Entry.Reg), .s (.int .u8 i_.Post), .s (.int .u16 i_.Value), .s (.int .i64 i_.Len)], .s (.int .u16 at_)] (spinetref54_Next_V r) := by
  refine ConL.of spinetref54_Next_cfn (Nat.le_of_ble_eq_true (by kernel_rfl)) (Nat.le_of_ble_eq_true (by kernel_rfl)) ?_
  refine k_start ?_
  show dwv Try.prog [] spinetref54_Next_ir (kont Try.prog [] (spinetref54_Next_C r) []) (fr0 [.agg [.s (.int .i64 i_.Page), .s (.int .u8 i_.Code), .s (.int .i64 i_.Entry.Op), .s (.int .i64 i_.Entry.Mode), .s (.int .i64 i_.Entry.Reg), .s (.int .u8 i_.Post), .s (.int .u16 i_.Value), .s (.int .i64 i_.Len)], .s (.int .u16 at_)]) []
  have hf : FOk (fr0 [.agg [.s (.int .i64 i_.Page), .s (.int .u8 i_.Code), .s (.int .i64 i_.Entry.Op), .s (.int .i64 i_.Entry.Mode), .s (.int .i64 i_.Entry.Reg), .s (.int .u8 i_.Post), .s (.int .u16 i_.Value), .s (.int .i64 i_.Len)], .s (.int .u16 at_)]) [⟨0, [], .agg [.s (.int .i64 i_.Page), .s (.int .u8 i_.Code), .s (.int .i64 i_.Entry.Op), .s (.int .i64 i_.Entry.Mode), .s (.int .i64 i_.Entry.Reg), .s (.int .u8 i_.Post), .s (.int .u16 i_.Value), .s (.int .i64 i_.Len)]⟩, ⟨1, [], .s (.int .u16 at_)⟩] := ⟨⟨fun _ => rfl, fun h => (h trivial).elim⟩, ⟨fun _ => rfl, fun h => (h trivial).elim⟩, trivial⟩
  generalize fr0 [.agg [.s (.int .i64 i_.Page), .s (.int .u8 i_.Code), .s (.int .i64 i_.Entry.Op), .s (.int .i64 i_.Entry.Mode), .s (.int .i64 i_.Entry.Reg), .s (.int .u8 i_.Post), .s (.int .u16 i_.Value), .s (.int .i64 i_.Len)], .s (.int .u16 at_)] = f at hf ⊢
  unfold spinetref54_Next at h
  refine k_seq ?_
  refine k_reg ?_
  refine mops_end [1, 2, 4, 5] hf (l' := [⟨1, [], .s (.int .u16 at_)⟩, ⟨2, [], .ptr 0 0 0⟩, ⟨4, [], .ref 1 0 0 0⟩, ⟨5, [], .s (.bool false)⟩]) (L' := [⟨0, .mem, 1, [.s (.int .i64 i_.Page), .s (.int .u8 i_.Code), .s (.int .i64 i_.Entry.Op), .s (.int .i64 i_.Entry.Mode), .s (.int .i64 i_.Entry.Reg), .s (.int .u8 i_.Post), .s (.int .u16 i_.Value), .s (.int .i64 i_.Len)]⟩, ⟨0, .grow, 1, cat (nI .u16) ([] : List Int)⟩]) (by kernel_rfl) fun f1 hf1 => ?_
  refine k_c ?_
  refine k_seq ?_
  refine k_reg ?_
  refine mops_end [2, 4, 5, 6] hf1 (l' := [⟨2, [], .ptr 0 0 0⟩, ⟨4, [], .ref 1 0 0 0⟩, ⟨5, [], .s (.bool false)⟩, ⟨6, [], .s (.int .u16 (IntKind.wrap .u16 (at_ + (IntKind.wrap .u16 i_.Len))))⟩]) (L' := [⟨0, .mem, 1, [.s (.int .i64 i_.Page), .s (.int .u8 i_.Code), .s (.int .i64 i_.Entry.Op), .s (.int .i64 i_.Entry.Mode), .s (.int .i64 i_.Entry.Reg), .s (.int .u8 i_.Post), .s (.int .u16 i_.Value), .s (.int .i64 i_.Len)]⟩, ⟨0, .grow, 1, cat (nI .u16) ([] : List Int)⟩]) (by kernel_rfl) fun f2 hf2 => ?_
  refine k_c ?_
  refine k_seq ?_
  refine k_reg ?_
  refine mops_end [2, 4, 5, 6, 7] hf2 (l' := [⟨2, [], .ptr 0 0 0⟩, ⟨4, [], .ref 1 0 0 0⟩, ⟨5, [], .s (.bool false)⟩, ⟨6, [], .s (.int .u16 (IntKind.wrap .u16 (at_ + (IntKind.wrap .u16 i_.Len))))⟩, ⟨7, [], .s (.int .u16 (IntKind.wrap .u16 ((IntKind.wrap .u16 (at_ + (IntKind.wrap .u16 i_.Len))) + i_.Value)))⟩]) (L' := [⟨0, .mem, 1, [.s (.int .i64 i_.Page), .s (.int .u8 i_.Code), .s (.int .i64 i_.Entry.Op), .s (.int .i64 i_.Entry.Mode), .s (.int .i64 i_.Entry.Reg), .s (.int .u8 i_.Post), .s (.int .u16 i_.Value), .s (.int .i64 i_.Len)]⟩, ⟨0, .grow, 1, cat (nI .u16) ([] : List Int)⟩]) (by kernel_rfl) fun f3 hf3 => ?_
  refine k_c ?_
  refine k_seq ?_
  refine k_regq ?_
  refine mops_end [2, 4, 5, 6, 7, 8, 9] hf3 (l' := [⟨2, [], .ptr 0 0 0⟩, ⟨4, [], .ref 1 0 0 0⟩, ⟨5, [], .s (.bool false)⟩, ⟨6, [], .s (.int .u16 (IntKind.wrap .u16 (at_ + (IntKind.wrap .u16 i_.Len))))⟩, ⟨7, [], .s (.int .u16 (IntKind.wrap .u16 ((IntKind.wrap .u16 (at_ + (IntKind.wrap .u16 i_.Len))) + i_.Value)))⟩, ⟨8, [], .s (.int .i64 i_.Entry.Op)⟩, ⟨9, [], .s (.int .i64 i_.Entry.Reg)⟩]) (L' := [⟨0, .mem, 1, [.s (.int .i64 i_.Page), .s (.int .u8 i_.Code), .s (.int .i64 i_.Entry.Op), .s (.int .i64 i_.Entry.Mode), .s (.int .i64 i_.Entry.Reg), .s (.int .u8 i_.Post), .s (.int .u16 i_.Value), .s (.int .i64 i_.Len)]⟩, ⟨0, .grow, 1, cat (nI .u16) ([] : List Int)⟩]) (by kernel_rfl) fun f4 hf4 => ?_
  refine k_c ?_
  refine k_seq ?_
  refine k_regq ?_
  refine mops_end [2, 4, 5, 6, 7, 8, 9, 10, 11] hf4 (l' := [⟨2, [], .ptr 0 0 0⟩, ⟨4, [], .ref 1 0 0 0⟩, ⟨5, [], .s (.bool false)⟩, ⟨6, [], .s (.int .u16 (IntKind.wrap .u16 (at_ + (IntKind.wrap .u16 i_.Len))))⟩, ⟨7, [], .s (.int .u16 (IntKind.wrap .u16 ((IntKind.wrap .u16 (at_ + (IntKind.wrap .u16 i_.Len))) + i_.Value)))⟩, ⟨8, [], .s (.int .i64 i_.Entry.Op)⟩, ⟨9, [], .s (.int .i64 i_.Entry.Reg)⟩, ⟨10, [], .s (.int .u8 (IntKind.wrap .u8 (Int.tdiv i_.Post 16)))⟩, ⟨11, [], .s (.int .u8 (Int.tmod i_.Post 16))⟩]) (L' := [⟨0, .mem, 1, [.s (.int .i64 i_.Page), .s (.int .u8 i_.Code), .s (.int .i64 i_.Entry.Op), .s (.int .i64 i_.Entry.Mode), .s (.int .i64 i_.Entry.Reg), .s (.int .u8 i_.Post), .s (.int .u16 i_.Value), .s (.int .i64 i_.Len)]⟩, ⟨0, .grow, 1, cat (nI .u16) ([] : List Int)⟩]) (by kernel_rfl) fun f5 hf5 => ?_
  refine k_c ?_
  refine k_seq ?_
  refine k_seq ?_
  refine k_reg ?_
  refine mops_end [2, 4, 5, 6, 7, 9, 10, 11, 33] hf5 (l' := [⟨2, [], .ptr 0 0 0⟩, ⟨4, [], .ref 1 0 0 0⟩, ⟨5, [], .s (.bool false)⟩, ⟨6, [], .s (.int .u16 (IntKind.wrap .u16 (at_ + (IntKind.wrap .u16 i_.Len))))⟩, ⟨7, [], .s (.int .u16 (IntKind.wrap .u16 ((IntKind.wrap .u16 (at_ + (IntKind.wrap .u16 i_.Len))) + i_.Value)))⟩, ⟨9, [], .s (.int .i64 i_.Entry.Reg)⟩, ⟨10, [], .s (.int .u8 (IntKind.wrap .u8 (Int.tdiv i_.Post 16)))⟩, ⟨11, [], .s (.int .u8 (Int.tmod i_.Post 16))⟩, ⟨33, [], .s (.int .i64 i_.Entry.Op)⟩]) (L' := [⟨0, .mem, 1, [.s (.int .i64 i_.Page), .s (.int .u8 i_.Code), .s (.int .i64 i_.Entry.Op), .s (.int .i64 i_.Entry.Mode), .s (.int .i64 i_.Entry.Reg), .s (.int .u8 i_.Post), .s (.int .u16 i_.Value), .s (.int .i64 i_.Len)]⟩, ⟨0, .grow, 1, cat (nI .u16) ([] : List Int)⟩]) (by kernel_rfl) fun f6 hf6 => ?_
  refine k_c ?_
  refine k_block ?_
  refine k_seq ?_
  refine k_seq ?_
  refine k_reg ?_
  refine mops_end [2, 4, 5, 6, 7, 9, 10, 11, 33, 34] hf6 (l' := [⟨2, [], .ptr 0 0 0⟩, ⟨4, [], .ref 1 0 0 0⟩, ⟨5, [], .s (.bool false)⟩, ⟨6, [], .s (.int .u16 (IntKind.wrap .u16 (at_ + (IntKind.wrap .u16 i_.Len))))⟩, ⟨7, [], .s (.int .u16 (IntKind.wrap .u16 ((IntKind.wrap .u16 (at_ + (IntKind.wrap .u16 i_.Len))) + i_.Value)))⟩, ⟨9, [], .s (.int .i64 i_.Entry.Reg)⟩, ⟨10, [], .s (.int .u8 (IntKind.wrap .u8 (Int.tdiv i_.Post 16)))⟩, ⟨11, [], .s (.int .u8 (Int.tmod i_.Post 16))⟩, ⟨33, [], .s (.int .i64 i_.Entry.Op)⟩, ⟨34, [], .s (.bool (i_.Entry.Op == 34))⟩]) (L' := [⟨0, .mem, 1, [.s (.int .i64 i_.Page), .s (.int .u8 i_.Code), .s (.int .i64 i_.Entry.Op), .s (.int .i64 i_.Entry.Mode), .s (.int .i64 i_.Entry.Reg), .s (.int .u8 i_.Post), .s (.int .u16 i_.Value), .s (.int .i64 i_.Len)]⟩, ⟨0, .grow, 1, cat (nI .u16) ([] : List Int)⟩]) (by kernel_rfl) fun f7 hf7 => ?_
  refine k_c ?_
  have hj1 : ∀ (t_ : Bool), spinetref54_Next_j2 i_ at_ t_ = some r → ∀ f, FOk f [⟨2, [], .ptr 0 0 0⟩, ⟨4, [], .ref 1 0 0 0⟩, ⟨5, [], .s (.bool false)⟩, ⟨6, [], .s (.int .u16 (IntKind.wrap .u16 (at_ + (IntKind.wrap .u16 i_.Len))))⟩, ⟨7, [], .s (.int .u16 (IntKind.wrap .u16 ((IntKind.wrap .u16 (at_ + (IntKind.wrap .u16 i_.Len))) + i_.Value)))⟩, ⟨9, [], .s (.int .i64 i_.Entry.Reg)⟩, ⟨10, [], .s (.int .u8 (IntKind.wrap .u8 (Int.tdiv i_.Post 16)))⟩, ⟨11, [], .s (.int .u8 (Int.tmod i_.Post 16))⟩, ⟨33, [], .s (.int .i64 i_.Entry.Op)⟩, ⟨34, [], .s (.bool t_)⟩] → kont Try.prog [] (spinetref54_Next_C r) ((.c spinetref54_Next_i77) :: (.b 0) :: (.c spinetref54_Next_i81) :: []) .normal f [⟨0, .mem, 1, [.s (.int .i64 i_.Page), .s (.int .u8 i_.Code), .s (.int .i64 i_.Entry.Op), .s (.int .i64 i_.Entry.Mode), .s (.int .i64 i_.Entry.Reg), .s (.int .u8 i_.Post), .s (.int .u16 i_.Value), .s (.int .i64 i_.Len)]⟩, ⟨0, .grow, 1, cat (nI .u16) ([] : List Int)⟩] := by
    intro t_ h f hf
    unfold spinetref54_Next_j2 at h
    refine k_c ?_
    refine k_cond hf (t := t_) (by kernel_rfl) (fun hc2 => ?_) (fun hc2 => ?_)
    · have h := if_t h hc2
      refine k_seq ?_
      refine k_seq ?_
      refine k_reg ?_
      refine mops_end [4, 5, 6, 7, 9, 38] hf (l' := [⟨4, [], .ref 1 0 0 0⟩, ⟨5, [], .s (.bool false)⟩, ⟨6, [], .s (.int .u16 (IntKind.wrap .u16 (at_ + (IntKind.wrap .u16 i_.Len))))⟩, ⟨7, [], .s (.int .u16 (IntKind.wrap .u16 ((IntKind.wrap .u16 (at_ + (IntKind.wrap .u16 i_.Len))) + i_.Value)))⟩, ⟨9, [], .s (.int .i64 i_.Entry.Reg)⟩, ⟨38, [], .s (.bool (i_.Entry.Reg == 0))⟩]) (L' := [⟨0, .mem, 1, [.s (.int .i64 i_.Page), .s (.int .u8 i_.Code), .s (.int .i64 i_.Entry.Op), .s (.int .i64 i_.Entry.Mode), .s (.int .i64 i_.Entry.Reg), .s (.int .u8 i_.Post), .s (.int .u16 i_.Value), .s (.int .i64 i_.Len)]⟩, ⟨0, .grow, 1, cat (nI .u16) ([] : List Int)⟩]) (by kernel_rfl) fun f1 hf1 => ?_
      refine k_c ?_
      refine k_cond hf1 (t := (i_.Entry.Reg == 0)) (by kernel_rfl) (fun hc3 => ?_) (fun hc3 => ?_)
      · have h := if_t h hc3
        refine k_seq ?_
        refine k_reg ?_
        refine mops_end [4, 5, 6, 7, 9] hf1 (l' := [⟨4, [], .ref 2 0 0 1⟩, ⟨5, [], .s (.bool true)⟩, ⟨6, [], .s (.int .u16 (IntKind.wrap .u16 (at_ + (IntKind.wrap .u16 i_.Len))))⟩, ⟨7, [], .s (.int .u16 (IntKind.wrap .u16 ((IntKind.wrap .u16 (at_ + (IntKind.wrap .u16 i_.Len))) + i_.Value)))⟩, ⟨9, [], .s (.int .i64 i_.Entry.Reg)⟩]) (L' := [⟨0, .mem, 1, [.s (.int .i64 i_.Page), .s (.int .u8 i_.Code), .s (.int .i64 i_.Entry.Op), .s (.int .i64 i_.Entry.Mode), .s (.int .i64 i_.Entry.Reg), .s (.int .u8 i_.Post), .s (.int .u16 i_.Value), .s (.int .i64 i_.Len)]⟩, ⟨0, .grow, 1, cat (nI .u16) ([] : List Int)⟩, ⟨0, .grow, 1, cat (nI .u16) [(IntKind.wrap .u16 ((IntKind.wrap .u16 (at_ + (IntKind.wrap .u16 i_.Len))) + i_.Value))]⟩]) (by kernel_rfl) fun f2 hf2 => ?_
        refine k_c ?_
        refine k_ret ?_
        refine x_c nofun ?_
        refine x_br ?_
        refine x_c nofun ?_
        obtain rfl := Option.some.inj h
        exact k_fin (fin_ret (.inl rfl) hf2 (vs := [.ref 2 0 0 1, .s (.bool true)]) (by kernel_rfl) (SettL.pure (FzL.tup (FzsL.cons (FzL.whole (g := (nI .u16)) (kd := .grow) (l := [(IntKind.wrap .u16 ((IntKind.wrap .u16 (at_ + (IntKind.wrap .u16 i_.Len))) + i_.Value))]) (by kernel_rfl) (by kernel_rfl) (live_grow (by kernel_rfl))) (FzsL.cons (FzL.stat rfl) FzsL.nil)))))
      · have h := if_f h hc3
        refine k_skip ?_
        refine k_c ?_
        refine k_seq ?_
        refine k_seq ?_
        refine k_reg ?_
        refine mops_end [4, 5, 6, 7, 42] hf1 (l' := [⟨4, [], .ref 1 0 0 0⟩, ⟨5, [], .s (.bool false)⟩, ⟨6, [], .s (.int .u16 (IntKind.wrap .u16 (at_ + (IntKind.wrap .u16 i_.Len))))⟩, ⟨7, [], .s (.int .u16 (IntKind.wrap .u16 ((IntKind.wrap .u16 (at_ + (IntKind.wrap .u16 i_.Len))) + i_.Value)))⟩, ⟨42, [], .s (.bool (i_.Entry.Reg == 1))⟩]) (L' := [⟨0, .mem, 1, [.s (.int .i64 i_.Page), .s (.int .u8 i_.Code), .s (.int .i64 i_.Entry.Op), .s (.int .i64 i_.Entry.Mode), .s (.int .i64 i_.Entry.Reg), .s (.int .u8 i_.Post), .s (.int .u16 i_.Value), .s (.int .i64 i_.Len)]⟩, ⟨0, .grow, 1, cat (nI .u16) ([] : List Int)⟩]) (by kernel_rfl) fun f2 hf2 => ?_
        refine k_c ?_
        refine k_cond hf2 (t := (i_.Entry.Reg == 1)) (by kernel_rfl) (fun hc4 => ?_) (fun hc4 => ?_)
        · have h := if_t h hc4
          refine k_seq ?_
          refine k_reg ?_
          refine mops_end [4, 5, 6, 7] hf2 (l' := [⟨4, [], .ref 2 0 0 1⟩, ⟨5, [], .s (.bool true)⟩, ⟨6, [], .s (.int .u16 (IntKind.wrap .u16 (at_ + (IntKind.wrap .u16 i_.Len))))⟩, ⟨7, [], .s (.int .u16 (IntKind.wrap .u16 ((IntKind.wrap .u16 (at_ + (IntKind.wrap .u16 i_.Len))) + i_.Value)))⟩]) (L' := [⟨0, .mem, 1, [.s (.int .i64 i_.Page), .s (.int .u8 i_.Code), .s (.int .i64 i_.Entry.Op), .s (.int .i64 i_.Entry.Mode), .s (.int .i64 i_.Entry.Reg), .s (.int .u8 i_.Post), .s (.int .u16 i_.Value), .s (.int .i64 i_.Len)]⟩, ⟨0, .grow, 1, cat (nI .u16) ([] : List Int)⟩, ⟨0, .grow, 1, cat (nI .u16) [(IntKind.wrap .u16 (at_ + (IntKind.wrap .u16 i_.Len)))]⟩]) (by kernel_rfl) fun f3 hf3 => ?_
          refine k_c ?_
          refine k_ret ?_
          refine x_c nofun ?_
          refine x_br ?_
          refine x_c nofun ?_
          obtain rfl := Option.some.inj h
          exact k_fin (fin_ret (.inl rfl) hf3 (vs := [.ref 2 0 0 1, .s (.bool true)]) (by kernel_rfl) (SettL.pure (FzL.tup (FzsL.cons (FzL.whole (g := (nI .u16)) (kd := .grow) (l := [(IntKind.wrap .u16 (at_ + (IntKind.wrap .u16 i_.Len)))]) (by kernel_rfl) (by kernel_rfl) (live_grow (by kernel_rfl))) (FzsL.cons (FzL.stat rfl) FzsL.nil)))))
        · have h := if_f h hc4
          refine k_skip ?_
          refine k_c ?_
          refine k_seq ?_
          refine k_reg ?_
          refine mops_end [4, 5, 6] hf2 (l' := [⟨4, [], .ref 2 0 0 2⟩, ⟨5, [], .s (.bool true)⟩, ⟨6, [], .s (.int .u16 (IntKind.wrap .u16 (at_ + (IntKind.wrap .u16 i_.Len))))⟩]) (L' := [⟨0, .mem, 1, [.s (.int .i64 i_.Page), .s (.int .u8 i_.Code), .s (.int .i64 i_.Entry.Op), .s (.int .i64 i_.Entry.Mode), .s (.int .i64 i_.Entry.Reg), .s (.int .u8 i_.Post), .s (.int .u16 i_.Value), .s (.int .i64 i_.Len)]⟩, ⟨0, .grow, 1, cat (nI .u16) ([] : List Int)⟩, ⟨0, .grow, 1, cat (nI .u16) [(IntKind.wrap .u16 ((IntKind.wrap .u16 (at_ + (IntKind.wrap .u16 i_.Len))) + i_.Value)), (IntKind.wrap .u16 (at_ + (IntKind.wrap .u16 i_.Len)))]⟩]) (by kernel_rfl) fun f3 hf3 => ?_
          refine k_c ?_
          refine k_ret ?_
          refine x_br ?_
          refine x_c nofun ?_
          obtain rfl := Option.some.inj h
          exact k_fin (fin_ret (.inl rfl) hf3 (vs := [.ref 2 0 0 2, .s (.bool true)]) (by kernel_rfl) (SettL.pure (FzL.tup (FzsL.cons (FzL.whole (g := (nI .u16)) (kd := .grow) (l := [(IntKind.wrap .u16 ((IntKind.wrap .u16 (at_ + (IntKind.wrap .u16 i_.Len))) + i_.Value)), (IntKind.wrap .u16 (at_ + (IntKind.wrap .u16 i_.Len)))]) (by kernel_rfl) (by kernel_rfl) (live_grow (by kernel_rfl))) (FzsL.cons (FzL.stat rfl) FzsL.nil)))))
    · have h := if_f h hc2
      refine k_seq ?_
      refine k_reg ?_
      refine mops_end [2, 4, 5, 6, 7, 10, 11, 33, 48] hf (l' := [⟨2, [], .ptr 0 0 0⟩, ⟨4, [], .ref 1 0 0 0⟩, ⟨5, [], .s (.bool false)⟩, ⟨6, [], .s (.int .u16 (IntKind.wrap .u16 (at_ + (IntKind.wrap .u16 i_.Len))))⟩, ⟨7, [], .s (.int .u16 (IntKind.wrap .u16 ((IntKind.wrap .u16 (at_ + (IntKind.wrap .u16 i_.Len))) + i_.Value)))⟩, ⟨10, [], .s (.int .u8 (IntKind.wrap .u8 (Int.tdiv i_.Post 16)))⟩, ⟨11, [], .s (.int .u8 (Int.tmod i_.Post 16))⟩, ⟨33, [], .s (.int .i64 i_.Entry.Op)⟩, ⟨48, [], .s (.bool (i_.Entry.Op == 36))⟩]) (L' := [⟨0, .mem, 1, [.s (.int .i64 i_.Page), .s (.int .u8 i_.Code), .s (.int .i64 i_.Entry.Op), .s (.int .i64 i_.Entry.Mode), .s (.int .i64 i_.Entry.Reg), .s (.int .u8 i_.Post), .s (.int .u16 i_.Value), .s (.int .i64 i_.Len)]⟩, ⟨0, .grow, 1, cat (nI .u16) ([] : List Int)⟩]) (by kernel_rfl) fun f1 hf1 => ?_
      refine k_c ?_
      refine k_cond hf1 (t := (i_.Entry.Op == 36)) (by kernel_rfl) (fun hc5 => ?_) (fun hc5 => ?_)
      · have h := if_t h hc5
        refine k_seq ?_
        refine k_reg ?_
        refine mops_end [4, 5, 6] hf1 (l' := [⟨4, [], .ref 2 0 0 1⟩, ⟨5, [], .s (.bool true)⟩, ⟨6, [], .s (.int .u16 (IntKind.wrap .u16 (at_ + (IntKind.wrap .u16 i_.Len))))⟩]) (L' := [⟨0, .mem, 1, [.s (.int .i64 i_.Page), .s (.int .u8 i_.Code), .s (.int .i64 i_.Entry.Op), .s (.int .i64 i_.Entry.Mode), .s (.int .i64 i_.Entry.Reg), .s (.int .u8 i_.Post), .s (.int .u16 i_.Value), .s (.int .i64 i_.Len)]⟩, ⟨0, .grow, 1, cat (nI .u16) ([] : List Int)⟩, ⟨0, .grow, 1, cat (nI .u16) [(IntKind.wrap .u16 ((IntKind.wrap .u16 (at_ + (IntKind.wrap .u16 i_.Len))) + i_.Value))]⟩]) (by kernel_rfl) fun f2 hf2 => ?_
        refine k_c ?_
        refine k_ret ?_
        refine x_br ?_
        refine x_c nofun ?_
        obtain rfl := Option.some.inj h
        exact k_fin (fin_ret (.inl rfl) hf2 (vs := [.ref 2 0 0 1, .s (.bool true)]) (by kernel_rfl) (SettL.pure (FzL.tup (FzsL.cons (FzL.whole (g := (nI .u16)) (kd := .grow) (l := [(IntKind.wrap .u16 ((IntKind.wrap .u16 (at_ + (IntKind.wrap .u16 i_.Len))) + i_.Value))]) (by kernel_rfl) (by kernel_rfl) (live_grow (by kernel_rfl))) (FzsL.cons (FzL.stat rfl) FzsL.nil)))))
      · have h := if_f h hc5
        refine k_seq ?_
        refine k_seq ?_
        refine k_reg ?_
        refine mops_end [2, 4, 5, 6, 7, 10, 11, 33, 52] hf1 (l' := [⟨2, [], .ptr 0 0 0⟩, ⟨4, [], .ref 1 0 0 0⟩, ⟨5, [], .s (.bool false)⟩, ⟨6, [], .s (.int .u16 (IntKind.wrap .u16 (at_ + (IntKind.wrap .u16 i_.Len))))⟩, ⟨7, [], .s (.int .u16 (IntKind.wrap .u16 ((IntKind.wrap .u16 (at_ + (IntKind.wrap .u16 i_.Len))) + i_.Value)))⟩, ⟨10, [], .s (.int .u8 (IntKind.wrap .u8 (Int.tdiv i_.Post 16)))⟩, ⟨11, [], .s (.int .u8 (Int.tmod i_.Post 16))⟩, ⟨33, [], .s (.int .i64 i_.Entry.Op)⟩, ⟨52, [], .s (.bool (i_.Entry.Op == 37))⟩]) (L' := [⟨0, .mem, 1, [.s (.int .i64 i_.Page), .s (.int .u8 i_.Code), .s (.int .i64 i_.Entry.Op), .s (.int .i64 i_.Entry.Mode), .s (.int .i64 i_.Entry.Reg), .s (.int .u8 i_.Post), .s (.int .u16 i_.Value), .s (.int .i64 i_.Len)]⟩, ⟨0, .grow, 1, cat (nI .u16) ([] : List Int)⟩]) (by kernel_rfl) fun f2 hf2 => ?_
        refine k_c ?_
        have hj2 : ∀ (t_1 : Bool), spinetref54_Next_j1 i_ at_ t_1 = some r → ∀ f, FOk f [⟨2, [], .ptr 0 0 0⟩, ⟨4, [], .ref 1 0 0 0⟩, ⟨5, [], .s (.bool false)⟩, ⟨6, [], .s (.int .u16 (IntKind.wrap .u16 (at_ + (IntKind.wrap .u16 i_.Len))))⟩, ⟨7, [], .s (.int .u16 (IntKind.wrap .u16 ((IntKind.wrap .u16 (at_ + (IntKind.wrap .u16 i_.Len))) + i_.Value)))⟩, ⟨10, [], .s (.int .u8 (IntKind.wrap .u8 (Int.tdiv i_.Post 16)))⟩, ⟨11, [], .s (.int .u8 (Int.tmod i_.Post 16))⟩, ⟨33, [], .s (.int .i64 i_.Entry.Op)⟩, ⟨52, [], .s (.bool t_1)⟩] → kont Try.prog [] (spinetref54_Next_C r) ((.c spinetref54_Next_i75) :: (.b 0) :: (.c spinetref54_Next_i81) :: []) .normal f [⟨0, .mem, 1, [.s (.int .i64 i_.Page), .s (.int .u8 i_.Code), .s (.int .i64 i_.Entry.Op), .s (.int .i64 i_.Entry.Mode), .s (.int .i64 i_.Entry.Reg), .s (.int .u8 i_.Post), .s (.int .u16 i_.Value), .s (.int .i64 i_.Len)]⟩, ⟨0, .grow, 1, cat (nI .u16) ([] : List Int)⟩] := by
          intro t_1 h f hf
          unfold spinetref54_Next_j1 at h
          refine k_c ?_
          refine k_cond hf (t := t_1) (by kernel_rfl) (fun hc7 => ?_) (fun hc7 => ?_)
          · have h := if_t h hc7
            refine k_seq ?_
            refine k_reg ?_
            refine mops_end [4, 5, 6] hf (l' := [⟨4, [], .ref 2 0 0 2⟩, ⟨5, [], .s (.bool true)⟩, ⟨6, [], .s (.int .u16 (IntKind.wrap .u16 (at_ + (IntKind.wrap .u16 i_.Len))))⟩]) (L' := [⟨0, .mem, 1, [.s (.int .i64 i_.Page), .s (.int .u8 i_.Code), .s (.int .i64 i_.Entry.Op), .s (.int .i64 i_.Entry.Mode), .s (.int .i64 i_.Entry.Reg), .s (.int .u8 i_.Post), .s (.int .u16 i_.Value), .s (.int .i64 i_.Len)]⟩, ⟨0, .grow, 1, cat (nI .u16) ([] : List Int)⟩, ⟨0, .grow, 1, cat (nI .u16) [(IntKind.wrap .u16 ((IntKind.wrap .u16 (at_ + (IntKind.wrap .u16 i_.Len))) + i_.Value)), (IntKind.wrap .u16 (at_ + (IntKind.wrap .u16 i_.Len)))]⟩]) (by kernel_rfl) fun f1 hf1 => ?_
            refine k_c ?_
            refine k_ret ?_
            refine x_br ?_
            refine x_c nofun ?_
            obtain rfl := Option.some.inj h
            exact k_fin (fin_ret (.inl rfl) hf1 (vs := [.ref 2 0 0 2, .s (.bool true)]) (by kernel_rfl) (SettL.pure (FzL.tup (FzsL.cons (FzL.whole (g := (nI .u16)) (kd := .grow) (l := [(IntKind.wrap .u16 ((IntKind.wrap .u16 (at_ + (IntKind.wrap .u16 i_.Len))) + i_.Value)), (IntKind.wrap .u16 (at_ + (IntKind.wrap .u16 i_.Len)))]) (by kernel_rfl) (by kernel_rfl) (live_grow (by kernel_rfl))) (FzsL.cons (FzL.stat rfl) FzsL.nil)))))
          · have h := if_f h hc7
            refine k_seq ?_
            refine k_reg ?_
            refine mops_end [2, 4, 5, 6, 10, 11, 33, 58] hf (l' := [⟨2, [], .ptr 0 0 0⟩, ⟨4, [], .ref 1 0 0 0⟩, ⟨5, [], .s (.bool false)⟩, ⟨6, [], .s (.int .u16 (IntKind.wrap .u16 (at_ + (IntKind.wrap .u16 i_.Len))))⟩, ⟨10, [], .s (.int .u8 (IntKind.wrap .u8 (Int.tdiv i_.Post 16)))⟩, ⟨11, [], .s (.int .u8 (Int.tmod i_.Post 16))⟩, ⟨33, [], .s (.int .i64 i_.Entry.Op)⟩, ⟨58, [], .s (.bool (i_.Entry.Op == 32))⟩]) (L' := [⟨0, .mem, 1, [.s (.int .i64 i_.Page), .s (.int .u8 i_.Code), .s (.int .i64 i_.Entry.Op), .s (.int .i64 i_.Entry.Mode), .s (.int .i64 i_.Entry.Reg), .s (.int .u8 i_.Post), .s (.int .u16 i_.Value), .s (.int .i64 i_.Len)]⟩, ⟨0, .grow, 1, cat (nI .u16) ([] : List Int)⟩]) (by kernel_rfl) fun f1 hf1 => ?_
            refine k_c ?_
            refine k_cond hf1 (t := (i_.Entry.Op == 32)) (by kernel_rfl) (fun hc8 => ?_) (fun hc8 => ?_)
            · have h := if_t h hc8
              refine k_seq ?_
              refine k_seq ?_
              refine k_reg ?_
              refine mops_end [2, 4, 5, 6, 63] hf1 (l' := [⟨2, [], .ptr 0 0 0⟩, ⟨4, [], .ref 1 0 0 0⟩, ⟨5, [], .s (.bool false)⟩, ⟨6, [], .s (.int .u16 (IntKind.wrap .u16 (at_ + (IntKind.wrap .u16 i_.Len))))⟩, ⟨63, [], .s (.bool (i_.Entry.Mode == 5))⟩]) (L' := [⟨0, .mem, 1, [.s (.int .i64 i_.Page), .s (.int .u8 i_.Code), .s (.int .i64 i_.Entry.Op), .s (.int .i64 i_.Entry.Mode), .s (.int .i64 i_.Entry.Reg), .s (.int .u8 i_.Post), .s (.int .u16 i_.Value), .s (.int .i64 i_.Len)]⟩, ⟨0, .grow, 1, cat (nI .u16) ([] : List Int)⟩]) (by kernel_rfl) fun f2 hf2 => ?_
              refine k_c ?_
              refine k_cond hf2 (t := (i_.Entry.Mode == 5)) (by kernel_rfl) (fun hc9 => ?_) (fun hc9 => ?_)
              · have h := if_t h hc9
                refine k_seq ?_
                refine k_reg ?_
                refine mops_end [4, 5, 6] hf2 (l' := [⟨4, [], .ref 2 0 0 1⟩, ⟨5, [], .s (.bool true)⟩, ⟨6, [], .s (.int .u16 (IntKind.wrap .u16 (at_ + (IntKind.wrap .u16 i_.Len))))⟩]) (L' := [⟨0, .mem, 1, [.s (.int .i64 i_.Page), .s (.int .u8 i_.Code), .s (.int .i64 i_.Entry.Op), .s (.int .i64 i_.Entry.Mode), .s (.int .i64 i_.Entry.Reg), .s (.int .u8 i_.Post), .s (.int .u16 i_.Value), .s (.int .i64 i_.Len)]⟩, ⟨0, .grow, 1, cat (nI .u16) ([] : List Int)⟩, ⟨0, .grow, 1, cat (nI .u16) [i_.Value]⟩]) (by kernel_rfl) fun f3 hf3 => ?_
                refine k_c ?_
                refine k_ret ?_
                refine x_c nofun ?_
                refine x_br ?_
                refine x_c nofun ?_
                obtain rfl := Option.some.inj h
                exact k_fin (fin_ret (.inl rfl) hf3 (vs := [.ref 2 0 0 1, .s (.bool true)]) (by kernel_rfl) (SettL.pure (FzL.tup (FzsL.cons (FzL.whole (g := (nI .u16)) (kd := .grow) (l := [i_.Value]) (by kernel_rfl) (by kernel_rfl) (live_grow (by kernel_rfl))) (FzsL.cons (FzL.stat rfl) FzsL.nil)))))
              · have h := if_f h hc9
                refine k_skip ?_
                refine k_c ?_
                refine k_seq ?_
                refine k_reg ?_
                refine mops_end [4, 5, 6] hf2 (l' := [⟨4, [], .ref 2 0 0 0⟩, ⟨5, [], .s (.bool false)⟩, ⟨6, [], .s (.int .u16 (IntKind.wrap .u16 (at_ + (IntKind.wrap .u16 i_.Len))))⟩]) (L' := [⟨0, .mem, 1, [.s (.int .i64 i_.Page), .s (.int .u8 i_.Code), .s (.int .i64 i_.Entry.Op), .s (.int .i64 i_.Entry.Mode), .s (.int .i64 i_.Entry.Reg), .s (.int .u8 i_.Post), .s (.int .u16 i_.Value), .s (.int .i64 i_.Len)]⟩, ⟨0, .grow, 1, cat (nI .u16) ([] : List Int)⟩, ⟨0, .grow, 1, cat (nI .u16) ([] : List Int)⟩]) (by kernel_rfl) fun f3 hf3 => ?_
                refine k_c ?_
                refine k_ret ?_
                refine x_br ?_
                refine x_c nofun ?_
                obtain rfl := Option.some.inj h
                exact k_fin (fin_ret (.inl rfl) hf3 (vs := [.ref 2 0 0 0, .s (.bool false)]) (by kernel_rfl) (SettL.pure (FzL.tup (FzsL.cons (FzL.whole (g := (nI .u16)) (kd := .grow) (l := ([] : List Int)) (by kernel_rfl) rfl (live_grow (by kernel_rfl))) (FzsL.cons (FzL.stat rfl) FzsL.nil)))))
            · have h := if_f h hc8
              refine k_seq ?_
              refine k_reg ?_
              refine mops_end [2, 4, 5, 6, 10, 11, 33, 67] hf1 (l' := [⟨2, [], .ptr 0 0 0⟩, ⟨4, [], .ref 1 0 0 0⟩, ⟨5, [], .s (.bool false)⟩, ⟨6, [], .s (.int .u16 (IntKind.wrap .u16 (at_ + (IntKind.wrap .u16 i_.Len))))⟩, ⟨10, [], .s (.int .u8 (IntKind.wrap .u8 (Int.tdiv i_.Post 16)))⟩, ⟨11, [], .s (.int .u8 (Int.tmod i_.Post 16))⟩, ⟨33, [], .s (.int .i64 i_.Entry.Op)⟩, ⟨67, [], .s (.bool (i_.Entry.Op == 33))⟩]) (L' := [⟨0, .mem, 1, [.s (.int .i64 i_.Page), .s (.int .u8 i_.Code), .s (.int .i64 i_.Entry.Op), .s (.int .i64 i_.Entry.Mode), .s (.int .i64 i_.Entry.Reg), .s (.int .u8 i_.Post), .s (.int .u16 i_.Value), .s (.int .i64 i_.Len)]⟩, ⟨0, .grow, 1, cat (nI .u16) ([] : List Int)⟩]) (by kernel_rfl) fun f2 hf2 => ?_
              refine k_c ?_
              refine k_cond hf2 (t := (i_.Entry.Op == 33)) (by kernel_rfl) (fun hc10 => ?_) (fun hc10 => ?_)
              · have h := if_t h hc10
                refine k_seq ?_
                refine k_seq ?_
                refine k_reg ?_
                refine mops_end [2, 4, 5, 6, 72] hf2 (l' := [⟨2, [], .ptr 0 0 0⟩, ⟨4, [], .ref 1 0 0 0⟩, ⟨5, [], .s (.bool false)⟩, ⟨6, [], .s (.int .u16 (IntKind.wrap .u16 (at_ + (IntKind.wrap .u16 i_.Len))))⟩, ⟨72, [], .s (.bool (i_.Entry.Mode == 5))⟩]) (L' := [⟨0, .mem, 1, [.s (.int .i64 i_.Page), .s (.int .u8 i_.Code), .s (.int .i64 i_.Entry.Op), .s (.int .i64 i_.Entry.Mode), .s (.int .i64 i_.Entry.Reg), .s (.int .u8 i_.Post), .s (.int .u16 i_.Value), .s (.int .i64 i_.Len)]⟩, ⟨0, .grow, 1, cat (nI .u16) ([] : List Int)⟩]) (by kernel_rfl) fun f3 hf3 => ?_
                refine k_c ?_
                refine k_cond hf3 (t := (i_.Entry.Mode == 5)) (by kernel_rfl) (fun hc11 => ?_) (fun hc11 => ?_)
                · have h := if_t h hc11
                  refine k_seq ?_
                  refine k_reg ?_
                  refine mops_end [4, 5, 6] hf3 (l' := [⟨4, [], .ref 2 0 0 2⟩, ⟨5, [], .s (.bool true)⟩, ⟨6, [], .s (.int .u16 (IntKind.wrap .u16 (at_ + (IntKind.wrap .u16 i_.Len))))⟩]) (L' := [⟨0, .mem, 1, [.s (.int .i64 i_.Page), .s (.int .u8 i_.Code), .s (.int .i64 i_.Entry.Op), .s (.int .i64 i_.Entry.Mode), .s (.int .i64 i_.Entry.Reg), .s (.int .u8 i_.Post), .s (.int .u16 i_.Value), .s (.int .i64 i_.Len)]⟩, ⟨0, .grow, 1, cat (nI .u16) ([] : List Int)⟩, ⟨0, .grow, 1, cat (nI .u16) [i_.Value, (IntKind.wrap .u16 (at_ + (IntKind.wrap .u16 i_.Len)))]⟩]) (by kernel_rfl) fun f4 hf4 => ?_
                  refine k_c ?_
                  refine k_ret ?_
                  refine x_c nofun ?_
                  refine x_br ?_
                  refine x_c nofun ?_
                  obtain rfl := Option.some.inj h
                  exact k_fin (fin_ret (.inl rfl) hf4 (vs := [.ref 2 0 0 2, .s (.bool true)]) (by kernel_rfl) (SettL.pure (FzL.tup (FzsL.cons (FzL.whole (g := (nI .u16)) (kd := .grow) (l := [i_.Value, (IntKind.wrap .u16 (at_ + (IntKind.wrap .u16 i_.Len)))]) (by kernel_rfl) (by kernel_rfl) (live_grow (by kernel_rfl))) (FzsL.cons (FzL.stat rfl) FzsL.nil)))))
                · have h := if_f h hc11
                  refine k_skip ?_
                  refine k_c ?_
                  refine k_seq ?_
                  refine k_reg ?_
                  refine mops_end [4, 5, 6] hf3 (l' := [⟨4, [], .ref 2 0 0 1⟩, ⟨5, [], .s (.bool false)⟩, ⟨6, [], .s (.int .u16 (IntKind.wrap .u16 (at_ + (IntKind.wrap .u16 i_.Len))))⟩]) (L' := [⟨0, .mem, 1, [.s (.int .i64 i_.Page), .s (.int .u8 i_.Code), .s (.int .i64 i_.Entry.Op), .s (.int .i64 i_.Entry.Mode), .s (.int .i64 i_.Entry.Reg), .s (.int .u8 i_.Post), .s (.int .u16 i_.Value), .s (.int .i64 i_.Len)]⟩, ⟨0, .grow, 1, cat (nI .u16) ([] : List Int)⟩, ⟨0, .grow, 1, cat (nI .u16) [(IntKind.wrap .u16 (at_ + (IntKind.wrap .u16 i_.Len)))]⟩]) (by kernel_rfl) fun f4 hf4 => ?_
                  refine k_c ?_
                  refine k_ret ?_
                  refine x_br ?_
                  refine x_c nofun ?_
                  obtain rfl := Option.some.inj h
                  exact k_fin (fin_ret (.inl rfl) hf4 (vs := [.ref 2 0 0 1, .s (.bool false)]) (by kernel_rfl) (SettL.pure (FzL.tup (FzsL.cons (FzL.whole (g := (nI .u16)) (kd := .grow) (l := [(IntKind.wrap .u16 (at_ + (IntKind.wrap .u16 i_.Len)))]) (by kernel_rfl) (by kernel_rfl) (live_grow (by kernel_rfl))) (FzsL.cons (FzL.stat rfl) FzsL.nil)))))
              · have h := if_f h hc10
                refine k_seq ?_
                refine k_reg ?_
                refine mops_end [2, 4, 5, 6, 10, 11, 33, 79] hf2 (l' := [⟨2, [], .ptr 0 0 0⟩, ⟨4, [], .ref 1 0 0 0⟩, ⟨5, [], .s (.bool false)⟩, ⟨6, [], .s (.int .u16 (IntKind.wrap .u16 (at_ + (IntKind.wrap .u16 i_.Len))))⟩, ⟨10, [], .s (.int .u8 (IntKind.wrap .u8 (Int.tdiv i_.Post 16)))⟩, ⟨11, [], .s (.int .u8 (Int.tmod i_.Post 16))⟩, ⟨33, [], .s (.int .i64 i_.Entry.Op)⟩, ⟨79, [], .s (.bool (i_.Entry.Op == 51))⟩]) (L' := [⟨0, .mem, 1, [.s (.int .i64 i_.Page), .s (.int .u8 i_.Code), .s (.int .i64 i_.Entry.Op), .s (.int .i64 i_.Entry.Mode), .s (.int .i64 i_.Entry.Reg), .s (.int .u8 i_.Post), .s (.int .u16 i_.Value), .s (.int .i64 i_.Len)]⟩, ⟨0, .grow, 1, cat (nI .u16) ([] : List Int)⟩]) (by kernel_rfl) fun f3 hf3 => ?_
                refine k_c ?_
                refine k_cond hf3 (t := (i_.Entry.Op == 51)) (by kernel_rfl) (fun hc12 => ?_) (fun hc12 => ?_)
                · have h := if_t h hc12
                  refine k_seq ?_
                  refine k_reg ?_
                  refine mops_end [4, 5, 6] hf3 (l' := [⟨4, [], .ref 2 0 0 1⟩, ⟨5, [], .s (.bool false)⟩, ⟨6, [], .s (.int .u16 (IntKind.wrap .u16 (at_ + (IntKind.wrap .u16 i_.Len))))⟩]) (L' := [⟨0, .mem, 1, [.s (.int .i64 i_.Page), .s (.int .u8 i_.Code), .s (.int .i64 i_.Entry.Op), .s (.int .i64 i_.Entry.Mode), .s (.int .i64 i_.Entry.Reg), .s (.int .u8 i_.Post), .s (.int .u16 i_.Value), .s (.int .i64 i_.Len)]⟩, ⟨0, .grow, 1, cat (nI .u16) ([] : List Int)⟩, ⟨0, .grow, 1, cat (nI .u16) [(IntKind.wrap .u16 (at_ + (IntKind.wrap .u16 i_.Len)))]⟩]) (by kernel_rfl) fun f4 hf4 => ?_
                  refine k_c ?_
                  refine k_ret ?_
                  refine x_br ?_
                  refine x_c nofun ?_
                  obtain rfl := Option.some.inj h
                  exact k_fin (fin_ret (.inl rfl) hf4 (vs := [.ref 2 0 0 1, .s (.bool false)]) (by kernel_rfl) (SettL.pure (FzL.tup (FzsL.cons (FzL.whole (g := (nI .u16)) (kd := .grow) (l := [(IntKind.wrap .u16 (at_ + (IntKind.wrap .u16 i_.Len)))]) (by kernel_rfl) (by kernel_rfl) (live_grow (by kernel_rfl))) (FzsL.cons (FzL.stat rfl) FzsL.nil)))))
                · have h := if_f h hc12
                  refine k_seq ?_
                  refine k_seq ?_
                  refine k_reg ?_
                  refine mops_end [2, 4, 5, 6, 10, 11, 33, 83] hf3 (l' := [⟨2, [], .ptr 0 0 0⟩, ⟨4, [], .ref 1 0 0 0⟩, ⟨5, [], .s (.bool false)⟩, ⟨6, [], .s (.int .u16 (IntKind.wrap .u16 (at_ + (IntKind.wrap .u16 i_.Len))))⟩, ⟨10, [], .s (.int .u8 (IntKind.wrap .u8 (Int.tdiv i_.Post 16)))⟩, ⟨11, [], .s (.int .u8 (Int.tmod i_.Post 16))⟩, ⟨33, [], .s (.int .i64 i_.Entry.Op)⟩, ⟨83, [], .s (.bool (i_.Entry.Op == 48))⟩]) (L' := [⟨0, .mem, 1, [.s (.int .i64 i_.Page), .s (.int .u8 i_.Code), .s (.int .i64 i_.Entry.Op), .s (.int .i64 i_.Entry.Mode), .s (.int .i64 i_.Entry.Reg), .s (.int .u8 i_.Post), .s (.int .u16 i_.Value), .s (.int .i64 i_.Len)]⟩, ⟨0, .grow, 1, cat (nI .u16) ([] : List Int)⟩]) (by kernel_rfl) fun f4 hf4 => ?_
                  refine k_c ?_
                  have hj3 : ∀ (t_2 : Bool), spinetref54_Next_j0 i_ at_ t_2 = some r → ∀ f, FOk f [⟨2, [], .ptr 0 0 0⟩, ⟨4, [], .ref 1 0 0 0⟩, ⟨5, [], .s (.bool false)⟩, ⟨6, [], .s (.int .u16 (IntKind.wrap .u16 (at_ + (IntKind.wrap .u16 i_.Len))))⟩, ⟨10, [], .s (.int .u8 (IntKind.wrap .u8 (Int.tdiv i_.Post 16)))⟩, ⟨11, [], .s (.int .u8 (Int.tmod i_.Post 16))⟩, ⟨33, [], .s (.int .i64 i_.Entry.Op)⟩, ⟨83, [], .s (.bool t_2)⟩] → kont Try.prog [] (spinetref54_Next_C r) ((.c spinetref54_Next_i71) :: (.b 0) :: (.c spinetref54_Next_i81) :: []) .normal f [⟨0, .mem, 1, [.s (.int .i64 i_.Page), .s (.int .u8 i_.Code), .s (.int .i64 i_.Entry.Op), .s (.int .i64 i_.Entry.Mode), .s (.int .i64 i_.Entry.Reg), .s (.int .u8 i_.Post), .s (.int .u16 i_.Value), .s (.int .i64 i_.Len)]⟩, ⟨0, .grow, 1, cat (nI .u16) ([] : List Int)⟩] := by
                    intro t_2 h f hf
                    unfold spinetref54_Next_j0 at h
                    refine k_c ?_
                    refine k_cond hf (t := t_2) (by kernel_rfl) (fun hc14 => ?_) (fun hc14 => ?_)
                    · have h := if_t h hc14
                      refine k_seq ?_
                      refine k_reg ?_
                      refine mops_end [4, 5, 6] hf (l' := [⟨4, [], .ref 2 0 0 0⟩, ⟨5, [], .s (.bool false)⟩, ⟨6, [], .s (.int .u16 (IntKind.wrap .u16 (at_ + (IntKind.wrap .u16 i_.Len))))⟩]) (L' := [⟨0, .mem, 1, [.s (.int .i64 i_.Page), .s (.int .u8 i_.Code), .s (.int .i64 i_.Entry.Op), .s (.int .i64 i_.Entry.Mode), .s (.int .i64 i_.Entry.Reg), .s (.int .u8 i_.Post), .s (.int .u16 i_.Value), .s (.int .i64 i_.Len)]⟩, ⟨0, .grow, 1, cat (nI .u16) ([] : List Int)⟩, ⟨0, .grow, 1, cat (nI .u16) ([] : List Int)⟩]) (by kernel_rfl) fun f1 hf1 => ?_
                      refine k_c ?_
                      refine k_ret ?_
                      refine x_br ?_
                      refine x_c nofun ?_
                      obtain rfl := Option.some.inj h
                      exact k_fin (fin_ret (.inl rfl) hf1 (vs := [.ref 2 0 0 0, .s (.bool false)]) (by kernel_rfl) (SettL.pure (FzL.tup (FzsL.cons (FzL.whole (g := (nI .u16)) (kd := .grow) (l := ([] : List Int)) (by kernel_rfl) rfl (live_grow (by kernel_rfl))) (FzsL.cons (FzL.stat rfl) FzsL.nil)))))
                    · have h := if_f h hc14
                      refine k_seq ?_
                      refine k_reg ?_
                      refine mops_end [2, 4, 5, 6, 10, 11, 33, 86] hf (l' := [⟨2, [], .ptr 0 0 0⟩, ⟨4, [], .ref 1 0 0 0⟩, ⟨5, [], .s (.bool false)⟩, ⟨6, [], .s (.int .u16 (IntKind.wrap .u16 (at_ + (IntKind.wrap .u16 i_.Len))))⟩, ⟨10, [], .s (.int .u8 (IntKind.wrap .u8 (Int.tdiv i_.Post 16)))⟩, ⟨11, [], .s (.int .u8 (Int.tmod i_.Post 16))⟩, ⟨33, [], .s (.int .i64 i_.Entry.Op)⟩, ⟨86, [], .s (.bool (i_.Entry.Op == 47))⟩]) (L' := [⟨0, .mem, 1, [.s (.int .i64 i_.Page), .s (.int .u8 i_.Code), .s (.int .i64 i_.Entry.Op), .s (.int .i64 i_.Entry.Mode), .s (.int .i64 i_.Entry.Reg), .s (.int .u8 i_.Post), .s (.int .u16 i_.Value), .s (.int .i64 i_.Len)]⟩, ⟨0, .grow, 1, cat (nI .u16) ([] : List Int)⟩]) (by kernel_rfl) fun f1 hf1 => ?_
                      refine k_c ?_
                      refine k_cond hf1 (t := (i_.Entry.Op == 47)) (by kernel_rfl) (fun hc15 => ?_) (fun hc15 => ?_)
                      · have h := if_t h hc15
                        refine k_seq ?_
                        refine k_reg ?_
                        refine mops_end [4, 5, 6, 89] hf1 (l' := [⟨4, [], .ref 1 0 0 0⟩, ⟨5, [], .s (.bool false)⟩, ⟨6, [], .s (.int .u16 (IntKind.wrap .u16 (at_ + (IntKind.wrap .u16 i_.Len))))⟩, ⟨89, [], .s (.bool ((Int.tmod i_.Post 16) == 5))⟩]) (L' := [⟨0, .mem, 1, [.s (.int .i64 i_.Page), .s (.int .u8 i_.Code), .s (.int .i64 i_.Entry.Op), .s (.int .i64 i_.Entry.Mode), .s (.int .i64 i_.Entry.Reg), .s (.int .u8 i_.Post), .s (.int .u16 i_.Value), .s (.int .i64 i_.Len)]⟩, ⟨0, .grow, 1, cat (nI .u16) ([] : List Int)⟩]) (by kernel_rfl) fun f2 hf2 => ?_
                        refine k_c ?_
                        refine k_cond hf2 (t := ((Int.tmod i_.Post 16) == 5)) (by kernel_rfl) (fun hc16 => ?_) (fun hc16 => ?_)
                        · have h := if_t h hc16
                          refine k_seq ?_
                          refine k_reg ?_
                          refine mops_end [4, 5, 6] hf2 (l' := [⟨4, [], .ref 2 0 0 0⟩, ⟨5, [], .s (.bool false)⟩, ⟨6, [], .s (.int .u16 (IntKind.wrap .u16 (at_ + (IntKind.wrap .u16 i_.Len))))⟩]) (L' := [⟨0, .mem, 1, [.s (.int .i64 i_.Page), .s (.int .u8 i_.Code), .s (.int .i64 i_.Entry.Op), .s (.int .i64 i_.Entry.Mode), .s (.int .i64 i_.Entry.Reg), .s (.int .u8 i_.Post), .s (.int .u16 i_.Value), .s (.int .i64 i_.Len)]⟩, ⟨0, .grow, 1, cat (nI .u16) ([] : List Int)⟩, ⟨0, .grow, 1, cat (nI .u16) ([] : List Int)⟩]) (by kernel_rfl) fun f3 hf3 => ?_
                          refine k_c ?_
                          refine k_ret ?_
                          refine x_br ?_
                          refine x_c nofun ?_
                          obtain rfl := Option.some.inj h
                          exact k_fin (fin_ret (.inl rfl) hf3 (vs := [.ref 2 0 0 0, .s (.bool false)]) (by kernel_rfl) (SettL.pure (FzL.tup (FzsL.cons (FzL.whole (g := (nI .u16)) (kd := .grow) (l := ([] : List Int)) (by kernel_rfl) rfl (live_grow (by kernel_rfl))) (FzsL.cons (FzL.stat rfl) FzsL.nil)))))
                        · have h := if_f h hc16
                          refine k_skip ?_
                          refine k_b ?_
                          refine k_c ?_
                          refine k_seq ?_
                          refine k_reg ?_
                          refine mops_end [4, 5] hf2 (l' := [⟨4, [], .ref 2 0 0 1⟩, ⟨5, [], .s (.bool true)⟩]) (L' := [⟨0, .mem, 1, [.s (.int .i64 i_.Page), .s (.int .u8 i_.Code), .s (.int .i64 i_.Entry.Op), .s (.int .i64 i_.Entry.Mode), .s (.int .i64 i_.Entry.Reg), .s (.int .u8 i_.Post), .s (.int .u16 i_.Value), .s (.int .i64 i_.Len)]⟩, ⟨0, .grow, 1, cat (nI .u16) ([] : List Int)⟩, ⟨0, .grow, 1, cat (nI .u16) [(IntKind.wrap .u16 (at_ + (IntKind.wrap .u16 i_.Len)))]⟩]) (by kernel_rfl) fun f3 hf3 => ?_
                          refine k_c ?_
                          refine k_ret ?_
                          obtain rfl := Option.some.inj h
                          exact k_fin (fin_ret (.inl rfl) hf3 (vs := [.ref 2 0 0 1, .s (.bool true)]) (by kernel_rfl) (SettL.pure (FzL.tup (FzsL.cons (FzL.whole (g := (nI .u16)) (kd := .grow) (l := [(IntKind.wrap .u16 (at_ + (IntKind.wrap .u16 i_.Len)))]) (by kernel_rfl) (by kernel_rfl) (live_grow (by kernel_rfl))) (FzsL.cons (FzL.stat rfl) FzsL.nil)))))
                      · have h := if_f h hc15
                        refine k_seq ?_
                        refine k_reg ?_
                        refine mops_end [2, 4, 5, 6, 10, 11, 33, 90] hf1 (l' := [⟨2, [], .ptr 0 0 0⟩, ⟨4, [], .ref 1 0 0 0⟩, ⟨5, [], .s (.bool false)⟩, ⟨6, [], .s (.int .u16 (IntKind.wrap .u16 (at_ + (IntKind.wrap .u16 i_.Len))))⟩, ⟨10, [], .s (.int .u8 (IntKind.wrap .u8 (Int.tdiv i_.Post 16)))⟩, ⟨11, [], .s (.int .u8 (Int.tmod i_.Post 16))⟩, ⟨33, [], .s (.int .i64 i_.Entry.Op)⟩, ⟨90, [], .s (.bool (i_.Entry.Op == 46))⟩]) (L' := [⟨0, .mem, 1, [.s (.int .i64 i_.Page), .s (.int .u8 i_.Code), .s (.int .i64 i_.Entry.Op), .s (.int .i64 i_.Entry.Mode), .s (.int .i64 i_.Entry.Reg), .s (.int .u8 i_.Post), .s (.int .u16 i_.Value), .s (.int .i64 i_.Len)]⟩, ⟨0, .grow, 1, cat (nI .u16) ([] : List Int)⟩]) (by kernel_rfl) fun f2 hf2 => ?_
                        refine k_c ?_
                        refine k_cond hf2 (t := (i_.Entry.Op == 46)) (by kernel_rfl) (fun hc17 => ?_) (fun hc17 => ?_)
                        · have h := if_t h hc17
                          refine k_seq ?_
                          refine k_reg ?_
                          refine mops_end [4, 5, 6, 97] hf2 (l' := [⟨4, [], .ref 1 0 0 0⟩, ⟨5, [], .s (.bool false)⟩, ⟨6, [], .s (.int .u16 (IntKind.wrap .u16 (at_ + (IntKind.wrap .u16 i_.Len))))⟩, ⟨97, [], .s (.bool (((Int.tmod i_.Post 16) == 5) || ((IntKind.wrap .u8 (Int.tdiv i_.Post 16)) == 5)))⟩]) (L' := [⟨0, .mem, 1, [.s (.int .i64 i_.Page), .s (.int .u8 i_.Code), .s (.int .i64 i_.Entry.Op), .s (.int .i64 i_.Entry.Mode), .s (.int .i64 i_.Entry.Reg), .s (.int .u8 i_.Post), .s (.int .u16 i_.Value), .s (.int .i64 i_.Len)]⟩, ⟨0, .grow, 1, cat (nI .u16) ([] : List Int)⟩]) (by kernel_rfl) fun f3 hf3 => ?_
                          refine k_c ?_
                          refine k_cond hf3 (t := (((Int.tmod i_.Post 16) == 5) || ((IntKind.wrap .u8 (Int.tdiv i_.Post 16)) == 5))) (by kernel_rfl) (fun hc18 => ?_) (fun hc18 => ?_)
                          · have h := if_t h hc18
                            refine k_seq ?_
                            refine k_reg ?_
                            refine mops_end [4, 5, 6] hf3 (l' := [⟨4, [], .ref 2 0 0 0⟩, ⟨5, [], .s (.bool false)⟩, ⟨6, [], .s (.int .u16 (IntKind.wrap .u16 (at_ + (IntKind.wrap .u16 i_.Len))))⟩]) (L' := [⟨0, .mem, 1, [.s (.int .i64 i_.Page), .s (.int .u8 i_.Code), .s (.int .i64 i_.Entry.Op), .s (.int .i64 i_.Entry.Mode), .s (.int .i64 i_.Entry.Reg), .s (.int .u8 i_.Post), .s (.int .u16 i_.Value), .s (.int .i64 i_.Len)]⟩, ⟨0, .grow, 1, cat (nI .u16) ([] : List Int)⟩, ⟨0, .grow, 1, cat (nI .u16) ([] : List Int)⟩]) (by kernel_rfl) fun f4 hf4 => ?_
                            refine k_c ?_
                            refine k_ret ?_
                            refine x_br ?_
                            refine x_c nofun ?_
                            obtain rfl := Option.some.inj h
                            exact k_fin (fin_ret (.inl rfl) hf4 (vs := [.ref 2 0 0 0, .s (.bool false)]) (by kernel_rfl) (SettL.pure (FzL.tup (FzsL.cons (FzL.whole (g := (nI .u16)) (kd := .grow) (l := ([] : List Int)) (by kernel_rfl) rfl (live_grow (by kernel_rfl))) (FzsL.cons (FzL.stat rfl) FzsL.nil)))))
                          · have h := if_f h hc18
                            refine k_skip ?_
                            refine k_b ?_
                            refine k_c ?_
                            refine k_seq ?_
                            refine k_reg ?_
                            refine mops_end [4, 5] hf3 (l' := [⟨4, [], .ref 2 0 0 1⟩, ⟨5, [], .s (.bool true)⟩]) (L' := [⟨0, .mem, 1, [.s (.int .i64 i_.Page), .s (.int .u8 i_.Code), .s (.int .i64 i_.Entry.Op), .s (.int .i64 i_.Entry.Mode), .s (.int .i64 i_.Entry.Reg), .s (.int .u8 i_.Post), .s (.int .u16 i_.Value), .s (.int .i64 i_.Len)]⟩, ⟨0, .grow, 1, cat (nI .u16) ([] : List Int)⟩, ⟨0, .grow, 1, cat (nI .u16) [(IntKind.wrap .u16 (at_ + (IntKind.wrap .u16 i_.Len)))]⟩]) (by kernel_rfl) fun f4 hf4 => ?_
                            refine k_c ?_
                            refine k_ret ?_
                            obtain rfl := Option.some.inj h
                            exact k_fin (fin_ret (.inl rfl) hf4 (vs := [.ref 2 0 0 1, .s (.bool true)]) (by kernel_rfl) (SettL.pure (FzL.tup (FzsL.cons (FzL.whole (g := (nI .u16)) (kd := .grow) (l := [(IntKind.wrap .u16 (at_ + (IntKind.wrap .u16 i_.Len)))]) (by kernel_rfl) (by kernel_rfl) (live_grow (by kernel_rfl))) (FzsL.cons (FzL.stat rfl) FzsL.nil)))))
                        · have h := if_f h hc17
                          refine k_seq ?_
                          refine k_reg ?_
                          refine mops_end [2, 4, 5, 6, 98] hf2 (l' := [⟨2, [], .ptr 0 0 0⟩, ⟨4, [], .ref 1 0 0 0⟩, ⟨5, [], .s (.bool false)⟩, ⟨6, [], .s (.int .u16 (IntKind.wrap .u16 (at_ + (IntKind.wrap .u16 i_.Len))))⟩, ⟨98, [], .s (.bool (i_.Entry.Op == 31))⟩]) (L' := [⟨0, .mem, 1, [.s (.int .i64 i_.Page), .s (.int .u8 i_.Code), .s (.int .i64 i_.Entry.Op), .s (.int .i64 i_.Entry.Mode), .s (.int .i64 i_.Entry.Reg), .s (.int .u8 i_.Post), .s (.int .u16 i_.Value), .s (.int .i64 i_.Len)]⟩, ⟨0, .grow, 1, cat (nI .u16) ([] : List Int)⟩]) (by kernel_rfl) fun f3 hf3 => ?_
                          refine k_c ?_
                          refine k_cond hf3 (t := (i_.Entry.Op == 31)) (by kernel_rfl) (fun hc19 => ?_) (fun hc19 => ?_)
                          · have h := if_t h hc19
                            refine k_seq ?_
                            refine k_reg ?_
                            refine mops_end [4, 5, 6, 102] hf3 (l' := [⟨4, [], .ref 1 0 0 0⟩, ⟨5, [], .s (.bool false)⟩, ⟨6, [], .s (.int .u16 (IntKind.wrap .u16 (at_ + (IntKind.wrap .u16 i_.Len))))⟩, ⟨102, [], .s (.bool (decide (127 < i_.Post)))⟩]) (L' := [⟨0, .mem, 1, [.s (.int .i64 i_.Page), .s (.int .u8 i_.Code), .s (.int .i64 i_.Entry.Op), .s (.int .i64 i_.Entry.Mode), .s (.int .i64 i_.Entry.Reg), .s (.int .u8 i_.Post), .s (.int .u16 i_.Value), .s (.int .i64 i_.Len)]⟩, ⟨0, .grow, 1, cat (nI .u16) ([] : List Int)⟩]) (by kernel_rfl) fun f4 hf4 => ?_
                            refine k_c ?_
                            refine k_cond hf4 (t := (decide (127 < i_.Post))) (by kernel_rfl) (fun hc20 => ?_) (fun hc20 => ?_)
                            · have h := if_t h hc20
                              refine k_seq ?_
                              refine k_reg ?_
                              refine mops_end [4, 5, 6] hf4 (l' := [⟨4, [], .ref 2 0 0 0⟩, ⟨5, [], .s (.bool false)⟩, ⟨6, [], .s (.int .u16 (IntKind.wrap .u16 (at_ + (IntKind.wrap .u16 i_.Len))))⟩]) (L' := [⟨0, .mem, 1, [.s (.int .i64 i_.Page), .s (.int .u8 i_.Code), .s (.int .i64 i_.Entry.Op), .s (.int .i64 i_.Entry.Mode), .s (.int .i64 i_.Entry.Reg), .s (.int .u8 i_.Post), .s (.int .u16 i_.Value), .s (.int .i64 i_.Len)]⟩, ⟨0, .grow, 1, cat (nI .u16) ([] : List Int)⟩, ⟨0, .grow, 1, cat (nI .u16) ([] : List Int)⟩]) (by kernel_rfl) fun f5 hf5 => ?_
                              refine k_c ?_
                              refine k_ret ?_
                              refine x_br ?_
                              refine x_c nofun ?_
                              obtain rfl := Option.some.inj h
                              exact k_fin (fin_ret (.inl rfl) hf5 (vs := [.ref 2 0 0 0, .s (.bool false)]) (by kernel_rfl) (SettL.pure (FzL.tup (FzsL.cons (FzL.whole (g := (nI .u16)) (kd := .grow) (l := ([] : List Int)) (by kernel_rfl) rfl (live_grow (by kernel_rfl))) (FzsL.cons (FzL.stat rfl) FzsL.nil)))))
                            · have h := if_f h hc20
                              refine k_skip ?_
                              refine k_b ?_
                              refine k_c ?_
                              refine k_seq ?_
                              refine k_reg ?_
                              refine mops_end [4, 5] hf4 (l' := [⟨4, [], .ref 2 0 0 1⟩, ⟨5, [], .s (.bool true)⟩]) (L' := [⟨0, .mem, 1, [.s (.int .i64 i_.Page), .s (.int .u8 i_.Code), .s (.int .i64 i_.Entry.Op), .s (.int .i64 i_.Entry.Mode), .s (.int .i64 i_.Entry.Reg), .s (.int .u8 i_.Post), .s (.int .u16 i_.Value), .s (.int .i64 i_.Len)]⟩, ⟨0, .grow, 1, cat (nI .u16) ([] : List Int)⟩, ⟨0, .grow, 1, cat (nI .u16) [(IntKind.wrap .u16 (at_ + (IntKind.wrap .u16 i_.Len)))]⟩]) (by kernel_rfl) fun f5 hf5 => ?_
                              refine k_c ?_
                              refine k_ret ?_
                              obtain rfl := Option.some.inj h
                              exact k_fin (fin_ret (.inl rfl) hf5 (vs := [.ref 2 0 0 1, .s (.bool true)]) (by kernel_rfl) (SettL.pure (FzL.tup (FzsL.cons (FzL.whole (g := (nI .u16)) (kd := .grow) (l := [(IntKind.wrap .u16 (at_ + (IntKind.wrap .u16 i_.Len)))]) (by kernel_rfl) (by kernel_rfl) (live_grow (by kernel_rfl))) (FzsL.cons (FzL.stat rfl) FzsL.nil)))))
                          · have h := if_f h hc19
                            refine k_skip ?_
                            refine k_b ?_
                            refine k_c ?_
                            refine k_seq ?_
                            refine k_reg ?_
                            refine mops_end [4, 5] hf3 (l' := [⟨4, [], .ref 2 0 0 1⟩, ⟨5, [], .s (.bool true)⟩]) (L' := [⟨0, .mem, 1, [.s (.int .i64 i_.Page), .s (.int .u8 i_.Code), .s (.int .i64 i_.Entry.Op), .s (.int .i64 i_.Entry.Mode), .s (.int .i64 i_.Entry.Reg), .s (.int .u8 i_.Post), .s (.int .u16 i_.Value), .s (.int .i64 i_.Len)]⟩, ⟨0, .grow, 1, cat (nI .u16) ([] : List Int)⟩, ⟨0, .grow, 1, cat (nI .u16) [(IntKind.wrap .u16 (at_ + (IntKind.wrap .u16 i_.Len)))]⟩]) (by kernel_rfl) fun f4 hf4 => ?_
                            refine k_c ?_
                            refine k_ret ?_
                            obtain rfl := Option.some.inj h
                            exact k_fin (fin_ret (.inl rfl) hf4 (vs := [.ref 2 0 0 1, .s (.bool true)]) (by kernel_rfl) (SettL.pure (FzL.tup (FzsL.cons (FzL.whole (g := (nI .u16)) (kd := .grow) (l := [(IntKind.wrap .u16 (at_ + (IntKind.wrap .u16 i_.Len)))]) (by kernel_rfl) (by kernel_rfl) (live_grow (by kernel_rfl))) (FzsL.cons (FzL.stat rfl) FzsL.nil)))))
                  refine k_cond hf4 (t := (i_.Entry.Op == 48)) (by kernel_rfl) (fun hc13 => ?_) (fun hc13 => ?_)
                  · have h := if_t h hc13
                    refine k_skip ?_
                    exact hj3 (i_.Entry.Op == 48) h _ (FOk_of [2, 4, 5, 6, 10, 11, 33, 83] hf4 (by kernel_rfl))
                  · have h := if_f h hc13
                    refine k_reg ?_
                    refine mops_end [2, 4, 5, 6, 10, 11, 33, 83] hf4 (l' := [⟨2, [], .ptr 0 0 0⟩, ⟨4, [], .ref 1 0 0 0⟩, ⟨5, [], .s (.bool false)⟩, ⟨6, [], .s (.int .u16 (IntKind.wrap .u16 (at_ + (IntKind.wrap .u16 i_.Len))))⟩, ⟨10, [], .s (.int .u8 (IntKind.wrap .u8 (Int.tdiv i_.Post 16)))⟩, ⟨11, [], .s (.int .u8 (Int.tmod i_.Post 16))⟩, ⟨33, [], .s (.int .i64 i_.Entry.Op)⟩, ⟨83, [], .s (.bool (i_.Entry.Op == 49))⟩]) (L' := [⟨0, .mem, 1, [.s (.int .i64 i_.Page), .s (.int .u8 i_.Code), .s (.int .i64 i_.Entry.Op), .s (.int .i64 i_.Entry.Mode), .s (.int .i64 i_.Entry.Reg), .s (.int .u8 i_.Post), .s (.int .u16 i_.Value), .s (.int .i64 i_.Len)]⟩, ⟨0, .grow, 1, cat (nI .u16) ([] : List Int)⟩]) (by kernel_rfl) fun f5 hf5 => ?_
                    exact hj3 (i_.Entry.Op == 49) h _ (FOk_of [2, 4, 5, 6, 10, 11, 33, 83] hf5 (by kernel_rfl))
        refine k_cond hf2 (t := (i_.Entry.Op == 37)) (by kernel_rfl) (fun hc6 => ?_) (fun hc6 => ?_)
        · have h := if_t h hc6
          refine k_skip ?_
          exact hj2 (i_.Entry.Op == 37) h _ (FOk_of [2, 4, 5, 6, 7, 10, 11, 33, 52] hf2 (by kernel_rfl))
        · have h := if_f h hc6
          refine k_reg ?_
          refine mops_end [2, 4, 5, 6, 7, 10, 11, 33, 52] hf2 (l' := [⟨2, [], .ptr 0 0 0⟩, ⟨4, [], .ref 1 0 0 0⟩, ⟨5, [], .s (.bool false)⟩, ⟨6, [], .s (.int .u16 (IntKind.wrap .u16 (at_ + (IntKind.wrap .u16 i_.Len))))⟩, ⟨7, [], .s (.int .u16 (IntKind.wrap .u16 ((IntKind.wrap .u16 (at_ + (IntKind.wrap .u16 i_.Len))) + i_.Value)))⟩, ⟨10, [], .s (.int .u8 (IntKind.wrap .u8 (Int.tdiv i_.Post 16)))⟩, ⟨11, [], .s (.int .u8 (Int.tmod i_.Post 16))⟩, ⟨33, [], .s (.int .i64 i_.Entry.Op)⟩, ⟨52, [], .s (.bool (i_.Entry.Op == 38))⟩]) (L' := [⟨0, .mem, 1, [.s (.int .i64 i_.Page), .s (.int .u8 i_.Code), .s (.int .i64 i_.Entry.Op), .s (.int .i64 i_.Entry.Mode), .s (.int .i64 i_.Entry.Reg), .s (.int .u8 i_.Post), .s (.int .u16 i_.Value), .s (.int .i64 i_.Len)]⟩, ⟨0, .grow, 1, cat (nI .u16) ([] : List Int)⟩]) (by kernel_rfl) fun f3 hf3 => ?_
          exact hj2 (i_.Entry.Op == 38) h _ (FOk_of [2, 4, 5, 6, 7, 10, 11, 33, 52] hf3 (by kernel_rfl))
  refine k_cond hf7 (t := (i_.Entry.Op == 34)) (by kernel_rfl) (fun hc1 => ?_) (fun hc1 => ?_)
  · have h := if_t h hc1
    refine k_skip ?_
    exact hj1 (i_.Entry.Op == 34) h _ (FOk_of [2, 4, 5, 6, 7, 9, 10, 11, 33, 34] hf7 (by kernel_rfl))
  · have h := if_f h hc1
    refine k_reg ?_
    refine mops_end [2, 4, 5, 6, 7, 9, 10, 11, 33, 34] hf7 (l' := [⟨2, [], .ptr 0 0 0⟩, ⟨4, [], .ref 1 0 0 0⟩, ⟨5, [], .s (.bool false)⟩, ⟨6, [], .s (.int .u16 (IntKind.wrap .u16 (at_ + (IntKind.wrap .u16 i_.Len))))⟩, ⟨7, [], .s (.int .u16 (IntKind.wrap .u16 ((IntKind.wrap .u16 (at_ + (IntKind.wrap .u16 i_.Len))) + i_.Value)))⟩, ⟨9, [], .s (.int .i64 i_.Entry.Reg)⟩, ⟨10, [], .s (.int .u8 (IntKind.wrap .u8 (Int.tdiv i_.Post 16)))⟩, ⟨11, [], .s (.int .u8 (Int.tmod i_.Post 16))⟩, ⟨33, [], .s (.int .i64 i_.Entry.Op)⟩, ⟨34, [], .s (.bool (i_.Entry.Op == 35))⟩]) (L' := [⟨0, .mem, 1, [.s (.int .i64 i_.Page), .s (.int .u8 i_.Code), .s (.int .i64 i_.Entry.Op), .s (.int .i64 i_.Entry.Mode), .s (.int .i64 i_.Entry.Reg), .s (.int .u8 i_.Post), .s (.int .u16 i_.Value), .s (.int .i64 i_.Len)]⟩, ⟨0, .grow, 1, cat (nI .u16) ([] : List Int)⟩]) (by kernel_rfl) fun f8 hf8 => ?_
    exact hj1 (i_.Entry.Op == 35) h _ (FOk_of [2, 4, 5, 6, 7, 9, 10, 11, 33, 34] hf8 (by kernel_rfl))
end Go.Proofs.YtbgdkaahcfmaeaaK
