/- The Go functions come to the functions over typed data. Printed by a program of this work. -/
import Derived.Test.YtnilppmpfklpbaaDoorF
import Derived.Test.YtnilppmpfklpbaaDoorProg
import Derived.Test.YtnilppmpfklpbaaDoorG0
import Derived.Test.YtnilppmpfklpbaaDoorG1
import Derived.Test.YtnilppmpfklpbaaDoorG2
import Derived.Test.YtnilppmpfklpbaaDoorG3
namespace Go.Proofs.YtnilppmpfklpbaaDoorK
set_option linter.unusedVariables false
set_option linter.unusedSimpArgs false
set_option maxHeartbeats 4000000
open Go.RowKit
attribute [local irreducible] dwv mops lops lqops lwops kont iter run runK rk okK ex E1 vals val chain chB sel resF
def spinetlaw50_WaveDraws_i0 : List Op1 := [(oM 4 (.k (.bool false)) [])]
def spinetlaw50_WaveDraws_i1 : List Op1 := [(oM 17 (.t 0) []), (oE 18 (.len (.t 17)) [0]), (oE 19 (.bin .gtr (.t 18) (.k (.int .i64 200))) [1])]
def spinetlaw50_WaveDraws_i2 : List Op1 := [(oM 4 (.k (.bool true)) [])]
def spinetlaw50_WaveDraws_i3 : IR := .ret
def spinetlaw50_WaveDraws_i4 : IR := (.cond (.t 19) (.seq (.reg false spinetlaw50_WaveDraws_i2) spinetlaw50_WaveDraws_i3) .skip)
def spinetlaw50_WaveDraws_i5 : List Op1 := [(oE 20 (.build [(.string ⟨#[]⟩), (.string ⟨#[]⟩), (.string ⟨#[]⟩), (.string ⟨#[]⟩), (.string ⟨#[]⟩), (.string ⟨#[]⟩), (.string ⟨#[]⟩)] [(0, (1, (.k (.string ⟨#[82, 69, 65, 68, 32]⟩)))), (1, (1, (.k (.string ⟨#[66, 65, 32, 32, 32]⟩)))), (2, (1, (.k (.string ⟨#[66, 83, 32, 32, 32]⟩)))), (3, (1, (.k (.string ⟨#[76, 73, 67, 32, 32]⟩)))), (4, (1, (.k (.string ⟨#[65, 86, 77, 65, 32]⟩)))), (5, (1, (.k (.string ⟨#[66, 85, 83, 89, 32]⟩)))), (6, (1, (.k (.string ⟨#[77, 73, 78, 69, 32]⟩))))]) []), (oE 5 (.zero [(.string ⟨#[]⟩), (.string ⟨#[]⟩), (.string ⟨#[]⟩), (.string ⟨#[]⟩), (.string ⟨#[]⟩), (.string ⟨#[]⟩), (.string ⟨#[]⟩)]) []), (oN (.store 7 (.t 5) (.t 20)) [1, 0, 0, 1])]
def spinetlaw50_WaveDraws_i6 : List Op1 := [(oM 6 (.k (.string ⟨#[]⟩)) [])]
def spinetlaw50_WaveDraws_i7 : List Op1 := [(oE 7 (.nilg 9) [])]
def spinetlaw50_WaveDraws_i8 : List Op1 := [(oM 8 (.k (.int .i64 0)) [])]
def spinetlaw50_WaveDraws_i9 : List Op1 := [(oM 21 (.t 8) []), (oE 22 (.bin .lss (.t 21) (.k (.int .i64 7))) [0])]
def spinetlaw50_WaveDraws_i10 : IR := (.cond (.t 22) .skip (.exit 0))
def spinetlaw50_WaveDraws_i11 : List Op1 := [(oM 9 (.k (.string ⟨#[]⟩)) [])]
def spinetlaw50_WaveDraws_i12 : List Op1 := [(oM 10 (.k (.int .i64 0)) [])]
def spinetlaw50_WaveDraws_i13 : List Op1 := [(oM 25 (.t 10) []), (oM 26 (.t 0) []), (oE 27 (.len (.t 26)) [1]), (oE 28 (.bin .lss (.t 25) (.t 27)) [0, 2])]
def spinetlaw50_WaveDraws_i14 : IR := (.cond (.t 28) .skip (.exit 2))
def spinetlaw50_WaveDraws_i15 : List Op1 := [(oM 31 (.t 0) []), (oM 32 (.t 10) []), (oE 33 (.ias 9 (.t 31) (.t 32)) [0, 1]), (oE 34 (.load true 9 (.t 33)) [2]), (oM 35 (.t 8) []), (oC 36 8 [(.t 34), (.t 35)] [3, 4])]
def spinetlaw50_WaveDraws_i16 : List Op1 := [(oM 37 (.t 9) []), (oE 38 (.bin .add (.t 37) (.k (.string ⟨#[35]⟩))) [0]), (oM 9 (.t 38) [1, 0, 1])]
def spinetlaw50_WaveDraws_i17 : List Op1 := [(oM 39 (.t 9) []), (oE 40 (.bin .add (.t 39) (.k (.string ⟨#[95]⟩))) [0]), (oM 9 (.t 40) [1, 0, 1])]
def spinetlaw50_WaveDraws_i18 : IR := (.cond (.t 36) (.reg false spinetlaw50_WaveDraws_i16) (.reg false spinetlaw50_WaveDraws_i17))
def spinetlaw50_WaveDraws_i19 : List Op1 := [(oM 29 (.t 10) []), (oE 30 (.bin .add (.t 29) (.k (.int .i64 1))) [0]), (oM 10 (.t 30) [1, 0, 1])]
def spinetlaw50_WaveDraws_i20 : IR := (.reg false spinetlaw50_WaveDraws_i19)
def spinetlaw50_WaveDraws_i21 : IR := (.seq (.block 3 (.seq (.reg false spinetlaw50_WaveDraws_i15) spinetlaw50_WaveDraws_i18)) spinetlaw50_WaveDraws_i20)
def spinetlaw50_WaveDraws_i22 : IR := (.seq (.seq (.reg false spinetlaw50_WaveDraws_i13) spinetlaw50_WaveDraws_i14) spinetlaw50_WaveDraws_i21)
def spinetlaw50_WaveDraws_i23 : IR := (.block 2 (.loop spinetlaw50_WaveDraws_i22))
def spinetlaw50_WaveDraws_i24 : List Op1 := [(oM 41 (.t 8) []), (oM 42 (.t 0) []), (oC 43 9 [(.t 41), (.t 42)] [0, 1]), (oM 44 (.t 9) []), (oE 45 (.bin .neq (.t 43) (.t 44)) [2, 3])]
def spinetlaw50_WaveDraws_i25 : List Op1 := [(oM 4 (.k (.bool false)) [])]
def spinetlaw50_WaveDraws_i26 : IR := .ret
def spinetlaw50_WaveDraws_i27 : IR := (.cond (.t 45) (.seq (.reg false spinetlaw50_WaveDraws_i25) spinetlaw50_WaveDraws_i26) .skip)
def spinetlaw50_WaveDraws_i28 : List Op1 := [(oM 46 (.t 6) []), (oM 47 (.t 8) []), (oE 48 (.iaa 7 1 (.t 5) (.t 47)) [1]), (oE 49 (.load false 1 (.t 48)) [2]), (oM 50 (.t 9) []), (oE 51 (.bin .add (.t 49) (.t 50)) [3, 4]), (oE 52 (.bin .add (.t 51) (.k (.string ⟨#[10]⟩))) [5]), (oE 53 (.bin .add (.t 46) (.t 52)) [0, 6]), (oM 6 (.t 53) [7, 0, 1, 2, 3, 4, 5, 6, 7])]
def spinetlaw50_WaveDraws_i29 : IR := (.reg false spinetlaw50_WaveDraws_i28)
def spinetlaw50_WaveDraws_i30 : IR := (.seq (.seq (.reg false spinetlaw50_WaveDraws_i24) spinetlaw50_WaveDraws_i27) spinetlaw50_WaveDraws_i29)
def spinetlaw50_WaveDraws_i31 : IR := (.seq (.seq (.reg false spinetlaw50_WaveDraws_i12) spinetlaw50_WaveDraws_i23) spinetlaw50_WaveDraws_i30)
def spinetlaw50_WaveDraws_i32 : List Op1 := [(oM 23 (.t 8) []), (oE 24 (.bin .add (.t 23) (.k (.int .i64 1))) [0]), (oM 8 (.t 24) [1, 0, 1])]
def spinetlaw50_WaveDraws_i33 : IR := (.reg false spinetlaw50_WaveDraws_i32)
def spinetlaw50_WaveDraws_i34 : IR := (.seq (.block 1 (.seq (.reg false spinetlaw50_WaveDraws_i11) spinetlaw50_WaveDraws_i31)) spinetlaw50_WaveDraws_i33)
def spinetlaw50_WaveDraws_i35 : IR := (.seq (.seq (.reg false spinetlaw50_WaveDraws_i9) spinetlaw50_WaveDraws_i10) spinetlaw50_WaveDraws_i34)
def spinetlaw50_WaveDraws_i36 : IR := (.block 0 (.loop spinetlaw50_WaveDraws_i35))
def spinetlaw50_WaveDraws_i37 : List Op1 := [(oM 11 (.k (.int .i64 0)) []), (oM 12 (.k (.int .i64 0)) [0, 0])]
def spinetlaw50_WaveDraws_i38 : List Op1 := [(oM 13 (.k (.int .i64 0)) [])]
def spinetlaw50_WaveDraws_i39 : List Op1 := [(oM 54 (.t 13) []), (oM 55 (.t 0) []), (oE 56 (.len (.t 55)) [1]), (oE 57 (.bin .lss (.t 54) (.t 56)) [0, 2])]
def spinetlaw50_WaveDraws_i40 : IR := (.cond (.t 57) .skip (.exit 4))
def spinetlaw50_WaveDraws_i41 : List Op1 := [(oM 60 (.t 0) []), (oM 61 (.t 13) []), (oE 62 (.ias 9 (.t 60) (.t 61)) [0, 1]), (oE 63 (.load true 9 (.t 62)) [2]), (oE 14 (.zero [(.int .u16 0), (.int .u8 0), (.bool false), (.bool false), (.bool false), (.bool false), (.bool false), (.bool false), (.bool false)]) []), (oN (.store 9 (.t 14) (.t 63)) [4, 3, 0, 1, 2, 3, 4])]
def spinetlaw50_WaveDraws_i42 : List Op1 := [(oE 64 (.fld 0 (.t 14)) []), (oN (.store 1 (.t 64) (.k (.int .u16 0))) [0]), (oE 65 (.fld 1 (.t 14)) [0, 1]), (oN (.store 1 (.t 65) (.k (.int .u8 0))) [2, 1, 0, 1])]
def spinetlaw50_WaveDraws_i43 : List Op1 := [(oM 66 (.t 7) []), (oE 67 (.load true 9 (.t 14)) []), (oE 68 (.bslo 9 1 [(.int .u16 0), (.int .u8 0), (.bool false), (.bool false), (.bool false), (.bool false), (.bool false), (.bool false), (.bool false)] [(0, (9, (.t 67)))]) [1]), (oE 69 (.app 30 9 10 (.t 66) (.t 68)) [0, 2]), (oM 7 (.t 69) [3, 3, 0, 1, 2, 3])]
def spinetlaw50_WaveDraws_i44 : List Op1 := [(oM 70 (.t 0) []), (oM 71 (.t 13) []), (oE 72 (.ias 9 (.t 70) (.t 71)) [0, 1]), (oE 73 (.load true 9 (.t 72)) [2]), (oM 74 (.t 1) []), (oC 75 8 [(.t 73), (.t 74)] [3, 4])]
def spinetlaw50_WaveDraws_i45 : List Op1 := [(oM 76 (.t 12) []), (oE 77 (.bin .add (.t 76) (.k (.int .i64 1))) [0]), (oM 12 (.t 77) [1, 0, 1])]
def spinetlaw50_WaveDraws_i46 : List Op1 := [(oM 78 (.t 13) []), (oE 79 (.bin .eql (.t 78) (.k (.int .i64 0))) [0]), (oM 80 (.t 79) [1]), (oG 81 (.mv (.t 0)) 80 false [2]), (oG 82 (.mv (.t 13)) 80 false [2]), (oG 83 (.bin .sub (.t 82) (.k (.int .i64 1))) 80 false [4, 2]), (oG 84 (.ias 9 (.t 81) (.t 83)) 80 false [3, 5, 2]), (oG 85 (.load true 9 (.t 84)) 80 false [6, 2]), (oG 86 (.mv (.t 1)) 80 false [2]), ⟨(some 87), (.call 8 [(.t 85), (.t 86)]), (some (80, false)), [7, 8, 2, 2]⟩, (oG 88 (.un .not (.t 87)) 80 false [9, 2]), (oE 89 (.pick (.t 80) (.k (.bool true)) (.t 88)) [2, 10])]
def spinetlaw50_WaveDraws_i47 : List Op1 := [(oM 90 (.t 11) []), (oE 91 (.bin .add (.t 90) (.k (.int .i64 1))) [0]), (oM 11 (.t 91) [1, 0, 1])]
def spinetlaw50_WaveDraws_i48 : IR := (.cond (.t 89) (.reg false spinetlaw50_WaveDraws_i47) .skip)
def spinetlaw50_WaveDraws_i49 : IR := (.seq (.reg false spinetlaw50_WaveDraws_i46) spinetlaw50_WaveDraws_i48)
def spinetlaw50_WaveDraws_i50 : IR := (.cond (.t 75) (.seq (.reg false spinetlaw50_WaveDraws_i45) spinetlaw50_WaveDraws_i49) .skip)
def spinetlaw50_WaveDraws_i51 : IR := (.seq (.reg false spinetlaw50_WaveDraws_i44) spinetlaw50_WaveDraws_i50)
def spinetlaw50_WaveDraws_i52 : IR := (.seq (.reg false spinetlaw50_WaveDraws_i43) spinetlaw50_WaveDraws_i51)
def spinetlaw50_WaveDraws_i53 : IR := (.seq (.reg false spinetlaw50_WaveDraws_i42) spinetlaw50_WaveDraws_i52)
def spinetlaw50_WaveDraws_i54 : List Op1 := [(oM 58 (.t 13) []), (oE 59 (.bin .add (.t 58) (.k (.int .i64 1))) [0]), (oM 13 (.t 59) [1, 0, 1])]
def spinetlaw50_WaveDraws_i55 : IR := (.reg false spinetlaw50_WaveDraws_i54)
def spinetlaw50_WaveDraws_i56 : IR := (.seq (.block 5 (.seq (.reg false spinetlaw50_WaveDraws_i41) spinetlaw50_WaveDraws_i53)) spinetlaw50_WaveDraws_i55)
def spinetlaw50_WaveDraws_i57 : IR := (.seq (.seq (.reg false spinetlaw50_WaveDraws_i39) spinetlaw50_WaveDraws_i40) spinetlaw50_WaveDraws_i56)
def spinetlaw50_WaveDraws_i58 : IR := (.block 4 (.loop spinetlaw50_WaveDraws_i57))
def spinetlaw50_WaveDraws_i59 : List Op1 := [(oM 92 (.t 1) []), (oE 93 (.bin .lss (.t 92) (.k (.int .i64 0))) [0]), (oM 94 (.t 93) [1]), (oG 95 (.mv (.t 1)) 94 false [2]), (oG 96 (.bin .gtr (.t 95) (.k (.int .i64 6))) 94 false [3, 2]), (oE 97 (.pick (.t 94) (.k (.bool true)) (.t 96)) [2, 4]), (oM 98 (.t 97) [5, 2]), (oG 99 (.mv (.t 1)) 98 true [6]), (oG 100 (.mv (.t 0)) 98 true [6]), ⟨(some 101), (.call 9 [(.t 99), (.t 100)]), (some (98, true)), [7, 8, 6, 6]⟩, (oG 102 (.bin .neq (.t 101) (.k (.string ⟨#[]⟩))) 98 true [9, 6]), (oE 103 (.pick (.t 98) (.t 102) (.k (.bool false))) [6, 10])]
def spinetlaw50_WaveDraws_i60 : List Op1 := [(oM 4 (.k (.bool false)) [])]
def spinetlaw50_WaveDraws_i61 : IR := .ret
def spinetlaw50_WaveDraws_i62 : IR := (.cond (.t 103) (.seq (.reg false spinetlaw50_WaveDraws_i60) spinetlaw50_WaveDraws_i61) .skip)
def spinetlaw50_WaveDraws_i63 : List Op1 := [(oM 105 (.t 6) []), (oC 106 5 [(.t 105)] [0]), (oM 104 (.t 106) [1]), (oE 107 (.ext 0 (.t 104)) [2]), (oE 108 (.ext 1 (.t 104)) [2]), (oM 15 (.t 107) [3, 1, 0, 1, 2, 3]), (oM 16 (.t 108) [4, 5, 0, 1, 2, 3, 4, 5])]
def spinetlaw50_WaveDraws_i64 : List Op1 := [(oM 109 (.t 0) []), (oC 110 6 [(.t 109)] [0]), (oM 111 (.t 6) []), (oE 112 (.bin .eql (.t 110) (.t 111)) [1, 2]), (oM 113 (.t 112) [3, 1]), (oG 114 (.mv (.t 1)) 113 true [4]), (oG 115 (.mv (.t 0)) 113 true [4]), ⟨(some 116), (.call 10 [(.t 114), (.t 115)]), (some (113, true)), [5, 6, 4, 4]⟩, (oG 117 (.mv (.t 11)) 113 true [4]), (oG 118 (.bin .eql (.t 116) (.t 117)) 113 true [7, 8, 4]), (oE 119 (.pick (.t 113) (.t 118) (.k (.bool false))) [4, 9]), (oM 120 (.t 119) [10, 7]), (oG 121 (.mv (.t 1)) 120 true [11]), (oG 122 (.mv (.t 0)) 120 true [11]), ⟨(some 123), (.call 11 [(.t 121), (.t 122)]), (some (120, true)), [12, 13, 11, 11]⟩, (oG 124 (.mv (.t 12)) 120 true [11]), (oG 125 (.bin .eql (.t 123) (.t 124)) 120 true [14, 15, 11]), (oE 126 (.pick (.t 120) (.t 125) (.k (.bool false))) [11, 16]), (oM 127 (.t 126) [17, 14]), (oG 128 (.mv (.t 15)) 127 true [18]), (oG 129 (.mv (.t 7)) 127 true [18]), ⟨(some 130), (.call 12 [(.t 128), (.t 129)]), (some (127, true)), [19, 20, 18, 18]⟩, (oE 131 (.pick (.t 127) (.t 130) (.k (.bool false))) [18, 21]), (oM 132 (.t 131) [22, 21]), (oG 133 (.mv (.t 16)) 132 true [23]), (oG 134 (.bin .eql (.t 133) (.k (.int .i64 0))) 132 true [24, 23]), (oE 135 (.pick (.t 132) (.t 134) (.k (.bool false))) [23, 25]), (oM 136 (.t 135) [26, 23]), ⟨(some 137), (.call 7 []), (some (136, true)), [27, 27]⟩, (oE 138 (.pick (.t 136) (.t 137) (.k (.bool false))) [27, 28]), (oM 4 (.t 138) [29, 28, 0, 1, 2, 3, 4, 5, 6, 7, 8, 9, 10, 11, 12, 13, 14, 15, 16, 17, 18, 19, 20, 21, 22, 23, 24, 25, 26, 27, 28, 29])]
def spinetlaw50_WaveDraws_i65 : IR := .ret
def spinetlaw50_WaveDraws_i66 : IR := (.seq (.reg false spinetlaw50_WaveDraws_i64) spinetlaw50_WaveDraws_i65)
def spinetlaw50_WaveDraws_i67 : IR := (.seq (.reg false spinetlaw50_WaveDraws_i63) spinetlaw50_WaveDraws_i66)
def spinetlaw50_WaveDraws_i68 : IR := (.seq (.seq (.reg false spinetlaw50_WaveDraws_i59) spinetlaw50_WaveDraws_i62) spinetlaw50_WaveDraws_i67)
def spinetlaw50_WaveDraws_i69 : IR := (.seq (.seq (.reg false spinetlaw50_WaveDraws_i38) spinetlaw50_WaveDraws_i58) spinetlaw50_WaveDraws_i68)
def spinetlaw50_WaveDraws_i70 : IR := (.seq (.reg false spinetlaw50_WaveDraws_i37) spinetlaw50_WaveDraws_i69)
def spinetlaw50_WaveDraws_i71 : IR := (.seq (.seq (.reg false spinetlaw50_WaveDraws_i8) spinetlaw50_WaveDraws_i36) spinetlaw50_WaveDraws_i70)
def spinetlaw50_WaveDraws_i72 : IR := (.seq (.reg false spinetlaw50_WaveDraws_i7) spinetlaw50_WaveDraws_i71)
def spinetlaw50_WaveDraws_i73 : IR := (.seq (.reg false spinetlaw50_WaveDraws_i6) spinetlaw50_WaveDraws_i72)
def spinetlaw50_WaveDraws_i74 : IR := (.seq (.reg false spinetlaw50_WaveDraws_i5) spinetlaw50_WaveDraws_i73)
def spinetlaw50_WaveDraws_i75 : IR := (.seq (.seq (.reg false spinetlaw50_WaveDraws_i1) spinetlaw50_WaveDraws_i4) spinetlaw50_WaveDraws_i74)
def spinetlaw50_WaveDraws_ir : IR := (.seq (.reg false spinetlaw50_WaveDraws_i0) spinetlaw50_WaveDraws_i75)
theorem spinetlaw50_WaveDraws_cfn : cFn Tryd.prog 4 = some (spinetlaw50_WaveDraws_ir, [(.t 4)], 139) := by kernel_rfl
def spinetlaw50_WaveDraws_V (r : (Bool)) : V := .s (.bool r)
def spinetlaw50_WaveDraws_C (r : (Bool)) : X → Fr → Hp → Prop := FinL [(.t 4)] [] (spinetlaw50_WaveDraws_V r) []
theorem spinetlaw50_WaveDraws_ok (l_ : (List api_Rec)) (line_ : Int) (r : (Bool)) (h : spinetlaw50_WaveDraws l_ line_ = some r) : Pure Tryd.prog 4 [.sl false l_.length (cat api_Rec.v l_), .s (.int .i64 line_)] (spinetlaw50_WaveDraws_V r) := by
  refine ConL.of spinetlaw50_WaveDraws_cfn (Nat.le_of_ble_eq_true (by kernel_rfl)) (Nat.le_of_ble_eq_true (by kernel_rfl)) ?_
  refine k_start ?_
  show dwv Tryd.prog [] spinetlaw50_WaveDraws_ir (kont Tryd.prog [] (spinetlaw50_WaveDraws_C r) []) (fr0 [.sl false l_.length (cat api_Rec.v l_), .s (.int .i64 line_)]) []
  have hf : FOk (fr0 [.sl false l_.length (cat api_Rec.v l_), .s (.int .i64 line_)]) [⟨0, [], .sl false l_.length (cat api_Rec.v l_)⟩, ⟨1, [], .s (.int .i64 line_)⟩] := ⟨⟨fun _ => rfl, fun h => (h trivial).elim⟩, ⟨fun _ => rfl, fun h => (h trivial).elim⟩, trivial⟩
  generalize fr0 [.sl false l_.length (cat api_Rec.v l_), .s (.int .i64 line_)] = f at hf ⊢
  unfold spinetlaw50_WaveDraws at h
  refine k_seq ?_
  refine k_reg ?_
  refine mops_en hf (by kernel_rfl) fun f1 hf1 => ?_
  refine k_c ?_
  refine k_seq ?_
  refine k_seq ?_
  refine k_reg ?_
  refine mops_en hf1 (by kernel_rfl) fun f2 hf2 => ?_
  refine k_c ?_
  refine k_cond hf2 (t := (decide (200 < (ln l_)))) (by kernel_rfl) (fun hc1 => ?_) (fun hc1 => ?_)
  · have h := if_t h hc1
    refine k_seq ?_
    refine k_reg ?_
    refine mops_en hf2 (by kernel_rfl) fun f3 hf3 => ?_
    refine k_c ?_
    refine k_ret ?_
    refine x_c nofun ?_
    obtain rfl := Option.some.inj h
    exact k_fin (fin_ret (.inl rfl) hf3 (vs := [.s (.bool true)]) (by kernel_rfl) (SettL.pure (FzL.stat rfl)))
  · have h := if_f h hc1
    refine k_skip ?_
    refine k_c ?_
    refine k_seq ?_
    refine k_reg ?_
    refine mops_en hf2 (by kernel_rfl) fun f3 hf3 => ?_
    refine k_c ?_
    refine k_seq ?_
    refine k_reg ?_
    refine mops_en hf3 (by kernel_rfl) fun f4 hf4 => ?_
    refine k_c ?_
    refine k_seq ?_
    refine k_reg ?_
    refine mops_en hf4 (by kernel_rfl) fun f5 hf5 => ?_
    refine k_c ?_
    refine k_seq ?_
    refine k_seq ?_
    refine k_reg ?_
    refine mops_en hf5 (by kernel_rfl) fun f6 hf6 => ?_
    refine k_c ?_
    refine k_block ?_
    obtain ⟨o0, hx0, h⟩ := Option.bind_eq_some_iff.1 h
    have hret0 : ∀ r0, .ret r0 = o0 → r0 = r := fun r0 e => by subst e; exact Option.some.inj h
    have hgo0 : ∀ (text_3 : ByteArray), .go text_3 = o0 → ∀ f, FOk f [⟨0, [], .sl false l_.length (cat api_Rec.v l_)⟩, ⟨1, [], .s (.int .i64 line_)⟩, ⟨4, [], .s (.bool false)⟩, ⟨6, [], .s (.string text_3)⟩, ⟨7, [], .ref 1 0 0 0⟩] → kont Tryd.prog [] (spinetlaw50_WaveDraws_C r) ((.c spinetlaw50_WaveDraws_i70) :: []) .normal f [⟨0, .mem, 1, cat nS [(⟨#[82, 69, 65, 68, 32]⟩ : ByteArray), (⟨#[66, 65, 32, 32, 32]⟩ : ByteArray), (⟨#[66, 83, 32, 32, 32]⟩ : ByteArray), (⟨#[76, 73, 67, 32, 32]⟩ : ByteArray), (⟨#[65, 86, 77, 65, 32]⟩ : ByteArray), (⟨#[66, 85, 83, 89, 32]⟩ : ByteArray), (⟨#[77, 73, 78, 69, 32]⟩ : ByteArray)]⟩, ⟨0, .grow, 9, cat api_Rec.v ([] : List api_Rec)⟩] := by
      intro text_3 e f hf
      subst e
      refine k_c ?_
      refine k_seq ?_
      refine k_reg ?_
      refine mops_en hf (by kernel_rfl) fun f1 hf1 => ?_
      refine k_c ?_
      refine k_seq ?_
      refine k_seq ?_
      refine k_reg ?_
      refine mops_en hf1 (by kernel_rfl) fun f2 hf2 => ?_
      refine k_c ?_
      refine k_block ?_
      obtain ⟨o2, hx2, h⟩ := Option.bind_eq_some_iff.1 h
      have hgo2 : ∀ (l_3 : (List api_Rec)) (rises_2 : Int) (high_2 : Int) (v_2 : Nat), (l_3, rises_2, high_2) = o2 → ∀ f, FOk f [⟨0, [], .sl false l_.length (cat api_Rec.v l_)⟩, ⟨1, [], .s (.int .i64 line_)⟩, ⟨4, [], .s (.bool false)⟩, ⟨6, [], .s (.string text_3)⟩, ⟨7, [], .ref 1 v_2 0 l_3.length⟩, ⟨11, [], .s (.int .i64 rises_2)⟩, ⟨12, [], .s (.int .i64 high_2)⟩] → kont Tryd.prog [] (spinetlaw50_WaveDraws_C r) ((.c spinetlaw50_WaveDraws_i68) :: []) .normal f [⟨0, .mem, 1, cat nS [(⟨#[82, 69, 65, 68, 32]⟩ : ByteArray), (⟨#[66, 65, 32, 32, 32]⟩ : ByteArray), (⟨#[66, 83, 32, 32, 32]⟩ : ByteArray), (⟨#[76, 73, 67, 32, 32]⟩ : ByteArray), (⟨#[65, 86, 77, 65, 32]⟩ : ByteArray), (⟨#[66, 85, 83, 89, 32]⟩ : ByteArray), (⟨#[77, 73, 78, 69, 32]⟩ : ByteArray)]⟩, ⟨v_2, .grow, 9, cat api_Rec.v l_3⟩] := by
        intro l_3 rises_2 high_2 v_2 e f hf
        subst e
        refine k_c ?_
        refine k_seq ?_
        refine k_seq ?_
        refine k_reg ?_
        refine mops_sg 9 hf (by kernel_rfl) fun f1 hf1 => ?_
        obtain ⟨r_22, hx_r_22, h⟩ := Option.bind_eq_some_iff.1 h
        refine mops_gcall (dst := (some 101)) (m := 9) (args := [(.t 99), (.t 100)]) (aft := [7, 8, 6, 6]) (t := 98) (w := true) (ch := [(98, true)]) (b := ((decide (line_ < 0)) || (decide (6 < line_)))) (by kernel_rfl) hf1 (by kernel_rfl) (by kernel_rfl) (av := [.s (.int .i64 line_), .sl false l_.length (cat api_Rec.v l_)]) (by kernel_rfl) (v := .s (.string r_22)) (by kernel_rfl) (fun hb23 => (CalL.pure (wave_Line_ok line_ l_ r_22 (if_t hx_r_22 hb23)) (by simp [V.static, statics, cat_stat]) rfl (Nat.le_of_ble_eq_true (by kernel_rfl)))) fun f2 hf2 => ?_
        refine mops_en hf2 (by kernel_rfl) fun f3 hf3 => ?_
        refine k_c ?_
        refine k_cond hf3 (t := (((decide (line_ < 0)) || (decide (6 < line_))) && (!(r_22.toList == (⟨#[]⟩ : ByteArray).toList)))) (by kernel_rfl) (fun hc24 => ?_) (fun hc24 => ?_)
        · have h := if_t h hc24
          refine k_seq ?_
          refine k_reg ?_
          refine mops_en hf3 (by kernel_rfl) fun f4 hf4 => ?_
          refine k_c ?_
          refine k_ret ?_
          refine x_c nofun ?_
          obtain rfl := Option.some.inj h
          exact k_fin (fin_ret (.inl rfl) hf4 (vs := [.s (.bool false)]) (by kernel_rfl) (SettL.pure (FzL.stat rfl)))
        · have h := if_f h hc24
          refine k_skip ?_
          refine k_c ?_
          refine k_seq ?_
          refine k_reg ?_
          refine mops_sg 1 hf3 (by kernel_rfl) fun f4 hf4 => ?_
          obtain ⟨r_23, hx_r_23, h⟩ := Option.bind_eq_some_iff.1 h
          refine mops_call rfl hf4 (av := [.s (.string text_3)]) (by kernel_rfl) (v := .tup [.sl false r_23.1.length (cat api_Rec.v r_23.1), .s (.int .i64 r_23.2)]) (CalL.pure (wave_Read_ok text_3 r_23 hx_r_23) rfl (by simp [V.static, statics, cat_stat, wave_Read_V]) (Nat.le_of_ble_eq_true (by kernel_rfl))) (fun _ => rfl) fun f5 hf5 => ?_
          refine mops_en hf5 (by kernel_rfl) fun f6 hf6 => ?_
          refine k_c ?_
          refine k_seq ?_
          refine k_reg ?_
          refine mops_sg 1 hf6 (by kernel_rfl) fun f7 hf7 => ?_
          obtain ⟨r_24, hx_r_24, h⟩ := Option.bind_eq_some_iff.1 h
          refine mops_call rfl hf7 (av := [.sl false l_.length (cat api_Rec.v l_)]) (by kernel_rfl) (v := .s (.string r_24)) (CalL.pure (wave_Text_ok l_ r_24 hx_r_24) (by simp [V.static, statics, cat_stat]) rfl (Nat.le_of_ble_eq_true (by kernel_rfl))) (fun _ => rfl) fun f8 hf8 => ?_
          refine mops_sg 5 hf8 (by kernel_rfl) fun f9 hf9 => ?_
          obtain ⟨r_25, hx_r_25, h⟩ := Option.bind_eq_some_iff.1 h
          refine mops_gcall (dst := (some 116)) (m := 10) (args := [(.t 114), (.t 115)]) (aft := [5, 6, 4, 4]) (t := 113) (w := true) (ch := [(113, true)]) (b := (r_24.toList == text_3.toList)) (by kernel_rfl) hf9 (by kernel_rfl) (by kernel_rfl) (av := [.s (.int .i64 line_), .sl false l_.length (cat api_Rec.v l_)]) (by kernel_rfl) (v := .s (.int .i64 r_25)) (by kernel_rfl) (fun hb25 => (CalL.pure (wave_Rises_ok line_ l_ r_25 (if_t hx_r_25 hb25)) (by simp [V.static, statics, cat_stat]) rfl (Nat.le_of_ble_eq_true (by kernel_rfl)))) fun f10 hf10 => ?_
          refine mops_sg 6 hf10 (by kernel_rfl) fun f11 hf11 => ?_
          obtain ⟨r_26, hx_r_26, h⟩ := Option.bind_eq_some_iff.1 h
          refine mops_gcall (dst := (some 123)) (m := 11) (args := [(.t 121), (.t 122)]) (aft := [12, 13, 11, 11]) (t := 120) (w := true) (ch := [(120, true)]) (b := ((r_24.toList == text_3.toList) && (r_25 == rises_2))) (by kernel_rfl) hf11 (by kernel_rfl) (by kernel_rfl) (av := [.s (.int .i64 line_), .sl false l_.length (cat api_Rec.v l_)]) (by kernel_rfl) (v := .s (.int .i64 r_26)) (by kernel_rfl) (fun hb26 => (CalL.pure (wave_High_ok line_ l_ r_26 (if_t hx_r_26 hb26)) (by simp [V.static, statics, cat_stat]) rfl (Nat.le_of_ble_eq_true (by kernel_rfl)))) fun f12 hf12 => ?_
          refine mops_seg [4, 16, 127, 128, 129] 6 hf12 (l' := [⟨4, [], .s (.bool false)⟩, ⟨16, [], .s (.int .i64 r_23.2)⟩, ⟨127, [], .s (.bool (((r_24.toList == text_3.toList) && (r_25 == rises_2)) && (r_26 == high_2)))⟩, ⟨128, [(127, true)], .sl false r_23.1.length (cat api_Rec.v r_23.1)⟩, ⟨129, [(127, true)], .ref 1 v_2 0 l_3.length⟩]) (L' := [⟨0, .mem, 1, cat nS [(⟨#[82, 69, 65, 68, 32]⟩ : ByteArray), (⟨#[66, 65, 32, 32, 32]⟩ : ByteArray), (⟨#[66, 83, 32, 32, 32]⟩ : ByteArray), (⟨#[76, 73, 67, 32, 32]⟩ : ByteArray), (⟨#[65, 86, 77, 65, 32]⟩ : ByteArray), (⟨#[66, 85, 83, 89, 32]⟩ : ByteArray), (⟨#[77, 73, 78, 69, 32]⟩ : ByteArray)]⟩, ⟨v_2, .grow, 9, cat api_Rec.v l_3⟩]) (by kernel_rfl) fun f13 hf13 => ?_
          obtain ⟨r_27, hx_r_27, h⟩ := Option.bind_eq_some_iff.1 h
          refine mops_gcall (dst := (some 130)) (m := 12) (args := [(.t 128), (.t 129)]) (aft := [19, 20, 18, 18]) (t := 127) (w := true) (ch := [(127, true)]) (b := (((r_24.toList == text_3.toList) && (r_25 == rises_2)) && (r_26 == high_2))) (by kernel_rfl) hf13 (by kernel_rfl) (by kernel_rfl) (av := [.sl false r_23.1.length (cat api_Rec.v r_23.1), .ref 1 v_2 0 l_3.length]) (by kernel_rfl) (v := .s (.bool r_27)) (by kernel_rfl) (fun hb27 => (CalL.lend (slices_Equal_sl_api_Rec_api_Rec_ok r_23.1 l_3 r_27 (if_t hx_r_27 hb27)) rfl (Lends.cons (Lend.stat (by simp [V.static, cat_stat])) (Lends.cons (Lend.whole (g := api_Rec.v) (kd := .grow) (l := l_3) rfl (live_grow (by kernel_rfl))) Lends.nil)) (by kernel_rfl))) fun f14 hf14 => ?_
          refine mops_sg 6 hf14 (by kernel_rfl) fun f15 hf15 => ?_
          obtain ⟨r_28, hx_r_28, h⟩ := Option.bind_eq_some_iff.1 h
          refine mops_gcall (dst := (some 137)) (m := 7) (args := []) (aft := [27, 27]) (t := 136) (w := true) (ch := [(136, true)]) (b := (((((r_24.toList == text_3.toList) && (r_25 == rises_2)) && (r_26 == high_2)) && r_27) && (r_23.2 == 0))) (by kernel_rfl) hf15 (by kernel_rfl) (by kernel_rfl) (av := []) (by kernel_rfl) (v := .s (.bool r_28)) (by kernel_rfl) (fun hb28 => (CalL.pure (spinetlaw50_alive_ok  r_28 (if_t hx_r_28 hb28)) rfl rfl (Nat.le_of_ble_eq_true (by kernel_rfl)))) fun f16 hf16 => ?_
          refine mops_en hf16 (by kernel_rfl) fun f17 hf17 => ?_
          refine k_c ?_
          refine k_ret ?_
          obtain rfl := Option.some.inj h
          exact k_fin (fin_ret (.inl rfl) hf17 (vs := [.s (.bool ((((((r_24.toList == text_3.toList) && (r_25 == rises_2)) && (r_26 == high_2)) && r_27) && (r_23.2 == 0)) && r_28))]) (by kernel_rfl) (SettL.pure (FzL.stat rfl)))
      refine k_loop BIG ?_
      refine loop_ind (fun n f L => ∃ (l_2 : (List api_Rec)) (rises_1 : Int) (high_1 : Int) (i_13 : Int) (v_1 : Nat), spinetlaw50_WaveDraws_l5 l_ line_ n l_2 rises_1 high_1 i_13 = some o2 ∧ FOk f [⟨0, [], .sl false l_.length (cat api_Rec.v l_)⟩, ⟨1, [], .s (.int .i64 line_)⟩, ⟨4, [], .s (.bool false)⟩, ⟨6, [], .s (.string text_3)⟩, ⟨7, [], .ref 1 v_1 0 l_2.length⟩, ⟨11, [], .s (.int .i64 rises_1)⟩, ⟨12, [], .s (.int .i64 high_1)⟩, ⟨13, [], .s (.int .i64 i_13)⟩] ∧ L = [⟨0, .mem, 1, cat nS [(⟨#[82, 69, 65, 68, 32]⟩ : ByteArray), (⟨#[66, 65, 32, 32, 32]⟩ : ByteArray), (⟨#[66, 83, 32, 32, 32]⟩ : ByteArray), (⟨#[76, 73, 67, 32, 32]⟩ : ByteArray), (⟨#[65, 86, 77, 65, 32]⟩ : ByteArray), (⟨#[66, 85, 83, 89, 32]⟩ : ByteArray), (⟨#[77, 73, 78, 69, 32]⟩ : ByteArray)]⟩, ⟨v_1, .grow, 9, cat api_Rec.v l_2⟩]) ?_ ?_ BIG _ _ ⟨([] : List api_Rec), (0), (0), (0), (0), hx2, FOk_of [0, 1, 4, 6, 7, 11, 12, 13] hf2 (by kernel_rfl), (by kernel_rfl)⟩
      · rintro f L ⟨l_2, rises_1, high_1, i_13, v_1, h, _⟩
        cases (show (none : Option _) = some _ from h)
      · rintro n2 R2 ih f L ⟨l_2, rises_1, high_1, i_13, v_1, h, hf, rfl⟩
        rw [spinetlaw50_WaveDraws_l5] at h
        refine k_seq ?_
        refine k_seq ?_
        refine k_reg ?_
        refine mops_en hf (by kernel_rfl) fun f1 hf1 => ?_
        refine k_c ?_
        refine k_cond hf1 (t := (decide (i_13 < (ln l_)))) (by kernel_rfl) (fun hc13 => ?_) (fun hc13 => ?_)
        · have h := if_t h hc13
          refine k_skip ?_
          refine k_c ?_
          refine k_seq ?_
          refine k_block ?_
          refine k_seq ?_
          refine k_reg ?_
          refine mops_sg 2 hf1 (by kernel_rfl) fun f2 hf2 => ?_
          obtain ⟨c14, h⟩ := as_ok h
          refine mops_adv rfl (v := .ip ((cat api_Rec.v l_).drop ((i_13 : Int).toNat * 9))) hf2 (by kernel_rfl) (e_ias (n := l_.length) (xv := .sl false l_.length (cat api_Rec.v l_)) (k := .i64) (iv := i_13) (p := .ip ((cat api_Rec.v l_).drop ((i_13 : Int).toNat * 9))) (by kernel_rfl) (by kernel_rfl) (by kernel_rfl) (by kernel_rfl) c14) fun f3 hf3 => ?_
          refine mops_adv rfl (v := .agg [.s (.int .u16 (gt l_ i_13).Addr), .s (.int .u8 (gt l_ i_13).Data), .s (.bool (gt l_ i_13).Read), .s (.bool (gt l_ i_13).BA), .s (.bool (gt l_ i_13).BS), .s (.bool (gt l_ i_13).LIC), .s (.bool (gt l_ i_13).AVMA), .s (.bool (gt l_ i_13).BUSY), .s (.bool (gt l_ i_13).Mine)]) hf3 (by kernel_rfl) (e_load_ip (g := api_Rec.v) (l := l_) (iv := i_13) [] (by kernel_rfl) c14 (by kernel_rfl) (by kernel_rfl)) fun f4 hf4 => ?_
          refine mops_en hf4 (by kernel_rfl) fun f5 hf5 => ?_
          refine k_c ?_
          refine k_seq ?_
          refine k_reg ?_
          refine mops_en hf5 (by kernel_rfl) fun f6 hf6 => ?_
          refine k_c ?_
          refine k_seq ?_
          refine k_reg ?_
          refine mops_sg 3 hf6 (by kernel_rfl) fun f7 hf7 => ?_
          obtain ⟨c15, h⟩ := as_ok h
          refine mops_adv rfl (v := .ref 1 (v_1 + 1) 0 (l_2 ++ [(api_Rec.mk (0) (0) ((gt l_ i_13).Read) ((gt l_ i_13).BA) ((gt l_ i_13).BS) ((gt l_ i_13).LIC) ((gt l_ i_13).AVMA) ((gt l_ i_13).BUSY) ((gt l_ i_13).Mine))]).length) hf7 (by kernel_rfl) (e_app (g := api_Rec.v) (l := l_2) (l' := [(api_Rec.mk (0) (0) ((gt l_ i_13).Read) ((gt l_ i_13).BA) ((gt l_ i_13).BS) ((gt l_ i_13).LIC) ((gt l_ i_13).AVMA) ((gt l_ i_13).BUSY) ((gt l_ i_13).Mine))]) (b := 1) (ver := v_1) (n := l_2.length) rfl (by kernel_rfl) rfl (live_grow (by kernel_rfl)) (sll_ev (v := .ref 3 0 0 1) (by kernel_rfl) (sll_ref (B := ⟨0, .grow, 9, cat api_Rec.v [(api_Rec.mk (0) (0) ((gt l_ i_13).Read) ((gt l_ i_13).BA) ((gt l_ i_13).BS) ((gt l_ i_13).LIC) ((gt l_ i_13).AVMA) ((gt l_ i_13).BUSY) ((gt l_ i_13).Mine))]⟩) (by kernel_rfl) (live_grow (by kernel_rfl)))) (slc_ev (v := .ref 3 0 0 1) (by kernel_rfl) (slc_ref (g := api_Rec.v) (l := [(api_Rec.mk (0) (0) ((gt l_ i_13).Read) ((gt l_ i_13).BA) ((gt l_ i_13).BS) ((gt l_ i_13).LIC) ((gt l_ i_13).AVMA) ((gt l_ i_13).BUSY) ((gt l_ i_13).Mine))]) (kd := .grow) (q := 9) (by kernel_rfl) (live_grow (by kernel_rfl)))) c15) fun f8 hf8 => ?_
          refine mops_en hf8 (by kernel_rfl) fun f9 hf9 => ?_
          refine k_c ?_
          refine k_seq ?_
          refine k_reg ?_
          refine mops_sg 2 hf9 (by kernel_rfl) fun f10 hf10 => ?_
          obtain ⟨c16, h⟩ := as_ok h
          refine mops_adv rfl (v := .ip ((cat api_Rec.v l_).drop ((i_13 : Int).toNat * 9))) hf10 (by kernel_rfl) (e_ias (n := l_.length) (xv := .sl false l_.length (cat api_Rec.v l_)) (k := .i64) (iv := i_13) (p := .ip ((cat api_Rec.v l_).drop ((i_13 : Int).toNat * 9))) (by kernel_rfl) (by kernel_rfl) (by kernel_rfl) (by kernel_rfl) c16) fun f11 hf11 => ?_
          refine mops_adv rfl (v := .agg [.s (.int .u16 (gt l_ i_13).Addr), .s (.int .u8 (gt l_ i_13).Data), .s (.bool (gt l_ i_13).Read), .s (.bool (gt l_ i_13).BA), .s (.bool (gt l_ i_13).BS), .s (.bool (gt l_ i_13).LIC), .s (.bool (gt l_ i_13).AVMA), .s (.bool (gt l_ i_13).BUSY), .s (.bool (gt l_ i_13).Mine)]) hf11 (by kernel_rfl) (e_load_ip (g := api_Rec.v) (l := l_) (iv := i_13) [] (by kernel_rfl) c16 (by kernel_rfl) (by kernel_rfl)) fun f12 hf12 => ?_
          refine mops_sg 1 hf12 (by kernel_rfl) fun f13 hf13 => ?_
          obtain ⟨r_20, hx_r_20, h⟩ := Option.bind_eq_some_iff.1 h
          refine mops_call rfl hf13 (av := [.agg [.s (.int .u16 (gt l_ i_13).Addr), .s (.int .u8 (gt l_ i_13).Data), .s (.bool (gt l_ i_13).Read), .s (.bool (gt l_ i_13).BA), .s (.bool (gt l_ i_13).BS), .s (.bool (gt l_ i_13).LIC), .s (.bool (gt l_ i_13).AVMA), .s (.bool (gt l_ i_13).BUSY), .s (.bool (gt l_ i_13).Mine)], .s (.int .i64 line_)]) (by kernel_rfl) (v := .s (.bool r_20)) (CalL.pure (spinetlaw50_on_ok (gt l_ i_13) line_ r_20 hx_r_20) rfl rfl (Nat.le_of_ble_eq_true (by kernel_rfl))) (fun _ => rfl) fun f14 hf14 => ?_
          refine mops_en hf14 (by kernel_rfl) fun f15 hf15 => ?_
          refine k_c ?_
          refine k_cond hf15 (t := r_20) (by kernel_rfl) (fun hc17 => ?_) (fun hc17 => ?_)
          · have h := if_t h hc17
            refine k_seq ?_
            refine k_reg ?_
            refine mops_en hf15 (by kernel_rfl) fun f16 hf16 => ?_
            refine k_c ?_
            refine k_seq ?_
            refine k_reg ?_
            refine mops_seg [0, 1, 4, 6, 7, 11, 12, 13, 14, 54, 55, 56, 57, 60, 61, 62, 63, 64, 65, 66, 67, 68, 69, 70, 71, 72, 73, 74, 75, 76, 77, 78, 79, 80, 81, 82, 83] 6 hf16 (l' := [⟨0, [], .sl false l_.length (cat api_Rec.v l_)⟩, ⟨1, [], .s (.int .i64 line_)⟩, ⟨4, [], .s (.bool false)⟩, ⟨6, [], .s (.string text_3)⟩, ⟨7, [], .ref 1 (v_1 + 1) 0 (l_2 ++ [(api_Rec.mk (0) (0) ((gt l_ i_13).Read) ((gt l_ i_13).BA) ((gt l_ i_13).BS) ((gt l_ i_13).LIC) ((gt l_ i_13).AVMA) ((gt l_ i_13).BUSY) ((gt l_ i_13).Mine))]).length⟩, ⟨11, [], .s (.int .i64 rises_1)⟩, ⟨12, [], .s (.int .i64 (IntKind.wrap .i64 (high_1 + 1)))⟩, ⟨13, [], .s (.int .i64 i_13)⟩, ⟨14, [], .ptr 2 0 0⟩, ⟨54, [], .s (.int .i64 i_13)⟩, ⟨55, [], .sl false l_.length (cat api_Rec.v l_)⟩, ⟨56, [], .s (.int .i64 (ln l_))⟩, ⟨57, [], .s (.bool (decide (i_13 < (ln l_))))⟩, ⟨60, [], .sl false l_.length (cat api_Rec.v l_)⟩, ⟨61, [], .s (.int .i64 i_13)⟩, ⟨62, [], .ip ((cat api_Rec.v l_).drop ((i_13 : Int).toNat * 9))⟩, ⟨63, [], .agg [.s (.int .u16 (gt l_ i_13).Addr), .s (.int .u8 (gt l_ i_13).Data), .s (.bool (gt l_ i_13).Read), .s (.bool (gt l_ i_13).BA), .s (.bool (gt l_ i_13).BS), .s (.bool (gt l_ i_13).LIC), .s (.bool (gt l_ i_13).AVMA), .s (.bool (gt l_ i_13).BUSY), .s (.bool (gt l_ i_13).Mine)]⟩, ⟨64, [], .ptr 2 0 0⟩, ⟨65, [], .ptr 2 0 1⟩, ⟨66, [], .ref 1 v_1 0 l_2.length⟩, ⟨67, [], .agg [.s (.int .u16 0), .s (.int .u8 0), .s (.bool (gt l_ i_13).Read), .s (.bool (gt l_ i_13).BA), .s (.bool (gt l_ i_13).BS), .s (.bool (gt l_ i_13).LIC), .s (.bool (gt l_ i_13).AVMA), .s (.bool (gt l_ i_13).BUSY), .s (.bool (gt l_ i_13).Mine)]⟩, ⟨68, [], .ref 3 0 0 1⟩, ⟨69, [], .ref 1 (v_1 + 1) 0 (l_2 ++ [(api_Rec.mk (0) (0) ((gt l_ i_13).Read) ((gt l_ i_13).BA) ((gt l_ i_13).BS) ((gt l_ i_13).LIC) ((gt l_ i_13).AVMA) ((gt l_ i_13).BUSY) ((gt l_ i_13).Mine))]).length⟩, ⟨70, [], .sl false l_.length (cat api_Rec.v l_)⟩, ⟨71, [], .s (.int .i64 i_13)⟩, ⟨72, [], .ip ((cat api_Rec.v l_).drop ((i_13 : Int).toNat * 9))⟩, ⟨73, [], .agg [.s (.int .u16 (gt l_ i_13).Addr), .s (.int .u8 (gt l_ i_13).Data), .s (.bool (gt l_ i_13).Read), .s (.bool (gt l_ i_13).BA), .s (.bool (gt l_ i_13).BS), .s (.bool (gt l_ i_13).LIC), .s (.bool (gt l_ i_13).AVMA), .s (.bool (gt l_ i_13).BUSY), .s (.bool (gt l_ i_13).Mine)]⟩, ⟨74, [], .s (.int .i64 line_)⟩, ⟨75, [], .s (.bool r_20)⟩, ⟨76, [], .s (.int .i64 high_1)⟩, ⟨77, [], .s (.int .i64 (IntKind.wrap .i64 (high_1 + 1)))⟩, ⟨78, [], .s (.int .i64 i_13)⟩, ⟨79, [], .s (.bool (i_13 == 0))⟩, ⟨80, [], .s (.bool (i_13 == 0))⟩, ⟨81, [(80, false)], .sl false l_.length (cat api_Rec.v l_)⟩, ⟨82, [(80, false)], .s (.int .i64 i_13)⟩, ⟨83, [(80, false)], .s (.int .i64 (IntKind.wrap .i64 (i_13 - 1)))⟩]) (L' := [⟨0, .mem, 1, cat nS [(⟨#[82, 69, 65, 68, 32]⟩ : ByteArray), (⟨#[66, 65, 32, 32, 32]⟩ : ByteArray), (⟨#[66, 83, 32, 32, 32]⟩ : ByteArray), (⟨#[76, 73, 67, 32, 32]⟩ : ByteArray), (⟨#[65, 86, 77, 65, 32]⟩ : ByteArray), (⟨#[66, 85, 83, 89, 32]⟩ : ByteArray), (⟨#[77, 73, 78, 69, 32]⟩ : ByteArray)]⟩, ⟨(v_1 + 1), .grow, 9, cat api_Rec.v (l_2 ++ [(api_Rec.mk (0) (0) ((gt l_ i_13).Read) ((gt l_ i_13).BA) ((gt l_ i_13).BS) ((gt l_ i_13).LIC) ((gt l_ i_13).AVMA) ((gt l_ i_13).BUSY) ((gt l_ i_13).Mine))])⟩, ⟨0, .mem, 1, [.s (.int .u16 0), .s (.int .u8 0), .s (.bool (gt l_ i_13).Read), .s (.bool (gt l_ i_13).BA), .s (.bool (gt l_ i_13).BS), .s (.bool (gt l_ i_13).LIC), .s (.bool (gt l_ i_13).AVMA), .s (.bool (gt l_ i_13).BUSY), .s (.bool (gt l_ i_13).Mine)]⟩, ⟨0, .grow, 9, cat api_Rec.v [(api_Rec.mk (0) (0) ((gt l_ i_13).Read) ((gt l_ i_13).BA) ((gt l_ i_13).BS) ((gt l_ i_13).LIC) ((gt l_ i_13).AVMA) ((gt l_ i_13).BUSY) ((gt l_ i_13).Mine))]⟩]) (by kernel_rfl) fun f17 hf17 => ?_
            obtain ⟨c18, h⟩ := as_ok h
            refine mops_gadv (dst := (some 84)) (op := (.ias 9 (.t 81) (.t 83))) (aft := [3, 5, 2]) (t := 80) (w := false) (ch := [(80, false)]) (b := (!(i_13 == 0))) (v := .ip ((cat api_Rec.v l_).drop (((IntKind.wrap .i64 (i_13 - 1)) : Int).toNat * 9))) (by kernel_rfl) hf17 (by kernel_rfl) (by kernel_rfl) (by kernel_rfl) (fun hb19 => e_ias (n := l_.length) (xv := .sl false l_.length (cat api_Rec.v l_)) (k := .i64) (iv := (IntKind.wrap .i64 (i_13 - 1))) (p := .ip ((cat api_Rec.v l_).drop (((IntKind.wrap .i64 (i_13 - 1)) : Int).toNat * 9))) (by kernel_rfl) (by kernel_rfl) (by kernel_rfl) (by kernel_rfl) (c18 hb19)) fun f18 hf18 => ?_
            refine mops_gadv (dst := (some 85)) (op := (.load true 9 (.t 84))) (aft := [6, 2]) (t := 80) (w := false) (ch := [(80, false)]) (b := (!(i_13 == 0))) (v := .agg [.s (.int .u16 (gt l_ (IntKind.wrap .i64 (i_13 - 1))).Addr), .s (.int .u8 (gt l_ (IntKind.wrap .i64 (i_13 - 1))).Data), .s (.bool (gt l_ (IntKind.wrap .i64 (i_13 - 1))).Read), .s (.bool (gt l_ (IntKind.wrap .i64 (i_13 - 1))).BA), .s (.bool (gt l_ (IntKind.wrap .i64 (i_13 - 1))).BS), .s (.bool (gt l_ (IntKind.wrap .i64 (i_13 - 1))).LIC), .s (.bool (gt l_ (IntKind.wrap .i64 (i_13 - 1))).AVMA), .s (.bool (gt l_ (IntKind.wrap .i64 (i_13 - 1))).BUSY), .s (.bool (gt l_ (IntKind.wrap .i64 (i_13 - 1))).Mine)]) (by kernel_rfl) hf18 (by kernel_rfl) (by kernel_rfl) (by kernel_rfl) (fun hb20 => e_load_ip (g := api_Rec.v) (l := l_) (iv := (IntKind.wrap .i64 (i_13 - 1))) [] (by kernel_rfl) (c18 hb20) (by kernel_rfl) (by kernel_rfl)) fun f19 hf19 => ?_
            refine mops_sg 1 hf19 (by kernel_rfl) fun f20 hf20 => ?_
            obtain ⟨r_21, hx_r_21, h⟩ := Option.bind_eq_some_iff.1 h
            refine mops_gcall (dst := (some 87)) (m := 8) (args := [(.t 85), (.t 86)]) (aft := [7, 8, 2, 2]) (t := 80) (w := false) (ch := [(80, false)]) (b := (!(i_13 == 0))) (by kernel_rfl) hf20 (by kernel_rfl) (by kernel_rfl) (av := [.agg [.s (.int .u16 (gt l_ (IntKind.wrap .i64 (i_13 - 1))).Addr), .s (.int .u8 (gt l_ (IntKind.wrap .i64 (i_13 - 1))).Data), .s (.bool (gt l_ (IntKind.wrap .i64 (i_13 - 1))).Read), .s (.bool (gt l_ (IntKind.wrap .i64 (i_13 - 1))).BA), .s (.bool (gt l_ (IntKind.wrap .i64 (i_13 - 1))).BS), .s (.bool (gt l_ (IntKind.wrap .i64 (i_13 - 1))).LIC), .s (.bool (gt l_ (IntKind.wrap .i64 (i_13 - 1))).AVMA), .s (.bool (gt l_ (IntKind.wrap .i64 (i_13 - 1))).BUSY), .s (.bool (gt l_ (IntKind.wrap .i64 (i_13 - 1))).Mine)], .s (.int .i64 line_)]) (by kernel_rfl) (v := .s (.bool r_21)) (by kernel_rfl) (fun hb21 => (CalL.pure (spinetlaw50_on_ok (gt l_ (IntKind.wrap .i64 (i_13 - 1))) line_ r_21 (if_t hx_r_21 hb21)) rfl rfl (Nat.le_of_ble_eq_true (by kernel_rfl)))) fun f21 hf21 => ?_
            refine mops_en hf21 (by kernel_rfl) fun f22 hf22 => ?_
            refine k_c ?_
            refine k_cond hf22 (t := ((i_13 == 0) || (!r_21))) (by kernel_rfl) (fun hc22 => ?_) (fun hc22 => ?_)
            · have h := if_t h hc22
              refine k_reg ?_
              refine mops_en hf22 (by kernel_rfl) fun f23 hf23 => ?_
              refine k_b ?_
              refine k_c ?_
              refine k_reg ?_
              refine mops_en hf23 (by kernel_rfl) fun f24 hf24 => ?_
              refine k_l' (vs_cut (l := [⟨0, [], .sl false l_.length (cat api_Rec.v l_)⟩, ⟨1, [], .s (.int .i64 line_)⟩, ⟨4, [], .s (.bool false)⟩, ⟨6, [], .s (.string text_3)⟩, ⟨7, [], .ref 1 (v_1 + 1) 0 (l_2 ++ [(api_Rec.mk (0) (0) ((gt l_ i_13).Read) ((gt l_ i_13).BA) ((gt l_ i_13).BS) ((gt l_ i_13).LIC) ((gt l_ i_13).AVMA) ((gt l_ i_13).BUSY) ((gt l_ i_13).Mine))]).length⟩, ⟨11, [], .s (.int .i64 (IntKind.wrap .i64 (rises_1 + 1)))⟩, ⟨12, [], .s (.int .i64 (IntKind.wrap .i64 (high_1 + 1)))⟩, ⟨13, [], .s (.int .i64 (IntKind.wrap .i64 (i_13 + 1)))⟩]) 2 (by kernel_rfl) (by kernel_rfl) (L' := [⟨0, .mem, 1, cat nS [(⟨#[82, 69, 65, 68, 32]⟩ : ByteArray), (⟨#[66, 65, 32, 32, 32]⟩ : ByteArray), (⟨#[66, 83, 32, 32, 32]⟩ : ByteArray), (⟨#[76, 73, 67, 32, 32]⟩ : ByteArray), (⟨#[65, 86, 77, 65, 32]⟩ : ByteArray), (⟨#[66, 85, 83, 89, 32]⟩ : ByteArray), (⟨#[77, 73, 78, 69, 32]⟩ : ByteArray)]⟩, ⟨(v_1 + 1), .grow, 9, cat api_Rec.v (l_2 ++ [(api_Rec.mk (0) (0) ((gt l_ i_13).Read) ((gt l_ i_13).BA) ((gt l_ i_13).BS) ((gt l_ i_13).LIC) ((gt l_ i_13).AVMA) ((gt l_ i_13).BUSY) ((gt l_ i_13).Mine))])⟩]) (by kernel_rfl) ⟨⟨rfl, (static_under _ _ (by simp [V.static, statics, cat_stat, dropcat_stat]))⟩, ⟨rfl, rfl⟩, ⟨rfl, rfl⟩, ⟨rfl, rfl⟩, ⟨rfl, rfl⟩, ⟨rfl, rfl⟩, ⟨rfl, rfl⟩, ⟨rfl, rfl⟩, trivial⟩ ⟨.inr (.inr (statics_unders _ _ (cat_stat _))), .inr (.inr (statics_unders _ _ (cat_stat _))), trivial⟩ (FOk_of [0, 1, 4, 6, 7, 11, 12, 13] hf24 (by kernel_rfl)) fun f hf => ?_)
              exact ih _ _ ⟨(l_2 ++ [(api_Rec.mk (0) (0) ((gt l_ i_13).Read) ((gt l_ i_13).BA) ((gt l_ i_13).BS) ((gt l_ i_13).LIC) ((gt l_ i_13).AVMA) ((gt l_ i_13).BUSY) ((gt l_ i_13).Mine))]), (IntKind.wrap .i64 (rises_1 + 1)), (IntKind.wrap .i64 (high_1 + 1)), (IntKind.wrap .i64 (i_13 + 1)), (v_1 + 1), h, hf, rfl⟩
            · have h := if_f h hc22
              refine k_skip ?_
              refine k_b ?_
              refine k_c ?_
              refine k_reg ?_
              refine mops_en hf22 (by kernel_rfl) fun f23 hf23 => ?_
              refine k_l' (vs_cut (l := [⟨0, [], .sl false l_.length (cat api_Rec.v l_)⟩, ⟨1, [], .s (.int .i64 line_)⟩, ⟨4, [], .s (.bool false)⟩, ⟨6, [], .s (.string text_3)⟩, ⟨7, [], .ref 1 (v_1 + 1) 0 (l_2 ++ [(api_Rec.mk (0) (0) ((gt l_ i_13).Read) ((gt l_ i_13).BA) ((gt l_ i_13).BS) ((gt l_ i_13).LIC) ((gt l_ i_13).AVMA) ((gt l_ i_13).BUSY) ((gt l_ i_13).Mine))]).length⟩, ⟨11, [], .s (.int .i64 rises_1)⟩, ⟨12, [], .s (.int .i64 (IntKind.wrap .i64 (high_1 + 1)))⟩, ⟨13, [], .s (.int .i64 (IntKind.wrap .i64 (i_13 + 1)))⟩]) 2 (by kernel_rfl) (by kernel_rfl) (L' := [⟨0, .mem, 1, cat nS [(⟨#[82, 69, 65, 68, 32]⟩ : ByteArray), (⟨#[66, 65, 32, 32, 32]⟩ : ByteArray), (⟨#[66, 83, 32, 32, 32]⟩ : ByteArray), (⟨#[76, 73, 67, 32, 32]⟩ : ByteArray), (⟨#[65, 86, 77, 65, 32]⟩ : ByteArray), (⟨#[66, 85, 83, 89, 32]⟩ : ByteArray), (⟨#[77, 73, 78, 69, 32]⟩ : ByteArray)]⟩, ⟨(v_1 + 1), .grow, 9, cat api_Rec.v (l_2 ++ [(api_Rec.mk (0) (0) ((gt l_ i_13).Read) ((gt l_ i_13).BA) ((gt l_ i_13).BS) ((gt l_ i_13).LIC) ((gt l_ i_13).AVMA) ((gt l_ i_13).BUSY) ((gt l_ i_13).Mine))])⟩]) (by kernel_rfl) ⟨⟨rfl, (static_under _ _ (by simp [V.static, statics, cat_stat, dropcat_stat]))⟩, ⟨rfl, rfl⟩, ⟨rfl, rfl⟩, ⟨rfl, rfl⟩, ⟨rfl, rfl⟩, ⟨rfl, rfl⟩, ⟨rfl, rfl⟩, ⟨rfl, rfl⟩, trivial⟩ ⟨.inr (.inr (statics_unders _ _ (cat_stat _))), .inr (.inr (statics_unders _ _ (cat_stat _))), trivial⟩ (FOk_of [0, 1, 4, 6, 7, 11, 12, 13] hf23 (by kernel_rfl)) fun f hf => ?_)
              exact ih _ _ ⟨(l_2 ++ [(api_Rec.mk (0) (0) ((gt l_ i_13).Read) ((gt l_ i_13).BA) ((gt l_ i_13).BS) ((gt l_ i_13).LIC) ((gt l_ i_13).AVMA) ((gt l_ i_13).BUSY) ((gt l_ i_13).Mine))]), rises_1, (IntKind.wrap .i64 (high_1 + 1)), (IntKind.wrap .i64 (i_13 + 1)), (v_1 + 1), h, hf, rfl⟩
          · have h := if_f h hc17
            refine k_skip ?_
            refine k_b ?_
            refine k_c ?_
            refine k_reg ?_
            refine mops_en hf15 (by kernel_rfl) fun f16 hf16 => ?_
            refine k_l' (vs_cut (l := [⟨0, [], .sl false l_.length (cat api_Rec.v l_)⟩, ⟨1, [], .s (.int .i64 line_)⟩, ⟨4, [], .s (.bool false)⟩, ⟨6, [], .s (.string text_3)⟩, ⟨7, [], .ref 1 (v_1 + 1) 0 (l_2 ++ [(api_Rec.mk (0) (0) ((gt l_ i_13).Read) ((gt l_ i_13).BA) ((gt l_ i_13).BS) ((gt l_ i_13).LIC) ((gt l_ i_13).AVMA) ((gt l_ i_13).BUSY) ((gt l_ i_13).Mine))]).length⟩, ⟨11, [], .s (.int .i64 rises_1)⟩, ⟨12, [], .s (.int .i64 high_1)⟩, ⟨13, [], .s (.int .i64 (IntKind.wrap .i64 (i_13 + 1)))⟩]) 2 (by kernel_rfl) (by kernel_rfl) (L' := [⟨0, .mem, 1, cat nS [(⟨#[82, 69, 65, 68, 32]⟩ : ByteArray), (⟨#[66, 65, 32, 32, 32]⟩ : ByteArray), (⟨#[66, 83, 32, 32, 32]⟩ : ByteArray), (⟨#[76, 73, 67, 32, 32]⟩ : ByteArray), (⟨#[65, 86, 77, 65, 32]⟩ : ByteArray), (⟨#[66, 85, 83, 89, 32]⟩ : ByteArray), (⟨#[77, 73, 78, 69, 32]⟩ : ByteArray)]⟩, ⟨(v_1 + 1), .grow, 9, cat api_Rec.v (l_2 ++ [(api_Rec.mk (0) (0) ((gt l_ i_13).Read) ((gt l_ i_13).BA) ((gt l_ i_13).BS) ((gt l_ i_13).LIC) ((gt l_ i_13).AVMA) ((gt l_ i_13).BUSY) ((gt l_ i_13).Mine))])⟩]) (by kernel_rfl) ⟨⟨rfl, (static_under _ _ (by simp [V.static, statics, cat_stat, dropcat_stat]))⟩, ⟨rfl, rfl⟩, ⟨rfl, rfl⟩, ⟨rfl, rfl⟩, ⟨rfl, rfl⟩, ⟨rfl, rfl⟩, ⟨rfl, rfl⟩, ⟨rfl, rfl⟩, trivial⟩ ⟨.inr (.inr (statics_unders _ _ (cat_stat _))), .inr (.inr (statics_unders _ _ (cat_stat _))), trivial⟩ (FOk_of [0, 1, 4, 6, 7, 11, 12, 13] hf16 (by kernel_rfl)) fun f hf => ?_)
            exact ih _ _ ⟨(l_2 ++ [(api_Rec.mk (0) (0) ((gt l_ i_13).Read) ((gt l_ i_13).BA) ((gt l_ i_13).BS) ((gt l_ i_13).LIC) ((gt l_ i_13).AVMA) ((gt l_ i_13).BUSY) ((gt l_ i_13).Mine))]), rises_1, high_1, (IntKind.wrap .i64 (i_13 + 1)), (v_1 + 1), h, hf, rfl⟩
        · have h := if_f h hc13
          refine k_exit ?_
          refine x_c nofun ?_
          refine x_l nofun ?_
          refine x_b ?_
          refine k_hp (L' := [⟨0, .mem, 1, cat nS [(⟨#[82, 69, 65, 68, 32]⟩ : ByteArray), (⟨#[66, 65, 32, 32, 32]⟩ : ByteArray), (⟨#[66, 83, 32, 32, 32]⟩ : ByteArray), (⟨#[76, 73, 67, 32, 32]⟩ : ByteArray), (⟨#[65, 86, 77, 65, 32]⟩ : ByteArray), (⟨#[66, 85, 83, 89, 32]⟩ : ByteArray), (⟨#[77, 73, 78, 69, 32]⟩ : ByteArray)]⟩, ⟨v_1, .grow, 9, cat api_Rec.v l_2⟩]) (by kernel_rfl) ?_
          exact hgo2 l_2 rises_1 high_1 v_1 (Option.some.inj h) _ (FOk_of [0, 1, 4, 6, 7, 11, 12] hf1 (by kernel_rfl))
    refine k_loop BIG ?_
    refine loop_ind (fun n f L => ∃ (text_2 : ByteArray) (k_2 : Int), spinetlaw50_WaveDraws_l3 l_ n text_2 k_2 = some o0 ∧ FOk f [⟨0, [], .sl false l_.length (cat api_Rec.v l_)⟩, ⟨1, [], .s (.int .i64 line_)⟩, ⟨4, [], .s (.bool false)⟩, ⟨5, [], .ptr 0 0 0⟩, ⟨6, [], .s (.string text_2)⟩, ⟨7, [], .ref 1 0 0 0⟩, ⟨8, [], .s (.int .i64 k_2)⟩] ∧ L = [⟨0, .mem, 1, cat nS [(⟨#[82, 69, 65, 68, 32]⟩ : ByteArray), (⟨#[66, 65, 32, 32, 32]⟩ : ByteArray), (⟨#[66, 83, 32, 32, 32]⟩ : ByteArray), (⟨#[76, 73, 67, 32, 32]⟩ : ByteArray), (⟨#[65, 86, 77, 65, 32]⟩ : ByteArray), (⟨#[66, 85, 83, 89, 32]⟩ : ByteArray), (⟨#[77, 73, 78, 69, 32]⟩ : ByteArray)]⟩, ⟨0, .grow, 9, cat api_Rec.v ([] : List api_Rec)⟩]) ?_ ?_ BIG _ _ ⟨(⟨#[]⟩ : ByteArray), (0), hx0, FOk_of [0, 1, 4, 5, 6, 7, 8] hf6 (by kernel_rfl), (by kernel_rfl)⟩
    · rintro f L ⟨text_2, k_2, h, _⟩
      cases (show (none : Option _) = some _ from h)
    · rintro n0 R0 ih f L ⟨text_2, k_2, h, hf, rfl⟩
      rw [spinetlaw50_WaveDraws_l3] at h
      refine k_seq ?_
      refine k_seq ?_
      refine k_reg ?_
      refine mops_en hf (by kernel_rfl) fun f1 hf1 => ?_
      refine k_c ?_
      refine k_cond hf1 (t := (decide (k_2 < 7))) (by kernel_rfl) (fun hc2 => ?_) (fun hc2 => ?_)
      · have h := if_t h hc2
        refine k_skip ?_
        refine k_c ?_
        refine k_seq ?_
        refine k_block ?_
        refine k_seq ?_
        refine k_reg ?_
        refine mops_en hf1 (by kernel_rfl) fun f2 hf2 => ?_
        refine k_c ?_
        refine k_seq ?_
        refine k_seq ?_
        refine k_reg ?_
        refine mops_en hf2 (by kernel_rfl) fun f3 hf3 => ?_
        refine k_c ?_
        refine k_block ?_
        obtain ⟨o1, hx1, h⟩ := Option.bind_eq_some_iff.1 h
        have hgo1 : ∀ (s_11 : ByteArray) (i_11 : Int) (t_6 : Int) (t_7 : Bool), (s_11, i_11, t_6, t_7) = o1 → ∀ f, FOk f [⟨0, [], .sl false l_.length (cat api_Rec.v l_)⟩, ⟨1, [], .s (.int .i64 line_)⟩, ⟨4, [], .s (.bool false)⟩, ⟨5, [], .ptr 0 0 0⟩, ⟨6, [], .s (.string text_2)⟩, ⟨7, [], .ref 1 0 0 0⟩, ⟨8, [], .s (.int .i64 k_2)⟩, ⟨9, [], .s (.string s_11)⟩, ⟨10, [], .s (.int .i64 i_11)⟩, ⟨21, [], .s (.int .i64 k_2)⟩, ⟨22, [], .s (.bool (decide (k_2 < 7)))⟩, ⟨25, [], .s (.int .i64 t_6)⟩, ⟨26, [], .sl false l_.length (cat api_Rec.v l_)⟩, ⟨27, [], .s (.int .i64 (ln l_))⟩, ⟨28, [], .s (.bool t_7)⟩] → kont Tryd.prog [] (spinetlaw50_WaveDraws_C r) ((.c spinetlaw50_WaveDraws_i30) :: (.b 1) :: (.c spinetlaw50_WaveDraws_i33) :: (.l R0) :: (.b 0) :: (.c spinetlaw50_WaveDraws_i70) :: []) .normal f [⟨0, .mem, 1, cat nS [(⟨#[82, 69, 65, 68, 32]⟩ : ByteArray), (⟨#[66, 65, 32, 32, 32]⟩ : ByteArray), (⟨#[66, 83, 32, 32, 32]⟩ : ByteArray), (⟨#[76, 73, 67, 32, 32]⟩ : ByteArray), (⟨#[65, 86, 77, 65, 32]⟩ : ByteArray), (⟨#[66, 85, 83, 89, 32]⟩ : ByteArray), (⟨#[77, 73, 78, 69, 32]⟩ : ByteArray)]⟩, ⟨0, .grow, 9, cat api_Rec.v ([] : List api_Rec)⟩] := by
          intro s_11 i_11 t_6 t_7 e f hf
          subst e
          refine k_c ?_
          refine k_seq ?_
          refine k_seq ?_
          refine k_reg ?_
          refine mops_sg 2 hf (by kernel_rfl) fun f1 hf1 => ?_
          obtain ⟨r_15, hx_r_15, h⟩ := Option.bind_eq_some_iff.1 h
          refine mops_call rfl hf1 (av := [.s (.int .i64 k_2), .sl false l_.length (cat api_Rec.v l_)]) (by kernel_rfl) (v := .s (.string r_15)) (CalL.pure (wave_Line_ok k_2 l_ r_15 hx_r_15) (by simp [V.static, statics, cat_stat]) rfl (Nat.le_of_ble_eq_true (by kernel_rfl))) (fun _ => rfl) fun f2 hf2 => ?_
          refine mops_en hf2 (by kernel_rfl) fun f3 hf3 => ?_
          refine k_c ?_
          refine k_cond hf3 (t := (!(r_15.toList == s_11.toList))) (by kernel_rfl) (fun hc8 => ?_) (fun hc8 => ?_)
          · have h := if_t h hc8
            refine k_seq ?_
            refine k_reg ?_
            refine mops_en hf3 (by kernel_rfl) fun f4 hf4 => ?_
            refine k_c ?_
            refine k_ret ?_
            refine x_c nofun ?_
            refine x_br ?_
            refine x_c nofun ?_
            refine x_l nofun ?_
            refine x_br ?_
            refine x_c nofun ?_
            obtain rfl := hret0 _ (Option.some.inj h)
            exact k_fin (fin_ret (.inl rfl) hf4 (vs := [.s (.bool false)]) (by kernel_rfl) (SettL.pure (FzL.stat rfl)))
          · have h := if_f h hc8
            refine k_skip ?_
            refine k_c ?_
            refine k_reg ?_
            refine mops_sg 2 hf3 (by kernel_rfl) fun f4 hf4 => ?_
            obtain ⟨c9, h⟩ := as_ok h
            refine mops_adv rfl (v := .ptr 0 0 (0 + (k_2 : Int).toNat * 1)) hf4 (by kernel_rfl) (e_iaa (n := 7) (xv := .ptr 0 0 0) (k := .i64) (iv := k_2) (p := .ptr 0 0 (0 + (k_2 : Int).toNat * 1)) (by kernel_rfl) (by kernel_rfl) (by kernel_rfl) (by kernel_rfl) c9) fun f5 hf5 => ?_
            refine mops_adv rfl (v := .s (.string (gt [(⟨#[82, 69, 65, 68, 32]⟩ : ByteArray), (⟨#[66, 65, 32, 32, 32]⟩ : ByteArray), (⟨#[66, 83, 32, 32, 32]⟩ : ByteArray), (⟨#[76, 73, 67, 32, 32]⟩ : ByteArray), (⟨#[65, 86, 77, 65, 32]⟩ : ByteArray), (⟨#[66, 85, 83, 89, 32]⟩ : ByteArray), (⟨#[77, 73, 78, 69, 32]⟩ : ByteArray)] k_2))) hf5 (by kernel_rfl) (e_load_pe (g := nS) (l := [(⟨#[82, 69, 65, 68, 32]⟩ : ByteArray), (⟨#[66, 65, 32, 32, 32]⟩ : ByteArray), (⟨#[66, 83, 32, 32, 32]⟩ : ByteArray), (⟨#[76, 73, 67, 32, 32]⟩ : ByteArray), (⟨#[65, 86, 77, 65, 32]⟩ : ByteArray), (⟨#[66, 85, 83, 89, 32]⟩ : ByteArray), (⟨#[77, 73, 78, 69, 32]⟩ : ByteArray)]) (iv := k_2) (kd := .mem) (q := 1) (b := 0) (ver := 0) [] (by kernel_rfl) (live_mem (by kernel_rfl)) (arr_h (l := [(⟨#[82, 69, 65, 68, 32]⟩ : ByteArray), (⟨#[66, 65, 32, 32, 32]⟩ : ByteArray), (⟨#[66, 83, 32, 32, 32]⟩ : ByteArray), (⟨#[76, 73, 67, 32, 32]⟩ : ByteArray), (⟨#[65, 86, 77, 65, 32]⟩ : ByteArray), (⟨#[66, 85, 83, 89, 32]⟩ : ByteArray), (⟨#[77, 73, 78, 69, 32]⟩ : ByteArray)]) c9 (by kernel_rfl)) (by kernel_rfl) (by kernel_rfl)) fun f6 hf6 => ?_
            refine mops_sg 1 hf6 (by kernel_rfl) fun f7 hf7 => ?_
            obtain ⟨c10, h⟩ := as_ok h
            refine mops_adv rfl (v := .s (.string ((gt [(⟨#[82, 69, 65, 68, 32]⟩ : ByteArray), (⟨#[66, 65, 32, 32, 32]⟩ : ByteArray), (⟨#[66, 83, 32, 32, 32]⟩ : ByteArray), (⟨#[76, 73, 67, 32, 32]⟩ : ByteArray), (⟨#[65, 86, 77, 65, 32]⟩ : ByteArray), (⟨#[66, 85, 83, 89, 32]⟩ : ByteArray), (⟨#[77, 73, 78, 69, 32]⟩ : ByteArray)] k_2) ++ s_11))) hf7 (by kernel_rfl) (e_sadd (t := (gt [(⟨#[82, 69, 65, 68, 32]⟩ : ByteArray), (⟨#[66, 65, 32, 32, 32]⟩ : ByteArray), (⟨#[66, 83, 32, 32, 32]⟩ : ByteArray), (⟨#[76, 73, 67, 32, 32]⟩ : ByteArray), (⟨#[65, 86, 77, 65, 32]⟩ : ByteArray), (⟨#[66, 85, 83, 89, 32]⟩ : ByteArray), (⟨#[77, 73, 78, 69, 32]⟩ : ByteArray)] k_2)) (t' := s_11) (by kernel_rfl) (by kernel_rfl) c10) fun f8 hf8 => ?_
            obtain ⟨c11, h⟩ := as_ok h
            refine mops_adv rfl (v := .s (.string (((gt [(⟨#[82, 69, 65, 68, 32]⟩ : ByteArray), (⟨#[66, 65, 32, 32, 32]⟩ : ByteArray), (⟨#[66, 83, 32, 32, 32]⟩ : ByteArray), (⟨#[76, 73, 67, 32, 32]⟩ : ByteArray), (⟨#[65, 86, 77, 65, 32]⟩ : ByteArray), (⟨#[66, 85, 83, 89, 32]⟩ : ByteArray), (⟨#[77, 73, 78, 69, 32]⟩ : ByteArray)] k_2) ++ s_11) ++ (⟨#[10]⟩ : ByteArray)))) hf8 (by kernel_rfl) (e_sadd (t := ((gt [(⟨#[82, 69, 65, 68, 32]⟩ : ByteArray), (⟨#[66, 65, 32, 32, 32]⟩ : ByteArray), (⟨#[66, 83, 32, 32, 32]⟩ : ByteArray), (⟨#[76, 73, 67, 32, 32]⟩ : ByteArray), (⟨#[65, 86, 77, 65, 32]⟩ : ByteArray), (⟨#[66, 85, 83, 89, 32]⟩ : ByteArray), (⟨#[77, 73, 78, 69, 32]⟩ : ByteArray)] k_2) ++ s_11)) (t' := (⟨#[10]⟩ : ByteArray)) (by kernel_rfl) (by kernel_rfl) c11) fun f9 hf9 => ?_
            obtain ⟨c12, h⟩ := as_ok h
            refine mops_adv rfl (v := .s (.string (text_2 ++ (((gt [(⟨#[82, 69, 65, 68, 32]⟩ : ByteArray), (⟨#[66, 65, 32, 32, 32]⟩ : ByteArray), (⟨#[66, 83, 32, 32, 32]⟩ : ByteArray), (⟨#[76, 73, 67, 32, 32]⟩ : ByteArray), (⟨#[65, 86, 77, 65, 32]⟩ : ByteArray), (⟨#[66, 85, 83, 89, 32]⟩ : ByteArray), (⟨#[77, 73, 78, 69, 32]⟩ : ByteArray)] k_2) ++ s_11) ++ (⟨#[10]⟩ : ByteArray))))) hf9 (by kernel_rfl) (e_sadd (t := text_2) (t' := (((gt [(⟨#[82, 69, 65, 68, 32]⟩ : ByteArray), (⟨#[66, 65, 32, 32, 32]⟩ : ByteArray), (⟨#[66, 83, 32, 32, 32]⟩ : ByteArray), (⟨#[76, 73, 67, 32, 32]⟩ : ByteArray), (⟨#[65, 86, 77, 65, 32]⟩ : ByteArray), (⟨#[66, 85, 83, 89, 32]⟩ : ByteArray), (⟨#[77, 73, 78, 69, 32]⟩ : ByteArray)] k_2) ++ s_11) ++ (⟨#[10]⟩ : ByteArray))) (by kernel_rfl) (by kernel_rfl) c12) fun f10 hf10 => ?_
            refine mops_en hf10 (by kernel_rfl) fun f11 hf11 => ?_
            refine k_b ?_
            refine k_c ?_
            refine k_reg ?_
            refine mops_en hf11 (by kernel_rfl) fun f12 hf12 => ?_
            refine k_l ?_
            exact ih _ _ ⟨(text_2 ++ (((gt [(⟨#[82, 69, 65, 68, 32]⟩ : ByteArray), (⟨#[66, 65, 32, 32, 32]⟩ : ByteArray), (⟨#[66, 83, 32, 32, 32]⟩ : ByteArray), (⟨#[76, 73, 67, 32, 32]⟩ : ByteArray), (⟨#[65, 86, 77, 65, 32]⟩ : ByteArray), (⟨#[66, 85, 83, 89, 32]⟩ : ByteArray), (⟨#[77, 73, 78, 69, 32]⟩ : ByteArray)] k_2) ++ s_11) ++ (⟨#[10]⟩ : ByteArray))), (IntKind.wrap .i64 (k_2 + 1)), h, FOk_of [0, 1, 4, 5, 6, 7, 8] hf12 (by kernel_rfl), (by kernel_rfl)⟩
        refine k_loop BIG ?_
        refine loop_ind (fun n f L => ∃ (s_10 : ByteArray) (i_10 : Int), spinetlaw50_WaveDraws_l4 l_ k_2 n s_10 i_10 = some o1 ∧ FOk f [⟨0, [], .sl false l_.length (cat api_Rec.v l_)⟩, ⟨1, [], .s (.int .i64 line_)⟩, ⟨4, [], .s (.bool false)⟩, ⟨5, [], .ptr 0 0 0⟩, ⟨6, [], .s (.string text_2)⟩, ⟨7, [], .ref 1 0 0 0⟩, ⟨8, [], .s (.int .i64 k_2)⟩, ⟨9, [], .s (.string s_10)⟩, ⟨10, [], .s (.int .i64 i_10)⟩, ⟨21, [], .s (.int .i64 k_2)⟩, ⟨22, [], .s (.bool (decide (k_2 < 7)))⟩] ∧ L = [⟨0, .mem, 1, cat nS [(⟨#[82, 69, 65, 68, 32]⟩ : ByteArray), (⟨#[66, 65, 32, 32, 32]⟩ : ByteArray), (⟨#[66, 83, 32, 32, 32]⟩ : ByteArray), (⟨#[76, 73, 67, 32, 32]⟩ : ByteArray), (⟨#[65, 86, 77, 65, 32]⟩ : ByteArray), (⟨#[66, 85, 83, 89, 32]⟩ : ByteArray), (⟨#[77, 73, 78, 69, 32]⟩ : ByteArray)]⟩, ⟨0, .grow, 9, cat api_Rec.v ([] : List api_Rec)⟩]) ?_ ?_ BIG _ _ ⟨(⟨#[]⟩ : ByteArray), (0), hx1, FOk_of [0, 1, 4, 5, 6, 7, 8, 9, 10, 21, 22] hf3 (by kernel_rfl), (by kernel_rfl)⟩
        · rintro f L ⟨s_10, i_10, h, _⟩
          cases (show (none : Option _) = some _ from h)
        · rintro n1 R1 ih f L ⟨s_10, i_10, h, hf, rfl⟩
          rw [spinetlaw50_WaveDraws_l4] at h
          refine k_seq ?_
          refine k_seq ?_
          refine k_reg ?_
          refine mops_en hf (by kernel_rfl) fun f1 hf1 => ?_
          refine k_c ?_
          refine k_cond hf1 (t := (decide (i_10 < (ln l_)))) (by kernel_rfl) (fun hc3 => ?_) (fun hc3 => ?_)
          · have h := if_t h hc3
            refine k_skip ?_
            refine k_c ?_
            refine k_seq ?_
            refine k_block ?_
            refine k_seq ?_
            refine k_reg ?_
            refine mops_sg 2 hf1 (by kernel_rfl) fun f2 hf2 => ?_
            obtain ⟨c4, h⟩ := as_ok h
            refine mops_adv rfl (v := .ip ((cat api_Rec.v l_).drop ((i_10 : Int).toNat * 9))) hf2 (by kernel_rfl) (e_ias (n := l_.length) (xv := .sl false l_.length (cat api_Rec.v l_)) (k := .i64) (iv := i_10) (p := .ip ((cat api_Rec.v l_).drop ((i_10 : Int).toNat * 9))) (by kernel_rfl) (by kernel_rfl) (by kernel_rfl) (by kernel_rfl) c4) fun f3 hf3 => ?_
            refine mops_adv rfl (v := .agg [.s (.int .u16 (gt l_ i_10).Addr), .s (.int .u8 (gt l_ i_10).Data), .s (.bool (gt l_ i_10).Read), .s (.bool (gt l_ i_10).BA), .s (.bool (gt l_ i_10).BS), .s (.bool (gt l_ i_10).LIC), .s (.bool (gt l_ i_10).AVMA), .s (.bool (gt l_ i_10).BUSY), .s (.bool (gt l_ i_10).Mine)]) hf3 (by kernel_rfl) (e_load_ip (g := api_Rec.v) (l := l_) (iv := i_10) [] (by kernel_rfl) c4 (by kernel_rfl) (by kernel_rfl)) fun f4 hf4 => ?_
            refine mops_sg 1 hf4 (by kernel_rfl) fun f5 hf5 => ?_
            obtain ⟨r_14, hx_r_14, h⟩ := Option.bind_eq_some_iff.1 h
            refine mops_call rfl hf5 (av := [.agg [.s (.int .u16 (gt l_ i_10).Addr), .s (.int .u8 (gt l_ i_10).Data), .s (.bool (gt l_ i_10).Read), .s (.bool (gt l_ i_10).BA), .s (.bool (gt l_ i_10).BS), .s (.bool (gt l_ i_10).LIC), .s (.bool (gt l_ i_10).AVMA), .s (.bool (gt l_ i_10).BUSY), .s (.bool (gt l_ i_10).Mine)], .s (.int .i64 k_2)]) (by kernel_rfl) (v := .s (.bool r_14)) (CalL.pure (spinetlaw50_on_ok (gt l_ i_10) k_2 r_14 hx_r_14) rfl rfl (Nat.le_of_ble_eq_true (by kernel_rfl))) (fun _ => rfl) fun f6 hf6 => ?_
            refine mops_en hf6 (by kernel_rfl) fun f7 hf7 => ?_
            refine k_c ?_
            refine k_cond hf7 (t := r_14) (by kernel_rfl) (fun hc5 => ?_) (fun hc5 => ?_)
            · have h := if_t h hc5
              refine k_reg ?_
              refine mops_sg 1 hf7 (by kernel_rfl) fun f8 hf8 => ?_
              obtain ⟨c6, h⟩ := as_ok h
              refine mops_adv rfl (v := .s (.string (s_10 ++ (⟨#[35]⟩ : ByteArray)))) hf8 (by kernel_rfl) (e_sadd (t := s_10) (t' := (⟨#[35]⟩ : ByteArray)) (by kernel_rfl) (by kernel_rfl) c6) fun f9 hf9 => ?_
              refine mops_en hf9 (by kernel_rfl) fun f10 hf10 => ?_
              refine k_b ?_
              refine k_c ?_
              refine k_reg ?_
              refine mops_en hf10 (by kernel_rfl) fun f11 hf11 => ?_
              refine k_l ?_
              exact ih _ _ ⟨(s_10 ++ (⟨#[35]⟩ : ByteArray)), (IntKind.wrap .i64 (i_10 + 1)), h, FOk_of [0, 1, 4, 5, 6, 7, 8, 9, 10, 21, 22] hf11 (by kernel_rfl), (by kernel_rfl)⟩
            · have h := if_f h hc5
              refine k_reg ?_
              refine mops_sg 1 hf7 (by kernel_rfl) fun f8 hf8 => ?_
              obtain ⟨c7, h⟩ := as_ok h
              refine mops_adv rfl (v := .s (.string (s_10 ++ (⟨#[95]⟩ : ByteArray)))) hf8 (by kernel_rfl) (e_sadd (t := s_10) (t' := (⟨#[95]⟩ : ByteArray)) (by kernel_rfl) (by kernel_rfl) c7) fun f9 hf9 => ?_
              refine mops_en hf9 (by kernel_rfl) fun f10 hf10 => ?_
              refine k_b ?_
              refine k_c ?_
              refine k_reg ?_
              refine mops_en hf10 (by kernel_rfl) fun f11 hf11 => ?_
              refine k_l ?_
              exact ih _ _ ⟨(s_10 ++ (⟨#[95]⟩ : ByteArray)), (IntKind.wrap .i64 (i_10 + 1)), h, FOk_of [0, 1, 4, 5, 6, 7, 8, 9, 10, 21, 22] hf11 (by kernel_rfl), (by kernel_rfl)⟩
          · have h := if_f h hc3
            refine k_exit ?_
            refine x_c nofun ?_
            refine x_l nofun ?_
            refine x_b ?_
            refine k_hp (L' := [⟨0, .mem, 1, cat nS [(⟨#[82, 69, 65, 68, 32]⟩ : ByteArray), (⟨#[66, 65, 32, 32, 32]⟩ : ByteArray), (⟨#[66, 83, 32, 32, 32]⟩ : ByteArray), (⟨#[76, 73, 67, 32, 32]⟩ : ByteArray), (⟨#[65, 86, 77, 65, 32]⟩ : ByteArray), (⟨#[66, 85, 83, 89, 32]⟩ : ByteArray), (⟨#[77, 73, 78, 69, 32]⟩ : ByteArray)]⟩, ⟨0, .grow, 9, cat api_Rec.v ([] : List api_Rec)⟩]) (by kernel_rfl) ?_
            exact hgo1 s_10 i_10 i_10 (decide (i_10 < (ln l_))) (Option.some.inj h) _ (FOk_of [0, 1, 4, 5, 6, 7, 8, 9, 10, 21, 22, 25, 26, 27, 28] hf1 (by kernel_rfl))
      · have h := if_f h hc2
        refine k_exit ?_
        refine x_c nofun ?_
        refine x_l nofun ?_
        refine x_b ?_
        refine k_hp (L' := [⟨0, .mem, 1, cat nS [(⟨#[82, 69, 65, 68, 32]⟩ : ByteArray), (⟨#[66, 65, 32, 32, 32]⟩ : ByteArray), (⟨#[66, 83, 32, 32, 32]⟩ : ByteArray), (⟨#[76, 73, 67, 32, 32]⟩ : ByteArray), (⟨#[65, 86, 77, 65, 32]⟩ : ByteArray), (⟨#[66, 85, 83, 89, 32]⟩ : ByteArray), (⟨#[77, 73, 78, 69, 32]⟩ : ByteArray)]⟩, ⟨0, .grow, 9, cat api_Rec.v ([] : List api_Rec)⟩]) (by kernel_rfl) ?_
        exact hgo0 text_2 (Option.some.inj h) _ (FOk_of [0, 1, 4, 6, 7] hf1 (by kernel_rfl))
end Go.Proofs.YtnilppmpfklpbaaDoorK
