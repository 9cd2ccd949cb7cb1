/- The Go functions come to the functions over typed data. Printed by a program of this work. -/
import Derived.Test.YtfdadnldlngmeaaF
import Derived.Test.YtfdadnldlngmeaaProg
import Derived.Test.YtfdadnldlngmeaaG0
import Derived.Test.YtfdadnldlngmeaaG2
import Derived.Test.YtfdadnldlngmeaaG3
namespace Go.Proofs.YtfdadnldlngmeaaK
set_option linter.unusedVariables false
set_option linter.unusedSimpArgs false
set_option maxHeartbeats 4000000
open Go.RowKit
attribute [local irreducible] dwv mops lops lqops lwops kont iter run runK rk okK ex E1 vals val chain chB sel resF
def spinetlaw40_SrecLines_i0 : List Op1 := [(oE 2 (.box (.t 0)) []), (oM 4 (.k (.bool false)) [])]
def spinetlaw40_SrecLines_i1 : List Op1 := [(oM 12 (.t 1) []), (oE 13 (.lens (.t 12)) [0]), (oE 14 (.bin .gtr (.t 13) (.k (.int .i64 600))) [1])]
def spinetlaw40_SrecLines_i2 : List Op1 := [(oM 4 (.k (.bool true)) [])]
def spinetlaw40_SrecLines_i3 : IR := .ret
def spinetlaw40_SrecLines_i4 : IR := (.cond (.t 14) (.seq (.reg false spinetlaw40_SrecLines_i2) spinetlaw40_SrecLines_i3) .skip)
def spinetlaw40_SrecLines_i5 : List Op1 := [(oM 16 (.t 1) []), (oC 17 12 [(.t 16)] [0]), (oM 15 (.t 17) [1]), (oE 18 (.ext 0 (.t 15)) [2]), (oE 19 (.ext 1 (.t 15)) [2]), (oE 5 (.zero [(.int .i64 0), (.int .u16 0), (.slice none 0 0)]) []), (oN (.store 3 (.t 5) (.t 18)) [5, 3, 1, 0, 1, 2, 3, 5]), (oM 6 (.t 19) [4, 6, 0, 1, 2, 3, 4, 5, 6])]
def spinetlaw40_SrecLines_i6 : List Op1 := [(oM 21 (.t 1) []), (oC 22 13 [(.t 21)] [0]), (oM 20 (.t 22) [1]), (oE 23 (.ext 0 (.t 20)) [2]), (oE 24 (.ext 1 (.t 20)) [2]), (oE 7 (.zero [(.int .i64 0), (.int .u16 0), (.slice none 0 0)]) []), (oN (.store 3 (.t 7) (.t 23)) [5, 3, 1, 0, 1, 2, 3, 5]), (oM 8 (.t 24) [4, 6, 0, 1, 2, 3, 4, 5, 6])]
def spinetlaw40_SrecLines_i7 : List Op1 := [(oE 25 (.fld 0 (.t 5)) []), (oE 26 (.load false 1 (.t 25)) [0]), (oE 27 (.fld 0 (.t 7)) []), (oE 28 (.load false 1 (.t 27)) [2]), (oE 29 (.bin .neq (.t 26) (.t 28)) [1, 3]), (oM 30 (.t 29) [4]), (oG 31 (.fld 1 (.t 5)) 30 false [5]), (oG 32 (.load false 1 (.t 31)) 30 false [6, 5]), (oG 33 (.fld 1 (.t 7)) 30 false [5]), (oG 34 (.load false 1 (.t 33)) 30 false [8, 5]), (oG 35 (.bin .neq (.t 32) (.t 34)) 30 false [7, 9, 5]), (oE 36 (.pick (.t 30) (.k (.bool true)) (.t 35)) [5, 10]), (oM 37 (.t 36) [11, 5]), (oG 38 (.fld 2 (.t 5)) 37 false [12]), (oG 39 (.load false 1 (.t 38)) 37 false [13, 12]), (oG 40 (.fld 2 (.t 7)) 37 false [12]), (oG 41 (.load false 1 (.t 40)) 37 false [15, 12]), ⟨(some 42), (.call 14 [(.t 39), (.t 41)]), (some (37, false)), [14, 16, 12, 12]⟩, (oG 43 (.un .not (.t 42)) 37 false [17, 12]), (oE 44 (.pick (.t 37) (.k (.bool true)) (.t 43)) [12, 18]), (oM 45 (.t 44) [19, 17]), (oG 46 (.mv (.t 6)) 45 false [20]), (oG 47 (.mv (.t 8)) 45 false [20]), (oG 48 (.bin .neq (.t 46) (.t 47)) 45 false [21, 22, 20]), (oE 49 (.pick (.t 45) (.k (.bool true)) (.t 48)) [20, 23])]
def spinetlaw40_SrecLines_i8 : List Op1 := [(oM 4 (.k (.bool false)) [])]
def spinetlaw40_SrecLines_i9 : IR := .ret
def spinetlaw40_SrecLines_i10 : IR := (.cond (.t 49) (.seq (.reg false spinetlaw40_SrecLines_i8) spinetlaw40_SrecLines_i9) .skip)
def spinetlaw40_SrecLines_i11 : List Op1 := [(oE 50 (.fld 0 (.t 2)) []), (oE 51 (.load false 1 (.t 50)) [0]), (oE 52 (.bin .neq (.t 51) (.k (.int .i64 0))) [1]), (oM 53 (.t 52) [2]), (oG 54 (.fld 0 (.t 2)) 53 true [3]), (oG 55 (.load false 1 (.t 54)) 53 true [4, 3]), (oG 56 (.bin .neq (.t 55) (.k (.int .i64 1))) 53 true [5, 3]), (oE 57 (.pick (.t 53) (.t 56) (.k (.bool false))) [3, 6]), (oM 58 (.t 57) [7, 3]), (oG 59 (.fld 0 (.t 2)) 58 true [8]), (oG 60 (.load false 1 (.t 59)) 58 true [9, 8]), (oG 61 (.bin .neq (.t 60) (.k (.int .i64 9))) 58 true [10, 8]), (oE 62 (.pick (.t 58) (.t 61) (.k (.bool false))) [8, 11]), (oM 63 (.t 62) [12, 8]), (oG 64 (.fld 2 (.t 2)) 63 false [13]), (oG 65 (.load false 1 (.t 64)) 63 false [14, 13]), (oG 66 (.len (.t 65)) 63 false [15, 13]), (oG 67 (.bin .gtr (.t 66) (.k (.int .i64 252))) 63 false [16, 13]), (oE 68 (.pick (.t 63) (.k (.bool true)) (.t 67)) [13, 17]), (oM 69 (.t 68) [18, 13]), (oG 70 (.fld 0 (.t 2)) 69 false [19]), (oG 71 (.load false 1 (.t 70)) 69 false [20, 19]), (oG 72 (.bin .eql (.t 71) (.k (.int .i64 9))) 69 false [21, 19]), (oG 73 (.mv (.t 72)) 69 false [22, 19, 19]), (oG 74 (.fld 2 (.t 2)) 73 true [23]), (oG 75 (.load false 1 (.t 74)) 73 true [24, 23]), (oG 76 (.len (.t 75)) 73 true [25, 23]), (oG 77 (.bin .gtr (.t 76) (.k (.int .i64 0))) 73 true [26, 23]), (oG 78 (.pick (.t 73) (.t 77) (.k (.bool false))) 69 false [23, 27, 19]), (oE 79 (.pick (.t 69) (.k (.bool true)) (.t 78)) [19, 28])]
def spinetlaw40_SrecLines_i12 : List Op1 := [(oC 80 15 [] []), (oM 4 (.t 80) [0, 0, 0])]
def spinetlaw40_SrecLines_i13 : IR := .ret
def spinetlaw40_SrecLines_i14 : IR := (.cond (.t 79) (.seq (.reg false spinetlaw40_SrecLines_i12) spinetlaw40_SrecLines_i13) .skip)
def spinetlaw40_SrecLines_i15 : List Op1 := [(oE 81 (.load true 3 (.t 2)) []), (oC 82 16 [(.t 81)] [0]), (oM 9 (.t 82) [1, 1, 0, 1])]
def spinetlaw40_SrecLines_i16 : List Op1 := [(oM 84 (.t 9) []), (oC 85 12 [(.t 84)] [0]), (oM 83 (.t 85) [1]), (oE 86 (.ext 0 (.t 83)) [2]), (oE 87 (.ext 1 (.t 83)) [2]), (oE 10 (.zero [(.int .i64 0), (.int .u16 0), (.slice none 0 0)]) []), (oN (.store 3 (.t 10) (.t 86)) [5, 3, 1, 0, 1, 2, 3, 5]), (oM 11 (.t 87) [4, 6, 0, 1, 2, 3, 4, 5, 6])]
def spinetlaw40_SrecLines_i17 : List Op1 := [(oM 88 (.t 9) []), (oE 89 (.fld 0 (.t 2)) []), (oE 90 (.load false 1 (.t 89)) [1]), (oE 91 (.fld 1 (.t 2)) []), (oE 92 (.load false 1 (.t 91)) [3]), (oE 93 (.fld 2 (.t 2)) []), (oE 94 (.load false 1 (.t 93)) [5]), (oE 95 (.build [(.int .i64 0), (.int .u16 0), (.slice none 0 0)] [(0, (1, (.t 90))), (1, (1, (.t 92))), (2, (1, (.t 94)))]) [2, 4, 6]), (oC 96 17 [(.t 95)] [7]), (oE 97 (.bin .eql (.t 88) (.t 96)) [0, 8]), (oM 98 (.t 97) [9, 8]), (oG 99 (.fld 0 (.t 10)) 98 true [10]), (oG 100 (.load false 1 (.t 99)) 98 true [11, 10]), (oG 101 (.fld 0 (.t 2)) 98 true [10]), (oG 102 (.load false 1 (.t 101)) 98 true [13, 10]), (oG 103 (.bin .eql (.t 100) (.t 102)) 98 true [12, 14, 10]), (oE 104 (.pick (.t 98) (.t 103) (.k (.bool false))) [10, 15]), (oM 105 (.t 104) [16, 10]), (oG 106 (.fld 1 (.t 10)) 105 true [17]), (oG 107 (.load false 1 (.t 106)) 105 true [18, 17]), (oG 108 (.fld 1 (.t 2)) 105 true [17]), (oG 109 (.load false 1 (.t 108)) 105 true [20, 17]), (oG 110 (.bin .eql (.t 107) (.t 109)) 105 true [19, 21, 17]), (oE 111 (.pick (.t 105) (.t 110) (.k (.bool false))) [17, 22]), (oM 112 (.t 111) [23, 17]), (oG 113 (.fld 2 (.t 10)) 112 true [24]), (oG 114 (.load false 1 (.t 113)) 112 true [25, 24]), (oG 115 (.fld 2 (.t 2)) 112 true [24]), (oG 116 (.load false 1 (.t 115)) 112 true [27, 24]), ⟨(some 117), (.call 14 [(.t 114), (.t 116)]), (some (112, true)), [26, 28, 24, 24]⟩, (oE 118 (.pick (.t 112) (.t 117) (.k (.bool false))) [24, 29]), (oM 119 (.t 118) [30, 29]), (oG 120 (.mv (.t 11)) 119 true [31]), (oG 121 (.bin .eql (.t 120) (.k (.int .i64 0))) 119 true [32, 31]), (oE 122 (.pick (.t 119) (.t 121) (.k (.bool false))) [31, 33]), (oM 123 (.t 122) [34, 31]), ⟨(some 124), (.call 15 []), (some (123, true)), [35, 35]⟩, (oE 125 (.pick (.t 123) (.t 124) (.k (.bool false))) [35, 36]), (oM 4 (.t 125) [37, 36, 0, 1, 2, 3, 4, 5, 6, 7, 8, 9, 10, 11, 12, 13, 14, 15, 16, 17, 18, 19, 20, 21, 22, 23, 24, 25, 26, 27, 28, 29, 30, 31, 32, 33, 34, 35, 36, 37])]
def spinetlaw40_SrecLines_i18 : IR := .ret
def spinetlaw40_SrecLines_i19 : IR := (.seq (.reg false spinetlaw40_SrecLines_i17) spinetlaw40_SrecLines_i18)
def spinetlaw40_SrecLines_i20 : IR := (.seq (.reg false spinetlaw40_SrecLines_i16) spinetlaw40_SrecLines_i19)
def spinetlaw40_SrecLines_i21 : IR := (.seq (.reg false spinetlaw40_SrecLines_i15) spinetlaw40_SrecLines_i20)
def spinetlaw40_SrecLines_i22 : IR := (.seq (.seq (.reg false spinetlaw40_SrecLines_i11) spinetlaw40_SrecLines_i14) spinetlaw40_SrecLines_i21)
def spinetlaw40_SrecLines_i23 : IR := (.seq (.seq (.reg false spinetlaw40_SrecLines_i7) spinetlaw40_SrecLines_i10) spinetlaw40_SrecLines_i22)
def spinetlaw40_SrecLines_i24 : IR := (.seq (.reg false spinetlaw40_SrecLines_i6) spinetlaw40_SrecLines_i23)
def spinetlaw40_SrecLines_i25 : IR := (.seq (.reg false spinetlaw40_SrecLines_i5) spinetlaw40_SrecLines_i24)
def spinetlaw40_SrecLines_i26 : IR := (.seq (.seq (.reg false spinetlaw40_SrecLines_i1) spinetlaw40_SrecLines_i4) spinetlaw40_SrecLines_i25)
def spinetlaw40_SrecLines_ir : IR := (.seq (.reg false spinetlaw40_SrecLines_i0) spinetlaw40_SrecLines_i26)
theorem spinetlaw40_SrecLines_cfn : cFn Try.prog 4 = some (spinetlaw40_SrecLines_ir, [(.t 4)], 126) := by kernel_rfl
def spinetlaw40_SrecLines_V (r : (Bool)) : V := .s (.bool r)
def spinetlaw40_SrecLines_C (r : (Bool)) : X → Fr → Hp → Prop := FinL [(.t 4)] [] (spinetlaw40_SrecLines_V r) []
theorem spinetlaw40_SrecLines_ok (l_ : srec_Line) (s_ : ByteArray) (r : (Bool)) (h : spinetlaw40_SrecLines l_ s_ = some r) : Pure Try.prog 4 [.agg [.s (.int .i64 l_.Kind), .s (.int .u16 l_.At), .sl false l_.B.length (cat (nI .u8) l_.B)], .s (.string s_)] (spinetlaw40_SrecLines_V r) := by
  refine ConL.of spinetlaw40_SrecLines_cfn (Nat.le_of_ble_eq_true (by kernel_rfl)) (Nat.le_of_ble_eq_true (by kernel_rfl)) ?_
  refine k_start ?_
  show dwv Try.prog [] spinetlaw40_SrecLines_ir (kont Try.prog [] (spinetlaw40_SrecLines_C r) []) (fr0 [.agg [.s (.int .i64 l_.Kind), .s (.int .u16 l_.At), .sl false l_.B.length (cat (nI .u8) l_.B)], .s (.string s_)]) []
  have hf : FOk (fr0 [.agg [.s (.int .i64 l_.Kind), .s (.int .u16 l_.At), .sl false l_.B.length (cat (nI .u8) l_.B)], .s (.string s_)]) [⟨0, [], .agg [.s (.int .i64 l_.Kind), .s (.int .u16 l_.At), .sl false l_.B.length (cat (nI .u8) l_.B)]⟩, ⟨1, [], .s (.string s_)⟩] := ⟨⟨fun _ => rfl, fun h => (h trivial).elim⟩, ⟨fun _ => rfl, fun h => (h trivial).elim⟩, trivial⟩
  generalize fr0 [.agg [.s (.int .i64 l_.Kind), .s (.int .u16 l_.At), .sl false l_.B.length (cat (nI .u8) l_.B)], .s (.string s_)] = f at hf ⊢
  unfold spinetlaw40_SrecLines at h
  refine k_seq ?_
  refine k_reg ?_
  refine mops_en hf (by kernel_rfl) fun f1 hf1 => ?_
  refine k_c ?_
  refine k_seq ?_
  refine k_seq ?_
  refine k_reg ?_
  refine mops_en hf1 (by kernel_rfl) fun f2 hf2 => ?_
  refine k_c ?_
  refine k_cond hf2 (t := (decide (600 < (sln s_)))) (by kernel_rfl) (fun hc1 => ?_) (fun hc1 => ?_)
  · have h := if_t h hc1
    refine k_seq ?_
    refine k_reg ?_
    refine mops_en hf2 (by kernel_rfl) fun f3 hf3 => ?_
    refine k_c ?_
    refine k_ret ?_
    refine x_c nofun ?_
    obtain rfl := Option.some.inj h
    exact k_fin (fin_ret (.inl rfl) hf3 (vs := [.s (.bool true)]) (by kernel_rfl) (SettL.pure (FzL.stat rfl)))
  · have h := if_f h hc1
    refine k_skip ?_
    refine k_c ?_
    refine k_seq ?_
    refine k_reg ?_
    refine mops_sg 1 hf2 (by kernel_rfl) fun f3 hf3 => ?_
    obtain ⟨r_, hx_r_, h⟩ := Option.bind_eq_some_iff.1 h
    refine mops_call rfl hf3 (av := [.s (.string s_)]) (by kernel_rfl) (v := .tup [.agg [.s (.int .i64 r_.1.Kind), .s (.int .u16 r_.1.At), .sl false r_.1.B.length (cat (nI .u8) r_.1.B)], .s (.int .i64 r_.2)]) (CalL.pure (srec_Read_ok s_ r_ hx_r_) rfl (by simp [V.static, statics, cat_stat, srec_Read_V]) (Nat.le_of_ble_eq_true (by kernel_rfl))) (fun _ => rfl) fun f4 hf4 => ?_
    refine mops_en hf4 (by kernel_rfl) fun f5 hf5 => ?_
    refine k_c ?_
    refine k_seq ?_
    refine k_reg ?_
    refine mops_sg 1 hf5 (by kernel_rfl) fun f6 hf6 => ?_
    obtain ⟨r_1, hx_r_1, h⟩ := Option.bind_eq_some_iff.1 h
    refine mops_call rfl hf6 (av := [.s (.string s_)]) (by kernel_rfl) (v := .tup [.agg [.s (.int .i64 r_1.1.Kind), .s (.int .u16 r_1.1.At), .sl false r_1.1.B.length (cat (nI .u8) r_1.1.B)], .s (.int .i64 r_1.2)]) (CalL.pure (spinetref40_Read_ok s_ r_1 hx_r_1) rfl (by simp [V.static, statics, cat_stat, spinetref40_Read_V]) (Nat.le_of_ble_eq_true (by kernel_rfl))) (fun _ => rfl) fun f7 hf7 => ?_
    refine mops_en hf7 (by kernel_rfl) fun f8 hf8 => ?_
    refine k_c ?_
    refine k_seq ?_
    refine k_seq ?_
    refine k_reg ?_
    refine mops_seg [2, 4, 6, 8, 37, 39, 41] 17 hf8 (l' := [⟨2, [], .ptr 0 0 0⟩, ⟨4, [], .s (.bool false)⟩, ⟨6, [], .s (.int .i64 r_.2)⟩, ⟨8, [], .s (.int .i64 r_1.2)⟩, ⟨37, [], .s (.bool ((r_.1.Kind != r_1.1.Kind) || (r_.1.At != r_1.1.At)))⟩, ⟨39, [(37, false)], .sl false r_.1.B.length (cat (nI .u8) r_.1.B)⟩, ⟨41, [(37, false)], .sl false r_1.1.B.length (cat (nI .u8) r_1.1.B)⟩]) (L' := [⟨0, .mem, 1, [.s (.int .i64 l_.Kind), .s (.int .u16 l_.At), .sl false l_.B.length (cat (nI .u8) l_.B)]⟩, ⟨0, .mem, 1, [.s (.int .i64 r_.1.Kind), .s (.int .u16 r_.1.At), .sl false r_.1.B.length (cat (nI .u8) r_.1.B)]⟩, ⟨0, .mem, 1, [.s (.int .i64 r_1.1.Kind), .s (.int .u16 r_1.1.At), .sl false r_1.1.B.length (cat (nI .u8) r_1.1.B)]⟩]) (by kernel_rfl) fun f9 hf9 => ?_
    obtain ⟨r_2, hx_r_2, h⟩ := Option.bind_eq_some_iff.1 h
    refine mops_gcall (dst := (some 42)) (m := 14) (args := [(.t 39), (.t 41)]) (aft := [14, 16, 12, 12]) (t := 37) (w := false) (ch := [(37, false)]) (b := (!((r_.1.Kind != r_1.1.Kind) || (r_.1.At != r_1.1.At)))) (by kernel_rfl) hf9 (by kernel_rfl) (by kernel_rfl) (av := [.sl false r_.1.B.length (cat (nI .u8) r_.1.B), .sl false r_1.1.B.length (cat (nI .u8) r_1.1.B)]) (by kernel_rfl) (v := .s (.bool r_2)) (by kernel_rfl) (fun hb2 => (CalL.pure (bytes_Equal_ok r_.1.B r_1.1.B r_2 (if_t hx_r_2 hb2)) (by simp [V.static, statics, cat_stat]) rfl (Nat.le_of_ble_eq_true (by kernel_rfl)))) fun f10 hf10 => ?_
    refine mops_en hf10 (by kernel_rfl) fun f11 hf11 => ?_
    refine k_c ?_
    refine k_cond hf11 (t := ((((r_.1.Kind != r_1.1.Kind) || (r_.1.At != r_1.1.At)) || (!r_2)) || (r_.2 != r_1.2))) (by kernel_rfl) (fun hc3 => ?_) (fun hc3 => ?_)
    · have h := if_t h hc3
      refine k_seq ?_
      refine k_reg ?_
      refine mops_en hf11 (by kernel_rfl) fun f12 hf12 => ?_
      refine k_c ?_
      refine k_ret ?_
      refine x_c nofun ?_
      obtain rfl := Option.some.inj h
      exact k_fin (fin_ret (.inl rfl) hf12 (vs := [.s (.bool false)]) (by kernel_rfl) (SettL.pure (FzL.stat rfl)))
    · have h := if_f h hc3
      refine k_skip ?_
      refine k_c ?_
      refine k_seq ?_
      refine k_seq ?_
      refine k_reg ?_
      refine mops_en hf11 (by kernel_rfl) fun f12 hf12 => ?_
      refine k_c ?_
      refine k_cond hf12 (t := (((((l_.Kind != 0) && (l_.Kind != 1)) && (l_.Kind != 9)) || (decide (252 < (ln l_.B)))) || ((l_.Kind == 9) && (decide (0 < (ln l_.B)))))) (by kernel_rfl) (fun hc4 => ?_) (fun hc4 => ?_)
      · have h := if_t h hc4
        refine k_seq ?_
        refine k_reg ?_
        obtain ⟨r_3, hx_r_3, h⟩ := Option.bind_eq_some_iff.1 h
        refine mops_call rfl hf12 (av := []) (by kernel_rfl) (v := .s (.bool r_3)) (CalL.pure (spinetlaw40_alive_ok  r_3 hx_r_3) rfl rfl (Nat.le_of_ble_eq_true (by kernel_rfl))) (fun _ => rfl) fun f13 hf13 => ?_
        refine mops_end [2, 4] hf13 (l' := [⟨2, [], .ptr 0 0 0⟩, ⟨4, [], .s (.bool r_3)⟩]) (L' := [⟨0, .mem, 1, [.s (.int .i64 l_.Kind), .s (.int .u16 l_.At), .sl false l_.B.length (cat (nI .u8) l_.B)]⟩, ⟨0, .mem, 1, [.s (.int .i64 r_.1.Kind), .s (.int .u16 r_.1.At), .sl false r_.1.B.length (cat (nI .u8) r_.1.B)]⟩, ⟨0, .mem, 1, [.s (.int .i64 r_1.1.Kind), .s (.int .u16 r_1.1.At), .sl false r_1.1.B.length (cat (nI .u8) r_1.1.B)]⟩]) (by kernel_rfl) fun f14 hf14 => ?_
        refine k_c ?_
        refine k_ret ?_
        refine x_c nofun ?_
        obtain rfl := Option.some.inj h
        exact k_fin (fin_ret (.inl rfl) hf14 (vs := [.s (.bool r_3)]) (by kernel_rfl) (SettL.pure (FzL.stat rfl)))
      · have h := if_f h hc4
        refine k_skip ?_
        refine k_c ?_
        refine k_seq ?_
        refine k_reg ?_
        refine mops_seg [2, 4, 81] 1 hf12 (l' := [⟨2, [], .ptr 0 0 0⟩, ⟨4, [], .s (.bool false)⟩, ⟨81, [], .agg [.s (.int .i64 l_.Kind), .s (.int .u16 l_.At), .sl false l_.B.length (cat (nI .u8) l_.B)]⟩]) (L' := [⟨0, .mem, 1, [.s (.int .i64 l_.Kind), .s (.int .u16 l_.At), .sl false l_.B.length (cat (nI .u8) l_.B)]⟩, ⟨0, .mem, 1, [.s (.int .i64 r_.1.Kind), .s (.int .u16 r_.1.At), .sl false r_.1.B.length (cat (nI .u8) r_.1.B)]⟩, ⟨0, .mem, 1, [.s (.int .i64 r_1.1.Kind), .s (.int .u16 r_1.1.At), .sl false r_1.1.B.length (cat (nI .u8) r_1.1.B)]⟩]) (by kernel_rfl) fun f13 hf13 => ?_
        obtain ⟨r_4, hx_r_4, h⟩ := Option.bind_eq_some_iff.1 h
        refine mops_call rfl hf13 (av := [.agg [.s (.int .i64 l_.Kind), .s (.int .u16 l_.At), .sl false l_.B.length (cat (nI .u8) l_.B)]]) (by kernel_rfl) (v := .s (.string r_4)) (CalL.pure (srec_Line_Text_ok l_ r_4 hx_r_4) (by simp [V.static, statics, cat_stat]) rfl (Nat.le_of_ble_eq_true (by kernel_rfl))) (fun _ => rfl) fun f14 hf14 => ?_
        refine mops_en hf14 (by kernel_rfl) fun f15 hf15 => ?_
        refine k_c ?_
        refine k_seq ?_
        refine k_reg ?_
        refine mops_sg 1 hf15 (by kernel_rfl) fun f16 hf16 => ?_
        obtain ⟨r_5, hx_r_5, h⟩ := Option.bind_eq_some_iff.1 h
        refine mops_call rfl hf16 (av := [.s (.string r_4)]) (by kernel_rfl) (v := .tup [.agg [.s (.int .i64 r_5.1.Kind), .s (.int .u16 r_5.1.At), .sl false r_5.1.B.length (cat (nI .u8) r_5.1.B)], .s (.int .i64 r_5.2)]) (CalL.pure (srec_Read_ok r_4 r_5 hx_r_5) rfl (by simp [V.static, statics, cat_stat, srec_Read_V]) (Nat.le_of_ble_eq_true (by kernel_rfl))) (fun _ => rfl) fun f17 hf17 => ?_
        refine mops_en hf17 (by kernel_rfl) fun f18 hf18 => ?_
        refine k_c ?_
        refine k_seq ?_
        refine k_reg ?_
        refine mops_sg 8 hf18 (by kernel_rfl) fun f19 hf19 => ?_
        obtain ⟨r_6, hx_r_6, h⟩ := Option.bind_eq_some_iff.1 h
        refine mops_call rfl hf19 (av := [.agg [.s (.int .i64 l_.Kind), .s (.int .u16 l_.At), .sl false l_.B.length (cat (nI .u8) l_.B)]]) (by kernel_rfl) (v := .s (.string r_6)) (CalL.pure (spinetref40_Text_ok (spinetref40_Line.mk l_.Kind l_.At l_.B) r_6 hx_r_6) (by simp [V.static, statics, cat_stat]) rfl (Nat.le_of_ble_eq_true (by kernel_rfl))) (fun _ => rfl) fun f20 hf20 => ?_
        refine mops_seg [4, 11, 112, 114, 116] 20 hf20 (l' := [⟨4, [], .s (.bool false)⟩, ⟨11, [], .s (.int .i64 r_5.2)⟩, ⟨112, [], .s (.bool (((r_4.toList == r_6.toList) && (r_5.1.Kind == l_.Kind)) && (r_5.1.At == l_.At)))⟩, ⟨114, [(112, true)], .sl false r_5.1.B.length (cat (nI .u8) r_5.1.B)⟩, ⟨116, [(112, true)], .sl false l_.B.length (cat (nI .u8) l_.B)⟩]) (L' := [⟨0, .mem, 1, [.s (.int .i64 l_.Kind), .s (.int .u16 l_.At), .sl false l_.B.length (cat (nI .u8) l_.B)]⟩, ⟨0, .mem, 1, [.s (.int .i64 r_.1.Kind), .s (.int .u16 r_.1.At), .sl false r_.1.B.length (cat (nI .u8) r_.1.B)]⟩, ⟨0, .mem, 1, [.s (.int .i64 r_1.1.Kind), .s (.int .u16 r_1.1.At), .sl false r_1.1.B.length (cat (nI .u8) r_1.1.B)]⟩, ⟨0, .mem, 1, [.s (.int .i64 r_5.1.Kind), .s (.int .u16 r_5.1.At), .sl false r_5.1.B.length (cat (nI .u8) r_5.1.B)]⟩]) (by kernel_rfl) fun f21 hf21 => ?_
        obtain ⟨r_7, hx_r_7, h⟩ := Option.bind_eq_some_iff.1 h
        refine mops_gcall (dst := (some 117)) (m := 14) (args := [(.t 114), (.t 116)]) (aft := [26, 28, 24, 24]) (t := 112) (w := true) (ch := [(112, true)]) (b := (((r_4.toList == r_6.toList) && (r_5.1.Kind == l_.Kind)) && (r_5.1.At == l_.At))) (by kernel_rfl) hf21 (by kernel_rfl) (by kernel_rfl) (av := [.sl false r_5.1.B.length (cat (nI .u8) r_5.1.B), .sl false l_.B.length (cat (nI .u8) l_.B)]) (by kernel_rfl) (v := .s (.bool r_7)) (by kernel_rfl) (fun hb5 => (CalL.pure (bytes_Equal_ok r_5.1.B l_.B r_7 (if_t hx_r_7 hb5)) (by simp [V.static, statics, cat_stat]) rfl (Nat.le_of_ble_eq_true (by kernel_rfl)))) fun f22 hf22 => ?_
        refine mops_sg 6 hf22 (by kernel_rfl) fun f23 hf23 => ?_
        obtain ⟨r_8, hx_r_8, h⟩ := Option.bind_eq_some_iff.1 h
        refine mops_gcall (dst := (some 124)) (m := 15) (args := []) (aft := [35, 35]) (t := 123) (w := true) (ch := [(123, true)]) (b := (((((r_4.toList == r_6.toList) && (r_5.1.Kind == l_.Kind)) && (r_5.1.At == l_.At)) && r_7) && (r_5.2 == 0))) (by kernel_rfl) hf23 (by kernel_rfl) (by kernel_rfl) (av := []) (by kernel_rfl) (v := .s (.bool r_8)) (by kernel_rfl) (fun hb6 => (CalL.pure (spinetlaw40_alive_ok  r_8 (if_t hx_r_8 hb6)) rfl rfl (Nat.le_of_ble_eq_true (by kernel_rfl)))) fun f24 hf24 => ?_
        refine mops_en hf24 (by kernel_rfl) fun f25 hf25 => ?_
        refine k_c ?_
        refine k_ret ?_
        obtain rfl := Option.some.inj h
        exact k_fin (fin_ret (.inl rfl) hf25 (vs := [.s (.bool ((((((r_4.toList == r_6.toList) && (r_5.1.Kind == l_.Kind)) && (r_5.1.At == l_.At)) && r_7) && (r_5.2 == 0)) && r_8))]) (by kernel_rfl) (SettL.pure (FzL.stat rfl)))
end Go.Proofs.YtfdadnldlngmeaaK
