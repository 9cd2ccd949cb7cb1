/- The Go functions come to the functions over typed data. Printed by a program of this work. -/
import Derived.Test.YtnilppmpfklpbaaDoorF
import Derived.Test.YtnilppmpfklpbaaDoorProg
import Derived.Test.YtnilppmpfklpbaaDoorSd
import Derived.Test.YtnilppmpfklpbaaDoorSf
import Derived.Test.YtnilppmpfklpbaaDoorSg
import Derived.Test.YtnilppmpfklpbaaDoorG1
namespace Go.Proofs.YtnilppmpfklpbaaDoorK
set_option linter.unusedVariables false
set_option linter.unusedSimpArgs false
set_option maxHeartbeats 4000000
open Go.RowKit
attribute [local irreducible] dwv mops lops lqops lwops kont iter run runK rk okK ex E1 vals val chain chB sel resF
def strings_Split_i0 : List Op1 := [(oE 4 (.nilg 1) [])]
def strings_Split_i1 : List Op1 := [(oM 5 (.t 0) []), (oM 6 (.t 1) []), (oC 7 20 [(.t 5), (.t 6), (.k (.int .i64 0)), (.k (.int .i64 (-1)))] [0, 1]), (oM 4 (.t 7) [2, 2, 0, 1, 2])]
def strings_Split_i2 : IR := .ret
def strings_Split_i3 : IR := (.seq (.reg false strings_Split_i1) strings_Split_i2)
def strings_Split_ir : IR := (.seq (.reg false strings_Split_i0) strings_Split_i3)
theorem strings_Split_cfn : cFn Tryd.prog 13 = some (strings_Split_ir, [(.t 4)], 8) := by kernel_rfl
def strings_Split_V (r : ((List ByteArray))) : V := .sl false r.length (cat nS r)
def strings_Split_C (r : ((List ByteArray))) : X → Fr → Hp → Prop := FinL [(.t 4)] [] (strings_Split_V r) []
theorem strings_Split_ok (s_ : ByteArray) (sep_ : ByteArray) (r : ((List ByteArray))) (h : strings_Split s_ sep_ = some r) : Pure Tryd.prog 13 [.s (.string s_), .s (.string sep_)] (strings_Split_V r) := by
  refine ConL.of strings_Split_cfn (Nat.le_of_ble_eq_true (by kernel_rfl)) (Nat.le_of_ble_eq_true (by kernel_rfl)) ?_
  refine k_start ?_
  show dwv Tryd.prog [] strings_Split_ir (kont Tryd.prog [] (strings_Split_C r) []) (fr0 [.s (.string s_), .s (.string sep_)]) []
  have hf : FOk (fr0 [.s (.string s_), .s (.string sep_)]) [⟨0, [], .s (.string s_)⟩, ⟨1, [], .s (.string sep_)⟩] := ⟨⟨fun _ => rfl, fun h => (h trivial).elim⟩, ⟨fun _ => rfl, fun h => (h trivial).elim⟩, trivial⟩
  generalize fr0 [.s (.string s_), .s (.string sep_)] = f at hf ⊢
  unfold strings_Split at h
  refine k_seq ?_
  refine k_reg ?_
  refine mops_en hf (by kernel_rfl) fun f1 hf1 => ?_
  refine k_c ?_
  refine k_seq ?_
  refine k_reg ?_
  refine mops_sg 2 hf1 (by kernel_rfl) fun f2 hf2 => ?_
  obtain ⟨r_, hx_r_, h⟩ := Option.bind_eq_some_iff.1 h
  refine mops_call rfl hf2 (av := [.s (.string s_), .s (.string sep_), .s (.int .i64 0), .s (.int .i64 (-1))]) (by kernel_rfl) (v := .sl false r_.length (cat nS r_)) (CalL.pure (strings_genSplit_ok s_ sep_ (0) (-1) r_ hx_r_) rfl (by simp [V.static, statics, cat_stat, strings_genSplit_V]) (Nat.le_of_ble_eq_true (by kernel_rfl))) (fun _ => rfl) fun f3 hf3 => ?_
  refine mops_en hf3 (by kernel_rfl) fun f4 hf4 => ?_
  refine k_c ?_
  refine k_ret ?_
  obtain rfl := Option.some.inj h
  exact k_fin (fin_ret (.inl rfl) hf4 (vs := [.sl false r_.length (cat nS r_)]) (by kernel_rfl) (SettL.pure (FzL.slf (g := nS))))
def strings_Repeat_i0 : List Op1 := [(oM 4 (.k (.string ⟨#[]⟩)) [])]
def strings_Repeat_i1 : List Op1 := [(oM 11 (.t 1) [])]
def strings_Repeat_i2 : List Op1 := [(oE 13 (.bin .eql (.t 11) (.k (.int .i64 0))) []), (oM 12 (.t 13) [0])]
def strings_Repeat_i3 : List Op1 := [(oM 4 (.k (.string ⟨#[]⟩)) [])]
def strings_Repeat_i4 : IR := .ret
def strings_Repeat_i5 : List Op1 := [(oE 15 (.bin .eql (.t 11) (.k (.int .i64 1))) []), (oM 14 (.t 15) [0])]
def strings_Repeat_i6 : List Op1 := [(oM 16 (.t 0) []), (oM 4 (.t 16) [0, 0])]
def strings_Repeat_i7 : IR := .ret
def strings_Repeat_i8 : IR := (.cond (.t 14) (.seq (.reg false strings_Repeat_i6) strings_Repeat_i7) .skip)
def strings_Repeat_i9 : IR := (.cond (.t 12) (.seq (.reg false strings_Repeat_i3) strings_Repeat_i4) (.seq (.reg false strings_Repeat_i5) strings_Repeat_i8))
def strings_Repeat_i10 : IR := (.block 0 (.seq (.reg false strings_Repeat_i2) strings_Repeat_i9))
def strings_Repeat_i11 : List Op1 := [(oM 17 (.t 1) []), (oE 18 (.bin .lss (.t 17) (.k (.int .i64 0))) [0])]
def strings_Repeat_i12 : List Op1 := [(oE 19 (.mki 9 (.k (.string ⟨#[115, 116, 114, 105, 110, 103, 115, 58, 32, 110, 101, 103, 97, 116, 105, 118, 101, 32, 82, 101, 112, 101, 97, 116, 32, 99, 111, 117, 110, 116]⟩))) []), (oN (.lens (.k (.bool false))) [0])]
def strings_Repeat_i13 : IR := (.cond (.t 18) (.reg false strings_Repeat_i12) .skip)
def strings_Repeat_i14 : List Op1 := [(oM 21 (.t 0) []), (oE 22 (.lens (.t 21)) [0]), (oE 23 (.cint .u64 (.t 22)) [1]), (oM 24 (.t 1) []), (oE 25 (.cint .u64 (.t 24)) [3]), (oC 26 22 [(.t 23), (.t 25)] [2, 4]), (oM 20 (.t 26) [5]), (oE 27 (.ext 0 (.t 20)) [6]), (oE 28 (.ext 1 (.t 20)) [6]), (oM 5 (.t 27) [7, 5, 0, 1, 2, 3, 4, 5, 6, 7]), (oM 6 (.t 28) [8, 9, 0, 1, 2, 3, 4, 5, 6, 7, 8, 9])]
def strings_Repeat_i15 : List Op1 := [(oM 29 (.t 5) []), (oE 30 (.bin .gtr (.t 29) (.k (.int .u64 0))) [0]), (oM 31 (.t 30) [1]), (oG 32 (.mv (.t 6)) 31 false [2]), (oG 33 (.bin .gtr (.t 32) (.k (.int .u64 9223372036854775807))) 31 false [3, 2]), (oE 34 (.pick (.t 31) (.k (.bool true)) (.t 33)) [2, 4])]
def strings_Repeat_i16 : List Op1 := [(oE 35 (.mki 9 (.k (.string ⟨#[115, 116, 114, 105, 110, 103, 115, 58, 32, 82, 101, 112, 101, 97, 116, 32, 111, 117, 116, 112, 117, 116, 32, 108, 101, 110, 103, 116, 104, 32, 111, 118, 101, 114, 102, 108, 111, 119]⟩))) []), (oN (.lens (.k (.bool false))) [0])]
def strings_Repeat_i17 : IR := (.cond (.t 34) (.reg false strings_Repeat_i16) .skip)
def strings_Repeat_i18 : List Op1 := [(oM 36 (.t 6) []), (oE 37 (.cint .i64 (.t 36)) [0]), (oM 7 (.t 37) [1, 0, 1])]
def strings_Repeat_i19 : List Op1 := [(oM 38 (.t 0) []), (oE 39 (.lens (.t 38)) [0]), (oE 40 (.bin .eql (.t 39) (.k (.int .i64 0))) [1])]
def strings_Repeat_i20 : List Op1 := [(oM 4 (.k (.string ⟨#[]⟩)) [])]
def strings_Repeat_i21 : IR := .ret
def strings_Repeat_i22 : IR := (.cond (.t 40) (.seq (.reg false strings_Repeat_i20) strings_Repeat_i21) .skip)
def strings_Repeat_i23 : List Op1 := [(oM 41 (.t 0) []), (oE 42 (.ixs (.t 41) (.k (.int .i64 0))) [0])]
def strings_Repeat_i24 : List Op1 := [(oE 44 (.bin .eql (.t 42) (.k (.int .u8 32))) []), (oM 43 (.t 44) [0])]
def strings_Repeat_i25 : List Op1 := [(oE 45 (.bin .eql (.t 42) (.k (.int .u8 45))) []), (oM 43 (.t 45) [0])]
def strings_Repeat_i26 : List Op1 := [(oE 46 (.bin .eql (.t 42) (.k (.int .u8 48))) []), (oM 43 (.t 46) [0])]
def strings_Repeat_i27 : List Op1 := [(oE 47 (.bin .eql (.t 42) (.k (.int .u8 61))) []), (oM 43 (.t 47) [0])]
def strings_Repeat_i28 : List Op1 := [(oE 48 (.bin .eql (.t 42) (.k (.int .u8 9))) []), (oM 43 (.t 48) [0])]
def strings_Repeat_i29 : IR := (.cond (.t 43) .skip (.reg false strings_Repeat_i28))
def strings_Repeat_i30 : IR := (.cond (.t 43) .skip (.seq (.reg false strings_Repeat_i27) strings_Repeat_i29))
def strings_Repeat_i31 : IR := (.cond (.t 43) .skip (.seq (.reg false strings_Repeat_i26) strings_Repeat_i30))
def strings_Repeat_i32 : IR := (.cond (.t 43) .skip (.seq (.reg false strings_Repeat_i25) strings_Repeat_i31))
def strings_Repeat_i33 : List Op1 := [(oM 50 (.t 7) []), (oE 51 (.bin .leq (.t 50) (.k (.int .i64 128))) [0]), (oM 52 (.t 51) [1]), (oG 53 (.mv (.t 0)) 52 true [2]), ⟨(some 54), (.call 23 [(.k (.string ⟨#[32, 32, 32, 32, 32, 32, 32, 32, 32, 32, 32, 32, 32, 32, 32, 32, 32, 32, 32, 32, 32, 32, 32, 32, 32, 32, 32, 32, 32, 32, 32, 32, 32, 32, 32, 32, 32, 32, 32, 32, 32, 32, 32, 32, 32, 32, 32, 32, 32, 32, 32, 32, 32, 32, 32, 32, 32, 32, 32, 32, 32, 32, 32, 32, 32, 32, 32, 32, 32, 32, 32, 32, 32, 32, 32, 32, 32, 32, 32, 32, 32, 32, 32, 32, 32, 32, 32, 32, 32, 32, 32, 32, 32, 32, 32, 32, 32, 32, 32, 32, 32, 32, 32, 32, 32, 32, 32, 32, 32, 32, 32, 32, 32, 32, 32, 32, 32, 32, 32, 32, 32, 32, 32, 32, 32, 32, 32, 32]⟩)), (.t 53)]), (some (52, true)), [3, 2, 2]⟩, (oE 55 (.pick (.t 52) (.t 54) (.k (.bool false))) [2, 4]), (oM 49 (.t 55) [5, 4])]
def strings_Repeat_i34 : List Op1 := [(oM 56 (.t 7) []), (oE 57 (.sstr (.k (.string ⟨#[32, 32, 32, 32, 32, 32, 32, 32, 32, 32, 32, 32, 32, 32, 32, 32, 32, 32, 32, 32, 32, 32, 32, 32, 32, 32, 32, 32, 32, 32, 32, 32, 32, 32, 32, 32, 32, 32, 32, 32, 32, 32, 32, 32, 32, 32, 32, 32, 32, 32, 32, 32, 32, 32, 32, 32, 32, 32, 32, 32, 32, 32, 32, 32, 32, 32, 32, 32, 32, 32, 32, 32, 32, 32, 32, 32, 32, 32, 32, 32, 32, 32, 32, 32, 32, 32, 32, 32, 32, 32, 32, 32, 32, 32, 32, 32, 32, 32, 32, 32, 32, 32, 32, 32, 32, 32, 32, 32, 32, 32, 32, 32, 32, 32, 32, 32, 32, 32, 32, 32, 32, 32, 32, 32, 32, 32, 32, 32]⟩)) none (some (.t 56))) [0]), (oM 4 (.t 57) [1, 0, 1])]
def strings_Repeat_i35 : IR := .ret
def strings_Repeat_i36 : List Op1 := [(oM 59 (.t 7) []), (oE 60 (.bin .leq (.t 59) (.k (.int .i64 128))) [0]), (oM 61 (.t 60) [1]), (oG 62 (.mv (.t 0)) 61 true [2]), ⟨(some 63), (.call 23 [(.k (.string ⟨#[45, 45, 45, 45, 45, 45, 45, 45, 45, 45, 45, 45, 45, 45, 45, 45, 45, 45, 45, 45, 45, 45, 45, 45, 45, 45, 45, 45, 45, 45, 45, 45, 45, 45, 45, 45, 45, 45, 45, 45, 45, 45, 45, 45, 45, 45, 45, 45, 45, 45, 45, 45, 45, 45, 45, 45, 45, 45, 45, 45, 45, 45, 45, 45, 45, 45, 45, 45, 45, 45, 45, 45, 45, 45, 45, 45, 45, 45, 45, 45, 45, 45, 45, 45, 45, 45, 45, 45, 45, 45, 45, 45, 45, 45, 45, 45, 45, 45, 45, 45, 45, 45, 45, 45, 45, 45, 45, 45, 45, 45, 45, 45, 45, 45, 45, 45, 45, 45, 45, 45, 45, 45, 45, 45, 45, 45, 45, 45]⟩)), (.t 62)]), (some (61, true)), [3, 2, 2]⟩, (oE 64 (.pick (.t 61) (.t 63) (.k (.bool false))) [2, 4]), (oM 58 (.t 64) [5, 4])]
def strings_Repeat_i37 : List Op1 := [(oM 65 (.t 7) []), (oE 66 (.sstr (.k (.string ⟨#[45, 45, 45, 45, 45, 45, 45, 45, 45, 45, 45, 45, 45, 45, 45, 45, 45, 45, 45, 45, 45, 45, 45, 45, 45, 45, 45, 45, 45, 45, 45, 45, 45, 45, 45, 45, 45, 45, 45, 45, 45, 45, 45, 45, 45, 45, 45, 45, 45, 45, 45, 45, 45, 45, 45, 45, 45, 45, 45, 45, 45, 45, 45, 45, 45, 45, 45, 45, 45, 45, 45, 45, 45, 45, 45, 45, 45, 45, 45, 45, 45, 45, 45, 45, 45, 45, 45, 45, 45, 45, 45, 45, 45, 45, 45, 45, 45, 45, 45, 45, 45, 45, 45, 45, 45, 45, 45, 45, 45, 45, 45, 45, 45, 45, 45, 45, 45, 45, 45, 45, 45, 45, 45, 45, 45, 45, 45, 45]⟩)) none (some (.t 65))) [0]), (oM 4 (.t 66) [1, 0, 1])]
def strings_Repeat_i38 : IR := .ret
def strings_Repeat_i39 : List Op1 := [(oM 68 (.t 7) []), (oE 69 (.bin .leq (.t 68) (.k (.int .i64 64))) [0]), (oM 70 (.t 69) [1]), (oG 71 (.mv (.t 0)) 70 true [2]), ⟨(some 72), (.call 23 [(.k (.string ⟨#[48, 48, 48, 48, 48, 48, 48, 48, 48, 48, 48, 48, 48, 48, 48, 48, 48, 48, 48, 48, 48, 48, 48, 48, 48, 48, 48, 48, 48, 48, 48, 48, 48, 48, 48, 48, 48, 48, 48, 48, 48, 48, 48, 48, 48, 48, 48, 48, 48, 48, 48, 48, 48, 48, 48, 48, 48, 48, 48, 48, 48, 48, 48, 48]⟩)), (.t 71)]), (some (70, true)), [3, 2, 2]⟩, (oE 73 (.pick (.t 70) (.t 72) (.k (.bool false))) [2, 4]), (oM 67 (.t 73) [5, 4])]
def strings_Repeat_i40 : List Op1 := [(oM 74 (.t 7) []), (oE 75 (.sstr (.k (.string ⟨#[48, 48, 48, 48, 48, 48, 48, 48, 48, 48, 48, 48, 48, 48, 48, 48, 48, 48, 48, 48, 48, 48, 48, 48, 48, 48, 48, 48, 48, 48, 48, 48, 48, 48, 48, 48, 48, 48, 48, 48, 48, 48, 48, 48, 48, 48, 48, 48, 48, 48, 48, 48, 48, 48, 48, 48, 48, 48, 48, 48, 48, 48, 48, 48]⟩)) none (some (.t 74))) [0]), (oM 4 (.t 75) [1, 0, 1])]
def strings_Repeat_i41 : IR := .ret
def strings_Repeat_i42 : List Op1 := [(oM 77 (.t 7) []), (oE 78 (.bin .leq (.t 77) (.k (.int .i64 128))) [0]), (oM 79 (.t 78) [1]), (oG 80 (.mv (.t 0)) 79 true [2]), ⟨(some 81), (.call 23 [(.k (.string ⟨#[61, 61, 61, 61, 61, 61, 61, 61, 61, 61, 61, 61, 61, 61, 61, 61, 61, 61, 61, 61, 61, 61, 61, 61, 61, 61, 61, 61, 61, 61, 61, 61, 61, 61, 61, 61, 61, 61, 61, 61, 61, 61, 61, 61, 61, 61, 61, 61, 61, 61, 61, 61, 61, 61, 61, 61, 61, 61, 61, 61, 61, 61, 61, 61, 61, 61, 61, 61, 61, 61, 61, 61, 61, 61, 61, 61, 61, 61, 61, 61, 61, 61, 61, 61, 61, 61, 61, 61, 61, 61, 61, 61, 61, 61, 61, 61, 61, 61, 61, 61, 61, 61, 61, 61, 61, 61, 61, 61, 61, 61, 61, 61, 61, 61, 61, 61, 61, 61, 61, 61, 61, 61, 61, 61, 61, 61, 61, 61]⟩)), (.t 80)]), (some (79, true)), [3, 2, 2]⟩, (oE 82 (.pick (.t 79) (.t 81) (.k (.bool false))) [2, 4]), (oM 76 (.t 82) [5, 4])]
def strings_Repeat_i43 : List Op1 := [(oM 83 (.t 7) []), (oE 84 (.sstr (.k (.string ⟨#[61, 61, 61, 61, 61, 61, 61, 61, 61, 61, 61, 61, 61, 61, 61, 61, 61, 61, 61, 61, 61, 61, 61, 61, 61, 61, 61, 61, 61, 61, 61, 61, 61, 61, 61, 61, 61, 61, 61, 61, 61, 61, 61, 61, 61, 61, 61, 61, 61, 61, 61, 61, 61, 61, 61, 61, 61, 61, 61, 61, 61, 61, 61, 61, 61, 61, 61, 61, 61, 61, 61, 61, 61, 61, 61, 61, 61, 61, 61, 61, 61, 61, 61, 61, 61, 61, 61, 61, 61, 61, 61, 61, 61, 61, 61, 61, 61, 61, 61, 61, 61, 61, 61, 61, 61, 61, 61, 61, 61, 61, 61, 61, 61, 61, 61, 61, 61, 61, 61, 61, 61, 61, 61, 61, 61, 61, 61, 61]⟩)) none (some (.t 83))) [0]), (oM 4 (.t 84) [1, 0, 1])]
def strings_Repeat_i44 : IR := .ret
def strings_Repeat_i45 : List Op1 := [(oM 86 (.t 7) []), (oE 87 (.bin .leq (.t 86) (.k (.int .i64 64))) [0]), (oM 88 (.t 87) [1]), (oG 89 (.mv (.t 0)) 88 true [2]), ⟨(some 90), (.call 23 [(.k (.string ⟨#[9, 9, 9, 9, 9, 9, 9, 9, 9, 9, 9, 9, 9, 9, 9, 9, 9, 9, 9, 9, 9, 9, 9, 9, 9, 9, 9, 9, 9, 9, 9, 9, 9, 9, 9, 9, 9, 9, 9, 9, 9, 9, 9, 9, 9, 9, 9, 9, 9, 9, 9, 9, 9, 9, 9, 9, 9, 9, 9, 9, 9, 9, 9, 9]⟩)), (.t 89)]), (some (88, true)), [3, 2, 2]⟩, (oE 91 (.pick (.t 88) (.t 90) (.k (.bool false))) [2, 4]), (oM 85 (.t 91) [5, 4])]
def strings_Repeat_i46 : List Op1 := [(oM 92 (.t 7) []), (oE 93 (.sstr (.k (.string ⟨#[9, 9, 9, 9, 9, 9, 9, 9, 9, 9, 9, 9, 9, 9, 9, 9, 9, 9, 9, 9, 9, 9, 9, 9, 9, 9, 9, 9, 9, 9, 9, 9, 9, 9, 9, 9, 9, 9, 9, 9, 9, 9, 9, 9, 9, 9, 9, 9, 9, 9, 9, 9, 9, 9, 9, 9, 9, 9, 9, 9, 9, 9, 9, 9]⟩)) none (some (.t 92))) [0]), (oM 4 (.t 93) [1, 0, 1])]
def strings_Repeat_i47 : IR := .ret
def strings_Repeat_i48 : IR := (.cond (.t 85) (.seq (.reg false strings_Repeat_i46) strings_Repeat_i47) .skip)
def strings_Repeat_i49 : IR := (.cond (.t 76) (.seq (.reg false strings_Repeat_i43) strings_Repeat_i44) (.seq (.reg false strings_Repeat_i45) strings_Repeat_i48))
def strings_Repeat_i50 : IR := (.cond (.t 67) (.seq (.reg false strings_Repeat_i40) strings_Repeat_i41) (.seq (.reg false strings_Repeat_i42) strings_Repeat_i49))
def strings_Repeat_i51 : IR := (.cond (.t 58) (.seq (.reg false strings_Repeat_i37) strings_Repeat_i38) (.seq (.reg false strings_Repeat_i39) strings_Repeat_i50))
def strings_Repeat_i52 : IR := (.cond (.t 49) (.seq (.reg false strings_Repeat_i34) strings_Repeat_i35) (.seq (.reg false strings_Repeat_i36) strings_Repeat_i51))
def strings_Repeat_i53 : IR := (.cond (.t 43) (.block 2 (.seq (.reg false strings_Repeat_i33) strings_Repeat_i52)) .skip)
def strings_Repeat_i54 : IR := (.block 1 (.seq (.seq (.reg false strings_Repeat_i24) strings_Repeat_i32) strings_Repeat_i53))
def strings_Repeat_i55 : List Op1 := [(oM 94 (.t 7) []), (oM 8 (.t 94) [0, 0])]
def strings_Repeat_i56 : List Op1 := [(oM 95 (.t 7) []), (oE 96 (.bin .gtr (.t 95) (.k (.int .i64 8192))) [0])]
def strings_Repeat_i57 : List Op1 := [(oM 97 (.t 0) []), (oE 98 (.lens (.t 97)) [0]), (oE 99 (.bin .quo (.k (.int .i64 8192)) (.t 98)) [1]), (oM 100 (.t 0) []), (oE 101 (.lens (.t 100)) [3]), (oE 102 (.bin .mul (.t 99) (.t 101)) [2, 4]), (oM 8 (.t 102) [5, 0, 1, 2, 3, 4, 5])]
def strings_Repeat_i58 : List Op1 := [(oM 103 (.t 8) []), (oE 104 (.bin .eql (.t 103) (.k (.int .i64 0))) [0])]
def strings_Repeat_i59 : List Op1 := [(oM 105 (.t 0) []), (oE 106 (.lens (.t 105)) [0]), (oM 8 (.t 106) [1, 0, 1])]
def strings_Repeat_i60 : IR := (.cond (.t 104) (.reg false strings_Repeat_i59) .skip)
def strings_Repeat_i61 : IR := (.seq (.reg false strings_Repeat_i58) strings_Repeat_i60)
def strings_Repeat_i62 : IR := (.cond (.t 96) (.seq (.reg false strings_Repeat_i57) strings_Repeat_i61) .skip)
def strings_Repeat_i63 : List Op1 := [(oE 9 (.zerob 44 5) [])]
def strings_Repeat_i64 : List Op1 := [(oM 107 (.t 7) []), (oC 108 24 [(.t 9), (.t 107)] [0])]
def strings_Repeat_i65 : List Op1 := [(oM 109 (.t 0) []), (oC 110 14 [(.t 9), (.t 109)] [0])]
def strings_Repeat_i66 : List Op1 := [(oC 111 25 [(.t 9)] []), (oM 112 (.t 7) []), (oE 113 (.bin .lss (.t 111) (.t 112)) [0, 1])]
def strings_Repeat_i67 : IR := (.cond (.t 113) .skip (.exit 3))
def strings_Repeat_i68 : List Op1 := [(oM 114 (.t 7) []), (oC 115 25 [(.t 9)] []), (oE 116 (.bin .sub (.t 114) (.t 115)) [0, 1]), (oC 117 25 [(.t 9)] [1]), (oM 118 (.t 8) []), (oE 119 (.lens (.k (.bool false))) [2, 3, 4]), (oM 10 (.t 119) [5, 3, 0, 1, 2, 3, 4, 5])]
def strings_Repeat_i69 : List Op1 := [(oC 120 16 [(.t 9)] []), (oM 121 (.t 10) []), (oE 122 (.sstr (.t 120) none (some (.t 121))) [0, 1]), (oC 123 14 [(.t 9), (.t 122)] [2, 0])]
def strings_Repeat_i70 : IR := (.reg false strings_Repeat_i69)
def strings_Repeat_i71 : IR := (.block 4 (.seq (.reg false strings_Repeat_i68) strings_Repeat_i70))
def strings_Repeat_i72 : IR := (.seq (.seq (.reg false strings_Repeat_i66) strings_Repeat_i67) strings_Repeat_i71)
def strings_Repeat_i73 : List Op1 := [(oC 124 16 [(.t 9)] []), (oM 4 (.t 124) [0, 0, 0])]
def strings_Repeat_i74 : IR := .ret
def strings_Repeat_i75 : IR := (.seq (.reg false strings_Repeat_i73) strings_Repeat_i74)
def strings_Repeat_i76 : IR := (.seq (.block 3 (.loop strings_Repeat_i72)) strings_Repeat_i75)
def strings_Repeat_i77 : IR := (.seq (.reg false strings_Repeat_i65) strings_Repeat_i76)
def strings_Repeat_i78 : IR := (.seq (.reg false strings_Repeat_i64) strings_Repeat_i77)
def strings_Repeat_i79 : IR := (.seq (.reg false strings_Repeat_i63) strings_Repeat_i78)
def strings_Repeat_i80 : IR := (.seq (.seq (.reg false strings_Repeat_i56) strings_Repeat_i62) strings_Repeat_i79)
def strings_Repeat_i81 : IR := (.seq (.reg false strings_Repeat_i55) strings_Repeat_i80)
def strings_Repeat_i82 : IR := (.seq (.seq (.reg false strings_Repeat_i23) strings_Repeat_i54) strings_Repeat_i81)
def strings_Repeat_i83 : IR := (.seq (.seq (.reg false strings_Repeat_i19) strings_Repeat_i22) strings_Repeat_i82)
def strings_Repeat_i84 : IR := (.seq (.reg false strings_Repeat_i18) strings_Repeat_i83)
def strings_Repeat_i85 : IR := (.seq (.seq (.reg false strings_Repeat_i15) strings_Repeat_i17) strings_Repeat_i84)
def strings_Repeat_i86 : IR := (.seq (.reg false strings_Repeat_i14) strings_Repeat_i85)
def strings_Repeat_i87 : IR := (.seq (.seq (.reg false strings_Repeat_i11) strings_Repeat_i13) strings_Repeat_i86)
def strings_Repeat_i88 : IR := (.seq (.seq (.reg false strings_Repeat_i1) strings_Repeat_i10) strings_Repeat_i87)
def strings_Repeat_ir : IR := (.seq (.reg false strings_Repeat_i0) strings_Repeat_i88)
theorem strings_Repeat_cfn : cFn Tryd.prog 15 = some (strings_Repeat_ir, [(.t 4)], 125) := by kernel_rfl
def strings_Repeat_V (r : (ByteArray)) : V := .s (.string r)
def strings_Repeat_C (r : (ByteArray)) : X → Fr → Hp → Prop := FinL [(.t 4)] [] (strings_Repeat_V r) []
theorem strings_Repeat_ok (s_ : ByteArray) (count_ : Int) (r : (ByteArray)) (h : strings_Repeat s_ count_ = some r) : Pure Tryd.prog 15 [.s (.string s_), .s (.int .i64 count_)] (strings_Repeat_V r) := by
  refine ConL.of strings_Repeat_cfn (Nat.le_of_ble_eq_true (by kernel_rfl)) (Nat.le_of_ble_eq_true (by kernel_rfl)) ?_
  refine k_start ?_
  show dwv Tryd.prog [] strings_Repeat_ir (kont Tryd.prog [] (strings_Repeat_C r) []) (fr0 [.s (.string s_), .s (.int .i64 count_)]) []
  have hf : FOk (fr0 [.s (.string s_), .s (.int .i64 count_)]) [⟨0, [], .s (.string s_)⟩, ⟨1, [], .s (.int .i64 count_)⟩] := ⟨⟨fun _ => rfl, fun h => (h trivial).elim⟩, ⟨fun _ => rfl, fun h => (h trivial).elim⟩, trivial⟩
  generalize fr0 [.s (.string s_), .s (.int .i64 count_)] = f at hf ⊢
  unfold strings_Repeat at h
  refine k_seq ?_
  refine k_reg ?_
  refine mops_en hf (by kernel_rfl) fun f1 hf1 => ?_
  refine k_c ?_
  refine k_seq ?_
  refine k_seq ?_
  refine k_reg ?_
  refine mops_en hf1 (by kernel_rfl) fun f2 hf2 => ?_
  refine k_c ?_
  refine k_block ?_
  refine k_seq ?_
  refine k_reg ?_
  refine mops_en hf2 (by kernel_rfl) fun f3 hf3 => ?_
  refine k_c ?_
  refine k_cond hf3 (t := (count_ == 0)) (by kernel_rfl) (fun hc1 => ?_) (fun hc1 => ?_)
  · have h := if_t h hc1
    refine k_seq ?_
    refine k_reg ?_
    refine mops_en hf3 (by kernel_rfl) fun f4 hf4 => ?_
    refine k_c ?_
    refine k_ret ?_
    refine x_br ?_
    refine x_c nofun ?_
    obtain rfl := Option.some.inj h
    exact k_fin (fin_ret (.inl rfl) hf4 (vs := [.s (.string (⟨#[]⟩ : ByteArray))]) (by kernel_rfl) (SettL.pure (FzL.stat rfl)))
  · have h := if_f h hc1
    refine k_seq ?_
    refine k_reg ?_
    refine mops_en hf3 (by kernel_rfl) fun f4 hf4 => ?_
    refine k_c ?_
    refine k_cond hf4 (t := (count_ == 1)) (by kernel_rfl) (fun hc2 => ?_) (fun hc2 => ?_)
    · have h := if_t h hc2
      refine k_seq ?_
      refine k_reg ?_
      refine mops_en hf4 (by kernel_rfl) fun f5 hf5 => ?_
      refine k_c ?_
      refine k_ret ?_
      refine x_br ?_
      refine x_c nofun ?_
      obtain rfl := Option.some.inj h
      exact k_fin (fin_ret (.inl rfl) hf5 (vs := [.s (.string s_)]) (by kernel_rfl) (SettL.pure (FzL.stat rfl)))
    · have h := if_f h hc2
      refine k_skip ?_
      refine k_b ?_
      refine k_c ?_
      refine k_seq ?_
      refine k_seq ?_
      refine k_reg ?_
      refine mops_en hf4 (by kernel_rfl) fun f5 hf5 => ?_
      refine k_c ?_
      refine k_cond hf5 (t := (decide (count_ < 0))) (by kernel_rfl) (fun hc3 => ?_) (fun hc3 => ?_)
      · have h := if_t h hc3
        cases h
      · have h := if_f h hc3
        refine k_skip ?_
        refine k_c ?_
        refine k_seq ?_
        refine k_reg ?_
        refine mops_sg 5 hf5 (by kernel_rfl) fun f6 hf6 => ?_
        obtain ⟨r_, hx_r_, h⟩ := Option.bind_eq_some_iff.1 h
        refine mops_call rfl hf6 (av := [.s (.int .u64 (IntKind.wrap .u64 (sln s_))), .s (.int .u64 (IntKind.wrap .u64 count_))]) (by kernel_rfl) (v := .tup [.s (.int .u64 r_.1), .s (.int .u64 r_.2)]) (CalL.pure (math_bits_Mul_ok (IntKind.wrap .u64 (sln s_)) (IntKind.wrap .u64 count_) r_ hx_r_) rfl rfl (Nat.le_of_ble_eq_true (by kernel_rfl))) (fun _ => rfl) fun f7 hf7 => ?_
        refine mops_en hf7 (by kernel_rfl) fun f8 hf8 => ?_
        refine k_c ?_
        refine k_seq ?_
        refine k_seq ?_
        refine k_reg ?_
        refine mops_en hf8 (by kernel_rfl) fun f9 hf9 => ?_
        refine k_c ?_
        refine k_cond hf9 (t := ((decide (0 < r_.1)) || (decide (9223372036854775807 < r_.2)))) (by kernel_rfl) (fun hc4 => ?_) (fun hc4 => ?_)
        · have h := if_t h hc4
          cases h
        · have h := if_f h hc4
          refine k_skip ?_
          refine k_c ?_
          refine k_seq ?_
          refine k_reg ?_
          refine mops_en hf9 (by kernel_rfl) fun f10 hf10 => ?_
          refine k_c ?_
          refine k_seq ?_
          refine k_seq ?_
          refine k_reg ?_
          refine mops_en hf10 (by kernel_rfl) fun f11 hf11 => ?_
          refine k_c ?_
          refine k_cond hf11 (t := ((sln s_) == 0)) (by kernel_rfl) (fun hc5 => ?_) (fun hc5 => ?_)
          · have h := if_t h hc5
            refine k_seq ?_
            refine k_reg ?_
            refine mops_end [0, 4, 7] hf11 (l' := [⟨0, [], .s (.string s_)⟩, ⟨4, [], .s (.string (⟨#[]⟩ : ByteArray))⟩, ⟨7, [], .s (.int .i64 (IntKind.wrap .i64 r_.2))⟩]) (L' := []) (by kernel_rfl) fun f12 hf12 => ?_
            refine k_c ?_
            refine k_ret ?_
            refine x_c nofun ?_
            obtain rfl := Option.some.inj h
            exact k_fin (fin_ret (.inl rfl) hf12 (vs := [.s (.string (⟨#[]⟩ : ByteArray))]) (by kernel_rfl) (SettL.pure (FzL.stat rfl)))
          · have h := if_f h hc5
            refine k_skip ?_
            refine k_c ?_
            refine k_seq ?_
            refine k_seq ?_
            refine k_reg ?_
            refine mops_seg [0, 4, 7, 41] 1 hf11 (l' := [⟨0, [], .s (.string s_)⟩, ⟨4, [], .s (.string (⟨#[]⟩ : ByteArray))⟩, ⟨7, [], .s (.int .i64 (IntKind.wrap .i64 r_.2))⟩, ⟨41, [], .s (.string s_)⟩]) (L' := []) (by kernel_rfl) fun f12 hf12 => ?_
            obtain ⟨c6, h⟩ := as_ok h
            refine mops_adv rfl (v := .s (.int .u8 (bt s_ (0)))) hf12 (by kernel_rfl) (e_ixs (t := s_) (k := .i64) (iv := 0) (by kernel_rfl) (by kernel_rfl) c6) fun f13 hf13 => ?_
            refine mops_en hf13 (by kernel_rfl) fun f14 hf14 => ?_
            refine k_c ?_
            refine k_block ?_
            refine k_seq ?_
            refine k_seq ?_
            refine k_reg ?_
            refine mops_en hf14 (by kernel_rfl) fun f15 hf15 => ?_
            refine k_c ?_
            have hj3 : ∀ (t_ : Bool), strings_Repeat_j2 s_ r_ t_ = some r → ∀ f, FOk f [⟨0, [], .s (.string s_)⟩, ⟨4, [], .s (.string (⟨#[]⟩ : ByteArray))⟩, ⟨7, [], .s (.int .i64 (IntKind.wrap .i64 r_.2))⟩, ⟨43, [], .s (.bool t_)⟩] → kont Tryd.prog [] (strings_Repeat_C r) ((.c strings_Repeat_i53) :: (.b 1) :: (.c strings_Repeat_i81) :: []) .normal f [] := by
              intro t_ h f hf
              unfold strings_Repeat_j2 at h
              refine k_c ?_
              have hj4 : ∀ (_ : Unit), strings_Repeat_j1 s_ r_ = some r → ∀ f, FOk f [⟨0, [], .s (.string s_)⟩, ⟨4, [], .s (.string (⟨#[]⟩ : ByteArray))⟩, ⟨7, [], .s (.int .i64 (IntKind.wrap .i64 r_.2))⟩] → kont Tryd.prog [] (strings_Repeat_C r) ((.c strings_Repeat_i81) :: []) .normal f [] := by
                intro _ h f hf
                unfold strings_Repeat_j1 at h
                refine k_c ?_
                refine k_seq ?_
                refine k_reg ?_
                refine mops_en hf (by kernel_rfl) fun f1 hf1 => ?_
                refine k_c ?_
                refine k_seq ?_
                refine k_seq ?_
                refine k_reg ?_
                refine mops_en hf1 (by kernel_rfl) fun f2 hf2 => ?_
                refine k_c ?_
                have hj5 : ∀ (chunkMax_ : Int), strings_Repeat_j0 = some r → ∀ f, FOk f [⟨0, [], .s (.string s_)⟩, ⟨4, [], .s (.string (⟨#[]⟩ : ByteArray))⟩, ⟨7, [], .s (.int .i64 (IntKind.wrap .i64 r_.2))⟩, ⟨8, [], .s (.int .i64 chunkMax_)⟩] → kont Tryd.prog [] (strings_Repeat_C r) ((.c strings_Repeat_i79) :: []) .normal f [] := by
                  intro chunkMax_ h f hf
                  unfold strings_Repeat_j0 at h
                  cases h
                refine k_cond hf2 (t := (decide (8192 < (IntKind.wrap .i64 r_.2)))) (by kernel_rfl) (fun hc27 => ?_) (fun hc27 => ?_)
                · have h := if_t h hc27
                  refine k_seq ?_
                  refine k_reg ?_
                  refine mops_sg 2 hf2 (by kernel_rfl) fun f3 hf3 => ?_
                  obtain ⟨c28, h⟩ := as_ok h
                  refine mops_adv rfl (v := .s (.int .i64 (IntKind.wrap .i64 (Int.tdiv 8192 (sln s_))))) hf3 (by kernel_rfl) (e_quo (k := .i64) (iv := 8192) (jv := (sln s_)) (by kernel_rfl) (by kernel_rfl) c28) fun f4 hf4 => ?_
                  refine mops_en hf4 (by kernel_rfl) fun f5 hf5 => ?_
                  refine k_c ?_
                  refine k_seq ?_
                  refine k_reg ?_
                  refine mops_en hf5 (by kernel_rfl) fun f6 hf6 => ?_
                  refine k_c ?_
                  refine k_cond hf6 (t := ((IntKind.wrap .i64 ((IntKind.wrap .i64 (Int.tdiv 8192 (sln s_))) * (sln s_))) == 0)) (by kernel_rfl) (fun hc29 => ?_) (fun hc29 => ?_)
                  · have h := if_t h hc29
                    refine k_reg ?_
                    refine mops_en hf6 (by kernel_rfl) fun f7 hf7 => ?_
                    refine k_hp (L' := []) (by kernel_rfl) ?_
                    exact hj5 (sln s_) h _ (FOk_of [0, 4, 7, 8] hf7 (by kernel_rfl))
                  · have h := if_f h hc29
                    refine k_skip ?_
                    refine k_hp (L' := []) (by kernel_rfl) ?_
                    exact hj5 (IntKind.wrap .i64 ((IntKind.wrap .i64 (Int.tdiv 8192 (sln s_))) * (sln s_))) h _ (FOk_of [0, 4, 7, 8] hf6 (by kernel_rfl))
                · have h := if_f h hc27
                  refine k_skip ?_
                  refine k_hp (L' := []) (by kernel_rfl) ?_
                  exact hj5 (IntKind.wrap .i64 r_.2) h _ (FOk_of [0, 4, 7, 8] hf2 (by kernel_rfl))
              refine k_cond hf (t := t_) (by kernel_rfl) (fun hc11 => ?_) (fun hc11 => ?_)
              · have h := if_t h hc11
                refine k_block ?_
                refine k_seq ?_
                refine k_reg ?_
                refine mops_sg 4 hf (by kernel_rfl) fun f1 hf1 => ?_
                obtain ⟨r_1, hx_r_1, h⟩ := Option.bind_eq_some_iff.1 h
                refine mops_gcall (dst := (some 54)) (m := 23) (args := [(.k (.string ⟨#[32, 32, 32, 32, 32, 32, 32, 32, 32, 32, 32, 32, 32, 32, 32, 32, 32, 32, 32, 32, 32, 32, 32, 32, 32, 32, 32, 32, 32, 32, 32, 32, 32, 32, 32, 32, 32, 32, 32, 32, 32, 32, 32, 32, 32, 32, 32, 32, 32, 32, 32, 32, 32, 32, 32, 32, 32, 32, 32, 32, 32, 32, 32, 32, 32, 32, 32, 32, 32, 32, 32, 32, 32, 32, 32, 32, 32, 32, 32, 32, 32, 32, 32, 32, 32, 32, 32, 32, 32, 32, 32, 32, 32, 32, 32, 32, 32, 32, 32, 32, 32, 32, 32, 32, 32, 32, 32, 32, 32, 32, 32, 32, 32, 32, 32, 32, 32, 32, 32, 32, 32, 32, 32, 32, 32, 32, 32, 32]⟩)), (.t 53)]) (aft := [3, 2, 2]) (t := 52) (w := true) (ch := [(52, true)]) (b := (decide ((IntKind.wrap .i64 r_.2) ≤ 128))) (by kernel_rfl) hf1 (by kernel_rfl) (by kernel_rfl) (av := [.s (.string (⟨#[32, 32, 32, 32, 32, 32, 32, 32, 32, 32, 32, 32, 32, 32, 32, 32, 32, 32, 32, 32, 32, 32, 32, 32, 32, 32, 32, 32, 32, 32, 32, 32, 32, 32, 32, 32, 32, 32, 32, 32, 32, 32, 32, 32, 32, 32, 32, 32, 32, 32, 32, 32, 32, 32, 32, 32, 32, 32, 32, 32, 32, 32, 32, 32, 32, 32, 32, 32, 32, 32, 32, 32, 32, 32, 32, 32, 32, 32, 32, 32, 32, 32, 32, 32, 32, 32, 32, 32, 32, 32, 32, 32, 32, 32, 32, 32, 32, 32, 32, 32, 32, 32, 32, 32, 32, 32, 32, 32, 32, 32, 32, 32, 32, 32, 32, 32, 32, 32, 32, 32, 32, 32, 32, 32, 32, 32, 32, 32]⟩ : ByteArray)), .s (.string s_)]) (by kernel_rfl) (v := .s (.bool r_1)) (by kernel_rfl) (fun hb12 => (CalL.pure (strings_HasPrefix_ok (⟨#[32, 32, 32, 32, 32, 32, 32, 32, 32, 32, 32, 32, 32, 32, 32, 32, 32, 32, 32, 32, 32, 32, 32, 32, 32, 32, 32, 32, 32, 32, 32, 32, 32, 32, 32, 32, 32, 32, 32, 32, 32, 32, 32, 32, 32, 32, 32, 32, 32, 32, 32, 32, 32, 32, 32, 32, 32, 32, 32, 32, 32, 32, 32, 32, 32, 32, 32, 32, 32, 32, 32, 32, 32, 32, 32, 32, 32, 32, 32, 32, 32, 32, 32, 32, 32, 32, 32, 32, 32, 32, 32, 32, 32, 32, 32, 32, 32, 32, 32, 32, 32, 32, 32, 32, 32, 32, 32, 32, 32, 32, 32, 32, 32, 32, 32, 32, 32, 32, 32, 32, 32, 32, 32, 32, 32, 32, 32, 32]⟩ : ByteArray) s_ r_1 (if_t hx_r_1 hb12)) rfl rfl (Nat.le_of_ble_eq_true (by kernel_rfl)))) fun f2 hf2 => ?_
                refine mops_en hf2 (by kernel_rfl) fun f3 hf3 => ?_
                refine k_c ?_
                refine k_cond hf3 (t := ((decide ((IntKind.wrap .i64 r_.2) ≤ 128)) && r_1)) (by kernel_rfl) (fun hc13 => ?_) (fun hc13 => ?_)
                · have h := if_t h hc13
                  refine k_seq ?_
                  refine k_reg ?_
                  refine mops_sg 1 hf3 (by kernel_rfl) fun f4 hf4 => ?_
                  obtain ⟨c14, h⟩ := as_ok h
                  refine mops_adv rfl (v := .s (.string ((⟨#[32, 32, 32, 32, 32, 32, 32, 32, 32, 32, 32, 32, 32, 32, 32, 32, 32, 32, 32, 32, 32, 32, 32, 32, 32, 32, 32, 32, 32, 32, 32, 32, 32, 32, 32, 32, 32, 32, 32, 32, 32, 32, 32, 32, 32, 32, 32, 32, 32, 32, 32, 32, 32, 32, 32, 32, 32, 32, 32, 32, 32, 32, 32, 32, 32, 32, 32, 32, 32, 32, 32, 32, 32, 32, 32, 32, 32, 32, 32, 32, 32, 32, 32, 32, 32, 32, 32, 32, 32, 32, 32, 32, 32, 32, 32, 32, 32, 32, 32, 32, 32, 32, 32, 32, 32, 32, 32, 32, 32, 32, 32, 32, 32, 32, 32, 32, 32, 32, 32, 32, 32, 32, 32, 32, 32, 32, 32, 32]⟩ : ByteArray).extract 0 ((IntKind.wrap .i64 r_.2) : Int).toNat))) hf4 (by kernel_rfl) (e_sstr (t := (⟨#[32, 32, 32, 32, 32, 32, 32, 32, 32, 32, 32, 32, 32, 32, 32, 32, 32, 32, 32, 32, 32, 32, 32, 32, 32, 32, 32, 32, 32, 32, 32, 32, 32, 32, 32, 32, 32, 32, 32, 32, 32, 32, 32, 32, 32, 32, 32, 32, 32, 32, 32, 32, 32, 32, 32, 32, 32, 32, 32, 32, 32, 32, 32, 32, 32, 32, 32, 32, 32, 32, 32, 32, 32, 32, 32, 32, 32, 32, 32, 32, 32, 32, 32, 32, 32, 32, 32, 32, 32, 32, 32, 32, 32, 32, 32, 32, 32, 32, 32, 32, 32, 32, 32, 32, 32, 32, 32, 32, 32, 32, 32, 32, 32, 32, 32, 32, 32, 32, 32, 32, 32, 32, 32, 32, 32, 32, 32, 32]⟩ : ByteArray)) (by kernel_rfl) (b_ns (k := .i64) (iv := (IntKind.wrap .i64 r_.2)) (by kernel_rfl) c14)) fun f5 hf5 => ?_
                  refine mops_en hf5 (by kernel_rfl) fun f6 hf6 => ?_
                  refine k_c ?_
                  refine k_ret ?_
                  refine x_br ?_
                  refine x_br ?_
                  refine x_c nofun ?_
                  obtain rfl := Option.some.inj h
                  exact k_fin (fin_ret (.inl rfl) hf6 (vs := [.s (.string ((⟨#[32, 32, 32, 32, 32, 32, 32, 32, 32, 32, 32, 32, 32, 32, 32, 32, 32, 32, 32, 32, 32, 32, 32, 32, 32, 32, 32, 32, 32, 32, 32, 32, 32, 32, 32, 32, 32, 32, 32, 32, 32, 32, 32, 32, 32, 32, 32, 32, 32, 32, 32, 32, 32, 32, 32, 32, 32, 32, 32, 32, 32, 32, 32, 32, 32, 32, 32, 32, 32, 32, 32, 32, 32, 32, 32, 32, 32, 32, 32, 32, 32, 32, 32, 32, 32, 32, 32, 32, 32, 32, 32, 32, 32, 32, 32, 32, 32, 32, 32, 32, 32, 32, 32, 32, 32, 32, 32, 32, 32, 32, 32, 32, 32, 32, 32, 32, 32, 32, 32, 32, 32, 32, 32, 32, 32, 32, 32, 32]⟩ : ByteArray).extract 0 ((IntKind.wrap .i64 r_.2) : Int).toNat))]) (by kernel_rfl) (SettL.pure (FzL.stat rfl)))
                · have h := if_f h hc13
                  refine k_seq ?_
                  refine k_reg ?_
                  refine mops_sg 4 hf3 (by kernel_rfl) fun f4 hf4 => ?_
                  obtain ⟨r_2, hx_r_2, h⟩ := Option.bind_eq_some_iff.1 h
                  refine mops_gcall (dst := (some 63)) (m := 23) (args := [(.k (.string ⟨#[45, 45, 45, 45, 45, 45, 45, 45, 45, 45, 45, 45, 45, 45, 45, 45, 45, 45, 45, 45, 45, 45, 45, 45, 45, 45, 45, 45, 45, 45, 45, 45, 45, 45, 45, 45, 45, 45, 45, 45, 45, 45, 45, 45, 45, 45, 45, 45, 45, 45, 45, 45, 45, 45, 45, 45, 45, 45, 45, 45, 45, 45, 45, 45, 45, 45, 45, 45, 45, 45, 45, 45, 45, 45, 45, 45, 45, 45, 45, 45, 45, 45, 45, 45, 45, 45, 45, 45, 45, 45, 45, 45, 45, 45, 45, 45, 45, 45, 45, 45, 45, 45, 45, 45, 45, 45, 45, 45, 45, 45, 45, 45, 45, 45, 45, 45, 45, 45, 45, 45, 45, 45, 45, 45, 45, 45, 45, 45]⟩)), (.t 62)]) (aft := [3, 2, 2]) (t := 61) (w := true) (ch := [(61, true)]) (b := (decide ((IntKind.wrap .i64 r_.2) ≤ 128))) (by kernel_rfl) hf4 (by kernel_rfl) (by kernel_rfl) (av := [.s (.string (⟨#[45, 45, 45, 45, 45, 45, 45, 45, 45, 45, 45, 45, 45, 45, 45, 45, 45, 45, 45, 45, 45, 45, 45, 45, 45, 45, 45, 45, 45, 45, 45, 45, 45, 45, 45, 45, 45, 45, 45, 45, 45, 45, 45, 45, 45, 45, 45, 45, 45, 45, 45, 45, 45, 45, 45, 45, 45, 45, 45, 45, 45, 45, 45, 45, 45, 45, 45, 45, 45, 45, 45, 45, 45, 45, 45, 45, 45, 45, 45, 45, 45, 45, 45, 45, 45, 45, 45, 45, 45, 45, 45, 45, 45, 45, 45, 45, 45, 45, 45, 45, 45, 45, 45, 45, 45, 45, 45, 45, 45, 45, 45, 45, 45, 45, 45, 45, 45, 45, 45, 45, 45, 45, 45, 45, 45, 45, 45, 45]⟩ : ByteArray)), .s (.string s_)]) (by kernel_rfl) (v := .s (.bool r_2)) (by kernel_rfl) (fun hb15 => (CalL.pure (strings_HasPrefix_ok (⟨#[45, 45, 45, 45, 45, 45, 45, 45, 45, 45, 45, 45, 45, 45, 45, 45, 45, 45, 45, 45, 45, 45, 45, 45, 45, 45, 45, 45, 45, 45, 45, 45, 45, 45, 45, 45, 45, 45, 45, 45, 45, 45, 45, 45, 45, 45, 45, 45, 45, 45, 45, 45, 45, 45, 45, 45, 45, 45, 45, 45, 45, 45, 45, 45, 45, 45, 45, 45, 45, 45, 45, 45, 45, 45, 45, 45, 45, 45, 45, 45, 45, 45, 45, 45, 45, 45, 45, 45, 45, 45, 45, 45, 45, 45, 45, 45, 45, 45, 45, 45, 45, 45, 45, 45, 45, 45, 45, 45, 45, 45, 45, 45, 45, 45, 45, 45, 45, 45, 45, 45, 45, 45, 45, 45, 45, 45, 45, 45]⟩ : ByteArray) s_ r_2 (if_t hx_r_2 hb15)) rfl rfl (Nat.le_of_ble_eq_true (by kernel_rfl)))) fun f5 hf5 => ?_
                  refine mops_en hf5 (by kernel_rfl) fun f6 hf6 => ?_
                  refine k_c ?_
                  refine k_cond hf6 (t := ((decide ((IntKind.wrap .i64 r_.2) ≤ 128)) && r_2)) (by kernel_rfl) (fun hc16 => ?_) (fun hc16 => ?_)
                  · have h := if_t h hc16
                    refine k_seq ?_
                    refine k_reg ?_
                    refine mops_sg 1 hf6 (by kernel_rfl) fun f7 hf7 => ?_
                    obtain ⟨c17, h⟩ := as_ok h
                    refine mops_adv rfl (v := .s (.string ((⟨#[45, 45, 45, 45, 45, 45, 45, 45, 45, 45, 45, 45, 45, 45, 45, 45, 45, 45, 45, 45, 45, 45, 45, 45, 45, 45, 45, 45, 45, 45, 45, 45, 45, 45, 45, 45, 45, 45, 45, 45, 45, 45, 45, 45, 45, 45, 45, 45, 45, 45, 45, 45, 45, 45, 45, 45, 45, 45, 45, 45, 45, 45, 45, 45, 45, 45, 45, 45, 45, 45, 45, 45, 45, 45, 45, 45, 45, 45, 45, 45, 45, 45, 45, 45, 45, 45, 45, 45, 45, 45, 45, 45, 45, 45, 45, 45, 45, 45, 45, 45, 45, 45, 45, 45, 45, 45, 45, 45, 45, 45, 45, 45, 45, 45, 45, 45, 45, 45, 45, 45, 45, 45, 45, 45, 45, 45, 45, 45]⟩ : ByteArray).extract 0 ((IntKind.wrap .i64 r_.2) : Int).toNat))) hf7 (by kernel_rfl) (e_sstr (t := (⟨#[45, 45, 45, 45, 45, 45, 45, 45, 45, 45, 45, 45, 45, 45, 45, 45, 45, 45, 45, 45, 45, 45, 45, 45, 45, 45, 45, 45, 45, 45, 45, 45, 45, 45, 45, 45, 45, 45, 45, 45, 45, 45, 45, 45, 45, 45, 45, 45, 45, 45, 45, 45, 45, 45, 45, 45, 45, 45, 45, 45, 45, 45, 45, 45, 45, 45, 45, 45, 45, 45, 45, 45, 45, 45, 45, 45, 45, 45, 45, 45, 45, 45, 45, 45, 45, 45, 45, 45, 45, 45, 45, 45, 45, 45, 45, 45, 45, 45, 45, 45, 45, 45, 45, 45, 45, 45, 45, 45, 45, 45, 45, 45, 45, 45, 45, 45, 45, 45, 45, 45, 45, 45, 45, 45, 45, 45, 45, 45]⟩ : ByteArray)) (by kernel_rfl) (b_ns (k := .i64) (iv := (IntKind.wrap .i64 r_.2)) (by kernel_rfl) c17)) fun f8 hf8 => ?_
                    refine mops_en hf8 (by kernel_rfl) fun f9 hf9 => ?_
                    refine k_c ?_
                    refine k_ret ?_
                    refine x_br ?_
                    refine x_br ?_
                    refine x_c nofun ?_
                    obtain rfl := Option.some.inj h
                    exact k_fin (fin_ret (.inl rfl) hf9 (vs := [.s (.string ((⟨#[45, 45, 45, 45, 45, 45, 45, 45, 45, 45, 45, 45, 45, 45, 45, 45, 45, 45, 45, 45, 45, 45, 45, 45, 45, 45, 45, 45, 45, 45, 45, 45, 45, 45, 45, 45, 45, 45, 45, 45, 45, 45, 45, 45, 45, 45, 45, 45, 45, 45, 45, 45, 45, 45, 45, 45, 45, 45, 45, 45, 45, 45, 45, 45, 45, 45, 45, 45, 45, 45, 45, 45, 45, 45, 45, 45, 45, 45, 45, 45, 45, 45, 45, 45, 45, 45, 45, 45, 45, 45, 45, 45, 45, 45, 45, 45, 45, 45, 45, 45, 45, 45, 45, 45, 45, 45, 45, 45, 45, 45, 45, 45, 45, 45, 45, 45, 45, 45, 45, 45, 45, 45, 45, 45, 45, 45, 45, 45]⟩ : ByteArray).extract 0 ((IntKind.wrap .i64 r_.2) : Int).toNat))]) (by kernel_rfl) (SettL.pure (FzL.stat rfl)))
                  · have h := if_f h hc16
                    refine k_seq ?_
                    refine k_reg ?_
                    refine mops_sg 4 hf6 (by kernel_rfl) fun f7 hf7 => ?_
                    obtain ⟨r_3, hx_r_3, h⟩ := Option.bind_eq_some_iff.1 h
                    refine mops_gcall (dst := (some 72)) (m := 23) (args := [(.k (.string ⟨#[48, 48, 48, 48, 48, 48, 48, 48, 48, 48, 48, 48, 48, 48, 48, 48, 48, 48, 48, 48, 48, 48, 48, 48, 48, 48, 48, 48, 48, 48, 48, 48, 48, 48, 48, 48, 48, 48, 48, 48, 48, 48, 48, 48, 48, 48, 48, 48, 48, 48, 48, 48, 48, 48, 48, 48, 48, 48, 48, 48, 48, 48, 48, 48]⟩)), (.t 71)]) (aft := [3, 2, 2]) (t := 70) (w := true) (ch := [(70, true)]) (b := (decide ((IntKind.wrap .i64 r_.2) ≤ 64))) (by kernel_rfl) hf7 (by kernel_rfl) (by kernel_rfl) (av := [.s (.string (⟨#[48, 48, 48, 48, 48, 48, 48, 48, 48, 48, 48, 48, 48, 48, 48, 48, 48, 48, 48, 48, 48, 48, 48, 48, 48, 48, 48, 48, 48, 48, 48, 48, 48, 48, 48, 48, 48, 48, 48, 48, 48, 48, 48, 48, 48, 48, 48, 48, 48, 48, 48, 48, 48, 48, 48, 48, 48, 48, 48, 48, 48, 48, 48, 48]⟩ : ByteArray)), .s (.string s_)]) (by kernel_rfl) (v := .s (.bool r_3)) (by kernel_rfl) (fun hb18 => (CalL.pure (strings_HasPrefix_ok (⟨#[48, 48, 48, 48, 48, 48, 48, 48, 48, 48, 48, 48, 48, 48, 48, 48, 48, 48, 48, 48, 48, 48, 48, 48, 48, 48, 48, 48, 48, 48, 48, 48, 48, 48, 48, 48, 48, 48, 48, 48, 48, 48, 48, 48, 48, 48, 48, 48, 48, 48, 48, 48, 48, 48, 48, 48, 48, 48, 48, 48, 48, 48, 48, 48]⟩ : ByteArray) s_ r_3 (if_t hx_r_3 hb18)) rfl rfl (Nat.le_of_ble_eq_true (by kernel_rfl)))) fun f8 hf8 => ?_
                    refine mops_en hf8 (by kernel_rfl) fun f9 hf9 => ?_
                    refine k_c ?_
                    refine k_cond hf9 (t := ((decide ((IntKind.wrap .i64 r_.2) ≤ 64)) && r_3)) (by kernel_rfl) (fun hc19 => ?_) (fun hc19 => ?_)
                    · have h := if_t h hc19
                      refine k_seq ?_
                      refine k_reg ?_
                      refine mops_sg 1 hf9 (by kernel_rfl) fun f10 hf10 => ?_
                      obtain ⟨c20, h⟩ := as_ok h
                      refine mops_adv rfl (v := .s (.string ((⟨#[48, 48, 48, 48, 48, 48, 48, 48, 48, 48, 48, 48, 48, 48, 48, 48, 48, 48, 48, 48, 48, 48, 48, 48, 48, 48, 48, 48, 48, 48, 48, 48, 48, 48, 48, 48, 48, 48, 48, 48, 48, 48, 48, 48, 48, 48, 48, 48, 48, 48, 48, 48, 48, 48, 48, 48, 48, 48, 48, 48, 48, 48, 48, 48]⟩ : ByteArray).extract 0 ((IntKind.wrap .i64 r_.2) : Int).toNat))) hf10 (by kernel_rfl) (e_sstr (t := (⟨#[48, 48, 48, 48, 48, 48, 48, 48, 48, 48, 48, 48, 48, 48, 48, 48, 48, 48, 48, 48, 48, 48, 48, 48, 48, 48, 48, 48, 48, 48, 48, 48, 48, 48, 48, 48, 48, 48, 48, 48, 48, 48, 48, 48, 48, 48, 48, 48, 48, 48, 48, 48, 48, 48, 48, 48, 48, 48, 48, 48, 48, 48, 48, 48]⟩ : ByteArray)) (by kernel_rfl) (b_ns (k := .i64) (iv := (IntKind.wrap .i64 r_.2)) (by kernel_rfl) c20)) fun f11 hf11 => ?_
                      refine mops_en hf11 (by kernel_rfl) fun f12 hf12 => ?_
                      refine k_c ?_
                      refine k_ret ?_
                      refine x_br ?_
                      refine x_br ?_
                      refine x_c nofun ?_
                      obtain rfl := Option.some.inj h
                      exact k_fin (fin_ret (.inl rfl) hf12 (vs := [.s (.string ((⟨#[48, 48, 48, 48, 48, 48, 48, 48, 48, 48, 48, 48, 48, 48, 48, 48, 48, 48, 48, 48, 48, 48, 48, 48, 48, 48, 48, 48, 48, 48, 48, 48, 48, 48, 48, 48, 48, 48, 48, 48, 48, 48, 48, 48, 48, 48, 48, 48, 48, 48, 48, 48, 48, 48, 48, 48, 48, 48, 48, 48, 48, 48, 48, 48]⟩ : ByteArray).extract 0 ((IntKind.wrap .i64 r_.2) : Int).toNat))]) (by kernel_rfl) (SettL.pure (FzL.stat rfl)))
                    · have h := if_f h hc19
                      refine k_seq ?_
                      refine k_reg ?_
                      refine mops_sg 4 hf9 (by kernel_rfl) fun f10 hf10 => ?_
                      obtain ⟨r_4, hx_r_4, h⟩ := Option.bind_eq_some_iff.1 h
                      refine mops_gcall (dst := (some 81)) (m := 23) (args := [(.k (.string ⟨#[61, 61, 61, 61, 61, 61, 61, 61, 61, 61, 61, 61, 61, 61, 61, 61, 61, 61, 61, 61, 61, 61, 61, 61, 61, 61, 61, 61, 61, 61, 61, 61, 61, 61, 61, 61, 61, 61, 61, 61, 61, 61, 61, 61, 61, 61, 61, 61, 61, 61, 61, 61, 61, 61, 61, 61, 61, 61, 61, 61, 61, 61, 61, 61, 61, 61, 61, 61, 61, 61, 61, 61, 61, 61, 61, 61, 61, 61, 61, 61, 61, 61, 61, 61, 61, 61, 61, 61, 61, 61, 61, 61, 61, 61, 61, 61, 61, 61, 61, 61, 61, 61, 61, 61, 61, 61, 61, 61, 61, 61, 61, 61, 61, 61, 61, 61, 61, 61, 61, 61, 61, 61, 61, 61, 61, 61, 61, 61]⟩)), (.t 80)]) (aft := [3, 2, 2]) (t := 79) (w := true) (ch := [(79, true)]) (b := (decide ((IntKind.wrap .i64 r_.2) ≤ 128))) (by kernel_rfl) hf10 (by kernel_rfl) (by kernel_rfl) (av := [.s (.string (⟨#[61, 61, 61, 61, 61, 61, 61, 61, 61, 61, 61, 61, 61, 61, 61, 61, 61, 61, 61, 61, 61, 61, 61, 61, 61, 61, 61, 61, 61, 61, 61, 61, 61, 61, 61, 61, 61, 61, 61, 61, 61, 61, 61, 61, 61, 61, 61, 61, 61, 61, 61, 61, 61, 61, 61, 61, 61, 61, 61, 61, 61, 61, 61, 61, 61, 61, 61, 61, 61, 61, 61, 61, 61, 61, 61, 61, 61, 61, 61, 61, 61, 61, 61, 61, 61, 61, 61, 61, 61, 61, 61, 61, 61, 61, 61, 61, 61, 61, 61, 61, 61, 61, 61, 61, 61, 61, 61, 61, 61, 61, 61, 61, 61, 61, 61, 61, 61, 61, 61, 61, 61, 61, 61, 61, 61, 61, 61, 61]⟩ : ByteArray)), .s (.string s_)]) (by kernel_rfl) (v := .s (.bool r_4)) (by kernel_rfl) (fun hb21 => (CalL.pure (strings_HasPrefix_ok (⟨#[61, 61, 61, 61, 61, 61, 61, 61, 61, 61, 61, 61, 61, 61, 61, 61, 61, 61, 61, 61, 61, 61, 61, 61, 61, 61, 61, 61, 61, 61, 61, 61, 61, 61, 61, 61, 61, 61, 61, 61, 61, 61, 61, 61, 61, 61, 61, 61, 61, 61, 61, 61, 61, 61, 61, 61, 61, 61, 61, 61, 61, 61, 61, 61, 61, 61, 61, 61, 61, 61, 61, 61, 61, 61, 61, 61, 61, 61, 61, 61, 61, 61, 61, 61, 61, 61, 61, 61, 61, 61, 61, 61, 61, 61, 61, 61, 61, 61, 61, 61, 61, 61, 61, 61, 61, 61, 61, 61, 61, 61, 61, 61, 61, 61, 61, 61, 61, 61, 61, 61, 61, 61, 61, 61, 61, 61, 61, 61]⟩ : ByteArray) s_ r_4 (if_t hx_r_4 hb21)) rfl rfl (Nat.le_of_ble_eq_true (by kernel_rfl)))) fun f11 hf11 => ?_
                      refine mops_en hf11 (by kernel_rfl) fun f12 hf12 => ?_
                      refine k_c ?_
                      refine k_cond hf12 (t := ((decide ((IntKind.wrap .i64 r_.2) ≤ 128)) && r_4)) (by kernel_rfl) (fun hc22 => ?_) (fun hc22 => ?_)
                      · have h := if_t h hc22
                        refine k_seq ?_
                        refine k_reg ?_
                        refine mops_sg 1 hf12 (by kernel_rfl) fun f13 hf13 => ?_
                        obtain ⟨c23, h⟩ := as_ok h
                        refine mops_adv rfl (v := .s (.string ((⟨#[61, 61, 61, 61, 61, 61, 61, 61, 61, 61, 61, 61, 61, 61, 61, 61, 61, 61, 61, 61, 61, 61, 61, 61, 61, 61, 61, 61, 61, 61, 61, 61, 61, 61, 61, 61, 61, 61, 61, 61, 61, 61, 61, 61, 61, 61, 61, 61, 61, 61, 61, 61, 61, 61, 61, 61, 61, 61, 61, 61, 61, 61, 61, 61, 61, 61, 61, 61, 61, 61, 61, 61, 61, 61, 61, 61, 61, 61, 61, 61, 61, 61, 61, 61, 61, 61, 61, 61, 61, 61, 61, 61, 61, 61, 61, 61, 61, 61, 61, 61, 61, 61, 61, 61, 61, 61, 61, 61, 61, 61, 61, 61, 61, 61, 61, 61, 61, 61, 61, 61, 61, 61, 61, 61, 61, 61, 61, 61]⟩ : ByteArray).extract 0 ((IntKind.wrap .i64 r_.2) : Int).toNat))) hf13 (by kernel_rfl) (e_sstr (t := (⟨#[61, 61, 61, 61, 61, 61, 61, 61, 61, 61, 61, 61, 61, 61, 61, 61, 61, 61, 61, 61, 61, 61, 61, 61, 61, 61, 61, 61, 61, 61, 61, 61, 61, 61, 61, 61, 61, 61, 61, 61, 61, 61, 61, 61, 61, 61, 61, 61, 61, 61, 61, 61, 61, 61, 61, 61, 61, 61, 61, 61, 61, 61, 61, 61, 61, 61, 61, 61, 61, 61, 61, 61, 61, 61, 61, 61, 61, 61, 61, 61, 61, 61, 61, 61, 61, 61, 61, 61, 61, 61, 61, 61, 61, 61, 61, 61, 61, 61, 61, 61, 61, 61, 61, 61, 61, 61, 61, 61, 61, 61, 61, 61, 61, 61, 61, 61, 61, 61, 61, 61, 61, 61, 61, 61, 61, 61, 61, 61]⟩ : ByteArray)) (by kernel_rfl) (b_ns (k := .i64) (iv := (IntKind.wrap .i64 r_.2)) (by kernel_rfl) c23)) fun f14 hf14 => ?_
                        refine mops_en hf14 (by kernel_rfl) fun f15 hf15 => ?_
                        refine k_c ?_
                        refine k_ret ?_
                        refine x_br ?_
                        refine x_br ?_
                        refine x_c nofun ?_
                        obtain rfl := Option.some.inj h
                        exact k_fin (fin_ret (.inl rfl) hf15 (vs := [.s (.string ((⟨#[61, 61, 61, 61, 61, 61, 61, 61, 61, 61, 61, 61, 61, 61, 61, 61, 61, 61, 61, 61, 61, 61, 61, 61, 61, 61, 61, 61, 61, 61, 61, 61, 61, 61, 61, 61, 61, 61, 61, 61, 61, 61, 61, 61, 61, 61, 61, 61, 61, 61, 61, 61, 61, 61, 61, 61, 61, 61, 61, 61, 61, 61, 61, 61, 61, 61, 61, 61, 61, 61, 61, 61, 61, 61, 61, 61, 61, 61, 61, 61, 61, 61, 61, 61, 61, 61, 61, 61, 61, 61, 61, 61, 61, 61, 61, 61, 61, 61, 61, 61, 61, 61, 61, 61, 61, 61, 61, 61, 61, 61, 61, 61, 61, 61, 61, 61, 61, 61, 61, 61, 61, 61, 61, 61, 61, 61, 61, 61]⟩ : ByteArray).extract 0 ((IntKind.wrap .i64 r_.2) : Int).toNat))]) (by kernel_rfl) (SettL.pure (FzL.stat rfl)))
                      · have h := if_f h hc22
                        refine k_seq ?_
                        refine k_reg ?_
                        refine mops_sg 4 hf12 (by kernel_rfl) fun f13 hf13 => ?_
                        obtain ⟨r_5, hx_r_5, h⟩ := Option.bind_eq_some_iff.1 h
                        refine mops_gcall (dst := (some 90)) (m := 23) (args := [(.k (.string ⟨#[9, 9, 9, 9, 9, 9, 9, 9, 9, 9, 9, 9, 9, 9, 9, 9, 9, 9, 9, 9, 9, 9, 9, 9, 9, 9, 9, 9, 9, 9, 9, 9, 9, 9, 9, 9, 9, 9, 9, 9, 9, 9, 9, 9, 9, 9, 9, 9, 9, 9, 9, 9, 9, 9, 9, 9, 9, 9, 9, 9, 9, 9, 9, 9]⟩)), (.t 89)]) (aft := [3, 2, 2]) (t := 88) (w := true) (ch := [(88, true)]) (b := (decide ((IntKind.wrap .i64 r_.2) ≤ 64))) (by kernel_rfl) hf13 (by kernel_rfl) (by kernel_rfl) (av := [.s (.string (⟨#[9, 9, 9, 9, 9, 9, 9, 9, 9, 9, 9, 9, 9, 9, 9, 9, 9, 9, 9, 9, 9, 9, 9, 9, 9, 9, 9, 9, 9, 9, 9, 9, 9, 9, 9, 9, 9, 9, 9, 9, 9, 9, 9, 9, 9, 9, 9, 9, 9, 9, 9, 9, 9, 9, 9, 9, 9, 9, 9, 9, 9, 9, 9, 9]⟩ : ByteArray)), .s (.string s_)]) (by kernel_rfl) (v := .s (.bool r_5)) (by kernel_rfl) (fun hb24 => (CalL.pure (strings_HasPrefix_ok (⟨#[9, 9, 9, 9, 9, 9, 9, 9, 9, 9, 9, 9, 9, 9, 9, 9, 9, 9, 9, 9, 9, 9, 9, 9, 9, 9, 9, 9, 9, 9, 9, 9, 9, 9, 9, 9, 9, 9, 9, 9, 9, 9, 9, 9, 9, 9, 9, 9, 9, 9, 9, 9, 9, 9, 9, 9, 9, 9, 9, 9, 9, 9, 9, 9]⟩ : ByteArray) s_ r_5 (if_t hx_r_5 hb24)) rfl rfl (Nat.le_of_ble_eq_true (by kernel_rfl)))) fun f14 hf14 => ?_
                        refine mops_end [0, 4, 7, 85] hf14 (l' := [⟨0, [], .s (.string s_)⟩, ⟨4, [], .s (.string (⟨#[]⟩ : ByteArray))⟩, ⟨7, [], .s (.int .i64 (IntKind.wrap .i64 r_.2))⟩, ⟨85, [], .s (.bool ((decide ((IntKind.wrap .i64 r_.2) ≤ 64)) && r_5))⟩]) (L' := []) (by kernel_rfl) fun f15 hf15 => ?_
                        refine k_c ?_
                        refine k_cond hf15 (t := ((decide ((IntKind.wrap .i64 r_.2) ≤ 64)) && r_5)) (by kernel_rfl) (fun hc25 => ?_) (fun hc25 => ?_)
                        · have h := if_t h hc25
                          refine k_seq ?_
                          refine k_reg ?_
                          refine mops_sg 1 hf15 (by kernel_rfl) fun f16 hf16 => ?_
                          obtain ⟨c26, h⟩ := as_ok h
                          refine mops_adv rfl (v := .s (.string ((⟨#[9, 9, 9, 9, 9, 9, 9, 9, 9, 9, 9, 9, 9, 9, 9, 9, 9, 9, 9, 9, 9, 9, 9, 9, 9, 9, 9, 9, 9, 9, 9, 9, 9, 9, 9, 9, 9, 9, 9, 9, 9, 9, 9, 9, 9, 9, 9, 9, 9, 9, 9, 9, 9, 9, 9, 9, 9, 9, 9, 9, 9, 9, 9, 9]⟩ : ByteArray).extract 0 ((IntKind.wrap .i64 r_.2) : Int).toNat))) hf16 (by kernel_rfl) (e_sstr (t := (⟨#[9, 9, 9, 9, 9, 9, 9, 9, 9, 9, 9, 9, 9, 9, 9, 9, 9, 9, 9, 9, 9, 9, 9, 9, 9, 9, 9, 9, 9, 9, 9, 9, 9, 9, 9, 9, 9, 9, 9, 9, 9, 9, 9, 9, 9, 9, 9, 9, 9, 9, 9, 9, 9, 9, 9, 9, 9, 9, 9, 9, 9, 9, 9, 9]⟩ : ByteArray)) (by kernel_rfl) (b_ns (k := .i64) (iv := (IntKind.wrap .i64 r_.2)) (by kernel_rfl) c26)) fun f17 hf17 => ?_
                          refine mops_en hf17 (by kernel_rfl) fun f18 hf18 => ?_
                          refine k_c ?_
                          refine k_ret ?_
                          refine x_br ?_
                          refine x_br ?_
                          refine x_c nofun ?_
                          obtain rfl := Option.some.inj h
                          exact k_fin (fin_ret (.inl rfl) hf18 (vs := [.s (.string ((⟨#[9, 9, 9, 9, 9, 9, 9, 9, 9, 9, 9, 9, 9, 9, 9, 9, 9, 9, 9, 9, 9, 9, 9, 9, 9, 9, 9, 9, 9, 9, 9, 9, 9, 9, 9, 9, 9, 9, 9, 9, 9, 9, 9, 9, 9, 9, 9, 9, 9, 9, 9, 9, 9, 9, 9, 9, 9, 9, 9, 9, 9, 9, 9, 9]⟩ : ByteArray).extract 0 ((IntKind.wrap .i64 r_.2) : Int).toNat))]) (by kernel_rfl) (SettL.pure (FzL.stat rfl)))
                        · have h := if_f h hc25
                          refine k_skip ?_
                          refine k_b ?_
                          refine k_b ?_
                          exact hj4 () h _ (FOk_of [0, 4, 7] hf15 (by kernel_rfl))
              · have h := if_f h hc11
                refine k_skip ?_
                refine k_b ?_
                exact hj4 () h _ (FOk_of [0, 4, 7] hf (by kernel_rfl))
            refine k_cond hf15 (t := ((bt s_ (0)) == 32)) (by kernel_rfl) (fun hc7 => ?_) (fun hc7 => ?_)
            · have h := if_t h hc7
              refine k_skip ?_
              refine k_hp (L' := []) (by kernel_rfl) ?_
              exact hj3 ((bt s_ (0)) == 32) h _ (FOk_of [0, 4, 7, 43] hf15 (by kernel_rfl))
            · have h := if_f h hc7
              refine k_seq ?_
              refine k_reg ?_
              refine mops_en hf15 (by kernel_rfl) fun f16 hf16 => ?_
              refine k_c ?_
              refine k_cond hf16 (t := ((bt s_ (0)) == 45)) (by kernel_rfl) (fun hc8 => ?_) (fun hc8 => ?_)
              · have h := if_t h hc8
                refine k_skip ?_
                refine k_hp (L' := []) (by kernel_rfl) ?_
                exact hj3 ((bt s_ (0)) == 45) h _ (FOk_of [0, 4, 7, 43] hf16 (by kernel_rfl))
              · have h := if_f h hc8
                refine k_seq ?_
                refine k_reg ?_
                refine mops_en hf16 (by kernel_rfl) fun f17 hf17 => ?_
                refine k_c ?_
                refine k_cond hf17 (t := ((bt s_ (0)) == 48)) (by kernel_rfl) (fun hc9 => ?_) (fun hc9 => ?_)
                · have h := if_t h hc9
                  refine k_skip ?_
                  refine k_hp (L' := []) (by kernel_rfl) ?_
                  exact hj3 ((bt s_ (0)) == 48) h _ (FOk_of [0, 4, 7, 43] hf17 (by kernel_rfl))
                · have h := if_f h hc9
                  refine k_seq ?_
                  refine k_reg ?_
                  refine mops_en hf17 (by kernel_rfl) fun f18 hf18 => ?_
                  refine k_c ?_
                  refine k_cond hf18 (t := ((bt s_ (0)) == 61)) (by kernel_rfl) (fun hc10 => ?_) (fun hc10 => ?_)
                  · have h := if_t h hc10
                    refine k_skip ?_
                    refine k_hp (L' := []) (by kernel_rfl) ?_
                    exact hj3 ((bt s_ (0)) == 61) h _ (FOk_of [0, 4, 7, 43] hf18 (by kernel_rfl))
                  · have h := if_f h hc10
                    refine k_reg ?_
                    refine mops_en hf18 (by kernel_rfl) fun f19 hf19 => ?_
                    refine k_hp (L' := []) (by kernel_rfl) ?_
                    exact hj3 ((bt s_ (0)) == 9) h _ (FOk_of [0, 4, 7, 43] hf19 (by kernel_rfl))
def spinetlaw50_alive_i0 : List Op1 := [(oM 0 (.k (.bool false)) [])]
def spinetlaw50_alive_i1 : List Op1 := [(oE 1 (.build [(.int .u16 0), (.int .u8 0), (.bool false), (.bool false), (.bool false), (.bool false), (.bool false), (.bool false), (.bool false)] [(2, (1, (.k (.bool true))))]) []), (oE 2 (.build [(.int .u16 0), (.int .u8 0), (.bool false), (.bool false), (.bool false), (.bool false), (.bool false), (.bool false), (.bool false)] []) []), (oE 3 (.bsl 2 [(.int .u16 0), (.int .u8 0), (.bool false), (.bool false), (.bool false), (.bool false), (.bool false), (.bool false), (.bool false), (.int .u16 0), (.int .u8 0), (.bool false), (.bool false), (.bool false), (.bool false), (.bool false), (.bool false), (.bool false)] [(0, (9, (.t 1))), (9, (9, (.t 2)))]) [0, 1]), (oC 4 9 [(.k (.int .i64 0)), (.t 3)] [2]), (oE 5 (.bin .eql (.t 4) (.k (.string ⟨#[35, 95]⟩))) [3]), (oM 6 (.t 5) [4, 3]), (oE 7 (.pick (.t 6) (.k (.bool true)) (.k (.bool false))) [5]), (oM 0 (.t 7) [6, 5, 0, 1, 2, 3, 4, 5, 6])]
def spinetlaw50_alive_i2 : IR := .ret
def spinetlaw50_alive_i3 : IR := (.seq (.reg false spinetlaw50_alive_i1) spinetlaw50_alive_i2)
def spinetlaw50_alive_ir : IR := (.seq (.reg false spinetlaw50_alive_i0) spinetlaw50_alive_i3)
theorem spinetlaw50_alive_cfn : cFn Tryd.prog 7 = some (spinetlaw50_alive_ir, [(.t 0)], 8) := by kernel_rfl
def spinetlaw50_alive_V (r : (Bool)) : V := .s (.bool r)
def spinetlaw50_alive_C (r : (Bool)) : X → Fr → Hp → Prop := FinL [(.t 0)] [] (spinetlaw50_alive_V r) []
theorem spinetlaw50_alive_ok (r : (Bool)) (h : spinetlaw50_alive = some r) : Pure Tryd.prog 7 [] (spinetlaw50_alive_V r) := by
  refine ConL.of spinetlaw50_alive_cfn (Nat.le_of_ble_eq_true (by kernel_rfl)) (Nat.le_of_ble_eq_true (by kernel_rfl)) ?_
  refine k_start ?_
  show dwv Tryd.prog [] spinetlaw50_alive_ir (kont Tryd.prog [] (spinetlaw50_alive_C r) []) (fr0 []) []
  have hf : FOk (fr0 []) [] := trivial
  generalize fr0 [] = f at hf ⊢
  unfold spinetlaw50_alive at h
  refine k_seq ?_
  refine k_reg ?_
  refine mops_en hf (by kernel_rfl) fun f1 hf1 => ?_
  refine k_c ?_
  refine k_seq ?_
  refine k_reg ?_
  refine mops_sg 3 hf1 (by kernel_rfl) fun f2 hf2 => ?_
  obtain ⟨r_, hx_r_, h⟩ := Option.bind_eq_some_iff.1 h
  refine mops_call rfl hf2 (av := [.s (.int .i64 0), .sl true [(api_Rec.mk (0) (0) true false false false false false false), (api_Rec.mk (0) (0) false false false false false false false)].length (cat api_Rec.v [(api_Rec.mk (0) (0) true false false false false false false), (api_Rec.mk (0) (0) false false false false false false false)])]) (by kernel_rfl) (v := .s (.string r_)) (CalL.purew (wave_Line_ok (0) [(api_Rec.mk (0) (0) true false false false false false false), (api_Rec.mk (0) (0) false false false false false false false)] r_ hx_r_) (Wks.cons Wk.refl (Wks.cons Wk.slf Wks.nil)) (by simp [V.static, statics, cat_stat]) rfl (by kernel_rfl)) (fun _ => rfl) fun f3 hf3 => ?_
  refine mops_en hf3 (by kernel_rfl) fun f4 hf4 => ?_
  refine k_c ?_
  refine k_ret ?_
  obtain rfl := Option.some.inj h
  exact k_fin (fin_ret (.inl rfl) hf4 (vs := [.s (.bool ((r_.toList == (⟨#[35, 95]⟩ : ByteArray).toList) || false))]) (by kernel_rfl) (SettL.pure (FzL.stat rfl)))
def wave_Rises_i0 : List Op1 := [(oM 4 (.k (.int .i64 0)) [])]
def wave_Rises_i1 : List Op1 := [(oM 5 (.t 0) []), (oM 6 (.t 1) []), (oC 7 9 [(.t 5), (.t 6)] [0, 1]), (oE 8 (.bin .add (.k (.string ⟨#[95]⟩)) (.t 7)) [2]), (oC 9 19 [(.t 8), (.k (.string ⟨#[95, 35]⟩))] [3, 2]), (oM 4 (.t 9) [4, 4, 0, 1, 2, 3, 4])]
def wave_Rises_i2 : IR := .ret
def wave_Rises_i3 : IR := (.seq (.reg false wave_Rises_i1) wave_Rises_i2)
def wave_Rises_ir : IR := (.seq (.reg false wave_Rises_i0) wave_Rises_i3)
theorem wave_Rises_cfn : cFn Tryd.prog 10 = some (wave_Rises_ir, [(.t 4)], 10) := by kernel_rfl
def wave_Rises_V (r : (Int)) : V := .s (.int .i64 r)
def wave_Rises_C (r : (Int)) : X → Fr → Hp → Prop := FinL [(.t 4)] [] (wave_Rises_V r) []
theorem wave_Rises_ok (line_ : Int) (l_ : (List api_Rec)) (r : (Int)) (h : wave_Rises line_ l_ = some r) : Pure Tryd.prog 10 [.s (.int .i64 line_), .sl false l_.length (cat api_Rec.v l_)] (wave_Rises_V r) := by
  refine ConL.of wave_Rises_cfn (Nat.le_of_ble_eq_true (by kernel_rfl)) (Nat.le_of_ble_eq_true (by kernel_rfl)) ?_
  refine k_start ?_
  show dwv Tryd.prog [] wave_Rises_ir (kont Tryd.prog [] (wave_Rises_C r) []) (fr0 [.s (.int .i64 line_), .sl false l_.length (cat api_Rec.v l_)]) []
  have hf : FOk (fr0 [.s (.int .i64 line_), .sl false l_.length (cat api_Rec.v l_)]) [⟨0, [], .s (.int .i64 line_)⟩, ⟨1, [], .sl false l_.length (cat api_Rec.v l_)⟩] := ⟨⟨fun _ => rfl, fun h => (h trivial).elim⟩, ⟨fun _ => rfl, fun h => (h trivial).elim⟩, trivial⟩
  generalize fr0 [.s (.int .i64 line_), .sl false l_.length (cat api_Rec.v l_)] = f at hf ⊢
  unfold wave_Rises at h
  refine k_seq ?_
  refine k_reg ?_
  refine mops_en hf (by kernel_rfl) fun f1 hf1 => ?_
  refine k_c ?_
  refine k_seq ?_
  refine k_reg ?_
  refine mops_sg 2 hf1 (by kernel_rfl) fun f2 hf2 => ?_
  obtain ⟨r_, hx_r_, h⟩ := Option.bind_eq_some_iff.1 h
  refine mops_call rfl hf2 (av := [.s (.int .i64 line_), .sl false l_.length (cat api_Rec.v l_)]) (by kernel_rfl) (v := .s (.string r_)) (CalL.pure (wave_Line_ok line_ l_ r_ hx_r_) (by simp [V.static, statics, cat_stat]) rfl (Nat.le_of_ble_eq_true (by kernel_rfl))) (fun _ => rfl) fun f3 hf3 => ?_
  obtain ⟨c1, h⟩ := as_ok h
  refine mops_adv rfl (v := .s (.string ((⟨#[95]⟩ : ByteArray) ++ r_))) hf3 (by kernel_rfl) (e_sadd (t := (⟨#[95]⟩ : ByteArray)) (t' := r_) (by kernel_rfl) (by kernel_rfl) c1) fun f4 hf4 => ?_
  obtain ⟨r_1, hx_r_1, h⟩ := Option.bind_eq_some_iff.1 h
  refine mops_call rfl hf4 (av := [.s (.string ((⟨#[95]⟩ : ByteArray) ++ r_)), .s (.string (⟨#[95, 35]⟩ : ByteArray))]) (by kernel_rfl) (v := .s (.int .i64 r_1)) (CalL.pure (strings_Count_ok ((⟨#[95]⟩ : ByteArray) ++ r_) (⟨#[95, 35]⟩ : ByteArray) r_1 hx_r_1) rfl rfl (Nat.le_of_ble_eq_true (by kernel_rfl))) (fun _ => rfl) fun f5 hf5 => ?_
  refine mops_en hf5 (by kernel_rfl) fun f6 hf6 => ?_
  refine k_c ?_
  refine k_ret ?_
  obtain rfl := Option.some.inj h
  exact k_fin (fin_ret (.inl rfl) hf6 (vs := [.s (.int .i64 r_1)]) (by kernel_rfl) (SettL.pure (FzL.stat rfl)))
def wave_High_i0 : List Op1 := [(oM 4 (.k (.int .i64 0)) [])]
def wave_High_i1 : List Op1 := [(oM 5 (.t 0) []), (oM 6 (.t 1) []), (oC 7 9 [(.t 5), (.t 6)] [0, 1]), (oC 8 19 [(.t 7), (.k (.string ⟨#[35]⟩))] [2, 2]), (oM 4 (.t 8) [3, 3, 0, 1, 2, 3])]
def wave_High_i2 : IR := .ret
def wave_High_i3 : IR := (.seq (.reg false wave_High_i1) wave_High_i2)
def wave_High_ir : IR := (.seq (.reg false wave_High_i0) wave_High_i3)
theorem wave_High_cfn : cFn Tryd.prog 11 = some (wave_High_ir, [(.t 4)], 9) := by kernel_rfl
def wave_High_V (r : (Int)) : V := .s (.int .i64 r)
def wave_High_C (r : (Int)) : X → Fr → Hp → Prop := FinL [(.t 4)] [] (wave_High_V r) []
theorem wave_High_ok (line_ : Int) (l_ : (List api_Rec)) (r : (Int)) (h : wave_High line_ l_ = some r) : Pure Tryd.prog 11 [.s (.int .i64 line_), .sl false l_.length (cat api_Rec.v l_)] (wave_High_V r) := by
  refine ConL.of wave_High_cfn (Nat.le_of_ble_eq_true (by kernel_rfl)) (Nat.le_of_ble_eq_true (by kernel_rfl)) ?_
  refine k_start ?_
  show dwv Tryd.prog [] wave_High_ir (kont Tryd.prog [] (wave_High_C r) []) (fr0 [.s (.int .i64 line_), .sl false l_.length (cat api_Rec.v l_)]) []
  have hf : FOk (fr0 [.s (.int .i64 line_), .sl false l_.length (cat api_Rec.v l_)]) [⟨0, [], .s (.int .i64 line_)⟩, ⟨1, [], .sl false l_.length (cat api_Rec.v l_)⟩] := ⟨⟨fun _ => rfl, fun h => (h trivial).elim⟩, ⟨fun _ => rfl, fun h => (h trivial).elim⟩, trivial⟩
  generalize fr0 [.s (.int .i64 line_), .sl false l_.length (cat api_Rec.v l_)] = f at hf ⊢
  unfold wave_High at h
  refine k_seq ?_
  refine k_reg ?_
  refine mops_en hf (by kernel_rfl) fun f1 hf1 => ?_
  refine k_c ?_
  refine k_seq ?_
  refine k_reg ?_
  refine mops_sg 2 hf1 (by kernel_rfl) fun f2 hf2 => ?_
  obtain ⟨r_, hx_r_, h⟩ := Option.bind_eq_some_iff.1 h
  refine mops_call rfl hf2 (av := [.s (.int .i64 line_), .sl false l_.length (cat api_Rec.v l_)]) (by kernel_rfl) (v := .s (.string r_)) (CalL.pure (wave_Line_ok line_ l_ r_ hx_r_) (by simp [V.static, statics, cat_stat]) rfl (Nat.le_of_ble_eq_true (by kernel_rfl))) (fun _ => rfl) fun f3 hf3 => ?_
  obtain ⟨r_1, hx_r_1, h⟩ := Option.bind_eq_some_iff.1 h
  refine mops_call rfl hf3 (av := [.s (.string r_), .s (.string (⟨#[35]⟩ : ByteArray))]) (by kernel_rfl) (v := .s (.int .i64 r_1)) (CalL.pure (strings_Count_ok r_ (⟨#[35]⟩ : ByteArray) r_1 hx_r_1) rfl rfl (Nat.le_of_ble_eq_true (by kernel_rfl))) (fun _ => rfl) fun f4 hf4 => ?_
  refine mops_en hf4 (by kernel_rfl) fun f5 hf5 => ?_
  refine k_c ?_
  refine k_ret ?_
  obtain rfl := Option.some.inj h
  exact k_fin (fin_ret (.inl rfl) hf5 (vs := [.s (.int .i64 r_1)]) (by kernel_rfl) (SettL.pure (FzL.stat rfl)))
end Go.Proofs.YtnilppmpfklpbaaDoorK
