/- The Go functions come to the functions over typed data. Printed by a program of this work. -/
import Derived.Test.YtjaadpgmiejidaaF
import Derived.Test.YtjaadpgmiejidaaProg
import Derived.Test.YtjaadpgmiejidaaG5
import Derived.Test.YtjaadpgmiejidaaG6
namespace Go.Proofs.YtjaadpgmiejidaaK
set_option linter.unusedVariables false
set_option linter.unusedSimpArgs false
set_option maxHeartbeats 4000000
open Go.RowKit
attribute [local irreducible] dwv mops lops lqops lwops kont iter run runK ex E1 vals val chain chB sel resF
def page_second_i0 : List Op1 := [⟨(some 2), (.e (.zero [(.int .i64 0), (.int .i64 0), (.int .i64 0)])), none, []⟩]
def page_second_i1 : List Op1 := [⟨(some 5), (.e (.mv (.t 0))), none, []⟩, ⟨(some 6), (.e (.bin .shr (.t 5) (.k (.int .u64 4)))), none, [0]⟩, ⟨(some 7), (.e (.mv (.t 0))), none, []⟩, ⟨(some 8), (.e (.bin .and (.t 7) (.k (.int .u8 15)))), none, [2]⟩, ⟨(some 3), (.e (.mv (.t 6))), none, [1, 0, 1]⟩, ⟨(some 4), (.e (.mv (.t 8))), none, [3, 4, 0, 1, 2, 3, 4]⟩]
def page_second_i2 : List Op1 := [⟨(some 10), (.e (.mv (.t 3))), none, []⟩, ⟨(some 11), (.e (.bin .eql (.t 10) (.k (.int .u8 2)))), none, [0]⟩, ⟨(some 12), (.e (.mv (.t 11))), none, [1]⟩, ⟨(some 13), (.e (.mv (.t 4))), (some (12, true)), [2]⟩, ⟨(some 14), (.e (.bin .gtr (.t 13) (.k (.int .u8 0)))), (some (12, true)), [3, 2]⟩, ⟨(some 15), (.e (.pick (.t 12) (.t 14) (.k (.bool false)))), none, [2, 4]⟩, ⟨(some 9), (.e (.mv (.t 15))), none, [5, 2]⟩]
def page_second_i3 : List Op1 := [⟨(some 16), (.e (.mv (.t 4))), none, []⟩, ⟨(some 17), (.e (.cint .i64 (.t 16))), none, [0]⟩, ⟨(some 18), (.e (.build [(.int .i64 0), (.int .i64 0), (.int .i64 0)] [(0, (1, (.k (.int .i64 35)))), (1, (1, (.k (.int .i64 7)))), (2, (1, (.t 17)))])), none, [1]⟩, ⟨none, (.e (.store 3 (.t 2) (.t 18))), none, [2, 0, 1, 2]⟩]
def page_second_i4 : IR := .ret
def page_second_i5 : List Op1 := [⟨(some 20), (.e (.mv (.t 3))), none, []⟩, ⟨(some 21), (.e (.bin .geq (.t 20) (.k (.int .u8 8)))), none, [0]⟩, ⟨(some 22), (.e (.mv (.t 21))), none, [1]⟩, ⟨(some 23), (.e (.mv (.t 3))), (some (22, true)), [2]⟩, ⟨(some 24), (.e (.bin .lss (.t 23) (.k (.int .u8 12)))), (some (22, true)), [3, 2]⟩, ⟨(some 25), (.e (.pick (.t 22) (.t 24) (.k (.bool false)))), none, [2, 4]⟩, ⟨(some 26), (.e (.mv (.t 25))), none, [5, 2]⟩, ⟨(some 27), (.e (.mv (.t 4))), (some (26, true)), [6]⟩, ⟨(some 28), (.e (.bin .eql (.t 27) (.k (.int .u8 3)))), (some (26, true)), [7, 6]⟩, ⟨(some 29), (.e (.pick (.t 26) (.t 28) (.k (.bool false)))), none, [6, 8]⟩, ⟨(some 19), (.e (.mv (.t 29))), none, [9, 6]⟩]
def page_second_i6 : List Op1 := [⟨(some 30), (.e (.mv (.t 3))), none, []⟩, ⟨(some 31), (.call 22 [(.t 30)]), none, [0]⟩, ⟨(some 32), (.call 21 [(.k (.int .i64 28)), (.t 31), (.k (.int .i64 0))]), none, [1, 1]⟩, ⟨none, (.e (.store 3 (.t 2) (.t 32))), none, [2, 2, 0, 1, 2]⟩]
def page_second_i7 : IR := .ret
def page_second_i8 : List Op1 := [⟨(some 34), (.e (.mv (.t 3))), none, []⟩, ⟨(some 35), (.e (.bin .geq (.t 34) (.k (.int .u8 8)))), none, [0]⟩, ⟨(some 36), (.e (.mv (.t 35))), none, [1]⟩, ⟨(some 37), (.e (.mv (.t 3))), (some (36, true)), [2]⟩, ⟨(some 38), (.e (.bin .lss (.t 37) (.k (.int .u8 12)))), (some (36, true)), [3, 2]⟩, ⟨(some 39), (.e (.pick (.t 36) (.t 38) (.k (.bool false)))), none, [2, 4]⟩, ⟨(some 40), (.e (.mv (.t 39))), none, [5, 2]⟩, ⟨(some 41), (.e (.mv (.t 4))), (some (40, true)), [6]⟩, ⟨(some 42), (.e (.bin .eql (.t 41) (.k (.int .u8 12)))), (some (40, true)), [7, 6]⟩, ⟨(some 43), (.e (.pick (.t 40) (.t 42) (.k (.bool false)))), none, [6, 8]⟩, ⟨(some 33), (.e (.mv (.t 43))), none, [9, 6]⟩]
def page_second_i9 : List Op1 := [⟨(some 44), (.e (.mv (.t 3))), none, []⟩, ⟨(some 45), (.call 22 [(.t 44)]), none, [0]⟩, ⟨(some 46), (.call 21 [(.k (.int .i64 28)), (.t 45), (.k (.int .i64 2))]), none, [1, 1]⟩, ⟨none, (.e (.store 3 (.t 2) (.t 46))), none, [2, 2, 0, 1, 2]⟩]
def page_second_i10 : IR := .ret
def page_second_i11 : List Op1 := [⟨(some 48), (.e (.mv (.t 3))), none, []⟩, ⟨(some 49), (.e (.bin .geq (.t 48) (.k (.int .u8 8)))), none, [0]⟩, ⟨(some 50), (.e (.mv (.t 49))), none, [1]⟩, ⟨(some 51), (.e (.mv (.t 3))), (some (50, true)), [2]⟩, ⟨(some 52), (.e (.bin .lss (.t 51) (.k (.int .u8 12)))), (some (50, true)), [3, 2]⟩, ⟨(some 53), (.e (.pick (.t 50) (.t 52) (.k (.bool false)))), none, [2, 4]⟩, ⟨(some 54), (.e (.mv (.t 53))), none, [5, 2]⟩, ⟨(some 55), (.e (.mv (.t 4))), (some (54, true)), [6]⟩, ⟨(some 56), (.e (.bin .eql (.t 55) (.k (.int .u8 14)))), (some (54, true)), [7, 6]⟩, ⟨(some 57), (.e (.pick (.t 54) (.t 56) (.k (.bool false)))), none, [6, 8]⟩, ⟨(some 47), (.e (.mv (.t 57))), none, [9, 6]⟩]
def page_second_i12 : List Op1 := [⟨(some 58), (.e (.mv (.t 3))), none, []⟩, ⟨(some 59), (.call 22 [(.t 58)]), none, [0]⟩, ⟨(some 60), (.call 21 [(.k (.int .i64 24)), (.t 59), (.k (.int .i64 2))]), none, [1, 1]⟩, ⟨none, (.e (.store 3 (.t 2) (.t 60))), none, [2, 2, 0, 1, 2]⟩]
def page_second_i13 : IR := .ret
def page_second_i14 : List Op1 := [⟨(some 62), (.e (.mv (.t 3))), none, []⟩, ⟨(some 63), (.e (.bin .geq (.t 62) (.k (.int .u8 8)))), none, [0]⟩, ⟨(some 64), (.e (.mv (.t 63))), none, [1]⟩, ⟨(some 65), (.e (.mv (.t 3))), (some (64, true)), [2]⟩, ⟨(some 66), (.e (.bin .lss (.t 65) (.k (.int .u8 12)))), (some (64, true)), [3, 2]⟩, ⟨(some 67), (.e (.pick (.t 64) (.t 66) (.k (.bool false)))), none, [2, 4]⟩, ⟨(some 68), (.e (.mv (.t 67))), none, [5, 2]⟩, ⟨(some 69), (.e (.mv (.t 4))), (some (68, true)), [6]⟩, ⟨(some 70), (.e (.bin .eql (.t 69) (.k (.int .u8 15)))), (some (68, true)), [7, 6]⟩, ⟨(some 71), (.e (.pick (.t 68) (.t 70) (.k (.bool false)))), none, [6, 8]⟩, ⟨(some 61), (.e (.mv (.t 71))), none, [9, 6]⟩]
def page_second_i15 : List Op1 := [⟨(some 72), (.e (.mv (.t 3))), none, []⟩, ⟨(some 73), (.call 22 [(.t 72)]), none, [0]⟩, ⟨(some 74), (.call 21 [(.k (.int .i64 25)), (.t 73), (.k (.int .i64 2))]), none, [1, 1]⟩, ⟨none, (.e (.store 3 (.t 2) (.t 74))), none, [2, 2, 0, 1, 2]⟩]
def page_second_i16 : IR := .ret
def page_second_i17 : List Op1 := [⟨(some 76), (.e (.mv (.t 3))), none, []⟩, ⟨(some 77), (.e (.bin .geq (.t 76) (.k (.int .u8 12)))), none, [0]⟩, ⟨(some 78), (.e (.mv (.t 77))), none, [1]⟩, ⟨(some 79), (.e (.mv (.t 4))), (some (78, true)), [2]⟩, ⟨(some 80), (.e (.bin .eql (.t 79) (.k (.int .u8 14)))), (some (78, true)), [3, 2]⟩, ⟨(some 81), (.e (.pick (.t 78) (.t 80) (.k (.bool false)))), none, [2, 4]⟩, ⟨(some 75), (.e (.mv (.t 81))), none, [5, 2]⟩]
def page_second_i18 : List Op1 := [⟨(some 82), (.e (.mv (.t 3))), none, []⟩, ⟨(some 83), (.call 22 [(.t 82)]), none, [0]⟩, ⟨(some 84), (.call 21 [(.k (.int .i64 24)), (.t 83), (.k (.int .i64 4))]), none, [1, 1]⟩, ⟨none, (.e (.store 3 (.t 2) (.t 84))), none, [2, 2, 0, 1, 2]⟩]
def page_second_i19 : IR := .ret
def page_second_i20 : List Op1 := [⟨(some 86), (.e (.mv (.t 3))), none, []⟩, ⟨(some 87), (.e (.bin .geq (.t 86) (.k (.int .u8 12)))), none, [0]⟩, ⟨(some 88), (.e (.mv (.t 87))), none, [1]⟩, ⟨(some 89), (.e (.mv (.t 4))), (some (88, true)), [2]⟩, ⟨(some 90), (.e (.bin .eql (.t 89) (.k (.int .u8 15)))), (some (88, true)), [3, 2]⟩, ⟨(some 91), (.e (.pick (.t 88) (.t 90) (.k (.bool false)))), none, [2, 4]⟩, ⟨(some 85), (.e (.mv (.t 91))), none, [5, 2]⟩]
def page_second_i21 : List Op1 := [⟨(some 92), (.e (.mv (.t 3))), none, []⟩, ⟨(some 93), (.call 22 [(.t 92)]), none, [0]⟩, ⟨(some 94), (.call 21 [(.k (.int .i64 25)), (.t 93), (.k (.int .i64 4))]), none, [1, 1]⟩, ⟨none, (.e (.store 3 (.t 2) (.t 94))), none, [2, 2, 0, 1, 2]⟩]
def page_second_i22 : IR := .ret
def page_second_i23 : IR := (.cond (.t 85) (.seq (.reg false page_second_i21) page_second_i22) .skip)
def page_second_i24 : IR := (.cond (.t 75) (.seq (.reg false page_second_i18) page_second_i19) (.seq (.reg false page_second_i20) page_second_i23))
def page_second_i25 : IR := (.cond (.t 61) (.seq (.reg false page_second_i15) page_second_i16) (.seq (.reg false page_second_i17) page_second_i24))
def page_second_i26 : IR := (.cond (.t 47) (.seq (.reg false page_second_i12) page_second_i13) (.seq (.reg false page_second_i14) page_second_i25))
def page_second_i27 : IR := (.cond (.t 33) (.seq (.reg false page_second_i9) page_second_i10) (.seq (.reg false page_second_i11) page_second_i26))
def page_second_i28 : IR := (.cond (.t 19) (.seq (.reg false page_second_i6) page_second_i7) (.seq (.reg false page_second_i8) page_second_i27))
def page_second_i29 : IR := (.cond (.t 9) (.seq (.reg false page_second_i3) page_second_i4) (.seq (.reg false page_second_i5) page_second_i28))
def page_second_i30 : List Op1 := [⟨(some 95), (.e (.build [(.int .i64 0), (.int .i64 0), (.int .i64 0)] [])), none, []⟩, ⟨none, (.e (.store 3 (.t 2) (.t 95))), none, [0, 0]⟩]
def page_second_i31 : IR := .ret
def page_second_i32 : IR := (.seq (.reg false page_second_i30) page_second_i31)
def page_second_i33 : IR := (.seq (.block 0 (.seq (.reg false page_second_i2) page_second_i29)) page_second_i32)
def page_second_i34 : IR := (.seq (.reg false page_second_i1) page_second_i33)
def page_second_ir : IR := (.seq (.reg false page_second_i0) page_second_i34)
theorem page_second_cfn : cFn Try.prog 14 = some (page_second_ir, [(.c 2 true 3)], 96) := by kernel_rfl
def page_second_V (r : (api_Entry)) : V := .agg [.s (.int .i64 r.Op), .s (.int .i64 r.Mode), .s (.int .i64 r.Reg)]
def page_second_C (r : (api_Entry)) : X → Fr → Hp → Prop := FinL [(.c 2 true 3)] [] (page_second_V r) []
theorem page_second_ok (code_ : Int) (r : (api_Entry)) (h : page_second code_ = some r) : Pure Try.prog 14 [.s (.int .u8 code_)] (page_second_V r) := by
  refine ConL.of page_second_cfn (Nat.le_of_ble_eq_true (by kernel_rfl)) (Nat.le_of_ble_eq_true (by kernel_rfl)) ?_
  refine k_start ?_
  show dwv Try.prog [] page_second_ir (kont Try.prog [] (page_second_C r) []) (fr0 [.s (.int .u8 code_)]) []
  have hf : FOk (fr0 [.s (.int .u8 code_)]) [⟨0, [], .s (.int .u8 code_)⟩] := ⟨⟨fun _ => rfl, fun h => (h trivial).elim⟩, trivial⟩
  generalize fr0 [.s (.int .u8 code_)] = f at hf ⊢
  unfold page_second at h
  refine k_seq ?_
  refine k_reg ?_
  refine mops_end [0, 2] hf (l' := [⟨0, [], .s (.int .u8 code_)⟩, ⟨2, [], .ptr 0 0 0⟩]) (L' := [⟨0, .mem, 1, [.s (.int .i64 0), .s (.int .i64 0), .s (.int .i64 0)]⟩]) (by kernel_rfl) fun f1 hf1 => ?_
  refine k_c ?_
  refine k_seq ?_
  refine k_reg ?_
  refine mops_end [2, 3, 4] hf1 (l' := [⟨2, [], .ptr 0 0 0⟩, ⟨3, [], .s (.int .u8 (Int.fdiv code_ (2 ^ (4))))⟩, ⟨4, [], .s (.int .u8 (bits .and .u8 code_ 15))⟩]) (L' := [⟨0, .mem, 1, [.s (.int .i64 0), .s (.int .i64 0), .s (.int .i64 0)]⟩]) (by kernel_rfl) fun f2 hf2 => ?_
  refine k_c ?_
  refine k_seq ?_
  refine k_block ?_
  refine k_seq ?_
  refine k_reg ?_
  refine mops_end [2, 3, 4, 9] hf2 (l' := [⟨2, [], .ptr 0 0 0⟩, ⟨3, [], .s (.int .u8 (Int.fdiv code_ (2 ^ (4))))⟩, ⟨4, [], .s (.int .u8 (bits .and .u8 code_ 15))⟩, ⟨9, [], .s (.bool (((Int.fdiv code_ (2 ^ (4))) == 2) && (decide (0 < (bits .and .u8 code_ 15)))))⟩]) (L' := [⟨0, .mem, 1, [.s (.int .i64 0), .s (.int .i64 0), .s (.int .i64 0)]⟩]) (by kernel_rfl) fun f3 hf3 => ?_
  refine k_c ?_
  refine k_cond hf3 (t := (((Int.fdiv code_ (2 ^ (4))) == 2) && (decide (0 < (bits .and .u8 code_ 15))))) (by kernel_rfl) (fun hc1 => ?_) (fun hc1 => ?_)
  · have h := if_t h hc1
    refine k_seq ?_
    refine k_reg ?_
    refine mops_end [2] hf3 (l' := [⟨2, [], .ptr 0 0 0⟩]) (L' := [⟨0, .mem, 1, [.s (.int .i64 35), .s (.int .i64 7), .s (.int .i64 (IntKind.wrap .i64 (bits .and .u8 code_ 15)))]⟩]) (by kernel_rfl) fun f4 hf4 => ?_
    refine k_c ?_
    refine k_ret ?_
    refine x_br ?_
    refine x_c nofun ?_
    obtain rfl := Option.some.inj h
    exact k_fin (fin_ret (.inl rfl) hf4 (vs := [.agg [.s (.int .i64 35), .s (.int .i64 7), .s (.int .i64 (IntKind.wrap .i64 (bits .and .u8 code_ 15)))]]) (by kernel_rfl) (SettL.pure (FzL.stat rfl)))
  · have h := if_f h hc1
    refine k_seq ?_
    refine k_reg ?_
    refine mops_end [2, 3, 4, 19] hf3 (l' := [⟨2, [], .ptr 0 0 0⟩, ⟨3, [], .s (.int .u8 (Int.fdiv code_ (2 ^ (4))))⟩, ⟨4, [], .s (.int .u8 (bits .and .u8 code_ 15))⟩, ⟨19, [], .s (.bool (((decide (8 ≤ (Int.fdiv code_ (2 ^ (4))))) && (decide ((Int.fdiv code_ (2 ^ (4))) < 12))) && ((bits .and .u8 code_ 15) == 3)))⟩]) (L' := [⟨0, .mem, 1, [.s (.int .i64 0), .s (.int .i64 0), .s (.int .i64 0)]⟩]) (by kernel_rfl) fun f4 hf4 => ?_
    refine k_c ?_
    refine k_cond hf4 (t := (((decide (8 ≤ (Int.fdiv code_ (2 ^ (4))))) && (decide ((Int.fdiv code_ (2 ^ (4))) < 12))) && ((bits .and .u8 code_ 15) == 3))) (by kernel_rfl) (fun hc2 => ?_) (fun hc2 => ?_)
    · have h := if_t h hc2
      refine k_seq ?_
      refine k_reg ?_
      refine mops_seg [2, 30] 1 hf4 (l' := [⟨2, [], .ptr 0 0 0⟩, ⟨30, [], .s (.int .u8 (Int.fdiv code_ (2 ^ (4))))⟩]) (L' := [⟨0, .mem, 1, [.s (.int .i64 0), .s (.int .i64 0), .s (.int .i64 0)]⟩]) (by kernel_rfl) fun f5 hf5 => ?_
      obtain ⟨r_, hx_r_, h⟩ := Option.bind_eq_some_iff.1 h
      refine mops_call (dst := (some 31)) (m := 22) (args := [(.t 30)]) (aft := [0]) (by kernel_rfl) hf5 (av := [.s (.int .u8 (Int.fdiv code_ (2 ^ (4))))]) (by kernel_rfl) (v := .s (.int .i64 r_)) (L' := [⟨0, .mem, 1, [.s (.int .i64 0), .s (.int .i64 0), .s (.int .i64 0)]⟩]) (CalL.pure (page_column_ok (Int.fdiv code_ (2 ^ (4))) r_ hx_r_) rfl rfl (Nat.le_of_ble_eq_true (by kernel_rfl))) (fun _ => rfl) fun f6 hf6 => ?_
      obtain ⟨r_1, hx_r_1, h⟩ := Option.bind_eq_some_iff.1 h
      refine mops_call (dst := (some 32)) (m := 21) (args := [(.k (.int .i64 28)), (.t 31), (.k (.int .i64 0))]) (aft := [1, 1]) (by kernel_rfl) hf6 (av := [.s (.int .i64 28), .s (.int .i64 r_), .s (.int .i64 0)]) (by kernel_rfl) (v := .agg [.s (.int .i64 r_1.Op), .s (.int .i64 r_1.Mode), .s (.int .i64 r_1.Reg)]) (L' := [⟨0, .mem, 1, [.s (.int .i64 0), .s (.int .i64 0), .s (.int .i64 0)]⟩]) (CalL.pure (page_wide_ok (28) r_ (0) r_1 hx_r_1) rfl rfl (Nat.le_of_ble_eq_true (by kernel_rfl))) (fun _ => rfl) fun f7 hf7 => ?_
      refine mops_end [2] hf7 (l' := [⟨2, [], .ptr 0 0 0⟩]) (L' := [⟨0, .mem, 1, [.s (.int .i64 r_1.Op), .s (.int .i64 r_1.Mode), .s (.int .i64 r_1.Reg)]⟩]) (by kernel_rfl) fun f8 hf8 => ?_
      refine k_c ?_
      refine k_ret ?_
      refine x_br ?_
      refine x_c nofun ?_
      obtain rfl := Option.some.inj h
      exact k_fin (fin_ret (.inl rfl) hf8 (vs := [.agg [.s (.int .i64 r_1.Op), .s (.int .i64 r_1.Mode), .s (.int .i64 r_1.Reg)]]) (by kernel_rfl) (SettL.pure (FzL.stat rfl)))
    · have h := if_f h hc2
      refine k_seq ?_
      refine k_reg ?_
      refine mops_end [2, 3, 4, 33] hf4 (l' := [⟨2, [], .ptr 0 0 0⟩, ⟨3, [], .s (.int .u8 (Int.fdiv code_ (2 ^ (4))))⟩, ⟨4, [], .s (.int .u8 (bits .and .u8 code_ 15))⟩, ⟨33, [], .s (.bool (((decide (8 ≤ (Int.fdiv code_ (2 ^ (4))))) && (decide ((Int.fdiv code_ (2 ^ (4))) < 12))) && ((bits .and .u8 code_ 15) == 12)))⟩]) (L' := [⟨0, .mem, 1, [.s (.int .i64 0), .s (.int .i64 0), .s (.int .i64 0)]⟩]) (by kernel_rfl) fun f5 hf5 => ?_
      refine k_c ?_
      refine k_cond hf5 (t := (((decide (8 ≤ (Int.fdiv code_ (2 ^ (4))))) && (decide ((Int.fdiv code_ (2 ^ (4))) < 12))) && ((bits .and .u8 code_ 15) == 12))) (by kernel_rfl) (fun hc3 => ?_) (fun hc3 => ?_)
      · have h := if_t h hc3
        refine k_seq ?_
        refine k_reg ?_
        refine mops_seg [2, 44] 1 hf5 (l' := [⟨2, [], .ptr 0 0 0⟩, ⟨44, [], .s (.int .u8 (Int.fdiv code_ (2 ^ (4))))⟩]) (L' := [⟨0, .mem, 1, [.s (.int .i64 0), .s (.int .i64 0), .s (.int .i64 0)]⟩]) (by kernel_rfl) fun f6 hf6 => ?_
        obtain ⟨r_2, hx_r_2, h⟩ := Option.bind_eq_some_iff.1 h
        refine mops_call (dst := (some 45)) (m := 22) (args := [(.t 44)]) (aft := [0]) (by kernel_rfl) hf6 (av := [.s (.int .u8 (Int.fdiv code_ (2 ^ (4))))]) (by kernel_rfl) (v := .s (.int .i64 r_2)) (L' := [⟨0, .mem, 1, [.s (.int .i64 0), .s (.int .i64 0), .s (.int .i64 0)]⟩]) (CalL.pure (page_column_ok (Int.fdiv code_ (2 ^ (4))) r_2 hx_r_2) rfl rfl (Nat.le_of_ble_eq_true (by kernel_rfl))) (fun _ => rfl) fun f7 hf7 => ?_
        obtain ⟨r_3, hx_r_3, h⟩ := Option.bind_eq_some_iff.1 h
        refine mops_call (dst := (some 46)) (m := 21) (args := [(.k (.int .i64 28)), (.t 45), (.k (.int .i64 2))]) (aft := [1, 1]) (by kernel_rfl) hf7 (av := [.s (.int .i64 28), .s (.int .i64 r_2), .s (.int .i64 2)]) (by kernel_rfl) (v := .agg [.s (.int .i64 r_3.Op), .s (.int .i64 r_3.Mode), .s (.int .i64 r_3.Reg)]) (L' := [⟨0, .mem, 1, [.s (.int .i64 0), .s (.int .i64 0), .s (.int .i64 0)]⟩]) (CalL.pure (page_wide_ok (28) r_2 (2) r_3 hx_r_3) rfl rfl (Nat.le_of_ble_eq_true (by kernel_rfl))) (fun _ => rfl) fun f8 hf8 => ?_
        refine mops_end [2] hf8 (l' := [⟨2, [], .ptr 0 0 0⟩]) (L' := [⟨0, .mem, 1, [.s (.int .i64 r_3.Op), .s (.int .i64 r_3.Mode), .s (.int .i64 r_3.Reg)]⟩]) (by kernel_rfl) fun f9 hf9 => ?_
        refine k_c ?_
        refine k_ret ?_
        refine x_br ?_
        refine x_c nofun ?_
        obtain rfl := Option.some.inj h
        exact k_fin (fin_ret (.inl rfl) hf9 (vs := [.agg [.s (.int .i64 r_3.Op), .s (.int .i64 r_3.Mode), .s (.int .i64 r_3.Reg)]]) (by kernel_rfl) (SettL.pure (FzL.stat rfl)))
      · have h := if_f h hc3
        refine k_seq ?_
        refine k_reg ?_
        refine mops_end [2, 3, 4, 47] hf5 (l' := [⟨2, [], .ptr 0 0 0⟩, ⟨3, [], .s (.int .u8 (Int.fdiv code_ (2 ^ (4))))⟩, ⟨4, [], .s (.int .u8 (bits .and .u8 code_ 15))⟩, ⟨47, [], .s (.bool (((decide (8 ≤ (Int.fdiv code_ (2 ^ (4))))) && (decide ((Int.fdiv code_ (2 ^ (4))) < 12))) && ((bits .and .u8 code_ 15) == 14)))⟩]) (L' := [⟨0, .mem, 1, [.s (.int .i64 0), .s (.int .i64 0), .s (.int .i64 0)]⟩]) (by kernel_rfl) fun f6 hf6 => ?_
        refine k_c ?_
        refine k_cond hf6 (t := (((decide (8 ≤ (Int.fdiv code_ (2 ^ (4))))) && (decide ((Int.fdiv code_ (2 ^ (4))) < 12))) && ((bits .and .u8 code_ 15) == 14))) (by kernel_rfl) (fun hc4 => ?_) (fun hc4 => ?_)
        · have h := if_t h hc4
          refine k_seq ?_
          refine k_reg ?_
          refine mops_seg [2, 58] 1 hf6 (l' := [⟨2, [], .ptr 0 0 0⟩, ⟨58, [], .s (.int .u8 (Int.fdiv code_ (2 ^ (4))))⟩]) (L' := [⟨0, .mem, 1, [.s (.int .i64 0), .s (.int .i64 0), .s (.int .i64 0)]⟩]) (by kernel_rfl) fun f7 hf7 => ?_
          obtain ⟨r_4, hx_r_4, h⟩ := Option.bind_eq_some_iff.1 h
          refine mops_call (dst := (some 59)) (m := 22) (args := [(.t 58)]) (aft := [0]) (by kernel_rfl) hf7 (av := [.s (.int .u8 (Int.fdiv code_ (2 ^ (4))))]) (by kernel_rfl) (v := .s (.int .i64 r_4)) (L' := [⟨0, .mem, 1, [.s (.int .i64 0), .s (.int .i64 0), .s (.int .i64 0)]⟩]) (CalL.pure (page_column_ok (Int.fdiv code_ (2 ^ (4))) r_4 hx_r_4) rfl rfl (Nat.le_of_ble_eq_true (by kernel_rfl))) (fun _ => rfl) fun f8 hf8 => ?_
          obtain ⟨r_5, hx_r_5, h⟩ := Option.bind_eq_some_iff.1 h
          refine mops_call (dst := (some 60)) (m := 21) (args := [(.k (.int .i64 24)), (.t 59), (.k (.int .i64 2))]) (aft := [1, 1]) (by kernel_rfl) hf8 (av := [.s (.int .i64 24), .s (.int .i64 r_4), .s (.int .i64 2)]) (by kernel_rfl) (v := .agg [.s (.int .i64 r_5.Op), .s (.int .i64 r_5.Mode), .s (.int .i64 r_5.Reg)]) (L' := [⟨0, .mem, 1, [.s (.int .i64 0), .s (.int .i64 0), .s (.int .i64 0)]⟩]) (CalL.pure (page_wide_ok (24) r_4 (2) r_5 hx_r_5) rfl rfl (Nat.le_of_ble_eq_true (by kernel_rfl))) (fun _ => rfl) fun f9 hf9 => ?_
          refine mops_end [2] hf9 (l' := [⟨2, [], .ptr 0 0 0⟩]) (L' := [⟨0, .mem, 1, [.s (.int .i64 r_5.Op), .s (.int .i64 r_5.Mode), .s (.int .i64 r_5.Reg)]⟩]) (by kernel_rfl) fun f10 hf10 => ?_
          refine k_c ?_
          refine k_ret ?_
          refine x_br ?_
          refine x_c nofun ?_
          obtain rfl := Option.some.inj h
          exact k_fin (fin_ret (.inl rfl) hf10 (vs := [.agg [.s (.int .i64 r_5.Op), .s (.int .i64 r_5.Mode), .s (.int .i64 r_5.Reg)]]) (by kernel_rfl) (SettL.pure (FzL.stat rfl)))
        · have h := if_f h hc4
          refine k_seq ?_
          refine k_reg ?_
          refine mops_end [2, 3, 4, 61] hf6 (l' := [⟨2, [], .ptr 0 0 0⟩, ⟨3, [], .s (.int .u8 (Int.fdiv code_ (2 ^ (4))))⟩, ⟨4, [], .s (.int .u8 (bits .and .u8 code_ 15))⟩, ⟨61, [], .s (.bool (((decide (8 ≤ (Int.fdiv code_ (2 ^ (4))))) && (decide ((Int.fdiv code_ (2 ^ (4))) < 12))) && ((bits .and .u8 code_ 15) == 15)))⟩]) (L' := [⟨0, .mem, 1, [.s (.int .i64 0), .s (.int .i64 0), .s (.int .i64 0)]⟩]) (by kernel_rfl) fun f7 hf7 => ?_
          refine k_c ?_
          refine k_cond hf7 (t := (((decide (8 ≤ (Int.fdiv code_ (2 ^ (4))))) && (decide ((Int.fdiv code_ (2 ^ (4))) < 12))) && ((bits .and .u8 code_ 15) == 15))) (by kernel_rfl) (fun hc5 => ?_) (fun hc5 => ?_)
          · have h := if_t h hc5
            refine k_seq ?_
            refine k_reg ?_
            refine mops_seg [2, 72] 1 hf7 (l' := [⟨2, [], .ptr 0 0 0⟩, ⟨72, [], .s (.int .u8 (Int.fdiv code_ (2 ^ (4))))⟩]) (L' := [⟨0, .mem, 1, [.s (.int .i64 0), .s (.int .i64 0), .s (.int .i64 0)]⟩]) (by kernel_rfl) fun f8 hf8 => ?_
            obtain ⟨r_6, hx_r_6, h⟩ := Option.bind_eq_some_iff.1 h
            refine mops_call (dst := (some 73)) (m := 22) (args := [(.t 72)]) (aft := [0]) (by kernel_rfl) hf8 (av := [.s (.int .u8 (Int.fdiv code_ (2 ^ (4))))]) (by kernel_rfl) (v := .s (.int .i64 r_6)) (L' := [⟨0, .mem, 1, [.s (.int .i64 0), .s (.int .i64 0), .s (.int .i64 0)]⟩]) (CalL.pure (page_column_ok (Int.fdiv code_ (2 ^ (4))) r_6 hx_r_6) rfl rfl (Nat.le_of_ble_eq_true (by kernel_rfl))) (fun _ => rfl) fun f9 hf9 => ?_
            obtain ⟨r_7, hx_r_7, h⟩ := Option.bind_eq_some_iff.1 h
            refine mops_call (dst := (some 74)) (m := 21) (args := [(.k (.int .i64 25)), (.t 73), (.k (.int .i64 2))]) (aft := [1, 1]) (by kernel_rfl) hf9 (av := [.s (.int .i64 25), .s (.int .i64 r_6), .s (.int .i64 2)]) (by kernel_rfl) (v := .agg [.s (.int .i64 r_7.Op), .s (.int .i64 r_7.Mode), .s (.int .i64 r_7.Reg)]) (L' := [⟨0, .mem, 1, [.s (.int .i64 0), .s (.int .i64 0), .s (.int .i64 0)]⟩]) (CalL.pure (page_wide_ok (25) r_6 (2) r_7 hx_r_7) rfl rfl (Nat.le_of_ble_eq_true (by kernel_rfl))) (fun _ => rfl) fun f10 hf10 => ?_
            refine mops_end [2] hf10 (l' := [⟨2, [], .ptr 0 0 0⟩]) (L' := [⟨0, .mem, 1, [.s (.int .i64 r_7.Op), .s (.int .i64 r_7.Mode), .s (.int .i64 r_7.Reg)]⟩]) (by kernel_rfl) fun f11 hf11 => ?_
            refine k_c ?_
            refine k_ret ?_
            refine x_br ?_
            refine x_c nofun ?_
            obtain rfl := Option.some.inj h
            exact k_fin (fin_ret (.inl rfl) hf11 (vs := [.agg [.s (.int .i64 r_7.Op), .s (.int .i64 r_7.Mode), .s (.int .i64 r_7.Reg)]]) (by kernel_rfl) (SettL.pure (FzL.stat rfl)))
          · have h := if_f h hc5
            refine k_seq ?_
            refine k_reg ?_
            refine mops_end [2, 3, 4, 75] hf7 (l' := [⟨2, [], .ptr 0 0 0⟩, ⟨3, [], .s (.int .u8 (Int.fdiv code_ (2 ^ (4))))⟩, ⟨4, [], .s (.int .u8 (bits .and .u8 code_ 15))⟩, ⟨75, [], .s (.bool ((decide (12 ≤ (Int.fdiv code_ (2 ^ (4))))) && ((bits .and .u8 code_ 15) == 14)))⟩]) (L' := [⟨0, .mem, 1, [.s (.int .i64 0), .s (.int .i64 0), .s (.int .i64 0)]⟩]) (by kernel_rfl) fun f8 hf8 => ?_
            refine k_c ?_
            refine k_cond hf8 (t := ((decide (12 ≤ (Int.fdiv code_ (2 ^ (4))))) && ((bits .and .u8 code_ 15) == 14))) (by kernel_rfl) (fun hc6 => ?_) (fun hc6 => ?_)
            · have h := if_t h hc6
              refine k_seq ?_
              refine k_reg ?_
              refine mops_seg [2, 82] 1 hf8 (l' := [⟨2, [], .ptr 0 0 0⟩, ⟨82, [], .s (.int .u8 (Int.fdiv code_ (2 ^ (4))))⟩]) (L' := [⟨0, .mem, 1, [.s (.int .i64 0), .s (.int .i64 0), .s (.int .i64 0)]⟩]) (by kernel_rfl) fun f9 hf9 => ?_
              obtain ⟨r_8, hx_r_8, h⟩ := Option.bind_eq_some_iff.1 h
              refine mops_call (dst := (some 83)) (m := 22) (args := [(.t 82)]) (aft := [0]) (by kernel_rfl) hf9 (av := [.s (.int .u8 (Int.fdiv code_ (2 ^ (4))))]) (by kernel_rfl) (v := .s (.int .i64 r_8)) (L' := [⟨0, .mem, 1, [.s (.int .i64 0), .s (.int .i64 0), .s (.int .i64 0)]⟩]) (CalL.pure (page_column_ok (Int.fdiv code_ (2 ^ (4))) r_8 hx_r_8) rfl rfl (Nat.le_of_ble_eq_true (by kernel_rfl))) (fun _ => rfl) fun f10 hf10 => ?_
              obtain ⟨r_9, hx_r_9, h⟩ := Option.bind_eq_some_iff.1 h
              refine mops_call (dst := (some 84)) (m := 21) (args := [(.k (.int .i64 24)), (.t 83), (.k (.int .i64 4))]) (aft := [1, 1]) (by kernel_rfl) hf10 (av := [.s (.int .i64 24), .s (.int .i64 r_8), .s (.int .i64 4)]) (by kernel_rfl) (v := .agg [.s (.int .i64 r_9.Op), .s (.int .i64 r_9.Mode), .s (.int .i64 r_9.Reg)]) (L' := [⟨0, .mem, 1, [.s (.int .i64 0), .s (.int .i64 0), .s (.int .i64 0)]⟩]) (CalL.pure (page_wide_ok (24) r_8 (4) r_9 hx_r_9) rfl rfl (Nat.le_of_ble_eq_true (by kernel_rfl))) (fun _ => rfl) fun f11 hf11 => ?_
              refine mops_end [2] hf11 (l' := [⟨2, [], .ptr 0 0 0⟩]) (L' := [⟨0, .mem, 1, [.s (.int .i64 r_9.Op), .s (.int .i64 r_9.Mode), .s (.int .i64 r_9.Reg)]⟩]) (by kernel_rfl) fun f12 hf12 => ?_
              refine k_c ?_
              refine k_ret ?_
              refine x_br ?_
              refine x_c nofun ?_
              obtain rfl := Option.some.inj h
              exact k_fin (fin_ret (.inl rfl) hf12 (vs := [.agg [.s (.int .i64 r_9.Op), .s (.int .i64 r_9.Mode), .s (.int .i64 r_9.Reg)]]) (by kernel_rfl) (SettL.pure (FzL.stat rfl)))
            · have h := if_f h hc6
              refine k_seq ?_
              refine k_reg ?_
              refine mops_end [2, 3, 85] hf8 (l' := [⟨2, [], .ptr 0 0 0⟩, ⟨3, [], .s (.int .u8 (Int.fdiv code_ (2 ^ (4))))⟩, ⟨85, [], .s (.bool ((decide (12 ≤ (Int.fdiv code_ (2 ^ (4))))) && ((bits .and .u8 code_ 15) == 15)))⟩]) (L' := [⟨0, .mem, 1, [.s (.int .i64 0), .s (.int .i64 0), .s (.int .i64 0)]⟩]) (by kernel_rfl) fun f9 hf9 => ?_
              refine k_c ?_
              refine k_cond hf9 (t := ((decide (12 ≤ (Int.fdiv code_ (2 ^ (4))))) && ((bits .and .u8 code_ 15) == 15))) (by kernel_rfl) (fun hc7 => ?_) (fun hc7 => ?_)
              · have h := if_t h hc7
                refine k_seq ?_
                refine k_reg ?_
                refine mops_seg [2, 92] 1 hf9 (l' := [⟨2, [], .ptr 0 0 0⟩, ⟨92, [], .s (.int .u8 (Int.fdiv code_ (2 ^ (4))))⟩]) (L' := [⟨0, .mem, 1, [.s (.int .i64 0), .s (.int .i64 0), .s (.int .i64 0)]⟩]) (by kernel_rfl) fun f10 hf10 => ?_
                obtain ⟨r_10, hx_r_10, h⟩ := Option.bind_eq_some_iff.1 h
                refine mops_call (dst := (some 93)) (m := 22) (args := [(.t 92)]) (aft := [0]) (by kernel_rfl) hf10 (av := [.s (.int .u8 (Int.fdiv code_ (2 ^ (4))))]) (by kernel_rfl) (v := .s (.int .i64 r_10)) (L' := [⟨0, .mem, 1, [.s (.int .i64 0), .s (.int .i64 0), .s (.int .i64 0)]⟩]) (CalL.pure (page_column_ok (Int.fdiv code_ (2 ^ (4))) r_10 hx_r_10) rfl rfl (Nat.le_of_ble_eq_true (by kernel_rfl))) (fun _ => rfl) fun f11 hf11 => ?_
                obtain ⟨r_11, hx_r_11, h⟩ := Option.bind_eq_some_iff.1 h
                refine mops_call (dst := (some 94)) (m := 21) (args := [(.k (.int .i64 25)), (.t 93), (.k (.int .i64 4))]) (aft := [1, 1]) (by kernel_rfl) hf11 (av := [.s (.int .i64 25), .s (.int .i64 r_10), .s (.int .i64 4)]) (by kernel_rfl) (v := .agg [.s (.int .i64 r_11.Op), .s (.int .i64 r_11.Mode), .s (.int .i64 r_11.Reg)]) (L' := [⟨0, .mem, 1, [.s (.int .i64 0), .s (.int .i64 0), .s (.int .i64 0)]⟩]) (CalL.pure (page_wide_ok (25) r_10 (4) r_11 hx_r_11) rfl rfl (Nat.le_of_ble_eq_true (by kernel_rfl))) (fun _ => rfl) fun f12 hf12 => ?_
                refine mops_end [2] hf12 (l' := [⟨2, [], .ptr 0 0 0⟩]) (L' := [⟨0, .mem, 1, [.s (.int .i64 r_11.Op), .s (.int .i64 r_11.Mode), .s (.int .i64 r_11.Reg)]⟩]) (by kernel_rfl) fun f13 hf13 => ?_
                refine k_c ?_
                refine k_ret ?_
                refine x_br ?_
                refine x_c nofun ?_
                obtain rfl := Option.some.inj h
                exact k_fin (fin_ret (.inl rfl) hf13 (vs := [.agg [.s (.int .i64 r_11.Op), .s (.int .i64 r_11.Mode), .s (.int .i64 r_11.Reg)]]) (by kernel_rfl) (SettL.pure (FzL.stat rfl)))
              · have h := if_f h hc7
                refine k_skip ?_
                refine k_b ?_
                refine k_c ?_
                refine k_seq ?_
                refine k_reg ?_
                refine mops_end [2] hf9 (l' := [⟨2, [], .ptr 0 0 0⟩]) (L' := [⟨0, .mem, 1, [.s (.int .i64 0), .s (.int .i64 0), .s (.int .i64 0)]⟩]) (by kernel_rfl) fun f10 hf10 => ?_
                refine k_c ?_
                refine k_ret ?_
                obtain rfl := Option.some.inj h
                exact k_fin (fin_ret (.inl rfl) hf10 (vs := [.agg [.s (.int .i64 0), .s (.int .i64 0), .s (.int .i64 0)]]) (by kernel_rfl) (SettL.pure (FzL.stat rfl)))
end Go.Proofs.YtjaadpgmiejidaaK
