/- The Go functions come to the functions over typed data. Printed by a program of this work. -/
import Derived.Test.YtjaadpgmiejidaaF
import Derived.Test.YtjaadpgmiejidaaProg
import Derived.Test.YtjaadpgmiejidaaG5
import Derived.Test.YtjaadpgmiejidaaG6
import Derived.Test.YtjaadpgmiejidaaG7
namespace Go.Proofs.YtjaadpgmiejidaaK
set_option linter.unusedVariables false
set_option linter.unusedSimpArgs false
set_option maxHeartbeats 4000000
open Go.RowKit
attribute [local irreducible] dwv mops lops lqops lwops kont iter run runK ex E1 vals val chain chB sel resF
def page_columns_i0 : List Op1 := [⟨(some 4), (.e (.zero [(.int .i64 0), (.int .i64 0), (.int .i64 0)])), none, []⟩]
def page_columns_i1 : List Op1 := [⟨(some 8), (.e (.mv (.t 0))), none, []⟩, ⟨(some 9), (.call 22 [(.t 8)]), none, [0]⟩, ⟨(some 10), (.e (.mv (.t 0))), none, []⟩, ⟨(some 11), (.e (.bin .gtr (.t 10) (.k (.int .u8 11)))), none, [2]⟩, ⟨(some 5), (.e (.mv (.t 9))), none, [1, 1, 0, 1]⟩, ⟨(some 6), (.e (.mv (.t 11))), none, [3, 4, 0, 1, 2, 3, 4]⟩]
def page_columns_i2 : List Op1 := [⟨(some 12), (.e (.mv (.t 1))), none, []⟩, ⟨(some 13), (.call 24 [(.t 12)]), none, [0]⟩, ⟨(some 7), (.e (.mv (.t 13))), none, [1, 1, 0, 1]⟩]
def page_columns_i3 : List Op1 := [⟨(some 14), (.e (.mv (.t 7))), none, []⟩, ⟨(some 15), (.e (.bin .neq (.t 14) (.k (.int .i64 0)))), none, [0]⟩]
def page_columns_i4 : List Op1 := [⟨(some 16), (.e (.mv (.t 7))), none, []⟩, ⟨(some 17), (.e (.bin .eql (.t 16) (.k (.int .i64 12)))), none, [0]⟩, ⟨(some 18), (.e (.mv (.t 17))), none, [1]⟩, ⟨(some 19), (.e (.mv (.t 5))), (some (18, true)), [2]⟩, ⟨(some 20), (.e (.bin .eql (.t 19) (.k (.int .i64 1)))), (some (18, true)), [3, 2]⟩, ⟨(some 21), (.e (.pick (.t 18) (.t 20) (.k (.bool false)))), none, [2, 4]⟩]
def page_columns_i5 : List Op1 := [⟨(some 22), (.e (.build [(.int .i64 0), (.int .i64 0), (.int .i64 0)] [])), none, []⟩, ⟨none, (.e (.store 3 (.t 4) (.t 22))), none, [0, 0]⟩]
def page_columns_i6 : IR := .ret
def page_columns_i7 : IR := (.cond (.t 21) (.seq (.reg false page_columns_i5) page_columns_i6) .skip)
def page_columns_i8 : List Op1 := [⟨(some 23), (.e (.mv (.t 6))), none, []⟩]
def page_columns_i9 : List Op1 := [⟨(some 24), (.e (.mv (.t 7))), none, []⟩, ⟨(some 25), (.e (.mv (.t 5))), none, []⟩, ⟨(some 26), (.e (.build [(.int .i64 0), (.int .i64 0), (.int .i64 0)] [(0, (1, (.t 24))), (1, (1, (.t 25))), (2, (1, (.k (.int .i64 9))))])), none, [0, 1]⟩, ⟨none, (.e (.store 3 (.t 4) (.t 26))), none, [2, 0, 1, 2]⟩]
def page_columns_i10 : IR := .ret
def page_columns_i11 : IR := (.cond (.t 23) (.seq (.reg false page_columns_i9) page_columns_i10) .skip)
def page_columns_i12 : List Op1 := [⟨(some 27), (.e (.mv (.t 7))), none, []⟩, ⟨(some 28), (.e (.mv (.t 5))), none, []⟩, ⟨(some 29), (.e (.build [(.int .i64 0), (.int .i64 0), (.int .i64 0)] [(0, (1, (.t 27))), (1, (1, (.t 28))), (2, (1, (.k (.int .i64 8))))])), none, [0, 1]⟩, ⟨none, (.e (.store 3 (.t 4) (.t 29))), none, [2, 0, 1, 2]⟩]
def page_columns_i13 : IR := .ret
def page_columns_i14 : IR := (.seq (.reg false page_columns_i12) page_columns_i13)
def page_columns_i15 : IR := (.seq (.seq (.reg false page_columns_i8) page_columns_i11) page_columns_i14)
def page_columns_i16 : IR := (.cond (.t 15) (.seq (.seq (.reg false page_columns_i4) page_columns_i7) page_columns_i15) .skip)
def page_columns_i17 : IR := (.seq (.reg false page_columns_i3) page_columns_i16)
def page_columns_i18 : List Op1 := [⟨(some 30), (.e (.mv (.t 6))), none, []⟩]
def page_columns_i19 : List Op1 := [⟨(some 31), (.e (.mv (.t 1))), none, []⟩]
def page_columns_i20 : List Op1 := [⟨(some 33), (.e (.bin .eql (.t 31) (.k (.int .u8 3)))), none, []⟩, ⟨(some 32), (.e (.mv (.t 33))), none, [0]⟩]
def page_columns_i21 : List Op1 := [⟨(some 34), (.e (.mv (.t 5))), none, []⟩, ⟨(some 35), (.call 21 [(.k (.int .i64 26)), (.t 34), (.k (.int .i64 0))]), none, [0]⟩, ⟨none, (.e (.store 3 (.t 4) (.t 35))), none, [1, 1, 0, 1]⟩]
def page_columns_i22 : IR := .ret
def page_columns_i23 : List Op1 := [⟨(some 37), (.e (.bin .eql (.t 31) (.k (.int .u8 12)))), none, []⟩, ⟨(some 36), (.e (.mv (.t 37))), none, [0]⟩]
def page_columns_i24 : List Op1 := [⟨(some 38), (.e (.mv (.t 5))), none, []⟩, ⟨(some 39), (.call 21 [(.k (.int .i64 24)), (.t 38), (.k (.int .i64 0))]), none, [0]⟩, ⟨none, (.e (.store 3 (.t 4) (.t 39))), none, [1, 1, 0, 1]⟩]
def page_columns_i25 : IR := .ret
def page_columns_i26 : List Op1 := [⟨(some 41), (.e (.bin .eql (.t 31) (.k (.int .u8 13)))), none, []⟩, ⟨(some 40), (.e (.mv (.t 41))), none, [0]⟩]
def page_columns_i27 : List Op1 := [⟨(some 42), (.e (.mv (.t 5))), none, []⟩, ⟨(some 43), (.call 21 [(.k (.int .i64 25)), (.t 42), (.k (.int .i64 0))]), none, [0]⟩, ⟨none, (.e (.store 3 (.t 4) (.t 43))), none, [1, 1, 0, 1]⟩]
def page_columns_i28 : IR := .ret
def page_columns_i29 : List Op1 := [⟨(some 45), (.e (.bin .eql (.t 31) (.k (.int .u8 14)))), none, []⟩, ⟨(some 44), (.e (.mv (.t 45))), none, [0]⟩]
def page_columns_i30 : List Op1 := [⟨(some 46), (.e (.mv (.t 5))), none, []⟩, ⟨(some 47), (.call 21 [(.k (.int .i64 24)), (.t 46), (.k (.int .i64 3))]), none, [0]⟩, ⟨none, (.e (.store 3 (.t 4) (.t 47))), none, [1, 1, 0, 1]⟩]
def page_columns_i31 : IR := .ret
def page_columns_i32 : IR := (.cond (.t 44) (.seq (.reg false page_columns_i30) page_columns_i31) .skip)
def page_columns_i33 : IR := (.cond (.t 40) (.seq (.reg false page_columns_i27) page_columns_i28) (.seq (.reg false page_columns_i29) page_columns_i32))
def page_columns_i34 : IR := (.cond (.t 36) (.seq (.reg false page_columns_i24) page_columns_i25) (.seq (.reg false page_columns_i26) page_columns_i33))
def page_columns_i35 : IR := (.cond (.t 32) (.seq (.reg false page_columns_i21) page_columns_i22) (.seq (.reg false page_columns_i23) page_columns_i34))
def page_columns_i36 : IR := (.block 0 (.seq (.reg false page_columns_i20) page_columns_i35))
def page_columns_i37 : List Op1 := [⟨(some 48), (.e (.mv (.t 5))), none, []⟩, ⟨(some 49), (.call 21 [(.k (.int .i64 25)), (.t 48), (.k (.int .i64 3))]), none, [0]⟩, ⟨none, (.e (.store 3 (.t 4) (.t 49))), none, [1, 1, 0, 1]⟩]
def page_columns_i38 : IR := .ret
def page_columns_i39 : IR := (.seq (.reg false page_columns_i37) page_columns_i38)
def page_columns_i40 : IR := (.cond (.t 30) (.seq (.seq (.reg false page_columns_i19) page_columns_i36) page_columns_i39) .skip)
def page_columns_i41 : List Op1 := [⟨(some 50), (.e (.mv (.t 1))), none, []⟩]
def page_columns_i42 : List Op1 := [⟨(some 52), (.e (.bin .eql (.t 50) (.k (.int .u8 3)))), none, []⟩, ⟨(some 51), (.e (.mv (.t 52))), none, [0]⟩]
def page_columns_i43 : List Op1 := [⟨(some 53), (.e (.mv (.t 5))), none, []⟩, ⟨(some 54), (.call 21 [(.k (.int .i64 27)), (.t 53), (.k (.int .i64 0))]), none, [0]⟩, ⟨none, (.e (.store 3 (.t 4) (.t 54))), none, [1, 1, 0, 1]⟩]
def page_columns_i44 : IR := .ret
def page_columns_i45 : List Op1 := [⟨(some 56), (.e (.bin .eql (.t 50) (.k (.int .u8 12)))), none, []⟩, ⟨(some 55), (.e (.mv (.t 56))), none, [0]⟩]
def page_columns_i46 : List Op1 := [⟨(some 57), (.e (.mv (.t 5))), none, []⟩, ⟨(some 58), (.call 21 [(.k (.int .i64 28)), (.t 57), (.k (.int .i64 1))]), none, [0]⟩, ⟨none, (.e (.store 3 (.t 4) (.t 58))), none, [1, 1, 0, 1]⟩]
def page_columns_i47 : IR := .ret
def page_columns_i48 : List Op1 := [⟨(some 60), (.e (.bin .eql (.t 50) (.k (.int .u8 14)))), none, []⟩, ⟨(some 59), (.e (.mv (.t 60))), none, [0]⟩]
def page_columns_i49 : List Op1 := [⟨(some 61), (.e (.mv (.t 5))), none, []⟩, ⟨(some 62), (.call 21 [(.k (.int .i64 24)), (.t 61), (.k (.int .i64 1))]), none, [0]⟩, ⟨none, (.e (.store 3 (.t 4) (.t 62))), none, [1, 1, 0, 1]⟩]
def page_columns_i50 : IR := .ret
def page_columns_i51 : List Op1 := [⟨(some 64), (.e (.bin .eql (.t 50) (.k (.int .u8 15)))), none, []⟩, ⟨(some 63), (.e (.mv (.t 64))), none, [0]⟩]
def page_columns_i52 : List Op1 := [⟨(some 65), (.e (.mv (.t 5))), none, []⟩, ⟨(some 66), (.call 21 [(.k (.int .i64 25)), (.t 65), (.k (.int .i64 1))]), none, [0]⟩, ⟨none, (.e (.store 3 (.t 4) (.t 66))), none, [1, 1, 0, 1]⟩]
def page_columns_i53 : IR := .ret
def page_columns_i54 : IR := (.cond (.t 63) (.seq (.reg false page_columns_i52) page_columns_i53) .skip)
def page_columns_i55 : IR := (.cond (.t 59) (.seq (.reg false page_columns_i49) page_columns_i50) (.seq (.reg false page_columns_i51) page_columns_i54))
def page_columns_i56 : IR := (.cond (.t 55) (.seq (.reg false page_columns_i46) page_columns_i47) (.seq (.reg false page_columns_i48) page_columns_i55))
def page_columns_i57 : IR := (.cond (.t 51) (.seq (.reg false page_columns_i43) page_columns_i44) (.seq (.reg false page_columns_i45) page_columns_i56))
def page_columns_i58 : IR := (.block 1 (.seq (.reg false page_columns_i42) page_columns_i57))
def page_columns_i59 : List Op1 := [⟨(some 67), (.e (.mv (.t 5))), none, []⟩, ⟨(some 68), (.e (.bin .eql (.t 67) (.k (.int .i64 1)))), none, [0]⟩]
def page_columns_i60 : List Op1 := [⟨(some 69), (.e (.build [(.int .i64 0), (.int .i64 0), (.int .i64 0)] [(0, (1, (.k (.int .i64 37)))), (1, (1, (.k (.int .i64 6))))])), none, []⟩, ⟨none, (.e (.store 3 (.t 4) (.t 69))), none, [0, 0]⟩]
def page_columns_i61 : IR := .ret
def page_columns_i62 : IR := (.cond (.t 68) (.seq (.reg false page_columns_i60) page_columns_i61) .skip)
def page_columns_i63 : List Op1 := [⟨(some 70), (.e (.mv (.t 5))), none, []⟩, ⟨(some 71), (.e (.build [(.int .i64 0), (.int .i64 0), (.int .i64 0)] [(0, (1, (.k (.int .i64 33)))), (1, (1, (.t 70)))])), none, [0]⟩, ⟨none, (.e (.store 3 (.t 4) (.t 71))), none, [1, 0, 1]⟩]
def page_columns_i64 : IR := .ret
def page_columns_i65 : IR := (.seq (.reg false page_columns_i63) page_columns_i64)
def page_columns_i66 : IR := (.seq (.seq (.reg false page_columns_i59) page_columns_i62) page_columns_i65)
def page_columns_i67 : IR := (.seq (.seq (.reg false page_columns_i41) page_columns_i58) page_columns_i66)
def page_columns_i68 : IR := (.seq (.seq (.reg false page_columns_i18) page_columns_i40) page_columns_i67)
def page_columns_i69 : IR := (.seq (.seq (.reg false page_columns_i2) page_columns_i17) page_columns_i68)
def page_columns_i70 : IR := (.seq (.reg false page_columns_i1) page_columns_i69)
def page_columns_ir : IR := (.seq (.reg false page_columns_i0) page_columns_i70)
theorem page_columns_cfn : cFn Try.prog 20 = some (page_columns_ir, [(.c 4 true 3)], 72) := by kernel_rfl
def page_columns_V (r : (api_Entry)) : V := .agg [.s (.int .i64 r.Op), .s (.int .i64 r.Mode), .s (.int .i64 r.Reg)]
def page_columns_C (r : (api_Entry)) : X → Fr → Hp → Prop := FinL [(.c 4 true 3)] [] (page_columns_V r) []
theorem page_columns_ok (high_ : Int) (low_ : Int) (r : (api_Entry)) (h : page_columns high_ low_ = some r) : Pure Try.prog 20 [.s (.int .u8 high_), .s (.int .u8 low_)] (page_columns_V r) := by
  refine ConL.of page_columns_cfn (Nat.le_of_ble_eq_true (by kernel_rfl)) (Nat.le_of_ble_eq_true (by kernel_rfl)) ?_
  refine k_start ?_
  show dwv Try.prog [] page_columns_ir (kont Try.prog [] (page_columns_C r) []) (fr0 [.s (.int .u8 high_), .s (.int .u8 low_)]) []
  have hf : FOk (fr0 [.s (.int .u8 high_), .s (.int .u8 low_)]) [⟨0, [], .s (.int .u8 high_)⟩, ⟨1, [], .s (.int .u8 low_)⟩] := ⟨⟨fun _ => rfl, fun h => (h trivial).elim⟩, ⟨fun _ => rfl, fun h => (h trivial).elim⟩, trivial⟩
  generalize fr0 [.s (.int .u8 high_), .s (.int .u8 low_)] = f at hf ⊢
  unfold page_columns at h
  refine k_seq ?_
  refine k_reg ?_
  refine mops_end [0, 1, 4] hf (l' := [⟨0, [], .s (.int .u8 high_)⟩, ⟨1, [], .s (.int .u8 low_)⟩, ⟨4, [], .ptr 0 0 0⟩]) (L' := [⟨0, .mem, 1, [.s (.int .i64 0), .s (.int .i64 0), .s (.int .i64 0)]⟩]) (by kernel_rfl) fun f1 hf1 => ?_
  refine k_c ?_
  refine k_seq ?_
  refine k_reg ?_
  refine mops_seg [0, 1, 4, 8] 1 hf1 (l' := [⟨0, [], .s (.int .u8 high_)⟩, ⟨1, [], .s (.int .u8 low_)⟩, ⟨4, [], .ptr 0 0 0⟩, ⟨8, [], .s (.int .u8 high_)⟩]) (L' := [⟨0, .mem, 1, [.s (.int .i64 0), .s (.int .i64 0), .s (.int .i64 0)]⟩]) (by kernel_rfl) fun f2 hf2 => ?_
  obtain ⟨r_, hx_r_, h⟩ := Option.bind_eq_some_iff.1 h
  refine mops_call (dst := (some 9)) (m := 22) (args := [(.t 8)]) (aft := [0]) (by kernel_rfl) hf2 (av := [.s (.int .u8 high_)]) (by kernel_rfl) (v := .s (.int .i64 r_)) (L' := [⟨0, .mem, 1, [.s (.int .i64 0), .s (.int .i64 0), .s (.int .i64 0)]⟩]) (CalL.pure (page_column_ok high_ r_ hx_r_) rfl rfl (Nat.le_of_ble_eq_true (by kernel_rfl))) (fun _ => rfl) fun f3 hf3 => ?_
  refine mops_end [1, 4, 5, 6] hf3 (l' := [⟨1, [], .s (.int .u8 low_)⟩, ⟨4, [], .ptr 0 0 0⟩, ⟨5, [], .s (.int .i64 r_)⟩, ⟨6, [], .s (.bool (decide (11 < high_)))⟩]) (L' := [⟨0, .mem, 1, [.s (.int .i64 0), .s (.int .i64 0), .s (.int .i64 0)]⟩]) (by kernel_rfl) fun f4 hf4 => ?_
  refine k_c ?_
  refine k_seq ?_
  refine k_seq ?_
  refine k_reg ?_
  refine mops_seg [1, 4, 5, 6, 12] 1 hf4 (l' := [⟨1, [], .s (.int .u8 low_)⟩, ⟨4, [], .ptr 0 0 0⟩, ⟨5, [], .s (.int .i64 r_)⟩, ⟨6, [], .s (.bool (decide (11 < high_)))⟩, ⟨12, [], .s (.int .u8 low_)⟩]) (L' := [⟨0, .mem, 1, [.s (.int .i64 0), .s (.int .i64 0), .s (.int .i64 0)]⟩]) (by kernel_rfl) fun f5 hf5 => ?_
  obtain ⟨r_1, hx_r_1, h⟩ := Option.bind_eq_some_iff.1 h
  refine mops_call (dst := (some 13)) (m := 24) (args := [(.t 12)]) (aft := [0]) (by kernel_rfl) hf5 (av := [.s (.int .u8 low_)]) (by kernel_rfl) (v := .s (.int .i64 r_1)) (L' := [⟨0, .mem, 1, [.s (.int .i64 0), .s (.int .i64 0), .s (.int .i64 0)]⟩]) (CalL.pure (page_eight_ok low_ r_1 hx_r_1) rfl rfl (Nat.le_of_ble_eq_true (by kernel_rfl))) (fun _ => rfl) fun f6 hf6 => ?_
  refine mops_end [1, 4, 5, 6, 7] hf6 (l' := [⟨1, [], .s (.int .u8 low_)⟩, ⟨4, [], .ptr 0 0 0⟩, ⟨5, [], .s (.int .i64 r_)⟩, ⟨6, [], .s (.bool (decide (11 < high_)))⟩, ⟨7, [], .s (.int .i64 r_1)⟩]) (L' := [⟨0, .mem, 1, [.s (.int .i64 0), .s (.int .i64 0), .s (.int .i64 0)]⟩]) (by kernel_rfl) fun f7 hf7 => ?_
  refine k_c ?_
  refine k_seq ?_
  refine k_reg ?_
  refine mops_end [1, 4, 5, 6, 7, 15] hf7 (l' := [⟨1, [], .s (.int .u8 low_)⟩, ⟨4, [], .ptr 0 0 0⟩, ⟨5, [], .s (.int .i64 r_)⟩, ⟨6, [], .s (.bool (decide (11 < high_)))⟩, ⟨7, [], .s (.int .i64 r_1)⟩, ⟨15, [], .s (.bool (r_1 != 0))⟩]) (L' := [⟨0, .mem, 1, [.s (.int .i64 0), .s (.int .i64 0), .s (.int .i64 0)]⟩]) (by kernel_rfl) fun f8 hf8 => ?_
  refine k_c ?_
  refine k_cond hf8 (t := (r_1 != 0)) (by kernel_rfl) (fun hc1 => ?_) (fun hc1 => ?_)
  · have h := if_t h hc1
    refine k_seq ?_
    refine k_seq ?_
    refine k_reg ?_
    refine mops_end [1, 4, 5, 6, 7, 21] hf8 (l' := [⟨1, [], .s (.int .u8 low_)⟩, ⟨4, [], .ptr 0 0 0⟩, ⟨5, [], .s (.int .i64 r_)⟩, ⟨6, [], .s (.bool (decide (11 < high_)))⟩, ⟨7, [], .s (.int .i64 r_1)⟩, ⟨21, [], .s (.bool ((r_1 == 12) && (r_ == 1)))⟩]) (L' := [⟨0, .mem, 1, [.s (.int .i64 0), .s (.int .i64 0), .s (.int .i64 0)]⟩]) (by kernel_rfl) fun f9 hf9 => ?_
    refine k_c ?_
    refine k_cond hf9 (t := ((r_1 == 12) && (r_ == 1))) (by kernel_rfl) (fun hc2 => ?_) (fun hc2 => ?_)
    · have h := if_t h hc2
      refine k_seq ?_
      refine k_reg ?_
      refine mops_end [1, 4, 5, 6, 7] hf9 (l' := [⟨1, [], .s (.int .u8 low_)⟩, ⟨4, [], .ptr 0 0 0⟩, ⟨5, [], .s (.int .i64 r_)⟩, ⟨6, [], .s (.bool (decide (11 < high_)))⟩, ⟨7, [], .s (.int .i64 r_1)⟩]) (L' := [⟨0, .mem, 1, [.s (.int .i64 0), .s (.int .i64 0), .s (.int .i64 0)]⟩]) (by kernel_rfl) fun f10 hf10 => ?_
      refine k_c ?_
      refine k_ret ?_
      refine x_c nofun ?_
      refine x_c nofun ?_
      obtain rfl := Option.some.inj h
      exact k_fin (fin_ret (.inl rfl) hf10 (vs := [.agg [.s (.int .i64 0), .s (.int .i64 0), .s (.int .i64 0)]]) (by kernel_rfl) (SettL.pure (FzL.stat rfl)))
    · have h := if_f h hc2
      refine k_skip ?_
      refine k_c ?_
      refine k_seq ?_
      refine k_seq ?_
      refine k_reg ?_
      refine mops_end [1, 4, 5, 6, 7, 23] hf9 (l' := [⟨1, [], .s (.int .u8 low_)⟩, ⟨4, [], .ptr 0 0 0⟩, ⟨5, [], .s (.int .i64 r_)⟩, ⟨6, [], .s (.bool (decide (11 < high_)))⟩, ⟨7, [], .s (.int .i64 r_1)⟩, ⟨23, [], .s (.bool (decide (11 < high_)))⟩]) (L' := [⟨0, .mem, 1, [.s (.int .i64 0), .s (.int .i64 0), .s (.int .i64 0)]⟩]) (by kernel_rfl) fun f10 hf10 => ?_
      refine k_c ?_
      refine k_cond hf10 (t := (decide (11 < high_))) (by kernel_rfl) (fun hc3 => ?_) (fun hc3 => ?_)
      · have h := if_t h hc3
        refine k_seq ?_
        refine k_reg ?_
        refine mops_end [1, 4, 5, 6, 7] hf10 (l' := [⟨1, [], .s (.int .u8 low_)⟩, ⟨4, [], .ptr 0 0 0⟩, ⟨5, [], .s (.int .i64 r_)⟩, ⟨6, [], .s (.bool (decide (11 < high_)))⟩, ⟨7, [], .s (.int .i64 r_1)⟩]) (L' := [⟨0, .mem, 1, [.s (.int .i64 r_1), .s (.int .i64 r_), .s (.int .i64 9)]⟩]) (by kernel_rfl) fun f11 hf11 => ?_
        refine k_c ?_
        refine k_ret ?_
        refine x_c nofun ?_
        refine x_c nofun ?_
        obtain rfl := Option.some.inj h
        exact k_fin (fin_ret (.inl rfl) hf11 (vs := [.agg [.s (.int .i64 r_1), .s (.int .i64 r_), .s (.int .i64 9)]]) (by kernel_rfl) (SettL.pure (FzL.stat rfl)))
      · have h := if_f h hc3
        refine k_skip ?_
        refine k_c ?_
        refine k_seq ?_
        refine k_reg ?_
        refine mops_end [1, 4, 5, 6] hf10 (l' := [⟨1, [], .s (.int .u8 low_)⟩, ⟨4, [], .ptr 0 0 0⟩, ⟨5, [], .s (.int .i64 r_)⟩, ⟨6, [], .s (.bool (decide (11 < high_)))⟩]) (L' := [⟨0, .mem, 1, [.s (.int .i64 r_1), .s (.int .i64 r_), .s (.int .i64 8)]⟩]) (by kernel_rfl) fun f11 hf11 => ?_
        refine k_c ?_
        refine k_ret ?_
        refine x_c nofun ?_
        obtain rfl := Option.some.inj h
        exact k_fin (fin_ret (.inl rfl) hf11 (vs := [.agg [.s (.int .i64 r_1), .s (.int .i64 r_), .s (.int .i64 8)]]) (by kernel_rfl) (SettL.pure (FzL.stat rfl)))
  · have h := if_f h hc1
    refine k_skip ?_
    refine k_c ?_
    refine k_seq ?_
    refine k_seq ?_
    refine k_reg ?_
    refine mops_end [1, 4, 5, 30] hf8 (l' := [⟨1, [], .s (.int .u8 low_)⟩, ⟨4, [], .ptr 0 0 0⟩, ⟨5, [], .s (.int .i64 r_)⟩, ⟨30, [], .s (.bool (decide (11 < high_)))⟩]) (L' := [⟨0, .mem, 1, [.s (.int .i64 0), .s (.int .i64 0), .s (.int .i64 0)]⟩]) (by kernel_rfl) fun f9 hf9 => ?_
    refine k_c ?_
    refine k_cond hf9 (t := (decide (11 < high_))) (by kernel_rfl) (fun hc4 => ?_) (fun hc4 => ?_)
    · have h := if_t h hc4
      refine k_seq ?_
      refine k_seq ?_
      refine k_reg ?_
      refine mops_end [1, 4, 5, 31] hf9 (l' := [⟨1, [], .s (.int .u8 low_)⟩, ⟨4, [], .ptr 0 0 0⟩, ⟨5, [], .s (.int .i64 r_)⟩, ⟨31, [], .s (.int .u8 low_)⟩]) (L' := [⟨0, .mem, 1, [.s (.int .i64 0), .s (.int .i64 0), .s (.int .i64 0)]⟩]) (by kernel_rfl) fun f10 hf10 => ?_
      refine k_c ?_
      refine k_block ?_
      refine k_seq ?_
      refine k_reg ?_
      refine mops_end [1, 4, 5, 31, 32] hf10 (l' := [⟨1, [], .s (.int .u8 low_)⟩, ⟨4, [], .ptr 0 0 0⟩, ⟨5, [], .s (.int .i64 r_)⟩, ⟨31, [], .s (.int .u8 low_)⟩, ⟨32, [], .s (.bool (low_ == 3))⟩]) (L' := [⟨0, .mem, 1, [.s (.int .i64 0), .s (.int .i64 0), .s (.int .i64 0)]⟩]) (by kernel_rfl) fun f11 hf11 => ?_
      refine k_c ?_
      refine k_cond hf11 (t := (low_ == 3)) (by kernel_rfl) (fun hc5 => ?_) (fun hc5 => ?_)
      · have h := if_t h hc5
        refine k_seq ?_
        refine k_reg ?_
        refine mops_seg [1, 4, 5, 34] 1 hf11 (l' := [⟨1, [], .s (.int .u8 low_)⟩, ⟨4, [], .ptr 0 0 0⟩, ⟨5, [], .s (.int .i64 r_)⟩, ⟨34, [], .s (.int .i64 r_)⟩]) (L' := [⟨0, .mem, 1, [.s (.int .i64 0), .s (.int .i64 0), .s (.int .i64 0)]⟩]) (by kernel_rfl) fun f12 hf12 => ?_
        obtain ⟨r_2, hx_r_2, h⟩ := Option.bind_eq_some_iff.1 h
        refine mops_call (dst := (some 35)) (m := 21) (args := [(.k (.int .i64 26)), (.t 34), (.k (.int .i64 0))]) (aft := [0]) (by kernel_rfl) hf12 (av := [.s (.int .i64 26), .s (.int .i64 r_), .s (.int .i64 0)]) (by kernel_rfl) (v := .agg [.s (.int .i64 r_2.Op), .s (.int .i64 r_2.Mode), .s (.int .i64 r_2.Reg)]) (L' := [⟨0, .mem, 1, [.s (.int .i64 0), .s (.int .i64 0), .s (.int .i64 0)]⟩]) (CalL.pure (page_wide_ok (26) r_ (0) r_2 hx_r_2) rfl rfl (Nat.le_of_ble_eq_true (by kernel_rfl))) (fun _ => rfl) fun f13 hf13 => ?_
        refine mops_end [1, 4, 5] hf13 (l' := [⟨1, [], .s (.int .u8 low_)⟩, ⟨4, [], .ptr 0 0 0⟩, ⟨5, [], .s (.int .i64 r_)⟩]) (L' := [⟨0, .mem, 1, [.s (.int .i64 r_2.Op), .s (.int .i64 r_2.Mode), .s (.int .i64 r_2.Reg)]⟩]) (by kernel_rfl) fun f14 hf14 => ?_
        refine k_c ?_
        refine k_ret ?_
        refine x_br ?_
        refine x_c nofun ?_
        refine x_c nofun ?_
        obtain rfl := Option.some.inj h
        exact k_fin (fin_ret (.inl rfl) hf14 (vs := [.agg [.s (.int .i64 r_2.Op), .s (.int .i64 r_2.Mode), .s (.int .i64 r_2.Reg)]]) (by kernel_rfl) (SettL.pure (FzL.stat rfl)))
      · have h := if_f h hc5
        refine k_seq ?_
        refine k_reg ?_
        refine mops_end [1, 4, 5, 31, 36] hf11 (l' := [⟨1, [], .s (.int .u8 low_)⟩, ⟨4, [], .ptr 0 0 0⟩, ⟨5, [], .s (.int .i64 r_)⟩, ⟨31, [], .s (.int .u8 low_)⟩, ⟨36, [], .s (.bool (low_ == 12))⟩]) (L' := [⟨0, .mem, 1, [.s (.int .i64 0), .s (.int .i64 0), .s (.int .i64 0)]⟩]) (by kernel_rfl) fun f12 hf12 => ?_
        refine k_c ?_
        refine k_cond hf12 (t := (low_ == 12)) (by kernel_rfl) (fun hc6 => ?_) (fun hc6 => ?_)
        · have h := if_t h hc6
          refine k_seq ?_
          refine k_reg ?_
          refine mops_seg [1, 4, 5, 38] 1 hf12 (l' := [⟨1, [], .s (.int .u8 low_)⟩, ⟨4, [], .ptr 0 0 0⟩, ⟨5, [], .s (.int .i64 r_)⟩, ⟨38, [], .s (.int .i64 r_)⟩]) (L' := [⟨0, .mem, 1, [.s (.int .i64 0), .s (.int .i64 0), .s (.int .i64 0)]⟩]) (by kernel_rfl) fun f13 hf13 => ?_
          obtain ⟨r_3, hx_r_3, h⟩ := Option.bind_eq_some_iff.1 h
          refine mops_call (dst := (some 39)) (m := 21) (args := [(.k (.int .i64 24)), (.t 38), (.k (.int .i64 0))]) (aft := [0]) (by kernel_rfl) hf13 (av := [.s (.int .i64 24), .s (.int .i64 r_), .s (.int .i64 0)]) (by kernel_rfl) (v := .agg [.s (.int .i64 r_3.Op), .s (.int .i64 r_3.Mode), .s (.int .i64 r_3.Reg)]) (L' := [⟨0, .mem, 1, [.s (.int .i64 0), .s (.int .i64 0), .s (.int .i64 0)]⟩]) (CalL.pure (page_wide_ok (24) r_ (0) r_3 hx_r_3) rfl rfl (Nat.le_of_ble_eq_true (by kernel_rfl))) (fun _ => rfl) fun f14 hf14 => ?_
          refine mops_end [1, 4, 5] hf14 (l' := [⟨1, [], .s (.int .u8 low_)⟩, ⟨4, [], .ptr 0 0 0⟩, ⟨5, [], .s (.int .i64 r_)⟩]) (L' := [⟨0, .mem, 1, [.s (.int .i64 r_3.Op), .s (.int .i64 r_3.Mode), .s (.int .i64 r_3.Reg)]⟩]) (by kernel_rfl) fun f15 hf15 => ?_
          refine k_c ?_
          refine k_ret ?_
          refine x_br ?_
          refine x_c nofun ?_
          refine x_c nofun ?_
          obtain rfl := Option.some.inj h
          exact k_fin (fin_ret (.inl rfl) hf15 (vs := [.agg [.s (.int .i64 r_3.Op), .s (.int .i64 r_3.Mode), .s (.int .i64 r_3.Reg)]]) (by kernel_rfl) (SettL.pure (FzL.stat rfl)))
        · have h := if_f h hc6
          refine k_seq ?_
          refine k_reg ?_
          refine mops_end [1, 4, 5, 31, 40] hf12 (l' := [⟨1, [], .s (.int .u8 low_)⟩, ⟨4, [], .ptr 0 0 0⟩, ⟨5, [], .s (.int .i64 r_)⟩, ⟨31, [], .s (.int .u8 low_)⟩, ⟨40, [], .s (.bool (low_ == 13))⟩]) (L' := [⟨0, .mem, 1, [.s (.int .i64 0), .s (.int .i64 0), .s (.int .i64 0)]⟩]) (by kernel_rfl) fun f13 hf13 => ?_
          refine k_c ?_
          refine k_cond hf13 (t := (low_ == 13)) (by kernel_rfl) (fun hc7 => ?_) (fun hc7 => ?_)
          · have h := if_t h hc7
            refine k_seq ?_
            refine k_reg ?_
            refine mops_seg [1, 4, 5, 42] 1 hf13 (l' := [⟨1, [], .s (.int .u8 low_)⟩, ⟨4, [], .ptr 0 0 0⟩, ⟨5, [], .s (.int .i64 r_)⟩, ⟨42, [], .s (.int .i64 r_)⟩]) (L' := [⟨0, .mem, 1, [.s (.int .i64 0), .s (.int .i64 0), .s (.int .i64 0)]⟩]) (by kernel_rfl) fun f14 hf14 => ?_
            obtain ⟨r_4, hx_r_4, h⟩ := Option.bind_eq_some_iff.1 h
            refine mops_call (dst := (some 43)) (m := 21) (args := [(.k (.int .i64 25)), (.t 42), (.k (.int .i64 0))]) (aft := [0]) (by kernel_rfl) hf14 (av := [.s (.int .i64 25), .s (.int .i64 r_), .s (.int .i64 0)]) (by kernel_rfl) (v := .agg [.s (.int .i64 r_4.Op), .s (.int .i64 r_4.Mode), .s (.int .i64 r_4.Reg)]) (L' := [⟨0, .mem, 1, [.s (.int .i64 0), .s (.int .i64 0), .s (.int .i64 0)]⟩]) (CalL.pure (page_wide_ok (25) r_ (0) r_4 hx_r_4) rfl rfl (Nat.le_of_ble_eq_true (by kernel_rfl))) (fun _ => rfl) fun f15 hf15 => ?_
            refine mops_end [1, 4, 5] hf15 (l' := [⟨1, [], .s (.int .u8 low_)⟩, ⟨4, [], .ptr 0 0 0⟩, ⟨5, [], .s (.int .i64 r_)⟩]) (L' := [⟨0, .mem, 1, [.s (.int .i64 r_4.Op), .s (.int .i64 r_4.Mode), .s (.int .i64 r_4.Reg)]⟩]) (by kernel_rfl) fun f16 hf16 => ?_
            refine k_c ?_
            refine k_ret ?_
            refine x_br ?_
            refine x_c nofun ?_
            refine x_c nofun ?_
            obtain rfl := Option.some.inj h
            exact k_fin (fin_ret (.inl rfl) hf16 (vs := [.agg [.s (.int .i64 r_4.Op), .s (.int .i64 r_4.Mode), .s (.int .i64 r_4.Reg)]]) (by kernel_rfl) (SettL.pure (FzL.stat rfl)))
          · have h := if_f h hc7
            refine k_seq ?_
            refine k_reg ?_
            refine mops_end [1, 4, 5, 44] hf13 (l' := [⟨1, [], .s (.int .u8 low_)⟩, ⟨4, [], .ptr 0 0 0⟩, ⟨5, [], .s (.int .i64 r_)⟩, ⟨44, [], .s (.bool (low_ == 14))⟩]) (L' := [⟨0, .mem, 1, [.s (.int .i64 0), .s (.int .i64 0), .s (.int .i64 0)]⟩]) (by kernel_rfl) fun f14 hf14 => ?_
            refine k_c ?_
            refine k_cond hf14 (t := (low_ == 14)) (by kernel_rfl) (fun hc8 => ?_) (fun hc8 => ?_)
            · have h := if_t h hc8
              refine k_seq ?_
              refine k_reg ?_
              refine mops_seg [1, 4, 5, 46] 1 hf14 (l' := [⟨1, [], .s (.int .u8 low_)⟩, ⟨4, [], .ptr 0 0 0⟩, ⟨5, [], .s (.int .i64 r_)⟩, ⟨46, [], .s (.int .i64 r_)⟩]) (L' := [⟨0, .mem, 1, [.s (.int .i64 0), .s (.int .i64 0), .s (.int .i64 0)]⟩]) (by kernel_rfl) fun f15 hf15 => ?_
              obtain ⟨r_5, hx_r_5, h⟩ := Option.bind_eq_some_iff.1 h
              refine mops_call (dst := (some 47)) (m := 21) (args := [(.k (.int .i64 24)), (.t 46), (.k (.int .i64 3))]) (aft := [0]) (by kernel_rfl) hf15 (av := [.s (.int .i64 24), .s (.int .i64 r_), .s (.int .i64 3)]) (by kernel_rfl) (v := .agg [.s (.int .i64 r_5.Op), .s (.int .i64 r_5.Mode), .s (.int .i64 r_5.Reg)]) (L' := [⟨0, .mem, 1, [.s (.int .i64 0), .s (.int .i64 0), .s (.int .i64 0)]⟩]) (CalL.pure (page_wide_ok (24) r_ (3) r_5 hx_r_5) rfl rfl (Nat.le_of_ble_eq_true (by kernel_rfl))) (fun _ => rfl) fun f16 hf16 => ?_
              refine mops_end [1, 4, 5] hf16 (l' := [⟨1, [], .s (.int .u8 low_)⟩, ⟨4, [], .ptr 0 0 0⟩, ⟨5, [], .s (.int .i64 r_)⟩]) (L' := [⟨0, .mem, 1, [.s (.int .i64 r_5.Op), .s (.int .i64 r_5.Mode), .s (.int .i64 r_5.Reg)]⟩]) (by kernel_rfl) fun f17 hf17 => ?_
              refine k_c ?_
              refine k_ret ?_
              refine x_br ?_
              refine x_c nofun ?_
              refine x_c nofun ?_
              obtain rfl := Option.some.inj h
              exact k_fin (fin_ret (.inl rfl) hf17 (vs := [.agg [.s (.int .i64 r_5.Op), .s (.int .i64 r_5.Mode), .s (.int .i64 r_5.Reg)]]) (by kernel_rfl) (SettL.pure (FzL.stat rfl)))
            · have h := if_f h hc8
              refine k_skip ?_
              refine k_b ?_
              refine k_c ?_
              refine k_seq ?_
              refine k_reg ?_
              refine mops_seg [1, 4, 5, 48] 1 hf14 (l' := [⟨1, [], .s (.int .u8 low_)⟩, ⟨4, [], .ptr 0 0 0⟩, ⟨5, [], .s (.int .i64 r_)⟩, ⟨48, [], .s (.int .i64 r_)⟩]) (L' := [⟨0, .mem, 1, [.s (.int .i64 0), .s (.int .i64 0), .s (.int .i64 0)]⟩]) (by kernel_rfl) fun f15 hf15 => ?_
              obtain ⟨r_6, hx_r_6, h⟩ := Option.bind_eq_some_iff.1 h
              refine mops_call (dst := (some 49)) (m := 21) (args := [(.k (.int .i64 25)), (.t 48), (.k (.int .i64 3))]) (aft := [0]) (by kernel_rfl) hf15 (av := [.s (.int .i64 25), .s (.int .i64 r_), .s (.int .i64 3)]) (by kernel_rfl) (v := .agg [.s (.int .i64 r_6.Op), .s (.int .i64 r_6.Mode), .s (.int .i64 r_6.Reg)]) (L' := [⟨0, .mem, 1, [.s (.int .i64 0), .s (.int .i64 0), .s (.int .i64 0)]⟩]) (CalL.pure (page_wide_ok (25) r_ (3) r_6 hx_r_6) rfl rfl (Nat.le_of_ble_eq_true (by kernel_rfl))) (fun _ => rfl) fun f16 hf16 => ?_
              refine mops_end [1, 4, 5] hf16 (l' := [⟨1, [], .s (.int .u8 low_)⟩, ⟨4, [], .ptr 0 0 0⟩, ⟨5, [], .s (.int .i64 r_)⟩]) (L' := [⟨0, .mem, 1, [.s (.int .i64 r_6.Op), .s (.int .i64 r_6.Mode), .s (.int .i64 r_6.Reg)]⟩]) (by kernel_rfl) fun f17 hf17 => ?_
              refine k_c ?_
              refine k_ret ?_
              refine x_c nofun ?_
              obtain rfl := Option.some.inj h
              exact k_fin (fin_ret (.inl rfl) hf17 (vs := [.agg [.s (.int .i64 r_6.Op), .s (.int .i64 r_6.Mode), .s (.int .i64 r_6.Reg)]]) (by kernel_rfl) (SettL.pure (FzL.stat rfl)))
    · have h := if_f h hc4
      refine k_skip ?_
      refine k_c ?_
      refine k_seq ?_
      refine k_seq ?_
      refine k_reg ?_
      refine mops_end [4, 5, 50] hf9 (l' := [⟨4, [], .ptr 0 0 0⟩, ⟨5, [], .s (.int .i64 r_)⟩, ⟨50, [], .s (.int .u8 low_)⟩]) (L' := [⟨0, .mem, 1, [.s (.int .i64 0), .s (.int .i64 0), .s (.int .i64 0)]⟩]) (by kernel_rfl) fun f10 hf10 => ?_
      refine k_c ?_
      refine k_block ?_
      refine k_seq ?_
      refine k_reg ?_
      refine mops_end [4, 5, 50, 51] hf10 (l' := [⟨4, [], .ptr 0 0 0⟩, ⟨5, [], .s (.int .i64 r_)⟩, ⟨50, [], .s (.int .u8 low_)⟩, ⟨51, [], .s (.bool (low_ == 3))⟩]) (L' := [⟨0, .mem, 1, [.s (.int .i64 0), .s (.int .i64 0), .s (.int .i64 0)]⟩]) (by kernel_rfl) fun f11 hf11 => ?_
      refine k_c ?_
      refine k_cond hf11 (t := (low_ == 3)) (by kernel_rfl) (fun hc9 => ?_) (fun hc9 => ?_)
      · have h := if_t h hc9
        refine k_seq ?_
        refine k_reg ?_
        refine mops_seg [4, 5, 53] 1 hf11 (l' := [⟨4, [], .ptr 0 0 0⟩, ⟨5, [], .s (.int .i64 r_)⟩, ⟨53, [], .s (.int .i64 r_)⟩]) (L' := [⟨0, .mem, 1, [.s (.int .i64 0), .s (.int .i64 0), .s (.int .i64 0)]⟩]) (by kernel_rfl) fun f12 hf12 => ?_
        obtain ⟨r_7, hx_r_7, h⟩ := Option.bind_eq_some_iff.1 h
        refine mops_call (dst := (some 54)) (m := 21) (args := [(.k (.int .i64 27)), (.t 53), (.k (.int .i64 0))]) (aft := [0]) (by kernel_rfl) hf12 (av := [.s (.int .i64 27), .s (.int .i64 r_), .s (.int .i64 0)]) (by kernel_rfl) (v := .agg [.s (.int .i64 r_7.Op), .s (.int .i64 r_7.Mode), .s (.int .i64 r_7.Reg)]) (L' := [⟨0, .mem, 1, [.s (.int .i64 0), .s (.int .i64 0), .s (.int .i64 0)]⟩]) (CalL.pure (page_wide_ok (27) r_ (0) r_7 hx_r_7) rfl rfl (Nat.le_of_ble_eq_true (by kernel_rfl))) (fun _ => rfl) fun f13 hf13 => ?_
        refine mops_end [4, 5] hf13 (l' := [⟨4, [], .ptr 0 0 0⟩, ⟨5, [], .s (.int .i64 r_)⟩]) (L' := [⟨0, .mem, 1, [.s (.int .i64 r_7.Op), .s (.int .i64 r_7.Mode), .s (.int .i64 r_7.Reg)]⟩]) (by kernel_rfl) fun f14 hf14 => ?_
        refine k_c ?_
        refine k_ret ?_
        refine x_br ?_
        refine x_c nofun ?_
        obtain rfl := Option.some.inj h
        exact k_fin (fin_ret (.inl rfl) hf14 (vs := [.agg [.s (.int .i64 r_7.Op), .s (.int .i64 r_7.Mode), .s (.int .i64 r_7.Reg)]]) (by kernel_rfl) (SettL.pure (FzL.stat rfl)))
      · have h := if_f h hc9
        refine k_seq ?_
        refine k_reg ?_
        refine mops_end [4, 5, 50, 55] hf11 (l' := [⟨4, [], .ptr 0 0 0⟩, ⟨5, [], .s (.int .i64 r_)⟩, ⟨50, [], .s (.int .u8 low_)⟩, ⟨55, [], .s (.bool (low_ == 12))⟩]) (L' := [⟨0, .mem, 1, [.s (.int .i64 0), .s (.int .i64 0), .s (.int .i64 0)]⟩]) (by kernel_rfl) fun f12 hf12 => ?_
        refine k_c ?_
        refine k_cond hf12 (t := (low_ == 12)) (by kernel_rfl) (fun hc10 => ?_) (fun hc10 => ?_)
        · have h := if_t h hc10
          refine k_seq ?_
          refine k_reg ?_
          refine mops_seg [4, 5, 57] 1 hf12 (l' := [⟨4, [], .ptr 0 0 0⟩, ⟨5, [], .s (.int .i64 r_)⟩, ⟨57, [], .s (.int .i64 r_)⟩]) (L' := [⟨0, .mem, 1, [.s (.int .i64 0), .s (.int .i64 0), .s (.int .i64 0)]⟩]) (by kernel_rfl) fun f13 hf13 => ?_
          obtain ⟨r_8, hx_r_8, h⟩ := Option.bind_eq_some_iff.1 h
          refine mops_call (dst := (some 58)) (m := 21) (args := [(.k (.int .i64 28)), (.t 57), (.k (.int .i64 1))]) (aft := [0]) (by kernel_rfl) hf13 (av := [.s (.int .i64 28), .s (.int .i64 r_), .s (.int .i64 1)]) (by kernel_rfl) (v := .agg [.s (.int .i64 r_8.Op), .s (.int .i64 r_8.Mode), .s (.int .i64 r_8.Reg)]) (L' := [⟨0, .mem, 1, [.s (.int .i64 0), .s (.int .i64 0), .s (.int .i64 0)]⟩]) (CalL.pure (page_wide_ok (28) r_ (1) r_8 hx_r_8) rfl rfl (Nat.le_of_ble_eq_true (by kernel_rfl))) (fun _ => rfl) fun f14 hf14 => ?_
          refine mops_end [4, 5] hf14 (l' := [⟨4, [], .ptr 0 0 0⟩, ⟨5, [], .s (.int .i64 r_)⟩]) (L' := [⟨0, .mem, 1, [.s (.int .i64 r_8.Op), .s (.int .i64 r_8.Mode), .s (.int .i64 r_8.Reg)]⟩]) (by kernel_rfl) fun f15 hf15 => ?_
          refine k_c ?_
          refine k_ret ?_
          refine x_br ?_
          refine x_c nofun ?_
          obtain rfl := Option.some.inj h
          exact k_fin (fin_ret (.inl rfl) hf15 (vs := [.agg [.s (.int .i64 r_8.Op), .s (.int .i64 r_8.Mode), .s (.int .i64 r_8.Reg)]]) (by kernel_rfl) (SettL.pure (FzL.stat rfl)))
        · have h := if_f h hc10
          refine k_seq ?_
          refine k_reg ?_
          refine mops_end [4, 5, 50, 59] hf12 (l' := [⟨4, [], .ptr 0 0 0⟩, ⟨5, [], .s (.int .i64 r_)⟩, ⟨50, [], .s (.int .u8 low_)⟩, ⟨59, [], .s (.bool (low_ == 14))⟩]) (L' := [⟨0, .mem, 1, [.s (.int .i64 0), .s (.int .i64 0), .s (.int .i64 0)]⟩]) (by kernel_rfl) fun f13 hf13 => ?_
          refine k_c ?_
          refine k_cond hf13 (t := (low_ == 14)) (by kernel_rfl) (fun hc11 => ?_) (fun hc11 => ?_)
          · have h := if_t h hc11
            refine k_seq ?_
            refine k_reg ?_
            refine mops_seg [4, 5, 61] 1 hf13 (l' := [⟨4, [], .ptr 0 0 0⟩, ⟨5, [], .s (.int .i64 r_)⟩, ⟨61, [], .s (.int .i64 r_)⟩]) (L' := [⟨0, .mem, 1, [.s (.int .i64 0), .s (.int .i64 0), .s (.int .i64 0)]⟩]) (by kernel_rfl) fun f14 hf14 => ?_
            obtain ⟨r_9, hx_r_9, h⟩ := Option.bind_eq_some_iff.1 h
            refine mops_call (dst := (some 62)) (m := 21) (args := [(.k (.int .i64 24)), (.t 61), (.k (.int .i64 1))]) (aft := [0]) (by kernel_rfl) hf14 (av := [.s (.int .i64 24), .s (.int .i64 r_), .s (.int .i64 1)]) (by kernel_rfl) (v := .agg [.s (.int .i64 r_9.Op), .s (.int .i64 r_9.Mode), .s (.int .i64 r_9.Reg)]) (L' := [⟨0, .mem, 1, [.s (.int .i64 0), .s (.int .i64 0), .s (.int .i64 0)]⟩]) (CalL.pure (page_wide_ok (24) r_ (1) r_9 hx_r_9) rfl rfl (Nat.le_of_ble_eq_true (by kernel_rfl))) (fun _ => rfl) fun f15 hf15 => ?_
            refine mops_end [4, 5] hf15 (l' := [⟨4, [], .ptr 0 0 0⟩, ⟨5, [], .s (.int .i64 r_)⟩]) (L' := [⟨0, .mem, 1, [.s (.int .i64 r_9.Op), .s (.int .i64 r_9.Mode), .s (.int .i64 r_9.Reg)]⟩]) (by kernel_rfl) fun f16 hf16 => ?_
            refine k_c ?_
            refine k_ret ?_
            refine x_br ?_
            refine x_c nofun ?_
            obtain rfl := Option.some.inj h
            exact k_fin (fin_ret (.inl rfl) hf16 (vs := [.agg [.s (.int .i64 r_9.Op), .s (.int .i64 r_9.Mode), .s (.int .i64 r_9.Reg)]]) (by kernel_rfl) (SettL.pure (FzL.stat rfl)))
          · have h := if_f h hc11
            refine k_seq ?_
            refine k_reg ?_
            refine mops_end [4, 5, 63] hf13 (l' := [⟨4, [], .ptr 0 0 0⟩, ⟨5, [], .s (.int .i64 r_)⟩, ⟨63, [], .s (.bool (low_ == 15))⟩]) (L' := [⟨0, .mem, 1, [.s (.int .i64 0), .s (.int .i64 0), .s (.int .i64 0)]⟩]) (by kernel_rfl) fun f14 hf14 => ?_
            refine k_c ?_
            refine k_cond hf14 (t := (low_ == 15)) (by kernel_rfl) (fun hc12 => ?_) (fun hc12 => ?_)
            · have h := if_t h hc12
              refine k_seq ?_
              refine k_reg ?_
              refine mops_seg [4, 5, 65] 1 hf14 (l' := [⟨4, [], .ptr 0 0 0⟩, ⟨5, [], .s (.int .i64 r_)⟩, ⟨65, [], .s (.int .i64 r_)⟩]) (L' := [⟨0, .mem, 1, [.s (.int .i64 0), .s (.int .i64 0), .s (.int .i64 0)]⟩]) (by kernel_rfl) fun f15 hf15 => ?_
              obtain ⟨r_10, hx_r_10, h⟩ := Option.bind_eq_some_iff.1 h
              refine mops_call (dst := (some 66)) (m := 21) (args := [(.k (.int .i64 25)), (.t 65), (.k (.int .i64 1))]) (aft := [0]) (by kernel_rfl) hf15 (av := [.s (.int .i64 25), .s (.int .i64 r_), .s (.int .i64 1)]) (by kernel_rfl) (v := .agg [.s (.int .i64 r_10.Op), .s (.int .i64 r_10.Mode), .s (.int .i64 r_10.Reg)]) (L' := [⟨0, .mem, 1, [.s (.int .i64 0), .s (.int .i64 0), .s (.int .i64 0)]⟩]) (CalL.pure (page_wide_ok (25) r_ (1) r_10 hx_r_10) rfl rfl (Nat.le_of_ble_eq_true (by kernel_rfl))) (fun _ => rfl) fun f16 hf16 => ?_
              refine mops_end [4, 5] hf16 (l' := [⟨4, [], .ptr 0 0 0⟩, ⟨5, [], .s (.int .i64 r_)⟩]) (L' := [⟨0, .mem, 1, [.s (.int .i64 r_10.Op), .s (.int .i64 r_10.Mode), .s (.int .i64 r_10.Reg)]⟩]) (by kernel_rfl) fun f17 hf17 => ?_
              refine k_c ?_
              refine k_ret ?_
              refine x_br ?_
              refine x_c nofun ?_
              obtain rfl := Option.some.inj h
              exact k_fin (fin_ret (.inl rfl) hf17 (vs := [.agg [.s (.int .i64 r_10.Op), .s (.int .i64 r_10.Mode), .s (.int .i64 r_10.Reg)]]) (by kernel_rfl) (SettL.pure (FzL.stat rfl)))
            · have h := if_f h hc12
              refine k_skip ?_
              refine k_b ?_
              refine k_c ?_
              refine k_seq ?_
              refine k_seq ?_
              refine k_reg ?_
              refine mops_end [4, 5, 68] hf14 (l' := [⟨4, [], .ptr 0 0 0⟩, ⟨5, [], .s (.int .i64 r_)⟩, ⟨68, [], .s (.bool (r_ == 1))⟩]) (L' := [⟨0, .mem, 1, [.s (.int .i64 0), .s (.int .i64 0), .s (.int .i64 0)]⟩]) (by kernel_rfl) fun f15 hf15 => ?_
              refine k_c ?_
              refine k_cond hf15 (t := (r_ == 1)) (by kernel_rfl) (fun hc13 => ?_) (fun hc13 => ?_)
              · have h := if_t h hc13
                refine k_seq ?_
                refine k_reg ?_
                refine mops_end [4, 5] hf15 (l' := [⟨4, [], .ptr 0 0 0⟩, ⟨5, [], .s (.int .i64 r_)⟩]) (L' := [⟨0, .mem, 1, [.s (.int .i64 37), .s (.int .i64 6), .s (.int .i64 0)]⟩]) (by kernel_rfl) fun f16 hf16 => ?_
                refine k_c ?_
                refine k_ret ?_
                refine x_c nofun ?_
                obtain rfl := Option.some.inj h
                exact k_fin (fin_ret (.inl rfl) hf16 (vs := [.agg [.s (.int .i64 37), .s (.int .i64 6), .s (.int .i64 0)]]) (by kernel_rfl) (SettL.pure (FzL.stat rfl)))
              · have h := if_f h hc13
                refine k_skip ?_
                refine k_c ?_
                refine k_seq ?_
                refine k_reg ?_
                refine mops_end [4] hf15 (l' := [⟨4, [], .ptr 0 0 0⟩]) (L' := [⟨0, .mem, 1, [.s (.int .i64 33), .s (.int .i64 r_), .s (.int .i64 0)]⟩]) (by kernel_rfl) fun f16 hf16 => ?_
                refine k_c ?_
                refine k_ret ?_
                obtain rfl := Option.some.inj h
                exact k_fin (fin_ret (.inl rfl) hf16 (vs := [.agg [.s (.int .i64 33), .s (.int .i64 r_), .s (.int .i64 0)]]) (by kernel_rfl) (SettL.pure (FzL.stat rfl)))
end Go.Proofs.YtjaadpgmiejidaaK
