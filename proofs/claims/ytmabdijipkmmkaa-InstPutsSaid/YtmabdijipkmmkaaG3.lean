/- The Go functions come to the functions over typed data. Printed by a program of this work. -/
import Derived.Test.YtmabdijipkmmkaaF
import Derived.Test.YtmabdijipkmmkaaProg
import Derived.Test.YtmabdijipkmmkaaG0
import Derived.Test.YtmabdijipkmmkaaG1
namespace Go.Proofs.YtmabdijipkmmkaaK
set_option linter.unusedVariables false
set_option linter.unusedSimpArgs false
set_option maxHeartbeats 4000000
open Go.RowKit
attribute [local irreducible] dwv mops lops lqops lwops kont iter run runK rk okK ex E1 vals val chain chB sel resF
def page_memory_i0 : List Op1 := [(oE 4 (.zero [(.int .i64 0), (.int .i64 0), (.int .i64 0)]) [])]
def page_memory_i1 : List Op1 := [(oM 6 (.t 0) []), (oE 7 (.bin .eql (.t 6) (.k (.int .u8 14))) [0])]
def page_memory_i2 : List Op1 := [(oM 8 (.t 1) []), (oE 9 (.build [(.int .i64 0), (.int .i64 0), (.int .i64 0)] [(0, (1, (.k (.int .i64 32)))), (1, (1, (.t 8)))]) [0]), (oN (.store 3 (.t 4) (.t 9)) [1, 0, 1])]
def page_memory_i3 : IR := .ret
def page_memory_i4 : IR := (.cond (.t 7) (.seq (.reg false page_memory_i2) page_memory_i3) .skip)
def page_memory_i5 : List Op1 := [(oM 10 (.t 0) []), (oC 11 47 [(.t 10)] [0]), (oM 5 (.t 11) [1, 1, 0, 1])]
def page_memory_i6 : List Op1 := [(oM 12 (.t 5) []), (oE 13 (.bin .neq (.t 12) (.k (.int .i64 0))) [0])]
def page_memory_i7 : List Op1 := [(oM 14 (.t 5) []), (oM 15 (.t 1) []), (oE 16 (.build [(.int .i64 0), (.int .i64 0), (.int .i64 0)] [(0, (1, (.t 14))), (1, (1, (.t 15)))]) [0, 1]), (oN (.store 3 (.t 4) (.t 16)) [2, 0, 1, 2])]
def page_memory_i8 : IR := .ret
def page_memory_i9 : IR := (.cond (.t 13) (.seq (.reg false page_memory_i7) page_memory_i8) .skip)
def page_memory_i10 : IR := (.seq (.reg false page_memory_i6) page_memory_i9)
def page_memory_i11 : List Op1 := [(oE 17 (.build [(.int .i64 0), (.int .i64 0), (.int .i64 0)] []) []), (oN (.store 3 (.t 4) (.t 17)) [0, 0])]
def page_memory_i12 : IR := .ret
def page_memory_i13 : IR := (.seq (.reg false page_memory_i11) page_memory_i12)
def page_memory_i14 : IR := (.seq (.seq (.reg false page_memory_i5) page_memory_i10) page_memory_i13)
def page_memory_i15 : IR := (.seq (.seq (.reg false page_memory_i1) page_memory_i4) page_memory_i14)
def page_memory_ir : IR := (.seq (.reg false page_memory_i0) page_memory_i15)
theorem page_memory_cfn : cFn Try.prog 35 = some (page_memory_ir, [(.c 4 true 3)], 18) := by kernel_rfl
def page_memory_V (r : (api_Entry)) : V := .agg [.s (.int .i64 r.Op), .s (.int .i64 r.Mode), .s (.int .i64 r.Reg)]
def page_memory_C (r : (api_Entry)) : X → Fr → Hp → Prop := FinL [(.c 4 true 3)] [] (page_memory_V r) []
theorem page_memory_ok (low_ : Int) (mode_ : Int) (r : (api_Entry)) (h : page_memory low_ mode_ = some r) : Pure Try.prog 35 [.s (.int .u8 low_), .s (.int .i64 mode_)] (page_memory_V r) := by
  refine ConL.of page_memory_cfn (Nat.le_of_ble_eq_true (by kernel_rfl)) (Nat.le_of_ble_eq_true (by kernel_rfl)) ?_
  refine k_start ?_
  show dwv Try.prog [] page_memory_ir (kont Try.prog [] (page_memory_C r) []) (fr0 [.s (.int .u8 low_), .s (.int .i64 mode_)]) []
  have hf : FOk (fr0 [.s (.int .u8 low_), .s (.int .i64 mode_)]) [⟨0, [], .s (.int .u8 low_)⟩, ⟨1, [], .s (.int .i64 mode_)⟩] := ⟨⟨fun _ => rfl, fun h => (h trivial).elim⟩, ⟨fun _ => rfl, fun h => (h trivial).elim⟩, trivial⟩
  generalize fr0 [.s (.int .u8 low_), .s (.int .i64 mode_)] = f at hf ⊢
  unfold page_memory at h
  refine k_seq ?_
  refine k_reg ?_
  refine mops_en hf (by kernel_rfl) fun f1 hf1 => ?_
  refine k_c ?_
  refine k_seq ?_
  refine k_seq ?_
  refine k_reg ?_
  refine mops_en hf1 (by kernel_rfl) fun f2 hf2 => ?_
  refine k_c ?_
  refine k_cond hf2 (t := (low_ == 14)) (by kernel_rfl) (fun hc1 => ?_) (fun hc1 => ?_)
  · have h := if_t h hc1
    refine k_seq ?_
    refine k_reg ?_
    refine mops_en hf2 (by kernel_rfl) fun f3 hf3 => ?_
    refine k_c ?_
    refine k_ret ?_
    refine x_c nofun ?_
    obtain rfl := Option.some.inj h
    exact k_fin (fin_ret (.inl rfl) hf3 (vs := [.agg [.s (.int .i64 32), .s (.int .i64 mode_), .s (.int .i64 0)]]) (by kernel_rfl) (SettL.pure (FzL.stat rfl)))
  · have h := if_f h hc1
    refine k_skip ?_
    refine k_c ?_
    refine k_seq ?_
    refine k_seq ?_
    refine k_reg ?_
    refine mops_sg 1 hf2 (by kernel_rfl) fun f3 hf3 => ?_
    obtain ⟨r_, hx_r_, h⟩ := Option.bind_eq_some_iff.1 h
    refine mops_call rfl hf3 (av := [.s (.int .u8 low_)]) (by kernel_rfl) (v := .s (.int .i64 r_)) (CalL.pure (page_change_ok low_ r_ hx_r_) rfl rfl (Nat.le_of_ble_eq_true (by kernel_rfl))) (fun _ => rfl) fun f4 hf4 => ?_
    refine mops_en hf4 (by kernel_rfl) fun f5 hf5 => ?_
    refine k_c ?_
    refine k_seq ?_
    refine k_reg ?_
    refine mops_en hf5 (by kernel_rfl) fun f6 hf6 => ?_
    refine k_c ?_
    refine k_cond hf6 (t := (r_ != 0)) (by kernel_rfl) (fun hc2 => ?_) (fun hc2 => ?_)
    · have h := if_t h hc2
      refine k_seq ?_
      refine k_reg ?_
      refine mops_en hf6 (by kernel_rfl) fun f7 hf7 => ?_
      refine k_c ?_
      refine k_ret ?_
      refine x_c nofun ?_
      obtain rfl := Option.some.inj h
      exact k_fin (fin_ret (.inl rfl) hf7 (vs := [.agg [.s (.int .i64 r_), .s (.int .i64 mode_), .s (.int .i64 0)]]) (by kernel_rfl) (SettL.pure (FzL.stat rfl)))
    · have h := if_f h hc2
      refine k_skip ?_
      refine k_c ?_
      refine k_seq ?_
      refine k_reg ?_
      refine mops_en hf6 (by kernel_rfl) fun f7 hf7 => ?_
      refine k_c ?_
      refine k_ret ?_
      obtain rfl := Option.some.inj h
      exact k_fin (fin_ret (.inl rfl) hf7 (vs := [.agg [.s (.int .i64 0), .s (.int .i64 0), .s (.int .i64 0)]]) (by kernel_rfl) (SettL.pure (FzL.stat rfl)))
def page_inside_i0 : List Op1 := [(oE 4 (.zero [(.int .i64 0), (.int .i64 0), (.int .i64 0)]) [])]
def page_inside_i1 : List Op1 := [(oM 6 (.t 0) []), (oC 7 47 [(.t 6)] [0]), (oM 5 (.t 7) [1, 1, 0, 1])]
def page_inside_i2 : List Op1 := [(oM 8 (.t 5) []), (oE 9 (.bin .neq (.t 8) (.k (.int .i64 0))) [0])]
def page_inside_i3 : List Op1 := [(oM 10 (.t 5) []), (oM 11 (.t 1) []), (oE 12 (.build [(.int .i64 0), (.int .i64 0), (.int .i64 0)] [(0, (1, (.t 10))), (2, (1, (.t 11)))]) [0, 1]), (oN (.store 3 (.t 4) (.t 12)) [2, 0, 1, 2])]
def page_inside_i4 : IR := .ret
def page_inside_i5 : IR := (.cond (.t 9) (.seq (.reg false page_inside_i3) page_inside_i4) .skip)
def page_inside_i6 : IR := (.seq (.reg false page_inside_i2) page_inside_i5)
def page_inside_i7 : List Op1 := [(oE 13 (.build [(.int .i64 0), (.int .i64 0), (.int .i64 0)] []) []), (oN (.store 3 (.t 4) (.t 13)) [0, 0])]
def page_inside_i8 : IR := .ret
def page_inside_i9 : IR := (.seq (.reg false page_inside_i7) page_inside_i8)
def page_inside_i10 : IR := (.seq (.seq (.reg false page_inside_i1) page_inside_i6) page_inside_i9)
def page_inside_ir : IR := (.seq (.reg false page_inside_i0) page_inside_i10)
theorem page_inside_cfn : cFn Try.prog 38 = some (page_inside_ir, [(.c 4 true 3)], 14) := by kernel_rfl
def page_inside_V (r : (api_Entry)) : V := .agg [.s (.int .i64 r.Op), .s (.int .i64 r.Mode), .s (.int .i64 r.Reg)]
def page_inside_C (r : (api_Entry)) : X → Fr → Hp → Prop := FinL [(.c 4 true 3)] [] (page_inside_V r) []
theorem page_inside_ok (low_ : Int) (reg_ : Int) (r : (api_Entry)) (h : page_inside low_ reg_ = some r) : Pure Try.prog 38 [.s (.int .u8 low_), .s (.int .i64 reg_)] (page_inside_V r) := by
  refine ConL.of page_inside_cfn (Nat.le_of_ble_eq_true (by kernel_rfl)) (Nat.le_of_ble_eq_true (by kernel_rfl)) ?_
  refine k_start ?_
  show dwv Try.prog [] page_inside_ir (kont Try.prog [] (page_inside_C r) []) (fr0 [.s (.int .u8 low_), .s (.int .i64 reg_)]) []
  have hf : FOk (fr0 [.s (.int .u8 low_), .s (.int .i64 reg_)]) [⟨0, [], .s (.int .u8 low_)⟩, ⟨1, [], .s (.int .i64 reg_)⟩] := ⟨⟨fun _ => rfl, fun h => (h trivial).elim⟩, ⟨fun _ => rfl, fun h => (h trivial).elim⟩, trivial⟩
  generalize fr0 [.s (.int .u8 low_), .s (.int .i64 reg_)] = f at hf ⊢
  unfold page_inside at h
  refine k_seq ?_
  refine k_reg ?_
  refine mops_en hf (by kernel_rfl) fun f1 hf1 => ?_
  refine k_c ?_
  refine k_seq ?_
  refine k_seq ?_
  refine k_reg ?_
  refine mops_sg 1 hf1 (by kernel_rfl) fun f2 hf2 => ?_
  obtain ⟨r_, hx_r_, h⟩ := Option.bind_eq_some_iff.1 h
  refine mops_call rfl hf2 (av := [.s (.int .u8 low_)]) (by kernel_rfl) (v := .s (.int .i64 r_)) (CalL.pure (page_change_ok low_ r_ hx_r_) rfl rfl (Nat.le_of_ble_eq_true (by kernel_rfl))) (fun _ => rfl) fun f3 hf3 => ?_
  refine mops_en hf3 (by kernel_rfl) fun f4 hf4 => ?_
  refine k_c ?_
  refine k_seq ?_
  refine k_reg ?_
  refine mops_en hf4 (by kernel_rfl) fun f5 hf5 => ?_
  refine k_c ?_
  refine k_cond hf5 (t := (r_ != 0)) (by kernel_rfl) (fun hc1 => ?_) (fun hc1 => ?_)
  · have h := if_t h hc1
    refine k_seq ?_
    refine k_reg ?_
    refine mops_en hf5 (by kernel_rfl) fun f6 hf6 => ?_
    refine k_c ?_
    refine k_ret ?_
    refine x_c nofun ?_
    obtain rfl := Option.some.inj h
    exact k_fin (fin_ret (.inl rfl) hf6 (vs := [.agg [.s (.int .i64 r_), .s (.int .i64 0), .s (.int .i64 reg_)]]) (by kernel_rfl) (SettL.pure (FzL.stat rfl)))
  · have h := if_f h hc1
    refine k_skip ?_
    refine k_c ?_
    refine k_seq ?_
    refine k_reg ?_
    refine mops_en hf5 (by kernel_rfl) fun f6 hf6 => ?_
    refine k_c ?_
    refine k_ret ?_
    obtain rfl := Option.some.inj h
    exact k_fin (fin_ret (.inl rfl) hf6 (vs := [.agg [.s (.int .i64 0), .s (.int .i64 0), .s (.int .i64 0)]]) (by kernel_rfl) (SettL.pure (FzL.stat rfl)))
def page_columns_i0 : List Op1 := [(oE 4 (.zero [(.int .i64 0), (.int .i64 0), (.int .i64 0)]) [])]
def page_columns_i1 : List Op1 := [(oM 8 (.t 0) []), (oC 9 41 [(.t 8)] [0]), (oM 10 (.t 0) []), (oE 11 (.bin .gtr (.t 10) (.k (.int .u8 11))) [2]), (oM 5 (.t 9) [1, 1, 0, 1]), (oM 6 (.t 11) [3, 4, 0, 1, 2, 3, 4])]
def page_columns_i2 : List Op1 := [(oM 12 (.t 1) []), (oC 13 48 [(.t 12)] [0]), (oM 7 (.t 13) [1, 1, 0, 1])]
def page_columns_i3 : List Op1 := [(oM 14 (.t 7) []), (oE 15 (.bin .neq (.t 14) (.k (.int .i64 0))) [0])]
def page_columns_i4 : List Op1 := [(oM 16 (.t 7) []), (oE 17 (.bin .eql (.t 16) (.k (.int .i64 12))) [0]), (oM 18 (.t 17) [1]), (oG 19 (.mv (.t 5)) 18 true [2]), (oG 20 (.bin .eql (.t 19) (.k (.int .i64 1))) 18 true [3, 2]), (oE 21 (.pick (.t 18) (.t 20) (.k (.bool false))) [2, 4])]
def page_columns_i5 : List Op1 := [(oE 22 (.build [(.int .i64 0), (.int .i64 0), (.int .i64 0)] []) []), (oN (.store 3 (.t 4) (.t 22)) [0, 0])]
def page_columns_i6 : IR := .ret
def page_columns_i7 : IR := (.cond (.t 21) (.seq (.reg false page_columns_i5) page_columns_i6) .skip)
def page_columns_i8 : List Op1 := [(oM 23 (.t 6) [])]
def page_columns_i9 : List Op1 := [(oM 24 (.t 7) []), (oM 25 (.t 5) []), (oE 26 (.build [(.int .i64 0), (.int .i64 0), (.int .i64 0)] [(0, (1, (.t 24))), (1, (1, (.t 25))), (2, (1, (.k (.int .i64 9))))]) [0, 1]), (oN (.store 3 (.t 4) (.t 26)) [2, 0, 1, 2])]
def page_columns_i10 : IR := .ret
def page_columns_i11 : IR := (.cond (.t 23) (.seq (.reg false page_columns_i9) page_columns_i10) .skip)
def page_columns_i12 : List Op1 := [(oM 27 (.t 7) []), (oM 28 (.t 5) []), (oE 29 (.build [(.int .i64 0), (.int .i64 0), (.int .i64 0)] [(0, (1, (.t 27))), (1, (1, (.t 28))), (2, (1, (.k (.int .i64 8))))]) [0, 1]), (oN (.store 3 (.t 4) (.t 29)) [2, 0, 1, 2])]
def page_columns_i13 : IR := .ret
def page_columns_i14 : IR := (.seq (.reg false page_columns_i12) page_columns_i13)
def page_columns_i15 : IR := (.seq (.seq (.reg false page_columns_i8) page_columns_i11) page_columns_i14)
def page_columns_i16 : IR := (.cond (.t 15) (.seq (.seq (.reg false page_columns_i4) page_columns_i7) page_columns_i15) .skip)
def page_columns_i17 : IR := (.seq (.reg false page_columns_i3) page_columns_i16)
def page_columns_i18 : List Op1 := [(oM 30 (.t 6) [])]
def page_columns_i19 : List Op1 := [(oM 31 (.t 1) [])]
def page_columns_i20 : List Op1 := [(oE 33 (.bin .eql (.t 31) (.k (.int .u8 3))) []), (oM 32 (.t 33) [0])]
def page_columns_i21 : List Op1 := [(oM 34 (.t 5) []), (oC 35 40 [(.k (.int .i64 26)), (.t 34), (.k (.int .i64 0))] [0]), (oN (.store 3 (.t 4) (.t 35)) [1, 1, 0, 1])]
def page_columns_i22 : IR := .ret
def page_columns_i23 : List Op1 := [(oE 37 (.bin .eql (.t 31) (.k (.int .u8 12))) []), (oM 36 (.t 37) [0])]
def page_columns_i24 : List Op1 := [(oM 38 (.t 5) []), (oC 39 40 [(.k (.int .i64 24)), (.t 38), (.k (.int .i64 0))] [0]), (oN (.store 3 (.t 4) (.t 39)) [1, 1, 0, 1])]
def page_columns_i25 : IR := .ret
def page_columns_i26 : List Op1 := [(oE 41 (.bin .eql (.t 31) (.k (.int .u8 13))) []), (oM 40 (.t 41) [0])]
def page_columns_i27 : List Op1 := [(oM 42 (.t 5) []), (oC 43 40 [(.k (.int .i64 25)), (.t 42), (.k (.int .i64 0))] [0]), (oN (.store 3 (.t 4) (.t 43)) [1, 1, 0, 1])]
def page_columns_i28 : IR := .ret
def page_columns_i29 : List Op1 := [(oE 45 (.bin .eql (.t 31) (.k (.int .u8 14))) []), (oM 44 (.t 45) [0])]
def page_columns_i30 : List Op1 := [(oM 46 (.t 5) []), (oC 47 40 [(.k (.int .i64 24)), (.t 46), (.k (.int .i64 3))] [0]), (oN (.store 3 (.t 4) (.t 47)) [1, 1, 0, 1])]
def page_columns_i31 : IR := .ret
def page_columns_i32 : IR := (.cond (.t 44) (.seq (.reg false page_columns_i30) page_columns_i31) .skip)
def page_columns_i33 : IR := (.cond (.t 40) (.seq (.reg false page_columns_i27) page_columns_i28) (.seq (.reg false page_columns_i29) page_columns_i32))
def page_columns_i34 : IR := (.cond (.t 36) (.seq (.reg false page_columns_i24) page_columns_i25) (.seq (.reg false page_columns_i26) page_columns_i33))
def page_columns_i35 : IR := (.cond (.t 32) (.seq (.reg false page_columns_i21) page_columns_i22) (.seq (.reg false page_columns_i23) page_columns_i34))
def page_columns_i36 : IR := (.block 0 (.seq (.reg false page_columns_i20) page_columns_i35))
def page_columns_i37 : List Op1 := [(oM 48 (.t 5) []), (oC 49 40 [(.k (.int .i64 25)), (.t 48), (.k (.int .i64 3))] [0]), (oN (.store 3 (.t 4) (.t 49)) [1, 1, 0, 1])]
def page_columns_i38 : IR := .ret
def page_columns_i39 : IR := (.seq (.reg false page_columns_i37) page_columns_i38)
def page_columns_i40 : IR := (.cond (.t 30) (.seq (.seq (.reg false page_columns_i19) page_columns_i36) page_columns_i39) .skip)
def page_columns_i41 : List Op1 := [(oM 50 (.t 1) [])]
def page_columns_i42 : List Op1 := [(oE 52 (.bin .eql (.t 50) (.k (.int .u8 3))) []), (oM 51 (.t 52) [0])]
def page_columns_i43 : List Op1 := [(oM 53 (.t 5) []), (oC 54 40 [(.k (.int .i64 27)), (.t 53), (.k (.int .i64 0))] [0]), (oN (.store 3 (.t 4) (.t 54)) [1, 1, 0, 1])]
def page_columns_i44 : IR := .ret
def page_columns_i45 : List Op1 := [(oE 56 (.bin .eql (.t 50) (.k (.int .u8 12))) []), (oM 55 (.t 56) [0])]
def page_columns_i46 : List Op1 := [(oM 57 (.t 5) []), (oC 58 40 [(.k (.int .i64 28)), (.t 57), (.k (.int .i64 1))] [0]), (oN (.store 3 (.t 4) (.t 58)) [1, 1, 0, 1])]
def page_columns_i47 : IR := .ret
def page_columns_i48 : List Op1 := [(oE 60 (.bin .eql (.t 50) (.k (.int .u8 14))) []), (oM 59 (.t 60) [0])]
def page_columns_i49 : List Op1 := [(oM 61 (.t 5) []), (oC 62 40 [(.k (.int .i64 24)), (.t 61), (.k (.int .i64 1))] [0]), (oN (.store 3 (.t 4) (.t 62)) [1, 1, 0, 1])]
def page_columns_i50 : IR := .ret
def page_columns_i51 : List Op1 := [(oE 64 (.bin .eql (.t 50) (.k (.int .u8 15))) []), (oM 63 (.t 64) [0])]
def page_columns_i52 : List Op1 := [(oM 65 (.t 5) []), (oC 66 40 [(.k (.int .i64 25)), (.t 65), (.k (.int .i64 1))] [0]), (oN (.store 3 (.t 4) (.t 66)) [1, 1, 0, 1])]
def page_columns_i53 : IR := .ret
def page_columns_i54 : IR := (.cond (.t 63) (.seq (.reg false page_columns_i52) page_columns_i53) .skip)
def page_columns_i55 : IR := (.cond (.t 59) (.seq (.reg false page_columns_i49) page_columns_i50) (.seq (.reg false page_columns_i51) page_columns_i54))
def page_columns_i56 : IR := (.cond (.t 55) (.seq (.reg false page_columns_i46) page_columns_i47) (.seq (.reg false page_columns_i48) page_columns_i55))
def page_columns_i57 : IR := (.cond (.t 51) (.seq (.reg false page_columns_i43) page_columns_i44) (.seq (.reg false page_columns_i45) page_columns_i56))
def page_columns_i58 : IR := (.block 1 (.seq (.reg false page_columns_i42) page_columns_i57))
def page_columns_i59 : List Op1 := [(oM 67 (.t 5) []), (oE 68 (.bin .eql (.t 67) (.k (.int .i64 1))) [0])]
def page_columns_i60 : List Op1 := [(oE 69 (.build [(.int .i64 0), (.int .i64 0), (.int .i64 0)] [(0, (1, (.k (.int .i64 37)))), (1, (1, (.k (.int .i64 6))))]) []), (oN (.store 3 (.t 4) (.t 69)) [0, 0])]
def page_columns_i61 : IR := .ret
def page_columns_i62 : IR := (.cond (.t 68) (.seq (.reg false page_columns_i60) page_columns_i61) .skip)
def page_columns_i63 : List Op1 := [(oM 70 (.t 5) []), (oE 71 (.build [(.int .i64 0), (.int .i64 0), (.int .i64 0)] [(0, (1, (.k (.int .i64 33)))), (1, (1, (.t 70)))]) [0]), (oN (.store 3 (.t 4) (.t 71)) [1, 0, 1])]
def page_columns_i64 : IR := .ret
def page_columns_i65 : IR := (.seq (.reg false page_columns_i63) page_columns_i64)
def page_columns_i66 : IR := (.seq (.seq (.reg false page_columns_i59) page_columns_i62) page_columns_i65)
def page_columns_i67 : IR := (.seq (.seq (.reg false page_columns_i41) page_columns_i58) page_columns_i66)
def page_columns_i68 : IR := (.seq (.seq (.reg false page_columns_i18) page_columns_i40) page_columns_i67)
def page_columns_i69 : IR := (.seq (.seq (.reg false page_columns_i2) page_columns_i17) page_columns_i68)
def page_columns_i70 : IR := (.seq (.reg false page_columns_i1) page_columns_i69)
def page_columns_ir : IR := (.seq (.reg false page_columns_i0) page_columns_i70)
theorem page_columns_cfn : cFn Try.prog 39 = some (page_columns_ir, [(.c 4 true 3)], 72) := by kernel_rfl
def page_columns_V (r : (api_Entry)) : V := .agg [.s (.int .i64 r.Op), .s (.int .i64 r.Mode), .s (.int .i64 r.Reg)]
def page_columns_C (r : (api_Entry)) : X → Fr → Hp → Prop := FinL [(.c 4 true 3)] [] (page_columns_V r) []
theorem page_columns_ok (high_ : Int) (low_ : Int) (r : (api_Entry)) (h : page_columns high_ low_ = some r) : Pure Try.prog 39 [.s (.int .u8 high_), .s (.int .u8 low_)] (page_columns_V r) := by
  refine ConL.of page_columns_cfn (Nat.le_of_ble_eq_true (by kernel_rfl)) (Nat.le_of_ble_eq_true (by kernel_rfl)) ?_
  refine k_start ?_
  show dwv Try.prog [] page_columns_ir (kont Try.prog [] (page_columns_C r) []) (fr0 [.s (.int .u8 high_), .s (.int .u8 low_)]) []
  have hf : FOk (fr0 [.s (.int .u8 high_), .s (.int .u8 low_)]) [⟨0, [], .s (.int .u8 high_)⟩, ⟨1, [], .s (.int .u8 low_)⟩] := ⟨⟨fun _ => rfl, fun h => (h trivial).elim⟩, ⟨fun _ => rfl, fun h => (h trivial).elim⟩, trivial⟩
  generalize fr0 [.s (.int .u8 high_), .s (.int .u8 low_)] = f at hf ⊢
  unfold page_columns at h
  refine k_seq ?_
  refine k_reg ?_
  refine mops_en hf (by kernel_rfl) fun f1 hf1 => ?_
  refine k_c ?_
  refine k_seq ?_
  refine k_reg ?_
  refine mops_sg 1 hf1 (by kernel_rfl) fun f2 hf2 => ?_
  obtain ⟨r_, hx_r_, h⟩ := Option.bind_eq_some_iff.1 h
  refine mops_call rfl hf2 (av := [.s (.int .u8 high_)]) (by kernel_rfl) (v := .s (.int .i64 r_)) (CalL.pure (page_column_ok high_ r_ hx_r_) rfl rfl (Nat.le_of_ble_eq_true (by kernel_rfl))) (fun _ => rfl) fun f3 hf3 => ?_
  refine mops_en hf3 (by kernel_rfl) fun f4 hf4 => ?_
  refine k_c ?_
  refine k_seq ?_
  refine k_seq ?_
  refine k_reg ?_
  refine mops_sg 1 hf4 (by kernel_rfl) fun f5 hf5 => ?_
  obtain ⟨r_1, hx_r_1, h⟩ := Option.bind_eq_some_iff.1 h
  refine mops_call rfl hf5 (av := [.s (.int .u8 low_)]) (by kernel_rfl) (v := .s (.int .i64 r_1)) (CalL.pure (page_eight_ok low_ r_1 hx_r_1) rfl rfl (Nat.le_of_ble_eq_true (by kernel_rfl))) (fun _ => rfl) fun f6 hf6 => ?_
  refine mops_en hf6 (by kernel_rfl) fun f7 hf7 => ?_
  refine k_c ?_
  refine k_seq ?_
  refine k_reg ?_
  refine mops_en hf7 (by kernel_rfl) fun f8 hf8 => ?_
  refine k_c ?_
  refine k_cond hf8 (t := (r_1 != 0)) (by kernel_rfl) (fun hc1 => ?_) (fun hc1 => ?_)
  · have h := if_t h hc1
    refine k_seq ?_
    refine k_seq ?_
    refine k_reg ?_
    refine mops_en hf8 (by kernel_rfl) fun f9 hf9 => ?_
    refine k_c ?_
    refine k_cond hf9 (t := ((r_1 == 12) && (r_ == 1))) (by kernel_rfl) (fun hc2 => ?_) (fun hc2 => ?_)
    · have h := if_t h hc2
      refine k_seq ?_
      refine k_reg ?_
      refine mops_en hf9 (by kernel_rfl) fun f10 hf10 => ?_
      refine k_c ?_
      refine k_ret ?_
      refine x_c nofun ?_
      refine x_c nofun ?_
      obtain rfl := Option.some.inj h
      exact k_fin (fin_ret (.inl rfl) hf10 (vs := [.agg [.s (.int .i64 0), .s (.int .i64 0), .s (.int .i64 0)]]) (by kernel_rfl) (SettL.pure (FzL.stat rfl)))
    · have h := if_f h hc2
      refine k_skip ?_
      refine k_c ?_
      refine k_seq ?_
      refine k_seq ?_
      refine k_reg ?_
      refine mops_en hf9 (by kernel_rfl) fun f10 hf10 => ?_
      refine k_c ?_
      refine k_cond hf10 (t := (decide (11 < high_))) (by kernel_rfl) (fun hc3 => ?_) (fun hc3 => ?_)
      · have h := if_t h hc3
        refine k_seq ?_
        refine k_reg ?_
        refine mops_en hf10 (by kernel_rfl) fun f11 hf11 => ?_
        refine k_c ?_
        refine k_ret ?_
        refine x_c nofun ?_
        refine x_c nofun ?_
        obtain rfl := Option.some.inj h
        exact k_fin (fin_ret (.inl rfl) hf11 (vs := [.agg [.s (.int .i64 r_1), .s (.int .i64 r_), .s (.int .i64 9)]]) (by kernel_rfl) (SettL.pure (FzL.stat rfl)))
      · have h := if_f h hc3
        refine k_skip ?_
        refine k_c ?_
        refine k_seq ?_
        refine k_reg ?_
        refine mops_en hf10 (by kernel_rfl) fun f11 hf11 => ?_
        refine k_c ?_
        refine k_ret ?_
        refine x_c nofun ?_
        obtain rfl := Option.some.inj h
        exact k_fin (fin_ret (.inl rfl) hf11 (vs := [.agg [.s (.int .i64 r_1), .s (.int .i64 r_), .s (.int .i64 8)]]) (by kernel_rfl) (SettL.pure (FzL.stat rfl)))
  · have h := if_f h hc1
    refine k_skip ?_
    refine k_c ?_
    refine k_seq ?_
    refine k_seq ?_
    refine k_reg ?_
    refine mops_en hf8 (by kernel_rfl) fun f9 hf9 => ?_
    refine k_c ?_
    refine k_cond hf9 (t := (decide (11 < high_))) (by kernel_rfl) (fun hc4 => ?_) (fun hc4 => ?_)
    · have h := if_t h hc4
      refine k_seq ?_
      refine k_seq ?_
      refine k_reg ?_
      refine mops_en hf9 (by kernel_rfl) fun f10 hf10 => ?_
      refine k_c ?_
      refine k_block ?_
      refine k_seq ?_
      refine k_reg ?_
      refine mops_en hf10 (by kernel_rfl) fun f11 hf11 => ?_
      refine k_c ?_
      refine k_cond hf11 (t := (low_ == 3)) (by kernel_rfl) (fun hc5 => ?_) (fun hc5 => ?_)
      · have h := if_t h hc5
        refine k_seq ?_
        refine k_reg ?_
        refine mops_sg 1 hf11 (by kernel_rfl) fun f12 hf12 => ?_
        obtain ⟨r_2, hx_r_2, h⟩ := Option.bind_eq_some_iff.1 h
        refine mops_call rfl hf12 (av := [.s (.int .i64 26), .s (.int .i64 r_), .s (.int .i64 0)]) (by kernel_rfl) (v := .agg [.s (.int .i64 r_2.Op), .s (.int .i64 r_2.Mode), .s (.int .i64 r_2.Reg)]) (CalL.pure (page_wide_ok (26) r_ (0) r_2 hx_r_2) rfl rfl (Nat.le_of_ble_eq_true (by kernel_rfl))) (fun _ => rfl) fun f13 hf13 => ?_
        refine mops_en hf13 (by kernel_rfl) fun f14 hf14 => ?_
        refine k_c ?_
        refine k_ret ?_
        refine x_br ?_
        refine x_c nofun ?_
        refine x_c nofun ?_
        obtain rfl := Option.some.inj h
        exact k_fin (fin_ret (.inl rfl) hf14 (vs := [.agg [.s (.int .i64 r_2.Op), .s (.int .i64 r_2.Mode), .s (.int .i64 r_2.Reg)]]) (by kernel_rfl) (SettL.pure (FzL.stat rfl)))
      · have h := if_f h hc5
        refine k_seq ?_
        refine k_reg ?_
        refine mops_en hf11 (by kernel_rfl) fun f12 hf12 => ?_
        refine k_c ?_
        refine k_cond hf12 (t := (low_ == 12)) (by kernel_rfl) (fun hc6 => ?_) (fun hc6 => ?_)
        · have h := if_t h hc6
          refine k_seq ?_
          refine k_reg ?_
          refine mops_sg 1 hf12 (by kernel_rfl) fun f13 hf13 => ?_
          obtain ⟨r_3, hx_r_3, h⟩ := Option.bind_eq_some_iff.1 h
          refine mops_call rfl hf13 (av := [.s (.int .i64 24), .s (.int .i64 r_), .s (.int .i64 0)]) (by kernel_rfl) (v := .agg [.s (.int .i64 r_3.Op), .s (.int .i64 r_3.Mode), .s (.int .i64 r_3.Reg)]) (CalL.pure (page_wide_ok (24) r_ (0) r_3 hx_r_3) rfl rfl (Nat.le_of_ble_eq_true (by kernel_rfl))) (fun _ => rfl) fun f14 hf14 => ?_
          refine mops_en hf14 (by kernel_rfl) fun f15 hf15 => ?_
          refine k_c ?_
          refine k_ret ?_
          refine x_br ?_
          refine x_c nofun ?_
          refine x_c nofun ?_
          obtain rfl := Option.some.inj h
          exact k_fin (fin_ret (.inl rfl) hf15 (vs := [.agg [.s (.int .i64 r_3.Op), .s (.int .i64 r_3.Mode), .s (.int .i64 r_3.Reg)]]) (by kernel_rfl) (SettL.pure (FzL.stat rfl)))
        · have h := if_f h hc6
          refine k_seq ?_
          refine k_reg ?_
          refine mops_en hf12 (by kernel_rfl) fun f13 hf13 => ?_
          refine k_c ?_
          refine k_cond hf13 (t := (low_ == 13)) (by kernel_rfl) (fun hc7 => ?_) (fun hc7 => ?_)
          · have h := if_t h hc7
            refine k_seq ?_
            refine k_reg ?_
            refine mops_sg 1 hf13 (by kernel_rfl) fun f14 hf14 => ?_
            obtain ⟨r_4, hx_r_4, h⟩ := Option.bind_eq_some_iff.1 h
            refine mops_call rfl hf14 (av := [.s (.int .i64 25), .s (.int .i64 r_), .s (.int .i64 0)]) (by kernel_rfl) (v := .agg [.s (.int .i64 r_4.Op), .s (.int .i64 r_4.Mode), .s (.int .i64 r_4.Reg)]) (CalL.pure (page_wide_ok (25) r_ (0) r_4 hx_r_4) rfl rfl (Nat.le_of_ble_eq_true (by kernel_rfl))) (fun _ => rfl) fun f15 hf15 => ?_
            refine mops_en hf15 (by kernel_rfl) fun f16 hf16 => ?_
            refine k_c ?_
            refine k_ret ?_
            refine x_br ?_
            refine x_c nofun ?_
            refine x_c nofun ?_
            obtain rfl := Option.some.inj h
            exact k_fin (fin_ret (.inl rfl) hf16 (vs := [.agg [.s (.int .i64 r_4.Op), .s (.int .i64 r_4.Mode), .s (.int .i64 r_4.Reg)]]) (by kernel_rfl) (SettL.pure (FzL.stat rfl)))
          · have h := if_f h hc7
            refine k_seq ?_
            refine k_reg ?_
            refine mops_en hf13 (by kernel_rfl) fun f14 hf14 => ?_
            refine k_c ?_
            refine k_cond hf14 (t := (low_ == 14)) (by kernel_rfl) (fun hc8 => ?_) (fun hc8 => ?_)
            · have h := if_t h hc8
              refine k_seq ?_
              refine k_reg ?_
              refine mops_sg 1 hf14 (by kernel_rfl) fun f15 hf15 => ?_
              obtain ⟨r_5, hx_r_5, h⟩ := Option.bind_eq_some_iff.1 h
              refine mops_call rfl hf15 (av := [.s (.int .i64 24), .s (.int .i64 r_), .s (.int .i64 3)]) (by kernel_rfl) (v := .agg [.s (.int .i64 r_5.Op), .s (.int .i64 r_5.Mode), .s (.int .i64 r_5.Reg)]) (CalL.pure (page_wide_ok (24) r_ (3) r_5 hx_r_5) rfl rfl (Nat.le_of_ble_eq_true (by kernel_rfl))) (fun _ => rfl) fun f16 hf16 => ?_
              refine mops_en hf16 (by kernel_rfl) fun f17 hf17 => ?_
              refine k_c ?_
              refine k_ret ?_
              refine x_br ?_
              refine x_c nofun ?_
              refine x_c nofun ?_
              obtain rfl := Option.some.inj h
              exact k_fin (fin_ret (.inl rfl) hf17 (vs := [.agg [.s (.int .i64 r_5.Op), .s (.int .i64 r_5.Mode), .s (.int .i64 r_5.Reg)]]) (by kernel_rfl) (SettL.pure (FzL.stat rfl)))
            · have h := if_f h hc8
              refine k_skip ?_
              refine k_b ?_
              refine k_c ?_
              refine k_seq ?_
              refine k_reg ?_
              refine mops_sg 1 hf14 (by kernel_rfl) fun f15 hf15 => ?_
              obtain ⟨r_6, hx_r_6, h⟩ := Option.bind_eq_some_iff.1 h
              refine mops_call rfl hf15 (av := [.s (.int .i64 25), .s (.int .i64 r_), .s (.int .i64 3)]) (by kernel_rfl) (v := .agg [.s (.int .i64 r_6.Op), .s (.int .i64 r_6.Mode), .s (.int .i64 r_6.Reg)]) (CalL.pure (page_wide_ok (25) r_ (3) r_6 hx_r_6) rfl rfl (Nat.le_of_ble_eq_true (by kernel_rfl))) (fun _ => rfl) fun f16 hf16 => ?_
              refine mops_en hf16 (by kernel_rfl) fun f17 hf17 => ?_
              refine k_c ?_
              refine k_ret ?_
              refine x_c nofun ?_
              obtain rfl := Option.some.inj h
              exact k_fin (fin_ret (.inl rfl) hf17 (vs := [.agg [.s (.int .i64 r_6.Op), .s (.int .i64 r_6.Mode), .s (.int .i64 r_6.Reg)]]) (by kernel_rfl) (SettL.pure (FzL.stat rfl)))
    · have h := if_f h hc4
      refine k_skip ?_
      refine k_c ?_
      refine k_seq ?_
      refine k_seq ?_
      refine k_reg ?_
      refine mops_en hf9 (by kernel_rfl) fun f10 hf10 => ?_
      refine k_c ?_
      refine k_block ?_
      refine k_seq ?_
      refine k_reg ?_
      refine mops_en hf10 (by kernel_rfl) fun f11 hf11 => ?_
      refine k_c ?_
      refine k_cond hf11 (t := (low_ == 3)) (by kernel_rfl) (fun hc9 => ?_) (fun hc9 => ?_)
      · have h := if_t h hc9
        refine k_seq ?_
        refine k_reg ?_
        refine mops_sg 1 hf11 (by kernel_rfl) fun f12 hf12 => ?_
        obtain ⟨r_7, hx_r_7, h⟩ := Option.bind_eq_some_iff.1 h
        refine mops_call rfl hf12 (av := [.s (.int .i64 27), .s (.int .i64 r_), .s (.int .i64 0)]) (by kernel_rfl) (v := .agg [.s (.int .i64 r_7.Op), .s (.int .i64 r_7.Mode), .s (.int .i64 r_7.Reg)]) (CalL.pure (page_wide_ok (27) r_ (0) r_7 hx_r_7) rfl rfl (Nat.le_of_ble_eq_true (by kernel_rfl))) (fun _ => rfl) fun f13 hf13 => ?_
        refine mops_en hf13 (by kernel_rfl) fun f14 hf14 => ?_
        refine k_c ?_
        refine k_ret ?_
        refine x_br ?_
        refine x_c nofun ?_
        obtain rfl := Option.some.inj h
        exact k_fin (fin_ret (.inl rfl) hf14 (vs := [.agg [.s (.int .i64 r_7.Op), .s (.int .i64 r_7.Mode), .s (.int .i64 r_7.Reg)]]) (by kernel_rfl) (SettL.pure (FzL.stat rfl)))
      · have h := if_f h hc9
        refine k_seq ?_
        refine k_reg ?_
        refine mops_en hf11 (by kernel_rfl) fun f12 hf12 => ?_
        refine k_c ?_
        refine k_cond hf12 (t := (low_ == 12)) (by kernel_rfl) (fun hc10 => ?_) (fun hc10 => ?_)
        · have h := if_t h hc10
          refine k_seq ?_
          refine k_reg ?_
          refine mops_sg 1 hf12 (by kernel_rfl) fun f13 hf13 => ?_
          obtain ⟨r_8, hx_r_8, h⟩ := Option.bind_eq_some_iff.1 h
          refine mops_call rfl hf13 (av := [.s (.int .i64 28), .s (.int .i64 r_), .s (.int .i64 1)]) (by kernel_rfl) (v := .agg [.s (.int .i64 r_8.Op), .s (.int .i64 r_8.Mode), .s (.int .i64 r_8.Reg)]) (CalL.pure (page_wide_ok (28) r_ (1) r_8 hx_r_8) rfl rfl (Nat.le_of_ble_eq_true (by kernel_rfl))) (fun _ => rfl) fun f14 hf14 => ?_
          refine mops_en hf14 (by kernel_rfl) fun f15 hf15 => ?_
          refine k_c ?_
          refine k_ret ?_
          refine x_br ?_
          refine x_c nofun ?_
          obtain rfl := Option.some.inj h
          exact k_fin (fin_ret (.inl rfl) hf15 (vs := [.agg [.s (.int .i64 r_8.Op), .s (.int .i64 r_8.Mode), .s (.int .i64 r_8.Reg)]]) (by kernel_rfl) (SettL.pure (FzL.stat rfl)))
        · have h := if_f h hc10
          refine k_seq ?_
          refine k_reg ?_
          refine mops_en hf12 (by kernel_rfl) fun f13 hf13 => ?_
          refine k_c ?_
          refine k_cond hf13 (t := (low_ == 14)) (by kernel_rfl) (fun hc11 => ?_) (fun hc11 => ?_)
          · have h := if_t h hc11
            refine k_seq ?_
            refine k_reg ?_
            refine mops_sg 1 hf13 (by kernel_rfl) fun f14 hf14 => ?_
            obtain ⟨r_9, hx_r_9, h⟩ := Option.bind_eq_some_iff.1 h
            refine mops_call rfl hf14 (av := [.s (.int .i64 24), .s (.int .i64 r_), .s (.int .i64 1)]) (by kernel_rfl) (v := .agg [.s (.int .i64 r_9.Op), .s (.int .i64 r_9.Mode), .s (.int .i64 r_9.Reg)]) (CalL.pure (page_wide_ok (24) r_ (1) r_9 hx_r_9) rfl rfl (Nat.le_of_ble_eq_true (by kernel_rfl))) (fun _ => rfl) fun f15 hf15 => ?_
            refine mops_en hf15 (by kernel_rfl) fun f16 hf16 => ?_
            refine k_c ?_
            refine k_ret ?_
            refine x_br ?_
            refine x_c nofun ?_
            obtain rfl := Option.some.inj h
            exact k_fin (fin_ret (.inl rfl) hf16 (vs := [.agg [.s (.int .i64 r_9.Op), .s (.int .i64 r_9.Mode), .s (.int .i64 r_9.Reg)]]) (by kernel_rfl) (SettL.pure (FzL.stat rfl)))
          · have h := if_f h hc11
            refine k_seq ?_
            refine k_reg ?_
            refine mops_en hf13 (by kernel_rfl) fun f14 hf14 => ?_
            refine k_c ?_
            refine k_cond hf14 (t := (low_ == 15)) (by kernel_rfl) (fun hc12 => ?_) (fun hc12 => ?_)
            · have h := if_t h hc12
              refine k_seq ?_
              refine k_reg ?_
              refine mops_sg 1 hf14 (by kernel_rfl) fun f15 hf15 => ?_
              obtain ⟨r_10, hx_r_10, h⟩ := Option.bind_eq_some_iff.1 h
              refine mops_call rfl hf15 (av := [.s (.int .i64 25), .s (.int .i64 r_), .s (.int .i64 1)]) (by kernel_rfl) (v := .agg [.s (.int .i64 r_10.Op), .s (.int .i64 r_10.Mode), .s (.int .i64 r_10.Reg)]) (CalL.pure (page_wide_ok (25) r_ (1) r_10 hx_r_10) rfl rfl (Nat.le_of_ble_eq_true (by kernel_rfl))) (fun _ => rfl) fun f16 hf16 => ?_
              refine mops_en hf16 (by kernel_rfl) fun f17 hf17 => ?_
              refine k_c ?_
              refine k_ret ?_
              refine x_br ?_
              refine x_c nofun ?_
              obtain rfl := Option.some.inj h
              exact k_fin (fin_ret (.inl rfl) hf17 (vs := [.agg [.s (.int .i64 r_10.Op), .s (.int .i64 r_10.Mode), .s (.int .i64 r_10.Reg)]]) (by kernel_rfl) (SettL.pure (FzL.stat rfl)))
            · have h := if_f h hc12
              refine k_skip ?_
              refine k_b ?_
              refine k_c ?_
              refine k_seq ?_
              refine k_seq ?_
              refine k_reg ?_
              refine mops_en hf14 (by kernel_rfl) fun f15 hf15 => ?_
              refine k_c ?_
              refine k_cond hf15 (t := (r_ == 1)) (by kernel_rfl) (fun hc13 => ?_) (fun hc13 => ?_)
              · have h := if_t h hc13
                refine k_seq ?_
                refine k_reg ?_
                refine mops_en hf15 (by kernel_rfl) fun f16 hf16 => ?_
                refine k_c ?_
                refine k_ret ?_
                refine x_c nofun ?_
                obtain rfl := Option.some.inj h
                exact k_fin (fin_ret (.inl rfl) hf16 (vs := [.agg [.s (.int .i64 37), .s (.int .i64 6), .s (.int .i64 0)]]) (by kernel_rfl) (SettL.pure (FzL.stat rfl)))
              · have h := if_f h hc13
                refine k_skip ?_
                refine k_c ?_
                refine k_seq ?_
                refine k_reg ?_
                refine mops_en hf15 (by kernel_rfl) fun f16 hf16 => ?_
                refine k_c ?_
                refine k_ret ?_
                obtain rfl := Option.some.inj h
                exact k_fin (fin_ret (.inl rfl) hf16 (vs := [.agg [.s (.int .i64 33), .s (.int .i64 r_), .s (.int .i64 0)]]) (by kernel_rfl) (SettL.pure (FzL.stat rfl)))
def page_second_i0 : List Op1 := [(oE 2 (.zero [(.int .i64 0), (.int .i64 0), (.int .i64 0)]) [])]
def page_second_i1 : List Op1 := [(oM 5 (.t 0) []), (oE 6 (.bin .shr (.t 5) (.k (.int .u64 4))) [0]), (oM 7 (.t 0) []), (oE 8 (.bin .and (.t 7) (.k (.int .u8 15))) [2]), (oM 3 (.t 6) [1, 0, 1]), (oM 4 (.t 8) [3, 4, 0, 1, 2, 3, 4])]
def page_second_i2 : List Op1 := [(oM 10 (.t 3) []), (oE 11 (.bin .eql (.t 10) (.k (.int .u8 2))) [0]), (oM 12 (.t 11) [1]), (oG 13 (.mv (.t 4)) 12 true [2]), (oG 14 (.bin .gtr (.t 13) (.k (.int .u8 0))) 12 true [3, 2]), (oE 15 (.pick (.t 12) (.t 14) (.k (.bool false))) [2, 4]), (oM 9 (.t 15) [5, 2])]
def page_second_i3 : List Op1 := [(oM 16 (.t 4) []), (oE 17 (.cint .i64 (.t 16)) [0]), (oE 18 (.build [(.int .i64 0), (.int .i64 0), (.int .i64 0)] [(0, (1, (.k (.int .i64 35)))), (1, (1, (.k (.int .i64 7)))), (2, (1, (.t 17)))]) [1]), (oN (.store 3 (.t 2) (.t 18)) [2, 0, 1, 2])]
def page_second_i4 : IR := .ret
def page_second_i5 : List Op1 := [(oM 20 (.t 3) []), (oE 21 (.bin .geq (.t 20) (.k (.int .u8 8))) [0]), (oM 22 (.t 21) [1]), (oG 23 (.mv (.t 3)) 22 true [2]), (oG 24 (.bin .lss (.t 23) (.k (.int .u8 12))) 22 true [3, 2]), (oE 25 (.pick (.t 22) (.t 24) (.k (.bool false))) [2, 4]), (oM 26 (.t 25) [5, 2]), (oG 27 (.mv (.t 4)) 26 true [6]), (oG 28 (.bin .eql (.t 27) (.k (.int .u8 3))) 26 true [7, 6]), (oE 29 (.pick (.t 26) (.t 28) (.k (.bool false))) [6, 8]), (oM 19 (.t 29) [9, 6])]
def page_second_i6 : List Op1 := [(oM 30 (.t 3) []), (oC 31 41 [(.t 30)] [0]), (oC 32 40 [(.k (.int .i64 28)), (.t 31), (.k (.int .i64 0))] [1, 1]), (oN (.store 3 (.t 2) (.t 32)) [2, 2, 0, 1, 2])]
def page_second_i7 : IR := .ret
def page_second_i8 : List Op1 := [(oM 34 (.t 3) []), (oE 35 (.bin .geq (.t 34) (.k (.int .u8 8))) [0]), (oM 36 (.t 35) [1]), (oG 37 (.mv (.t 3)) 36 true [2]), (oG 38 (.bin .lss (.t 37) (.k (.int .u8 12))) 36 true [3, 2]), (oE 39 (.pick (.t 36) (.t 38) (.k (.bool false))) [2, 4]), (oM 40 (.t 39) [5, 2]), (oG 41 (.mv (.t 4)) 40 true [6]), (oG 42 (.bin .eql (.t 41) (.k (.int .u8 12))) 40 true [7, 6]), (oE 43 (.pick (.t 40) (.t 42) (.k (.bool false))) [6, 8]), (oM 33 (.t 43) [9, 6])]
def page_second_i9 : List Op1 := [(oM 44 (.t 3) []), (oC 45 41 [(.t 44)] [0]), (oC 46 40 [(.k (.int .i64 28)), (.t 45), (.k (.int .i64 2))] [1, 1]), (oN (.store 3 (.t 2) (.t 46)) [2, 2, 0, 1, 2])]
def page_second_i10 : IR := .ret
def page_second_i11 : List Op1 := [(oM 48 (.t 3) []), (oE 49 (.bin .geq (.t 48) (.k (.int .u8 8))) [0]), (oM 50 (.t 49) [1]), (oG 51 (.mv (.t 3)) 50 true [2]), (oG 52 (.bin .lss (.t 51) (.k (.int .u8 12))) 50 true [3, 2]), (oE 53 (.pick (.t 50) (.t 52) (.k (.bool false))) [2, 4]), (oM 54 (.t 53) [5, 2]), (oG 55 (.mv (.t 4)) 54 true [6]), (oG 56 (.bin .eql (.t 55) (.k (.int .u8 14))) 54 true [7, 6]), (oE 57 (.pick (.t 54) (.t 56) (.k (.bool false))) [6, 8]), (oM 47 (.t 57) [9, 6])]
def page_second_i12 : List Op1 := [(oM 58 (.t 3) []), (oC 59 41 [(.t 58)] [0]), (oC 60 40 [(.k (.int .i64 24)), (.t 59), (.k (.int .i64 2))] [1, 1]), (oN (.store 3 (.t 2) (.t 60)) [2, 2, 0, 1, 2])]
def page_second_i13 : IR := .ret
def page_second_i14 : List Op1 := [(oM 62 (.t 3) []), (oE 63 (.bin .geq (.t 62) (.k (.int .u8 8))) [0]), (oM 64 (.t 63) [1]), (oG 65 (.mv (.t 3)) 64 true [2]), (oG 66 (.bin .lss (.t 65) (.k (.int .u8 12))) 64 true [3, 2]), (oE 67 (.pick (.t 64) (.t 66) (.k (.bool false))) [2, 4]), (oM 68 (.t 67) [5, 2]), (oG 69 (.mv (.t 4)) 68 true [6]), (oG 70 (.bin .eql (.t 69) (.k (.int .u8 15))) 68 true [7, 6]), (oE 71 (.pick (.t 68) (.t 70) (.k (.bool false))) [6, 8]), (oM 61 (.t 71) [9, 6])]
def page_second_i15 : List Op1 := [(oM 72 (.t 3) []), (oC 73 41 [(.t 72)] [0]), (oC 74 40 [(.k (.int .i64 25)), (.t 73), (.k (.int .i64 2))] [1, 1]), (oN (.store 3 (.t 2) (.t 74)) [2, 2, 0, 1, 2])]
def page_second_i16 : IR := .ret
def page_second_i17 : List Op1 := [(oM 76 (.t 3) []), (oE 77 (.bin .geq (.t 76) (.k (.int .u8 12))) [0]), (oM 78 (.t 77) [1]), (oG 79 (.mv (.t 4)) 78 true [2]), (oG 80 (.bin .eql (.t 79) (.k (.int .u8 14))) 78 true [3, 2]), (oE 81 (.pick (.t 78) (.t 80) (.k (.bool false))) [2, 4]), (oM 75 (.t 81) [5, 2])]
def page_second_i18 : List Op1 := [(oM 82 (.t 3) []), (oC 83 41 [(.t 82)] [0]), (oC 84 40 [(.k (.int .i64 24)), (.t 83), (.k (.int .i64 4))] [1, 1]), (oN (.store 3 (.t 2) (.t 84)) [2, 2, 0, 1, 2])]
def page_second_i19 : IR := .ret
def page_second_i20 : List Op1 := [(oM 86 (.t 3) []), (oE 87 (.bin .geq (.t 86) (.k (.int .u8 12))) [0]), (oM 88 (.t 87) [1]), (oG 89 (.mv (.t 4)) 88 true [2]), (oG 90 (.bin .eql (.t 89) (.k (.int .u8 15))) 88 true [3, 2]), (oE 91 (.pick (.t 88) (.t 90) (.k (.bool false))) [2, 4]), (oM 85 (.t 91) [5, 2])]
def page_second_i21 : List Op1 := [(oM 92 (.t 3) []), (oC 93 41 [(.t 92)] [0]), (oC 94 40 [(.k (.int .i64 25)), (.t 93), (.k (.int .i64 4))] [1, 1]), (oN (.store 3 (.t 2) (.t 94)) [2, 2, 0, 1, 2])]
def page_second_i22 : IR := .ret
def page_second_i23 : IR := (.cond (.t 85) (.seq (.reg false page_second_i21) page_second_i22) .skip)
def page_second_i24 : IR := (.cond (.t 75) (.seq (.reg false page_second_i18) page_second_i19) (.seq (.reg false page_second_i20) page_second_i23))
def page_second_i25 : IR := (.cond (.t 61) (.seq (.reg false page_second_i15) page_second_i16) (.seq (.reg false page_second_i17) page_second_i24))
def page_second_i26 : IR := (.cond (.t 47) (.seq (.reg false page_second_i12) page_second_i13) (.seq (.reg false page_second_i14) page_second_i25))
def page_second_i27 : IR := (.cond (.t 33) (.seq (.reg false page_second_i9) page_second_i10) (.seq (.reg false page_second_i11) page_second_i26))
def page_second_i28 : IR := (.cond (.t 19) (.seq (.reg false page_second_i6) page_second_i7) (.seq (.reg false page_second_i8) page_second_i27))
def page_second_i29 : IR := (.cond (.t 9) (.seq (.reg false page_second_i3) page_second_i4) (.seq (.reg false page_second_i5) page_second_i28))
def page_second_i30 : List Op1 := [(oE 95 (.build [(.int .i64 0), (.int .i64 0), (.int .i64 0)] []) []), (oN (.store 3 (.t 2) (.t 95)) [0, 0])]
def page_second_i31 : IR := .ret
def page_second_i32 : IR := (.seq (.reg false page_second_i30) page_second_i31)
def page_second_i33 : IR := (.seq (.block 0 (.seq (.reg false page_second_i2) page_second_i29)) page_second_i32)
def page_second_i34 : IR := (.seq (.reg false page_second_i1) page_second_i33)
def page_second_ir : IR := (.seq (.reg false page_second_i0) page_second_i34)
theorem page_second_cfn : cFn Try.prog 26 = some (page_second_ir, [(.c 2 true 3)], 96) := by kernel_rfl
def page_second_V (r : (api_Entry)) : V := .agg [.s (.int .i64 r.Op), .s (.int .i64 r.Mode), .s (.int .i64 r.Reg)]
def page_second_C (r : (api_Entry)) : X → Fr → Hp → Prop := FinL [(.c 2 true 3)] [] (page_second_V r) []
theorem page_second_ok (code_ : Int) (r : (api_Entry)) (h : page_second code_ = some r) : Pure Try.prog 26 [.s (.int .u8 code_)] (page_second_V r) := by
  refine ConL.of page_second_cfn (Nat.le_of_ble_eq_true (by kernel_rfl)) (Nat.le_of_ble_eq_true (by kernel_rfl)) ?_
  refine k_start ?_
  show dwv Try.prog [] page_second_ir (kont Try.prog [] (page_second_C r) []) (fr0 [.s (.int .u8 code_)]) []
  have hf : FOk (fr0 [.s (.int .u8 code_)]) [⟨0, [], .s (.int .u8 code_)⟩] := ⟨⟨fun _ => rfl, fun h => (h trivial).elim⟩, trivial⟩
  generalize fr0 [.s (.int .u8 code_)] = f at hf ⊢
  unfold page_second at h
  refine k_seq ?_
  refine k_reg ?_
  refine mops_en hf (by kernel_rfl) fun f1 hf1 => ?_
  refine k_c ?_
  refine k_seq ?_
  refine k_reg ?_
  refine mops_en hf1 (by kernel_rfl) fun f2 hf2 => ?_
  refine k_c ?_
  refine k_seq ?_
  refine k_block ?_
  refine k_seq ?_
  refine k_reg ?_
  refine mops_en hf2 (by kernel_rfl) fun f3 hf3 => ?_
  refine k_c ?_
  refine k_cond hf3 (t := (((Int.fdiv code_ (2 ^ (4))) == 2) && (decide (0 < (bits .and .u8 code_ 15))))) (by kernel_rfl) (fun hc1 => ?_) (fun hc1 => ?_)
  · have h := if_t h hc1
    refine k_seq ?_
    refine k_reg ?_
    refine mops_en hf3 (by kernel_rfl) fun f4 hf4 => ?_
    refine k_c ?_
    refine k_ret ?_
    refine x_br ?_
    refine x_c nofun ?_
    obtain rfl := Option.some.inj h
    exact k_fin (fin_ret (.inl rfl) hf4 (vs := [.agg [.s (.int .i64 35), .s (.int .i64 7), .s (.int .i64 (IntKind.wrap .i64 (bits .and .u8 code_ 15)))]]) (by kernel_rfl) (SettL.pure (FzL.stat rfl)))
  · have h := if_f h hc1
    refine k_seq ?_
    refine k_reg ?_
    refine mops_en hf3 (by kernel_rfl) fun f4 hf4 => ?_
    refine k_c ?_
    refine k_cond hf4 (t := (((decide (8 ≤ (Int.fdiv code_ (2 ^ (4))))) && (decide ((Int.fdiv code_ (2 ^ (4))) < 12))) && ((bits .and .u8 code_ 15) == 3))) (by kernel_rfl) (fun hc2 => ?_) (fun hc2 => ?_)
    · have h := if_t h hc2
      refine k_seq ?_
      refine k_reg ?_
      refine mops_sg 1 hf4 (by kernel_rfl) fun f5 hf5 => ?_
      obtain ⟨r_, hx_r_, h⟩ := Option.bind_eq_some_iff.1 h
      refine mops_call rfl hf5 (av := [.s (.int .u8 (Int.fdiv code_ (2 ^ (4))))]) (by kernel_rfl) (v := .s (.int .i64 r_)) (CalL.pure (page_column_ok (Int.fdiv code_ (2 ^ (4))) r_ hx_r_) rfl rfl (Nat.le_of_ble_eq_true (by kernel_rfl))) (fun _ => rfl) fun f6 hf6 => ?_
      obtain ⟨r_1, hx_r_1, h⟩ := Option.bind_eq_some_iff.1 h
      refine mops_call rfl hf6 (av := [.s (.int .i64 28), .s (.int .i64 r_), .s (.int .i64 0)]) (by kernel_rfl) (v := .agg [.s (.int .i64 r_1.Op), .s (.int .i64 r_1.Mode), .s (.int .i64 r_1.Reg)]) (CalL.pure (page_wide_ok (28) r_ (0) r_1 hx_r_1) rfl rfl (Nat.le_of_ble_eq_true (by kernel_rfl))) (fun _ => rfl) fun f7 hf7 => ?_
      refine mops_en hf7 (by kernel_rfl) fun f8 hf8 => ?_
      refine k_c ?_
      refine k_ret ?_
      refine x_br ?_
      refine x_c nofun ?_
      obtain rfl := Option.some.inj h
      exact k_fin (fin_ret (.inl rfl) hf8 (vs := [.agg [.s (.int .i64 r_1.Op), .s (.int .i64 r_1.Mode), .s (.int .i64 r_1.Reg)]]) (by kernel_rfl) (SettL.pure (FzL.stat rfl)))
    · have h := if_f h hc2
      refine k_seq ?_
      refine k_reg ?_
      refine mops_en hf4 (by kernel_rfl) fun f5 hf5 => ?_
      refine k_c ?_
      refine k_cond hf5 (t := (((decide (8 ≤ (Int.fdiv code_ (2 ^ (4))))) && (decide ((Int.fdiv code_ (2 ^ (4))) < 12))) && ((bits .and .u8 code_ 15) == 12))) (by kernel_rfl) (fun hc3 => ?_) (fun hc3 => ?_)
      · have h := if_t h hc3
        refine k_seq ?_
        refine k_reg ?_
        refine mops_seg [2, 44] 1 hf5 (l' := [⟨2, [], .ptr 0 0 0⟩, ⟨44, [], .s (.int .u8 (Int.fdiv code_ (2 ^ (4))))⟩]) (L' := [⟨0, .mem, 1, [.s (.int .i64 0), .s (.int .i64 0), .s (.int .i64 0)]⟩]) (by kernel_rfl) fun f6 hf6 => ?_
        obtain ⟨r_2, hx_r_2, h⟩ := Option.bind_eq_some_iff.1 h
        refine mops_call rfl hf6 (av := [.s (.int .u8 (Int.fdiv code_ (2 ^ (4))))]) (by kernel_rfl) (v := .s (.int .i64 r_2)) (CalL.pure (page_column_ok (Int.fdiv code_ (2 ^ (4))) r_2 hx_r_2) rfl rfl (Nat.le_of_ble_eq_true (by kernel_rfl))) (fun _ => rfl) fun f7 hf7 => ?_
        obtain ⟨r_3, hx_r_3, h⟩ := Option.bind_eq_some_iff.1 h
        refine mops_call rfl hf7 (av := [.s (.int .i64 28), .s (.int .i64 r_2), .s (.int .i64 2)]) (by kernel_rfl) (v := .agg [.s (.int .i64 r_3.Op), .s (.int .i64 r_3.Mode), .s (.int .i64 r_3.Reg)]) (CalL.pure (page_wide_ok (28) r_2 (2) r_3 hx_r_3) rfl rfl (Nat.le_of_ble_eq_true (by kernel_rfl))) (fun _ => rfl) fun f8 hf8 => ?_
        refine mops_en hf8 (by kernel_rfl) fun f9 hf9 => ?_
        refine k_c ?_
        refine k_ret ?_
        refine x_br ?_
        refine x_c nofun ?_
        obtain rfl := Option.some.inj h
        exact k_fin (fin_ret (.inl rfl) hf9 (vs := [.agg [.s (.int .i64 r_3.Op), .s (.int .i64 r_3.Mode), .s (.int .i64 r_3.Reg)]]) (by kernel_rfl) (SettL.pure (FzL.stat rfl)))
      · have h := if_f h hc3
        refine k_seq ?_
        refine k_reg ?_
        refine mops_end [2, 3, 4, 47] hf5 (l' := [⟨2, [], .ptr 0 0 0⟩, ⟨3, [], .s (.int .u8 (Int.fdiv code_ (2 ^ (4))))⟩, ⟨4, [], .s (.int .u8 (bits .and .u8 code_ 15))⟩, ⟨47, [], .s (.bool (((decide (8 ≤ (Int.fdiv code_ (2 ^ (4))))) && (decide ((Int.fdiv code_ (2 ^ (4))) < 12))) && ((bits .and .u8 code_ 15) == 14)))⟩]) (L' := [⟨0, .mem, 1, [.s (.int .i64 0), .s (.int .i64 0), .s (.int .i64 0)]⟩]) (by kernel_rfl) fun f6 hf6 => ?_
        refine k_c ?_
        refine k_cond hf6 (t := (((decide (8 ≤ (Int.fdiv code_ (2 ^ (4))))) && (decide ((Int.fdiv code_ (2 ^ (4))) < 12))) && ((bits .and .u8 code_ 15) == 14))) (by kernel_rfl) (fun hc4 => ?_) (fun hc4 => ?_)
        · have h := if_t h hc4
          refine k_seq ?_
          refine k_reg ?_
          refine mops_sg 1 hf6 (by kernel_rfl) fun f7 hf7 => ?_
          obtain ⟨r_4, hx_r_4, h⟩ := Option.bind_eq_some_iff.1 h
          refine mops_call rfl hf7 (av := [.s (.int .u8 (Int.fdiv code_ (2 ^ (4))))]) (by kernel_rfl) (v := .s (.int .i64 r_4)) (CalL.pure (page_column_ok (Int.fdiv code_ (2 ^ (4))) r_4 hx_r_4) rfl rfl (Nat.le_of_ble_eq_true (by kernel_rfl))) (fun _ => rfl) fun f8 hf8 => ?_
          obtain ⟨r_5, hx_r_5, h⟩ := Option.bind_eq_some_iff.1 h
          refine mops_call rfl hf8 (av := [.s (.int .i64 24), .s (.int .i64 r_4), .s (.int .i64 2)]) (by kernel_rfl) (v := .agg [.s (.int .i64 r_5.Op), .s (.int .i64 r_5.Mode), .s (.int .i64 r_5.Reg)]) (CalL.pure (page_wide_ok (24) r_4 (2) r_5 hx_r_5) rfl rfl (Nat.le_of_ble_eq_true (by kernel_rfl))) (fun _ => rfl) fun f9 hf9 => ?_
          refine mops_en hf9 (by kernel_rfl) fun f10 hf10 => ?_
          refine k_c ?_
          refine k_ret ?_
          refine x_br ?_
          refine x_c nofun ?_
          obtain rfl := Option.some.inj h
          exact k_fin (fin_ret (.inl rfl) hf10 (vs := [.agg [.s (.int .i64 r_5.Op), .s (.int .i64 r_5.Mode), .s (.int .i64 r_5.Reg)]]) (by kernel_rfl) (SettL.pure (FzL.stat rfl)))
        · have h := if_f h hc4
          refine k_seq ?_
          refine k_reg ?_
          refine mops_en hf6 (by kernel_rfl) fun f7 hf7 => ?_
          refine k_c ?_
          refine k_cond hf7 (t := (((decide (8 ≤ (Int.fdiv code_ (2 ^ (4))))) && (decide ((Int.fdiv code_ (2 ^ (4))) < 12))) && ((bits .and .u8 code_ 15) == 15))) (by kernel_rfl) (fun hc5 => ?_) (fun hc5 => ?_)
          · have h := if_t h hc5
            refine k_seq ?_
            refine k_reg ?_
            refine mops_sg 1 hf7 (by kernel_rfl) fun f8 hf8 => ?_
            obtain ⟨r_6, hx_r_6, h⟩ := Option.bind_eq_some_iff.1 h
            refine mops_call rfl hf8 (av := [.s (.int .u8 (Int.fdiv code_ (2 ^ (4))))]) (by kernel_rfl) (v := .s (.int .i64 r_6)) (CalL.pure (page_column_ok (Int.fdiv code_ (2 ^ (4))) r_6 hx_r_6) rfl rfl (Nat.le_of_ble_eq_true (by kernel_rfl))) (fun _ => rfl) fun f9 hf9 => ?_
            obtain ⟨r_7, hx_r_7, h⟩ := Option.bind_eq_some_iff.1 h
            refine mops_call rfl hf9 (av := [.s (.int .i64 25), .s (.int .i64 r_6), .s (.int .i64 2)]) (by kernel_rfl) (v := .agg [.s (.int .i64 r_7.Op), .s (.int .i64 r_7.Mode), .s (.int .i64 r_7.Reg)]) (CalL.pure (page_wide_ok (25) r_6 (2) r_7 hx_r_7) rfl rfl (Nat.le_of_ble_eq_true (by kernel_rfl))) (fun _ => rfl) fun f10 hf10 => ?_
            refine mops_en hf10 (by kernel_rfl) fun f11 hf11 => ?_
            refine k_c ?_
            refine k_ret ?_
            refine x_br ?_
            refine x_c nofun ?_
            obtain rfl := Option.some.inj h
            exact k_fin (fin_ret (.inl rfl) hf11 (vs := [.agg [.s (.int .i64 r_7.Op), .s (.int .i64 r_7.Mode), .s (.int .i64 r_7.Reg)]]) (by kernel_rfl) (SettL.pure (FzL.stat rfl)))
          · have h := if_f h hc5
            refine k_seq ?_
            refine k_reg ?_
            refine mops_en hf7 (by kernel_rfl) fun f8 hf8 => ?_
            refine k_c ?_
            refine k_cond hf8 (t := ((decide (12 ≤ (Int.fdiv code_ (2 ^ (4))))) && ((bits .and .u8 code_ 15) == 14))) (by kernel_rfl) (fun hc6 => ?_) (fun hc6 => ?_)
            · have h := if_t h hc6
              refine k_seq ?_
              refine k_reg ?_
              refine mops_sg 1 hf8 (by kernel_rfl) fun f9 hf9 => ?_
              obtain ⟨r_8, hx_r_8, h⟩ := Option.bind_eq_some_iff.1 h
              refine mops_call rfl hf9 (av := [.s (.int .u8 (Int.fdiv code_ (2 ^ (4))))]) (by kernel_rfl) (v := .s (.int .i64 r_8)) (CalL.pure (page_column_ok (Int.fdiv code_ (2 ^ (4))) r_8 hx_r_8) rfl rfl (Nat.le_of_ble_eq_true (by kernel_rfl))) (fun _ => rfl) fun f10 hf10 => ?_
              obtain ⟨r_9, hx_r_9, h⟩ := Option.bind_eq_some_iff.1 h
              refine mops_call rfl hf10 (av := [.s (.int .i64 24), .s (.int .i64 r_8), .s (.int .i64 4)]) (by kernel_rfl) (v := .agg [.s (.int .i64 r_9.Op), .s (.int .i64 r_9.Mode), .s (.int .i64 r_9.Reg)]) (CalL.pure (page_wide_ok (24) r_8 (4) r_9 hx_r_9) rfl rfl (Nat.le_of_ble_eq_true (by kernel_rfl))) (fun _ => rfl) fun f11 hf11 => ?_
              refine mops_en hf11 (by kernel_rfl) fun f12 hf12 => ?_
              refine k_c ?_
              refine k_ret ?_
              refine x_br ?_
              refine x_c nofun ?_
              obtain rfl := Option.some.inj h
              exact k_fin (fin_ret (.inl rfl) hf12 (vs := [.agg [.s (.int .i64 r_9.Op), .s (.int .i64 r_9.Mode), .s (.int .i64 r_9.Reg)]]) (by kernel_rfl) (SettL.pure (FzL.stat rfl)))
            · have h := if_f h hc6
              refine k_seq ?_
              refine k_reg ?_
              refine mops_en hf8 (by kernel_rfl) fun f9 hf9 => ?_
              refine k_c ?_
              refine k_cond hf9 (t := ((decide (12 ≤ (Int.fdiv code_ (2 ^ (4))))) && ((bits .and .u8 code_ 15) == 15))) (by kernel_rfl) (fun hc7 => ?_) (fun hc7 => ?_)
              · have h := if_t h hc7
                refine k_seq ?_
                refine k_reg ?_
                refine mops_sg 1 hf9 (by kernel_rfl) fun f10 hf10 => ?_
                obtain ⟨r_10, hx_r_10, h⟩ := Option.bind_eq_some_iff.1 h
                refine mops_call rfl hf10 (av := [.s (.int .u8 (Int.fdiv code_ (2 ^ (4))))]) (by kernel_rfl) (v := .s (.int .i64 r_10)) (CalL.pure (page_column_ok (Int.fdiv code_ (2 ^ (4))) r_10 hx_r_10) rfl rfl (Nat.le_of_ble_eq_true (by kernel_rfl))) (fun _ => rfl) fun f11 hf11 => ?_
                obtain ⟨r_11, hx_r_11, h⟩ := Option.bind_eq_some_iff.1 h
                refine mops_call rfl hf11 (av := [.s (.int .i64 25), .s (.int .i64 r_10), .s (.int .i64 4)]) (by kernel_rfl) (v := .agg [.s (.int .i64 r_11.Op), .s (.int .i64 r_11.Mode), .s (.int .i64 r_11.Reg)]) (CalL.pure (page_wide_ok (25) r_10 (4) r_11 hx_r_11) rfl rfl (Nat.le_of_ble_eq_true (by kernel_rfl))) (fun _ => rfl) fun f12 hf12 => ?_
                refine mops_en hf12 (by kernel_rfl) fun f13 hf13 => ?_
                refine k_c ?_
                refine k_ret ?_
                refine x_br ?_
                refine x_c nofun ?_
                obtain rfl := Option.some.inj h
                exact k_fin (fin_ret (.inl rfl) hf13 (vs := [.agg [.s (.int .i64 r_11.Op), .s (.int .i64 r_11.Mode), .s (.int .i64 r_11.Reg)]]) (by kernel_rfl) (SettL.pure (FzL.stat rfl)))
              · have h := if_f h hc7
                refine k_skip ?_
                refine k_b ?_
                refine k_c ?_
                refine k_seq ?_
                refine k_reg ?_
                refine mops_en hf9 (by kernel_rfl) fun f10 hf10 => ?_
                refine k_c ?_
                refine k_ret ?_
                obtain rfl := Option.some.inj h
                exact k_fin (fin_ret (.inl rfl) hf10 (vs := [.agg [.s (.int .i64 0), .s (.int .i64 0), .s (.int .i64 0)]]) (by kernel_rfl) (SettL.pure (FzL.stat rfl)))
def page_third_i0 : List Op1 := [(oE 2 (.zero [(.int .i64 0), (.int .i64 0), (.int .i64 0)]) [])]
def page_third_i1 : List Op1 := [(oM 5 (.t 0) []), (oE 6 (.bin .shr (.t 5) (.k (.int .u64 4))) [0]), (oM 7 (.t 0) []), (oE 8 (.bin .and (.t 7) (.k (.int .u8 15))) [2]), (oM 3 (.t 6) [1, 0, 1]), (oM 4 (.t 8) [3, 4, 0, 1, 2, 3, 4])]
def page_third_i2 : List Op1 := [(oM 10 (.t 3) []), (oE 11 (.bin .geq (.t 10) (.k (.int .u8 8))) [0]), (oM 12 (.t 11) [1]), (oG 13 (.mv (.t 3)) 12 true [2]), (oG 14 (.bin .lss (.t 13) (.k (.int .u8 12))) 12 true [3, 2]), (oE 15 (.pick (.t 12) (.t 14) (.k (.bool false))) [2, 4]), (oM 16 (.t 15) [5, 2]), (oG 17 (.mv (.t 4)) 16 true [6]), (oG 18 (.bin .eql (.t 17) (.k (.int .u8 3))) 16 true [7, 6]), (oE 19 (.pick (.t 16) (.t 18) (.k (.bool false))) [6, 8]), (oM 9 (.t 19) [9, 6])]
def page_third_i3 : List Op1 := [(oM 20 (.t 3) []), (oC 21 41 [(.t 20)] [0]), (oC 22 40 [(.k (.int .i64 28)), (.t 21), (.k (.int .i64 3))] [1, 1]), (oN (.store 3 (.t 2) (.t 22)) [2, 2, 0, 1, 2])]
def page_third_i4 : IR := .ret
def page_third_i5 : List Op1 := [(oM 24 (.t 3) []), (oE 25 (.bin .geq (.t 24) (.k (.int .u8 8))) [0]), (oM 26 (.t 25) [1]), (oG 27 (.mv (.t 3)) 26 true [2]), (oG 28 (.bin .lss (.t 27) (.k (.int .u8 12))) 26 true [3, 2]), (oE 29 (.pick (.t 26) (.t 28) (.k (.bool false))) [2, 4]), (oM 30 (.t 29) [5, 2]), (oG 31 (.mv (.t 4)) 30 true [6]), (oG 32 (.bin .eql (.t 31) (.k (.int .u8 12))) 30 true [7, 6]), (oE 33 (.pick (.t 30) (.t 32) (.k (.bool false))) [6, 8]), (oM 23 (.t 33) [9, 6])]
def page_third_i6 : List Op1 := [(oM 34 (.t 3) []), (oC 35 41 [(.t 34)] [0]), (oC 36 40 [(.k (.int .i64 28)), (.t 35), (.k (.int .i64 4))] [1, 1]), (oN (.store 3 (.t 2) (.t 36)) [2, 2, 0, 1, 2])]
def page_third_i7 : IR := .ret
def page_third_i8 : IR := (.cond (.t 23) (.seq (.reg false page_third_i6) page_third_i7) .skip)
def page_third_i9 : IR := (.cond (.t 9) (.seq (.reg false page_third_i3) page_third_i4) (.seq (.reg false page_third_i5) page_third_i8))
def page_third_i10 : List Op1 := [(oE 37 (.build [(.int .i64 0), (.int .i64 0), (.int .i64 0)] []) []), (oN (.store 3 (.t 2) (.t 37)) [0, 0])]
def page_third_i11 : IR := .ret
def page_third_i12 : IR := (.seq (.reg false page_third_i10) page_third_i11)
def page_third_i13 : IR := (.seq (.block 0 (.seq (.reg false page_third_i2) page_third_i9)) page_third_i12)
def page_third_i14 : IR := (.seq (.reg false page_third_i1) page_third_i13)
def page_third_ir : IR := (.seq (.reg false page_third_i0) page_third_i14)
theorem page_third_cfn : cFn Try.prog 27 = some (page_third_ir, [(.c 2 true 3)], 38) := by kernel_rfl
def page_third_V (r : (api_Entry)) : V := .agg [.s (.int .i64 r.Op), .s (.int .i64 r.Mode), .s (.int .i64 r.Reg)]
def page_third_C (r : (api_Entry)) : X → Fr → Hp → Prop := FinL [(.c 2 true 3)] [] (page_third_V r) []
theorem page_third_ok (code_ : Int) (r : (api_Entry)) (h : page_third code_ = some r) : Pure Try.prog 27 [.s (.int .u8 code_)] (page_third_V r) := by
  refine ConL.of page_third_cfn (Nat.le_of_ble_eq_true (by kernel_rfl)) (Nat.le_of_ble_eq_true (by kernel_rfl)) ?_
  refine k_start ?_
  show dwv Try.prog [] page_third_ir (kont Try.prog [] (page_third_C r) []) (fr0 [.s (.int .u8 code_)]) []
  have hf : FOk (fr0 [.s (.int .u8 code_)]) [⟨0, [], .s (.int .u8 code_)⟩] := ⟨⟨fun _ => rfl, fun h => (h trivial).elim⟩, trivial⟩
  generalize fr0 [.s (.int .u8 code_)] = f at hf ⊢
  unfold page_third at h
  refine k_seq ?_
  refine k_reg ?_
  refine mops_en hf (by kernel_rfl) fun f1 hf1 => ?_
  refine k_c ?_
  refine k_seq ?_
  refine k_reg ?_
  refine mops_en hf1 (by kernel_rfl) fun f2 hf2 => ?_
  refine k_c ?_
  refine k_seq ?_
  refine k_block ?_
  refine k_seq ?_
  refine k_reg ?_
  refine mops_en hf2 (by kernel_rfl) fun f3 hf3 => ?_
  refine k_c ?_
  refine k_cond hf3 (t := (((decide (8 ≤ (Int.fdiv code_ (2 ^ (4))))) && (decide ((Int.fdiv code_ (2 ^ (4))) < 12))) && ((bits .and .u8 code_ 15) == 3))) (by kernel_rfl) (fun hc1 => ?_) (fun hc1 => ?_)
  · have h := if_t h hc1
    refine k_seq ?_
    refine k_reg ?_
    refine mops_sg 1 hf3 (by kernel_rfl) fun f4 hf4 => ?_
    obtain ⟨r_, hx_r_, h⟩ := Option.bind_eq_some_iff.1 h
    refine mops_call rfl hf4 (av := [.s (.int .u8 (Int.fdiv code_ (2 ^ (4))))]) (by kernel_rfl) (v := .s (.int .i64 r_)) (CalL.pure (page_column_ok (Int.fdiv code_ (2 ^ (4))) r_ hx_r_) rfl rfl (Nat.le_of_ble_eq_true (by kernel_rfl))) (fun _ => rfl) fun f5 hf5 => ?_
    obtain ⟨r_1, hx_r_1, h⟩ := Option.bind_eq_some_iff.1 h
    refine mops_call rfl hf5 (av := [.s (.int .i64 28), .s (.int .i64 r_), .s (.int .i64 3)]) (by kernel_rfl) (v := .agg [.s (.int .i64 r_1.Op), .s (.int .i64 r_1.Mode), .s (.int .i64 r_1.Reg)]) (CalL.pure (page_wide_ok (28) r_ (3) r_1 hx_r_1) rfl rfl (Nat.le_of_ble_eq_true (by kernel_rfl))) (fun _ => rfl) fun f6 hf6 => ?_
    refine mops_en hf6 (by kernel_rfl) fun f7 hf7 => ?_
    refine k_c ?_
    refine k_ret ?_
    refine x_br ?_
    refine x_c nofun ?_
    obtain rfl := Option.some.inj h
    exact k_fin (fin_ret (.inl rfl) hf7 (vs := [.agg [.s (.int .i64 r_1.Op), .s (.int .i64 r_1.Mode), .s (.int .i64 r_1.Reg)]]) (by kernel_rfl) (SettL.pure (FzL.stat rfl)))
  · have h := if_f h hc1
    refine k_seq ?_
    refine k_reg ?_
    refine mops_en hf3 (by kernel_rfl) fun f4 hf4 => ?_
    refine k_c ?_
    refine k_cond hf4 (t := (((decide (8 ≤ (Int.fdiv code_ (2 ^ (4))))) && (decide ((Int.fdiv code_ (2 ^ (4))) < 12))) && ((bits .and .u8 code_ 15) == 12))) (by kernel_rfl) (fun hc2 => ?_) (fun hc2 => ?_)
    · have h := if_t h hc2
      refine k_seq ?_
      refine k_reg ?_
      refine mops_sg 1 hf4 (by kernel_rfl) fun f5 hf5 => ?_
      obtain ⟨r_2, hx_r_2, h⟩ := Option.bind_eq_some_iff.1 h
      refine mops_call rfl hf5 (av := [.s (.int .u8 (Int.fdiv code_ (2 ^ (4))))]) (by kernel_rfl) (v := .s (.int .i64 r_2)) (CalL.pure (page_column_ok (Int.fdiv code_ (2 ^ (4))) r_2 hx_r_2) rfl rfl (Nat.le_of_ble_eq_true (by kernel_rfl))) (fun _ => rfl) fun f6 hf6 => ?_
      obtain ⟨r_3, hx_r_3, h⟩ := Option.bind_eq_some_iff.1 h
      refine mops_call rfl hf6 (av := [.s (.int .i64 28), .s (.int .i64 r_2), .s (.int .i64 4)]) (by kernel_rfl) (v := .agg [.s (.int .i64 r_3.Op), .s (.int .i64 r_3.Mode), .s (.int .i64 r_3.Reg)]) (CalL.pure (page_wide_ok (28) r_2 (4) r_3 hx_r_3) rfl rfl (Nat.le_of_ble_eq_true (by kernel_rfl))) (fun _ => rfl) fun f7 hf7 => ?_
      refine mops_en hf7 (by kernel_rfl) fun f8 hf8 => ?_
      refine k_c ?_
      refine k_ret ?_
      refine x_br ?_
      refine x_c nofun ?_
      obtain rfl := Option.some.inj h
      exact k_fin (fin_ret (.inl rfl) hf8 (vs := [.agg [.s (.int .i64 r_3.Op), .s (.int .i64 r_3.Mode), .s (.int .i64 r_3.Reg)]]) (by kernel_rfl) (SettL.pure (FzL.stat rfl)))
    · have h := if_f h hc2
      refine k_skip ?_
      refine k_b ?_
      refine k_c ?_
      refine k_seq ?_
      refine k_reg ?_
      refine mops_en hf4 (by kernel_rfl) fun f5 hf5 => ?_
      refine k_c ?_
      refine k_ret ?_
      obtain rfl := Option.some.inj h
      exact k_fin (fin_ret (.inl rfl) hf5 (vs := [.agg [.s (.int .i64 0), .s (.int .i64 0), .s (.int .i64 0)]]) (by kernel_rfl) (SettL.pure (FzL.stat rfl)))
end Go.Proofs.YtmabdijipkmmkaaK
