/- The Go functions come to the functions over typed data. Printed by a program of this work. -/
import Derived.Test.YtjaadpgmiejidaaF
import Derived.Test.YtjaadpgmiejidaaProg
import Derived.Test.YtjaadpgmiejidaaG5
import Derived.Test.YtjaadpgmiejidaaG6
namespace Go.Proofs.YtjaadpgmiejidaaK
set_option linter.unusedVariables false
set_option linter.unusedSimpArgs false
set_option maxHeartbeats 4000000
open Go.RowKit
attribute [local irreducible] dwv mops lops lqops lwops kont iter run runK ex E1 vals val chain chB sel resF
def page_third_i0 : List Op1 := [⟨(some 2), (.e (.zero [(.int .i64 0), (.int .i64 0), (.int .i64 0)])), none, []⟩]
def page_third_i1 : List Op1 := [⟨(some 5), (.e (.mv (.t 0))), none, []⟩, ⟨(some 6), (.e (.bin .shr (.t 5) (.k (.int .u64 4)))), none, [0]⟩, ⟨(some 7), (.e (.mv (.t 0))), none, []⟩, ⟨(some 8), (.e (.bin .and (.t 7) (.k (.int .u8 15)))), none, [2]⟩, ⟨(some 3), (.e (.mv (.t 6))), none, [1, 0, 1]⟩, ⟨(some 4), (.e (.mv (.t 8))), none, [3, 4, 0, 1, 2, 3, 4]⟩]
def page_third_i2 : List Op1 := [⟨(some 10), (.e (.mv (.t 3))), none, []⟩, ⟨(some 11), (.e (.bin .geq (.t 10) (.k (.int .u8 8)))), none, [0]⟩, ⟨(some 12), (.e (.mv (.t 11))), none, [1]⟩, ⟨(some 13), (.e (.mv (.t 3))), (some (12, true)), [2]⟩, ⟨(some 14), (.e (.bin .lss (.t 13) (.k (.int .u8 12)))), (some (12, true)), [3, 2]⟩, ⟨(some 15), (.e (.pick (.t 12) (.t 14) (.k (.bool false)))), none, [2, 4]⟩, ⟨(some 16), (.e (.mv (.t 15))), none, [5, 2]⟩, ⟨(some 17), (.e (.mv (.t 4))), (some (16, true)), [6]⟩, ⟨(some 18), (.e (.bin .eql (.t 17) (.k (.int .u8 3)))), (some (16, true)), [7, 6]⟩, ⟨(some 19), (.e (.pick (.t 16) (.t 18) (.k (.bool false)))), none, [6, 8]⟩, ⟨(some 9), (.e (.mv (.t 19))), none, [9, 6]⟩]
def page_third_i3 : List Op1 := [⟨(some 20), (.e (.mv (.t 3))), none, []⟩, ⟨(some 21), (.call 22 [(.t 20)]), none, [0]⟩, ⟨(some 22), (.call 21 [(.k (.int .i64 28)), (.t 21), (.k (.int .i64 3))]), none, [1, 1]⟩, ⟨none, (.e (.store 3 (.t 2) (.t 22))), none, [2, 2, 0, 1, 2]⟩]
def page_third_i4 : IR := .ret
def page_third_i5 : List Op1 := [⟨(some 24), (.e (.mv (.t 3))), none, []⟩, ⟨(some 25), (.e (.bin .geq (.t 24) (.k (.int .u8 8)))), none, [0]⟩, ⟨(some 26), (.e (.mv (.t 25))), none, [1]⟩, ⟨(some 27), (.e (.mv (.t 3))), (some (26, true)), [2]⟩, ⟨(some 28), (.e (.bin .lss (.t 27) (.k (.int .u8 12)))), (some (26, true)), [3, 2]⟩, ⟨(some 29), (.e (.pick (.t 26) (.t 28) (.k (.bool false)))), none, [2, 4]⟩, ⟨(some 30), (.e (.mv (.t 29))), none, [5, 2]⟩, ⟨(some 31), (.e (.mv (.t 4))), (some (30, true)), [6]⟩, ⟨(some 32), (.e (.bin .eql (.t 31) (.k (.int .u8 12)))), (some (30, true)), [7, 6]⟩, ⟨(some 33), (.e (.pick (.t 30) (.t 32) (.k (.bool false)))), none, [6, 8]⟩, ⟨(some 23), (.e (.mv (.t 33))), none, [9, 6]⟩]
def page_third_i6 : List Op1 := [⟨(some 34), (.e (.mv (.t 3))), none, []⟩, ⟨(some 35), (.call 22 [(.t 34)]), none, [0]⟩, ⟨(some 36), (.call 21 [(.k (.int .i64 28)), (.t 35), (.k (.int .i64 4))]), none, [1, 1]⟩, ⟨none, (.e (.store 3 (.t 2) (.t 36))), none, [2, 2, 0, 1, 2]⟩]
def page_third_i7 : IR := .ret
def page_third_i8 : IR := (.cond (.t 23) (.seq (.reg false page_third_i6) page_third_i7) .skip)
def page_third_i9 : IR := (.cond (.t 9) (.seq (.reg false page_third_i3) page_third_i4) (.seq (.reg false page_third_i5) page_third_i8))
def page_third_i10 : List Op1 := [⟨(some 37), (.e (.build [(.int .i64 0), (.int .i64 0), (.int .i64 0)] [])), none, []⟩, ⟨none, (.e (.store 3 (.t 2) (.t 37))), none, [0, 0]⟩]
def page_third_i11 : IR := .ret
def page_third_i12 : IR := (.seq (.reg false page_third_i10) page_third_i11)
def page_third_i13 : IR := (.seq (.block 0 (.seq (.reg false page_third_i2) page_third_i9)) page_third_i12)
def page_third_i14 : IR := (.seq (.reg false page_third_i1) page_third_i13)
def page_third_ir : IR := (.seq (.reg false page_third_i0) page_third_i14)
theorem page_third_cfn : cFn Try.prog 15 = some (page_third_ir, [(.c 2 true 3)], 38) := by kernel_rfl
def page_third_V (r : (api_Entry)) : V := .agg [.s (.int .i64 r.Op), .s (.int .i64 r.Mode), .s (.int .i64 r.Reg)]
def page_third_C (r : (api_Entry)) : X → Fr → Hp → Prop := FinL [(.c 2 true 3)] [] (page_third_V r) []
theorem page_third_ok (code_ : Int) (r : (api_Entry)) (h : page_third code_ = some r) : Pure Try.prog 15 [.s (.int .u8 code_)] (page_third_V r) := by
  refine ConL.of page_third_cfn (Nat.le_of_ble_eq_true (by kernel_rfl)) (Nat.le_of_ble_eq_true (by kernel_rfl)) ?_
  refine k_start ?_
  show dwv Try.prog [] page_third_ir (kont Try.prog [] (page_third_C r) []) (fr0 [.s (.int .u8 code_)]) []
  have hf : FOk (fr0 [.s (.int .u8 code_)]) [⟨0, [], .s (.int .u8 code_)⟩] := ⟨⟨fun _ => rfl, fun h => (h trivial).elim⟩, trivial⟩
  generalize fr0 [.s (.int .u8 code_)] = f at hf ⊢
  unfold page_third at h
  refine k_seq ?_
  refine k_reg ?_
  refine mops_end [0, 2] hf (l' := [⟨0, [], .s (.int .u8 code_)⟩, ⟨2, [], .ptr 0 0 0⟩]) (L' := [⟨0, .mem, 1, [.s (.int .i64 0), .s (.int .i64 0), .s (.int .i64 0)]⟩]) (by kernel_rfl) fun f1 hf1 => ?_
  refine k_c ?_
  refine k_seq ?_
  refine k_reg ?_
  refine mops_end [2, 3, 4] hf1 (l' := [⟨2, [], .ptr 0 0 0⟩, ⟨3, [], .s (.int .u8 (Int.fdiv code_ (2 ^ (4))))⟩, ⟨4, [], .s (.int .u8 (bits .and .u8 code_ 15))⟩]) (L' := [⟨0, .mem, 1, [.s (.int .i64 0), .s (.int .i64 0), .s (.int .i64 0)]⟩]) (by kernel_rfl) fun f2 hf2 => ?_
  refine k_c ?_
  refine k_seq ?_
  refine k_block ?_
  refine k_seq ?_
  refine k_reg ?_
  refine mops_end [2, 3, 4, 9] hf2 (l' := [⟨2, [], .ptr 0 0 0⟩, ⟨3, [], .s (.int .u8 (Int.fdiv code_ (2 ^ (4))))⟩, ⟨4, [], .s (.int .u8 (bits .and .u8 code_ 15))⟩, ⟨9, [], .s (.bool (((decide (8 ≤ (Int.fdiv code_ (2 ^ (4))))) && (decide ((Int.fdiv code_ (2 ^ (4))) < 12))) && ((bits .and .u8 code_ 15) == 3)))⟩]) (L' := [⟨0, .mem, 1, [.s (.int .i64 0), .s (.int .i64 0), .s (.int .i64 0)]⟩]) (by kernel_rfl) fun f3 hf3 => ?_
  refine k_c ?_
  refine k_cond hf3 (t := (((decide (8 ≤ (Int.fdiv code_ (2 ^ (4))))) && (decide ((Int.fdiv code_ (2 ^ (4))) < 12))) && ((bits .and .u8 code_ 15) == 3))) (by kernel_rfl) (fun hc1 => ?_) (fun hc1 => ?_)
  · have h := if_t h hc1
    refine k_seq ?_
    refine k_reg ?_
    refine mops_seg [2, 20] 1 hf3 (l' := [⟨2, [], .ptr 0 0 0⟩, ⟨20, [], .s (.int .u8 (Int.fdiv code_ (2 ^ (4))))⟩]) (L' := [⟨0, .mem, 1, [.s (.int .i64 0), .s (.int .i64 0), .s (.int .i64 0)]⟩]) (by kernel_rfl) fun f4 hf4 => ?_
    obtain ⟨r_, hx_r_, h⟩ := Option.bind_eq_some_iff.1 h
    refine mops_call (dst := (some 21)) (m := 22) (args := [(.t 20)]) (aft := [0]) (by kernel_rfl) hf4 (av := [.s (.int .u8 (Int.fdiv code_ (2 ^ (4))))]) (by kernel_rfl) (v := .s (.int .i64 r_)) (L' := [⟨0, .mem, 1, [.s (.int .i64 0), .s (.int .i64 0), .s (.int .i64 0)]⟩]) (CalL.pure (page_column_ok (Int.fdiv code_ (2 ^ (4))) r_ hx_r_) rfl rfl (Nat.le_of_ble_eq_true (by kernel_rfl))) (fun _ => rfl) fun f5 hf5 => ?_
    obtain ⟨r_1, hx_r_1, h⟩ := Option.bind_eq_some_iff.1 h
    refine mops_call (dst := (some 22)) (m := 21) (args := [(.k (.int .i64 28)), (.t 21), (.k (.int .i64 3))]) (aft := [1, 1]) (by kernel_rfl) hf5 (av := [.s (.int .i64 28), .s (.int .i64 r_), .s (.int .i64 3)]) (by kernel_rfl) (v := .agg [.s (.int .i64 r_1.Op), .s (.int .i64 r_1.Mode), .s (.int .i64 r_1.Reg)]) (L' := [⟨0, .mem, 1, [.s (.int .i64 0), .s (.int .i64 0), .s (.int .i64 0)]⟩]) (CalL.pure (page_wide_ok (28) r_ (3) r_1 hx_r_1) rfl rfl (Nat.le_of_ble_eq_true (by kernel_rfl))) (fun _ => rfl) fun f6 hf6 => ?_
    refine mops_end [2] hf6 (l' := [⟨2, [], .ptr 0 0 0⟩]) (L' := [⟨0, .mem, 1, [.s (.int .i64 r_1.Op), .s (.int .i64 r_1.Mode), .s (.int .i64 r_1.Reg)]⟩]) (by kernel_rfl) fun f7 hf7 => ?_
    refine k_c ?_
    refine k_ret ?_
    refine x_br ?_
    refine x_c nofun ?_
    obtain rfl := Option.some.inj h
    exact k_fin (fin_ret (.inl rfl) hf7 (vs := [.agg [.s (.int .i64 r_1.Op), .s (.int .i64 r_1.Mode), .s (.int .i64 r_1.Reg)]]) (by kernel_rfl) (SettL.pure (FzL.stat rfl)))
  · have h := if_f h hc1
    refine k_seq ?_
    refine k_reg ?_
    refine mops_end [2, 3, 23] hf3 (l' := [⟨2, [], .ptr 0 0 0⟩, ⟨3, [], .s (.int .u8 (Int.fdiv code_ (2 ^ (4))))⟩, ⟨23, [], .s (.bool (((decide (8 ≤ (Int.fdiv code_ (2 ^ (4))))) && (decide ((Int.fdiv code_ (2 ^ (4))) < 12))) && ((bits .and .u8 code_ 15) == 12)))⟩]) (L' := [⟨0, .mem, 1, [.s (.int .i64 0), .s (.int .i64 0), .s (.int .i64 0)]⟩]) (by kernel_rfl) fun f4 hf4 => ?_
    refine k_c ?_
    refine k_cond hf4 (t := (((decide (8 ≤ (Int.fdiv code_ (2 ^ (4))))) && (decide ((Int.fdiv code_ (2 ^ (4))) < 12))) && ((bits .and .u8 code_ 15) == 12))) (by kernel_rfl) (fun hc2 => ?_) (fun hc2 => ?_)
    · have h := if_t h hc2
      refine k_seq ?_
      refine k_reg ?_
      refine mops_seg [2, 34] 1 hf4 (l' := [⟨2, [], .ptr 0 0 0⟩, ⟨34, [], .s (.int .u8 (Int.fdiv code_ (2 ^ (4))))⟩]) (L' := [⟨0, .mem, 1, [.s (.int .i64 0), .s (.int .i64 0), .s (.int .i64 0)]⟩]) (by kernel_rfl) fun f5 hf5 => ?_
      obtain ⟨r_2, hx_r_2, h⟩ := Option.bind_eq_some_iff.1 h
      refine mops_call (dst := (some 35)) (m := 22) (args := [(.t 34)]) (aft := [0]) (by kernel_rfl) hf5 (av := [.s (.int .u8 (Int.fdiv code_ (2 ^ (4))))]) (by kernel_rfl) (v := .s (.int .i64 r_2)) (L' := [⟨0, .mem, 1, [.s (.int .i64 0), .s (.int .i64 0), .s (.int .i64 0)]⟩]) (CalL.pure (page_column_ok (Int.fdiv code_ (2 ^ (4))) r_2 hx_r_2) rfl rfl (Nat.le_of_ble_eq_true (by kernel_rfl))) (fun _ => rfl) fun f6 hf6 => ?_
      obtain ⟨r_3, hx_r_3, h⟩ := Option.bind_eq_some_iff.1 h
      refine mops_call (dst := (some 36)) (m := 21) (args := [(.k (.int .i64 28)), (.t 35), (.k (.int .i64 4))]) (aft := [1, 1]) (by kernel_rfl) hf6 (av := [.s (.int .i64 28), .s (.int .i64 r_2), .s (.int .i64 4)]) (by kernel_rfl) (v := .agg [.s (.int .i64 r_3.Op), .s (.int .i64 r_3.Mode), .s (.int .i64 r_3.Reg)]) (L' := [⟨0, .mem, 1, [.s (.int .i64 0), .s (.int .i64 0), .s (.int .i64 0)]⟩]) (CalL.pure (page_wide_ok (28) r_2 (4) r_3 hx_r_3) rfl rfl (Nat.le_of_ble_eq_true (by kernel_rfl))) (fun _ => rfl) fun f7 hf7 => ?_
      refine mops_end [2] hf7 (l' := [⟨2, [], .ptr 0 0 0⟩]) (L' := [⟨0, .mem, 1, [.s (.int .i64 r_3.Op), .s (.int .i64 r_3.Mode), .s (.int .i64 r_3.Reg)]⟩]) (by kernel_rfl) fun f8 hf8 => ?_
      refine k_c ?_
      refine k_ret ?_
      refine x_br ?_
      refine x_c nofun ?_
      obtain rfl := Option.some.inj h
      exact k_fin (fin_ret (.inl rfl) hf8 (vs := [.agg [.s (.int .i64 r_3.Op), .s (.int .i64 r_3.Mode), .s (.int .i64 r_3.Reg)]]) (by kernel_rfl) (SettL.pure (FzL.stat rfl)))
    · have h := if_f h hc2
      refine k_skip ?_
      refine k_b ?_
      refine k_c ?_
      refine k_seq ?_
      refine k_reg ?_
      refine mops_end [2] hf4 (l' := [⟨2, [], .ptr 0 0 0⟩]) (L' := [⟨0, .mem, 1, [.s (.int .i64 0), .s (.int .i64 0), .s (.int .i64 0)]⟩]) (by kernel_rfl) fun f5 hf5 => ?_
      refine k_c ?_
      refine k_ret ?_
      obtain rfl := Option.some.inj h
      exact k_fin (fin_ret (.inl rfl) hf5 (vs := [.agg [.s (.int .i64 0), .s (.int .i64 0), .s (.int .i64 0)]]) (by kernel_rfl) (SettL.pure (FzL.stat rfl)))
end Go.Proofs.YtjaadpgmiejidaaK
