/- The Go functions come to the functions over typed data. Printed by a program of this work. -/
import Derived.Test.YtjaadpgmiejidaaF
import Derived.Test.YtjaadpgmiejidaaProg
import Derived.Test.YtjaadpgmiejidaaG9
import Derived.Test.YtjaadpgmiejidaaG10
import Derived.Test.YtjaadpgmiejidaaG11
namespace Go.Proofs.YtjaadpgmiejidaaK
set_option linter.unusedVariables false
set_option linter.unusedSimpArgs false
set_option maxHeartbeats 4000000
open Go.RowKit
attribute [local irreducible] dwv mops lops lqops lwops kont iter run runK ex E1 vals val chain chB sel resF
def page_Of_i0 : List Op1 := [⟨(some 4), (.e (.zero [(.int .i64 0), (.int .i64 0), (.int .i64 0)])), none, []⟩]
def page_Of_i1 : List Op1 := [⟨(some 6), (.e (.mv (.t 0))), none, []⟩, ⟨(some 7), (.e (.bin .eql (.t 6) (.k (.int .i64 2)))), none, [0]⟩, ⟨(some 8), (.e (.mv (.t 7))), none, [1]⟩, ⟨(some 9), (.e (.mv (.t 0))), (some (8, false)), [2]⟩, ⟨(some 10), (.e (.bin .eql (.t 9) (.k (.int .i64 3)))), (some (8, false)), [3, 2]⟩, ⟨(some 11), (.e (.pick (.t 8) (.k (.bool true)) (.t 10))), none, [2, 4]⟩, ⟨(some 12), (.e (.mv (.t 11))), none, [5, 2]⟩, ⟨(some 13), (.e (.mv (.t 1))), (some (12, true)), [6]⟩, ⟨(some 14), (.e (.bin .eql (.t 13) (.k (.int .u8 63)))), (some (12, true)), [7, 6]⟩, ⟨(some 15), (.e (.pick (.t 12) (.t 14) (.k (.bool false)))), none, [6, 8]⟩, ⟨(some 5), (.e (.mv (.t 15))), none, [9, 6]⟩]
def page_Of_i2 : List Op1 := [⟨(some 16), (.e (.mv (.t 0))), none, []⟩, ⟨(some 17), (.e (.build [(.int .i64 0), (.int .i64 0), (.int .i64 0)] [(0, (1, (.k (.int .i64 51)))), (2, (1, (.t 16)))])), none, [0]⟩, ⟨none, (.e (.store 3 (.t 4) (.t 17))), none, [1, 0, 1]⟩]
def page_Of_i3 : IR := .ret
def page_Of_i4 : List Op1 := [⟨(some 19), (.e (.mv (.t 0))), none, []⟩, ⟨(some 20), (.e (.bin .eql (.t 19) (.k (.int .i64 1)))), none, [0]⟩, ⟨(some 18), (.e (.mv (.t 20))), none, [1]⟩]
def page_Of_i5 : List Op1 := [⟨(some 21), (.e (.mv (.t 1))), none, []⟩, ⟨(some 22), (.call 13 [(.t 21)]), none, [0]⟩, ⟨none, (.e (.store 3 (.t 4) (.t 22))), none, [1, 1, 0, 1]⟩]
def page_Of_i6 : IR := .ret
def page_Of_i7 : List Op1 := [⟨(some 24), (.e (.mv (.t 0))), none, []⟩, ⟨(some 25), (.e (.bin .eql (.t 24) (.k (.int .i64 2)))), none, [0]⟩, ⟨(some 23), (.e (.mv (.t 25))), none, [1]⟩]
def page_Of_i8 : List Op1 := [⟨(some 26), (.e (.mv (.t 1))), none, []⟩, ⟨(some 27), (.call 14 [(.t 26)]), none, [0]⟩, ⟨none, (.e (.store 3 (.t 4) (.t 27))), none, [1, 1, 0, 1]⟩]
def page_Of_i9 : IR := .ret
def page_Of_i10 : List Op1 := [⟨(some 29), (.e (.mv (.t 0))), none, []⟩, ⟨(some 30), (.e (.bin .eql (.t 29) (.k (.int .i64 3)))), none, [0]⟩, ⟨(some 28), (.e (.mv (.t 30))), none, [1]⟩]
def page_Of_i11 : List Op1 := [⟨(some 31), (.e (.mv (.t 1))), none, []⟩, ⟨(some 32), (.call 15 [(.t 31)]), none, [0]⟩, ⟨none, (.e (.store 3 (.t 4) (.t 32))), none, [1, 1, 0, 1]⟩]
def page_Of_i12 : IR := .ret
def page_Of_i13 : IR := (.cond (.t 28) (.seq (.reg false page_Of_i11) page_Of_i12) .skip)
def page_Of_i14 : IR := (.cond (.t 23) (.seq (.reg false page_Of_i8) page_Of_i9) (.seq (.reg false page_Of_i10) page_Of_i13))
def page_Of_i15 : IR := (.cond (.t 18) (.seq (.reg false page_Of_i5) page_Of_i6) (.seq (.reg false page_Of_i7) page_Of_i14))
def page_Of_i16 : IR := (.cond (.t 5) (.seq (.reg false page_Of_i2) page_Of_i3) (.seq (.reg false page_Of_i4) page_Of_i15))
def page_Of_i17 : List Op1 := [⟨(some 33), (.e (.build [(.int .i64 0), (.int .i64 0), (.int .i64 0)] [])), none, []⟩, ⟨none, (.e (.store 3 (.t 4) (.t 33))), none, [0, 0]⟩]
def page_Of_i18 : IR := .ret
def page_Of_i19 : IR := (.seq (.reg false page_Of_i17) page_Of_i18)
def page_Of_i20 : IR := (.seq (.block 0 (.seq (.reg false page_Of_i1) page_Of_i16)) page_Of_i19)
def page_Of_ir : IR := (.seq (.reg false page_Of_i0) page_Of_i20)
theorem page_Of_cfn : cFn Try.prog 8 = some (page_Of_ir, [(.c 4 true 3)], 34) := by kernel_rfl
def page_Of_V (r : (api_Entry)) : V := .agg [.s (.int .i64 r.Op), .s (.int .i64 r.Mode), .s (.int .i64 r.Reg)]
def page_Of_C (r : (api_Entry)) : X → Fr → Hp → Prop := FinL [(.c 4 true 3)] [] (page_Of_V r) []
theorem page_Of_ok (page_ : Int) (code_ : Int) (r : (api_Entry)) (h : page_Of page_ code_ = some r) : Pure Try.prog 8 [.s (.int .i64 page_), .s (.int .u8 code_)] (page_Of_V r) := by
  refine ConL.of page_Of_cfn (Nat.le_of_ble_eq_true (by kernel_rfl)) (Nat.le_of_ble_eq_true (by kernel_rfl)) ?_
  refine k_start ?_
  show dwv Try.prog [] page_Of_ir (kont Try.prog [] (page_Of_C r) []) (fr0 [.s (.int .i64 page_), .s (.int .u8 code_)]) []
  have hf : FOk (fr0 [.s (.int .i64 page_), .s (.int .u8 code_)]) [⟨0, [], .s (.int .i64 page_)⟩, ⟨1, [], .s (.int .u8 code_)⟩] := ⟨⟨fun _ => rfl, fun h => (h trivial).elim⟩, ⟨fun _ => rfl, fun h => (h trivial).elim⟩, trivial⟩
  generalize fr0 [.s (.int .i64 page_), .s (.int .u8 code_)] = f at hf ⊢
  unfold page_Of at h
  refine k_seq ?_
  refine k_reg ?_
  refine mops_end [0, 1, 4] hf (l' := [⟨0, [], .s (.int .i64 page_)⟩, ⟨1, [], .s (.int .u8 code_)⟩, ⟨4, [], .ptr 0 0 0⟩]) (L' := [⟨0, .mem, 1, [.s (.int .i64 0), .s (.int .i64 0), .s (.int .i64 0)]⟩]) (by kernel_rfl) fun f1 hf1 => ?_
  refine k_c ?_
  refine k_seq ?_
  refine k_block ?_
  refine k_seq ?_
  refine k_reg ?_
  refine mops_end [0, 1, 4, 5] hf1 (l' := [⟨0, [], .s (.int .i64 page_)⟩, ⟨1, [], .s (.int .u8 code_)⟩, ⟨4, [], .ptr 0 0 0⟩, ⟨5, [], .s (.bool (((page_ == 2) || (page_ == 3)) && (code_ == 63)))⟩]) (L' := [⟨0, .mem, 1, [.s (.int .i64 0), .s (.int .i64 0), .s (.int .i64 0)]⟩]) (by kernel_rfl) fun f2 hf2 => ?_
  refine k_c ?_
  refine k_cond hf2 (t := (((page_ == 2) || (page_ == 3)) && (code_ == 63))) (by kernel_rfl) (fun hc1 => ?_) (fun hc1 => ?_)
  · have h := if_t h hc1
    refine k_seq ?_
    refine k_reg ?_
    refine mops_end [4] hf2 (l' := [⟨4, [], .ptr 0 0 0⟩]) (L' := [⟨0, .mem, 1, [.s (.int .i64 51), .s (.int .i64 0), .s (.int .i64 page_)]⟩]) (by kernel_rfl) fun f3 hf3 => ?_
    refine k_c ?_
    refine k_ret ?_
    refine x_br ?_
    refine x_c nofun ?_
    obtain rfl := Option.some.inj h
    exact k_fin (fin_ret (.inl rfl) hf3 (vs := [.agg [.s (.int .i64 51), .s (.int .i64 0), .s (.int .i64 page_)]]) (by kernel_rfl) (SettL.pure (FzL.stat rfl)))
  · have h := if_f h hc1
    refine k_seq ?_
    refine k_reg ?_
    refine mops_end [0, 1, 4, 18] hf2 (l' := [⟨0, [], .s (.int .i64 page_)⟩, ⟨1, [], .s (.int .u8 code_)⟩, ⟨4, [], .ptr 0 0 0⟩, ⟨18, [], .s (.bool (page_ == 1))⟩]) (L' := [⟨0, .mem, 1, [.s (.int .i64 0), .s (.int .i64 0), .s (.int .i64 0)]⟩]) (by kernel_rfl) fun f3 hf3 => ?_
    refine k_c ?_
    refine k_cond hf3 (t := (page_ == 1)) (by kernel_rfl) (fun hc2 => ?_) (fun hc2 => ?_)
    · have h := if_t h hc2
      refine k_seq ?_
      refine k_reg ?_
      refine mops_seg [4, 21] 1 hf3 (l' := [⟨4, [], .ptr 0 0 0⟩, ⟨21, [], .s (.int .u8 code_)⟩]) (L' := [⟨0, .mem, 1, [.s (.int .i64 0), .s (.int .i64 0), .s (.int .i64 0)]⟩]) (by kernel_rfl) fun f4 hf4 => ?_
      obtain ⟨r_, hx_r_, h⟩ := Option.bind_eq_some_iff.1 h
      refine mops_call (dst := (some 22)) (m := 13) (args := [(.t 21)]) (aft := [0]) (by kernel_rfl) hf4 (av := [.s (.int .u8 code_)]) (by kernel_rfl) (v := .agg [.s (.int .i64 r_.Op), .s (.int .i64 r_.Mode), .s (.int .i64 r_.Reg)]) (L' := [⟨0, .mem, 1, [.s (.int .i64 0), .s (.int .i64 0), .s (.int .i64 0)]⟩]) (CalL.pure (page_first_ok code_ r_ hx_r_) rfl rfl (Nat.le_of_ble_eq_true (by kernel_rfl))) (fun _ => rfl) fun f5 hf5 => ?_
      refine mops_end [4] hf5 (l' := [⟨4, [], .ptr 0 0 0⟩]) (L' := [⟨0, .mem, 1, [.s (.int .i64 r_.Op), .s (.int .i64 r_.Mode), .s (.int .i64 r_.Reg)]⟩]) (by kernel_rfl) fun f6 hf6 => ?_
      refine k_c ?_
      refine k_ret ?_
      refine x_br ?_
      refine x_c nofun ?_
      obtain rfl := Option.some.inj h
      exact k_fin (fin_ret (.inl rfl) hf6 (vs := [.agg [.s (.int .i64 r_.Op), .s (.int .i64 r_.Mode), .s (.int .i64 r_.Reg)]]) (by kernel_rfl) (SettL.pure (FzL.stat rfl)))
    · have h := if_f h hc2
      refine k_seq ?_
      refine k_reg ?_
      refine mops_end [0, 1, 4, 23] hf3 (l' := [⟨0, [], .s (.int .i64 page_)⟩, ⟨1, [], .s (.int .u8 code_)⟩, ⟨4, [], .ptr 0 0 0⟩, ⟨23, [], .s (.bool (page_ == 2))⟩]) (L' := [⟨0, .mem, 1, [.s (.int .i64 0), .s (.int .i64 0), .s (.int .i64 0)]⟩]) (by kernel_rfl) fun f4 hf4 => ?_
      refine k_c ?_
      refine k_cond hf4 (t := (page_ == 2)) (by kernel_rfl) (fun hc3 => ?_) (fun hc3 => ?_)
      · have h := if_t h hc3
        refine k_seq ?_
        refine k_reg ?_
        refine mops_seg [4, 26] 1 hf4 (l' := [⟨4, [], .ptr 0 0 0⟩, ⟨26, [], .s (.int .u8 code_)⟩]) (L' := [⟨0, .mem, 1, [.s (.int .i64 0), .s (.int .i64 0), .s (.int .i64 0)]⟩]) (by kernel_rfl) fun f5 hf5 => ?_
        obtain ⟨r_1, hx_r_1, h⟩ := Option.bind_eq_some_iff.1 h
        refine mops_call (dst := (some 27)) (m := 14) (args := [(.t 26)]) (aft := [0]) (by kernel_rfl) hf5 (av := [.s (.int .u8 code_)]) (by kernel_rfl) (v := .agg [.s (.int .i64 r_1.Op), .s (.int .i64 r_1.Mode), .s (.int .i64 r_1.Reg)]) (L' := [⟨0, .mem, 1, [.s (.int .i64 0), .s (.int .i64 0), .s (.int .i64 0)]⟩]) (CalL.pure (page_second_ok code_ r_1 hx_r_1) rfl rfl (Nat.le_of_ble_eq_true (by kernel_rfl))) (fun _ => rfl) fun f6 hf6 => ?_
        refine mops_end [4] hf6 (l' := [⟨4, [], .ptr 0 0 0⟩]) (L' := [⟨0, .mem, 1, [.s (.int .i64 r_1.Op), .s (.int .i64 r_1.Mode), .s (.int .i64 r_1.Reg)]⟩]) (by kernel_rfl) fun f7 hf7 => ?_
        refine k_c ?_
        refine k_ret ?_
        refine x_br ?_
        refine x_c nofun ?_
        obtain rfl := Option.some.inj h
        exact k_fin (fin_ret (.inl rfl) hf7 (vs := [.agg [.s (.int .i64 r_1.Op), .s (.int .i64 r_1.Mode), .s (.int .i64 r_1.Reg)]]) (by kernel_rfl) (SettL.pure (FzL.stat rfl)))
      · have h := if_f h hc3
        refine k_seq ?_
        refine k_reg ?_
        refine mops_end [1, 4, 28] hf4 (l' := [⟨1, [], .s (.int .u8 code_)⟩, ⟨4, [], .ptr 0 0 0⟩, ⟨28, [], .s (.bool (page_ == 3))⟩]) (L' := [⟨0, .mem, 1, [.s (.int .i64 0), .s (.int .i64 0), .s (.int .i64 0)]⟩]) (by kernel_rfl) fun f5 hf5 => ?_
        refine k_c ?_
        refine k_cond hf5 (t := (page_ == 3)) (by kernel_rfl) (fun hc4 => ?_) (fun hc4 => ?_)
        · have h := if_t h hc4
          refine k_seq ?_
          refine k_reg ?_
          refine mops_seg [4, 31] 1 hf5 (l' := [⟨4, [], .ptr 0 0 0⟩, ⟨31, [], .s (.int .u8 code_)⟩]) (L' := [⟨0, .mem, 1, [.s (.int .i64 0), .s (.int .i64 0), .s (.int .i64 0)]⟩]) (by kernel_rfl) fun f6 hf6 => ?_
          obtain ⟨r_2, hx_r_2, h⟩ := Option.bind_eq_some_iff.1 h
          refine mops_call (dst := (some 32)) (m := 15) (args := [(.t 31)]) (aft := [0]) (by kernel_rfl) hf6 (av := [.s (.int .u8 code_)]) (by kernel_rfl) (v := .agg [.s (.int .i64 r_2.Op), .s (.int .i64 r_2.Mode), .s (.int .i64 r_2.Reg)]) (L' := [⟨0, .mem, 1, [.s (.int .i64 0), .s (.int .i64 0), .s (.int .i64 0)]⟩]) (CalL.pure (page_third_ok code_ r_2 hx_r_2) rfl rfl (Nat.le_of_ble_eq_true (by kernel_rfl))) (fun _ => rfl) fun f7 hf7 => ?_
          refine mops_end [4] hf7 (l' := [⟨4, [], .ptr 0 0 0⟩]) (L' := [⟨0, .mem, 1, [.s (.int .i64 r_2.Op), .s (.int .i64 r_2.Mode), .s (.int .i64 r_2.Reg)]⟩]) (by kernel_rfl) fun f8 hf8 => ?_
          refine k_c ?_
          refine k_ret ?_
          refine x_br ?_
          refine x_c nofun ?_
          obtain rfl := Option.some.inj h
          exact k_fin (fin_ret (.inl rfl) hf8 (vs := [.agg [.s (.int .i64 r_2.Op), .s (.int .i64 r_2.Mode), .s (.int .i64 r_2.Reg)]]) (by kernel_rfl) (SettL.pure (FzL.stat rfl)))
        · have h := if_f h hc4
          refine k_skip ?_
          refine k_b ?_
          refine k_c ?_
          refine k_seq ?_
          refine k_reg ?_
          refine mops_end [4] hf5 (l' := [⟨4, [], .ptr 0 0 0⟩]) (L' := [⟨0, .mem, 1, [.s (.int .i64 0), .s (.int .i64 0), .s (.int .i64 0)]⟩]) (by kernel_rfl) fun f6 hf6 => ?_
          refine k_c ?_
          refine k_ret ?_
          obtain rfl := Option.some.inj h
          exact k_fin (fin_ret (.inl rfl) hf6 (vs := [.agg [.s (.int .i64 0), .s (.int .i64 0), .s (.int .i64 0)]]) (by kernel_rfl) (SettL.pure (FzL.stat rfl)))
end Go.Proofs.YtjaadpgmiejidaaK
