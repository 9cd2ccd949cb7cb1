/- The Go functions come to the functions over typed data. Printed by a program of this work. -/
import Derived.Test.YtjaadpgmiejidaaF
import Derived.Test.YtjaadpgmiejidaaProg
import Derived.Test.YtjaadpgmiejidaaG1
import Derived.Test.YtjaadpgmiejidaaG2
import Derived.Test.YtjaadpgmiejidaaG3
import Derived.Test.YtjaadpgmiejidaaG4
import Derived.Test.YtjaadpgmiejidaaG8
namespace Go.Proofs.YtjaadpgmiejidaaK
set_option linter.unusedVariables false
set_option linter.unusedSimpArgs false
set_option maxHeartbeats 4000000
open Go.RowKit
attribute [local irreducible] dwv mops lops lqops lwops kont iter run runK ex E1 vals val chain chB sel resF
def page_first_i0 : List Op1 := [⟨(some 2), (.e (.zero [(.int .i64 0), (.int .i64 0), (.int .i64 0)])), none, []⟩]
def page_first_i1 : List Op1 := [⟨(some 5), (.e (.mv (.t 0))), none, []⟩, ⟨(some 6), (.e (.bin .shr (.t 5) (.k (.int .u64 4)))), none, [0]⟩, ⟨(some 7), (.e (.mv (.t 0))), none, []⟩, ⟨(some 8), (.e (.bin .and (.t 7) (.k (.int .u8 15)))), none, [2]⟩, ⟨(some 3), (.e (.mv (.t 6))), none, [1, 0, 1]⟩, ⟨(some 4), (.e (.mv (.t 8))), none, [3, 4, 0, 1, 2, 3, 4]⟩]
def page_first_i2 : List Op1 := [⟨(some 9), (.e (.mv (.t 3))), none, []⟩]
def page_first_i3 : List Op1 := [⟨(some 11), (.e (.bin .eql (.t 9) (.k (.int .u8 0)))), none, []⟩, ⟨(some 10), (.e (.mv (.t 11))), none, [0]⟩]
def page_first_i4 : List Op1 := [⟨(some 12), (.e (.mv (.t 4))), none, []⟩, ⟨(some 13), (.call 16 [(.t 12), (.k (.int .i64 3))]), none, [0]⟩, ⟨none, (.e (.store 3 (.t 2) (.t 13))), none, [1, 1, 0, 1]⟩]
def page_first_i5 : IR := .ret
def page_first_i6 : List Op1 := [⟨(some 15), (.e (.bin .eql (.t 9) (.k (.int .u8 1)))), none, []⟩, ⟨(some 14), (.e (.mv (.t 15))), none, [0]⟩]
def page_first_i7 : List Op1 := [⟨(some 16), (.e (.mv (.t 4))), none, []⟩, ⟨(some 17), (.call 17 [(.t 16)]), none, [0]⟩, ⟨none, (.e (.store 3 (.t 2) (.t 17))), none, [1, 1, 0, 1]⟩]
def page_first_i8 : IR := .ret
def page_first_i9 : List Op1 := [⟨(some 19), (.e (.bin .eql (.t 9) (.k (.int .u8 2)))), none, []⟩, ⟨(some 18), (.e (.mv (.t 19))), none, [0]⟩]
def page_first_i10 : List Op1 := [⟨(some 20), (.e (.mv (.t 4))), none, []⟩, ⟨(some 21), (.e (.cint .i64 (.t 20))), none, [0]⟩, ⟨(some 22), (.e (.build [(.int .i64 0), (.int .i64 0), (.int .i64 0)] [(0, (1, (.k (.int .i64 34)))), (1, (1, (.k (.int .i64 6)))), (2, (1, (.t 21)))])), none, [1]⟩, ⟨none, (.e (.store 3 (.t 2) (.t 22))), none, [2, 0, 1, 2]⟩]
def page_first_i11 : IR := .ret
def page_first_i12 : List Op1 := [⟨(some 24), (.e (.bin .eql (.t 9) (.k (.int .u8 3)))), none, []⟩, ⟨(some 23), (.e (.mv (.t 24))), none, [0]⟩]
def page_first_i13 : List Op1 := [⟨(some 25), (.e (.mv (.t 4))), none, []⟩, ⟨(some 26), (.call 18 [(.t 25)]), none, [0]⟩, ⟨none, (.e (.store 3 (.t 2) (.t 26))), none, [1, 1, 0, 1]⟩]
def page_first_i14 : IR := .ret
def page_first_i15 : List Op1 := [⟨(some 28), (.e (.bin .eql (.t 9) (.k (.int .u8 4)))), none, []⟩, ⟨(some 27), (.e (.mv (.t 28))), none, [0]⟩]
def page_first_i16 : List Op1 := [⟨(some 29), (.e (.mv (.t 4))), none, []⟩, ⟨(some 30), (.call 19 [(.t 29), (.k (.int .i64 8))]), none, [0]⟩, ⟨none, (.e (.store 3 (.t 2) (.t 30))), none, [1, 1, 0, 1]⟩]
def page_first_i17 : IR := .ret
def page_first_i18 : List Op1 := [⟨(some 32), (.e (.bin .eql (.t 9) (.k (.int .u8 5)))), none, []⟩, ⟨(some 31), (.e (.mv (.t 32))), none, [0]⟩]
def page_first_i19 : List Op1 := [⟨(some 33), (.e (.mv (.t 4))), none, []⟩, ⟨(some 34), (.call 19 [(.t 33), (.k (.int .i64 9))]), none, [0]⟩, ⟨none, (.e (.store 3 (.t 2) (.t 34))), none, [1, 1, 0, 1]⟩]
def page_first_i20 : IR := .ret
def page_first_i21 : List Op1 := [⟨(some 36), (.e (.bin .eql (.t 9) (.k (.int .u8 6)))), none, []⟩, ⟨(some 35), (.e (.mv (.t 36))), none, [0]⟩]
def page_first_i22 : List Op1 := [⟨(some 37), (.e (.mv (.t 4))), none, []⟩, ⟨(some 38), (.call 16 [(.t 37), (.k (.int .i64 4))]), none, [0]⟩, ⟨none, (.e (.store 3 (.t 2) (.t 38))), none, [1, 1, 0, 1]⟩]
def page_first_i23 : IR := .ret
def page_first_i24 : List Op1 := [⟨(some 40), (.e (.bin .eql (.t 9) (.k (.int .u8 7)))), none, []⟩, ⟨(some 39), (.e (.mv (.t 40))), none, [0]⟩]
def page_first_i25 : List Op1 := [⟨(some 41), (.e (.mv (.t 4))), none, []⟩, ⟨(some 42), (.call 16 [(.t 41), (.k (.int .i64 5))]), none, [0]⟩, ⟨none, (.e (.store 3 (.t 2) (.t 42))), none, [1, 1, 0, 1]⟩]
def page_first_i26 : IR := .ret
def page_first_i27 : IR := (.cond (.t 39) (.seq (.reg false page_first_i25) page_first_i26) .skip)
def page_first_i28 : IR := (.cond (.t 35) (.seq (.reg false page_first_i22) page_first_i23) (.seq (.reg false page_first_i24) page_first_i27))
def page_first_i29 : IR := (.cond (.t 31) (.seq (.reg false page_first_i19) page_first_i20) (.seq (.reg false page_first_i21) page_first_i28))
def page_first_i30 : IR := (.cond (.t 27) (.seq (.reg false page_first_i16) page_first_i17) (.seq (.reg false page_first_i18) page_first_i29))
def page_first_i31 : IR := (.cond (.t 23) (.seq (.reg false page_first_i13) page_first_i14) (.seq (.reg false page_first_i15) page_first_i30))
def page_first_i32 : IR := (.cond (.t 18) (.seq (.reg false page_first_i10) page_first_i11) (.seq (.reg false page_first_i12) page_first_i31))
def page_first_i33 : IR := (.cond (.t 14) (.seq (.reg false page_first_i7) page_first_i8) (.seq (.reg false page_first_i9) page_first_i32))
def page_first_i34 : IR := (.cond (.t 10) (.seq (.reg false page_first_i4) page_first_i5) (.seq (.reg false page_first_i6) page_first_i33))
def page_first_i35 : IR := (.block 0 (.seq (.reg false page_first_i3) page_first_i34))
def page_first_i36 : List Op1 := [⟨(some 43), (.e (.mv (.t 3))), none, []⟩, ⟨(some 44), (.e (.mv (.t 4))), none, []⟩, ⟨(some 45), (.call 20 [(.t 43), (.t 44)]), none, [0, 1]⟩, ⟨none, (.e (.store 3 (.t 2) (.t 45))), none, [2, 2, 0, 1, 2]⟩]
def page_first_i37 : IR := .ret
def page_first_i38 : IR := (.seq (.reg false page_first_i36) page_first_i37)
def page_first_i39 : IR := (.seq (.seq (.reg false page_first_i2) page_first_i35) page_first_i38)
def page_first_i40 : IR := (.seq (.reg false page_first_i1) page_first_i39)
def page_first_ir : IR := (.seq (.reg false page_first_i0) page_first_i40)
theorem page_first_cfn : cFn Try.prog 13 = some (page_first_ir, [(.c 2 true 3)], 46) := by kernel_rfl
def page_first_V (r : (api_Entry)) : V := .agg [.s (.int .i64 r.Op), .s (.int .i64 r.Mode), .s (.int .i64 r.Reg)]
def page_first_C (r : (api_Entry)) : X → Fr → Hp → Prop := FinL [(.c 2 true 3)] [] (page_first_V r) []
theorem page_first_ok (code_ : Int) (r : (api_Entry)) (h : page_first code_ = some r) : Pure Try.prog 13 [.s (.int .u8 code_)] (page_first_V r) := by
  refine ConL.of page_first_cfn (Nat.le_of_ble_eq_true (by kernel_rfl)) (Nat.le_of_ble_eq_true (by kernel_rfl)) ?_
  refine k_start ?_
  show dwv Try.prog [] page_first_ir (kont Try.prog [] (page_first_C r) []) (fr0 [.s (.int .u8 code_)]) []
  have hf : FOk (fr0 [.s (.int .u8 code_)]) [⟨0, [], .s (.int .u8 code_)⟩] := ⟨⟨fun _ => rfl, fun h => (h trivial).elim⟩, trivial⟩
  generalize fr0 [.s (.int .u8 code_)] = f at hf ⊢
  unfold page_first at h
  refine k_seq ?_
  refine k_reg ?_
  refine mops_end [0, 2] hf (l' := [⟨0, [], .s (.int .u8 code_)⟩, ⟨2, [], .ptr 0 0 0⟩]) (L' := [⟨0, .mem, 1, [.s (.int .i64 0), .s (.int .i64 0), .s (.int .i64 0)]⟩]) (by kernel_rfl) fun f1 hf1 => ?_
  refine k_c ?_
  refine k_seq ?_
  refine k_reg ?_
  refine mops_end [2, 3, 4] hf1 (l' := [⟨2, [], .ptr 0 0 0⟩, ⟨3, [], .s (.int .u8 (Int.fdiv code_ (2 ^ (4))))⟩, ⟨4, [], .s (.int .u8 (bits .and .u8 code_ 15))⟩]) (L' := [⟨0, .mem, 1, [.s (.int .i64 0), .s (.int .i64 0), .s (.int .i64 0)]⟩]) (by kernel_rfl) fun f2 hf2 => ?_
  refine k_c ?_
  refine k_seq ?_
  refine k_seq ?_
  refine k_reg ?_
  refine mops_end [2, 3, 4, 9] hf2 (l' := [⟨2, [], .ptr 0 0 0⟩, ⟨3, [], .s (.int .u8 (Int.fdiv code_ (2 ^ (4))))⟩, ⟨4, [], .s (.int .u8 (bits .and .u8 code_ 15))⟩, ⟨9, [], .s (.int .u8 (Int.fdiv code_ (2 ^ (4))))⟩]) (L' := [⟨0, .mem, 1, [.s (.int .i64 0), .s (.int .i64 0), .s (.int .i64 0)]⟩]) (by kernel_rfl) fun f3 hf3 => ?_
  refine k_c ?_
  refine k_block ?_
  refine k_seq ?_
  refine k_reg ?_
  refine mops_end [2, 3, 4, 9, 10] hf3 (l' := [⟨2, [], .ptr 0 0 0⟩, ⟨3, [], .s (.int .u8 (Int.fdiv code_ (2 ^ (4))))⟩, ⟨4, [], .s (.int .u8 (bits .and .u8 code_ 15))⟩, ⟨9, [], .s (.int .u8 (Int.fdiv code_ (2 ^ (4))))⟩, ⟨10, [], .s (.bool ((Int.fdiv code_ (2 ^ (4))) == 0))⟩]) (L' := [⟨0, .mem, 1, [.s (.int .i64 0), .s (.int .i64 0), .s (.int .i64 0)]⟩]) (by kernel_rfl) fun f4 hf4 => ?_
  refine k_c ?_
  refine k_cond hf4 (t := ((Int.fdiv code_ (2 ^ (4))) == 0)) (by kernel_rfl) (fun hc1 => ?_) (fun hc1 => ?_)
  · have h := if_t h hc1
    refine k_seq ?_
    refine k_reg ?_
    refine mops_seg [2, 3, 4, 12] 1 hf4 (l' := [⟨2, [], .ptr 0 0 0⟩, ⟨3, [], .s (.int .u8 (Int.fdiv code_ (2 ^ (4))))⟩, ⟨4, [], .s (.int .u8 (bits .and .u8 code_ 15))⟩, ⟨12, [], .s (.int .u8 (bits .and .u8 code_ 15))⟩]) (L' := [⟨0, .mem, 1, [.s (.int .i64 0), .s (.int .i64 0), .s (.int .i64 0)]⟩]) (by kernel_rfl) fun f5 hf5 => ?_
    obtain ⟨r_, hx_r_, h⟩ := Option.bind_eq_some_iff.1 h
    refine mops_call (dst := (some 13)) (m := 16) (args := [(.t 12), (.k (.int .i64 3))]) (aft := [0]) (by kernel_rfl) hf5 (av := [.s (.int .u8 (bits .and .u8 code_ 15)), .s (.int .i64 3)]) (by kernel_rfl) (v := .agg [.s (.int .i64 r_.Op), .s (.int .i64 r_.Mode), .s (.int .i64 r_.Reg)]) (L' := [⟨0, .mem, 1, [.s (.int .i64 0), .s (.int .i64 0), .s (.int .i64 0)]⟩]) (CalL.pure (page_memory_ok (bits .and .u8 code_ 15) (3) r_ hx_r_) rfl rfl (Nat.le_of_ble_eq_true (by kernel_rfl))) (fun _ => rfl) fun f6 hf6 => ?_
    refine mops_end [2, 3, 4] hf6 (l' := [⟨2, [], .ptr 0 0 0⟩, ⟨3, [], .s (.int .u8 (Int.fdiv code_ (2 ^ (4))))⟩, ⟨4, [], .s (.int .u8 (bits .and .u8 code_ 15))⟩]) (L' := [⟨0, .mem, 1, [.s (.int .i64 r_.Op), .s (.int .i64 r_.Mode), .s (.int .i64 r_.Reg)]⟩]) (by kernel_rfl) fun f7 hf7 => ?_
    refine k_c ?_
    refine k_ret ?_
    refine x_br ?_
    refine x_c nofun ?_
    obtain rfl := Option.some.inj h
    exact k_fin (fin_ret (.inl rfl) hf7 (vs := [.agg [.s (.int .i64 r_.Op), .s (.int .i64 r_.Mode), .s (.int .i64 r_.Reg)]]) (by kernel_rfl) (SettL.pure (FzL.stat rfl)))
  · have h := if_f h hc1
    refine k_seq ?_
    refine k_reg ?_
    refine mops_end [2, 3, 4, 9, 14] hf4 (l' := [⟨2, [], .ptr 0 0 0⟩, ⟨3, [], .s (.int .u8 (Int.fdiv code_ (2 ^ (4))))⟩, ⟨4, [], .s (.int .u8 (bits .and .u8 code_ 15))⟩, ⟨9, [], .s (.int .u8 (Int.fdiv code_ (2 ^ (4))))⟩, ⟨14, [], .s (.bool ((Int.fdiv code_ (2 ^ (4))) == 1))⟩]) (L' := [⟨0, .mem, 1, [.s (.int .i64 0), .s (.int .i64 0), .s (.int .i64 0)]⟩]) (by kernel_rfl) fun f5 hf5 => ?_
    refine k_c ?_
    refine k_cond hf5 (t := ((Int.fdiv code_ (2 ^ (4))) == 1)) (by kernel_rfl) (fun hc2 => ?_) (fun hc2 => ?_)
    · have h := if_t h hc2
      refine k_seq ?_
      refine k_reg ?_
      refine mops_seg [2, 3, 4, 16] 1 hf5 (l' := [⟨2, [], .ptr 0 0 0⟩, ⟨3, [], .s (.int .u8 (Int.fdiv code_ (2 ^ (4))))⟩, ⟨4, [], .s (.int .u8 (bits .and .u8 code_ 15))⟩, ⟨16, [], .s (.int .u8 (bits .and .u8 code_ 15))⟩]) (L' := [⟨0, .mem, 1, [.s (.int .i64 0), .s (.int .i64 0), .s (.int .i64 0)]⟩]) (by kernel_rfl) fun f6 hf6 => ?_
      obtain ⟨r_1, hx_r_1, h⟩ := Option.bind_eq_some_iff.1 h
      refine mops_call (dst := (some 17)) (m := 17) (args := [(.t 16)]) (aft := [0]) (by kernel_rfl) hf6 (av := [.s (.int .u8 (bits .and .u8 code_ 15))]) (by kernel_rfl) (v := .agg [.s (.int .i64 r_1.Op), .s (.int .i64 r_1.Mode), .s (.int .i64 r_1.Reg)]) (L' := [⟨0, .mem, 1, [.s (.int .i64 0), .s (.int .i64 0), .s (.int .i64 0)]⟩]) (CalL.pure (page_tens_ok (bits .and .u8 code_ 15) r_1 hx_r_1) rfl rfl (Nat.le_of_ble_eq_true (by kernel_rfl))) (fun _ => rfl) fun f7 hf7 => ?_
      refine mops_end [2, 3, 4] hf7 (l' := [⟨2, [], .ptr 0 0 0⟩, ⟨3, [], .s (.int .u8 (Int.fdiv code_ (2 ^ (4))))⟩, ⟨4, [], .s (.int .u8 (bits .and .u8 code_ 15))⟩]) (L' := [⟨0, .mem, 1, [.s (.int .i64 r_1.Op), .s (.int .i64 r_1.Mode), .s (.int .i64 r_1.Reg)]⟩]) (by kernel_rfl) fun f8 hf8 => ?_
      refine k_c ?_
      refine k_ret ?_
      refine x_br ?_
      refine x_c nofun ?_
      obtain rfl := Option.some.inj h
      exact k_fin (fin_ret (.inl rfl) hf8 (vs := [.agg [.s (.int .i64 r_1.Op), .s (.int .i64 r_1.Mode), .s (.int .i64 r_1.Reg)]]) (by kernel_rfl) (SettL.pure (FzL.stat rfl)))
    · have h := if_f h hc2
      refine k_seq ?_
      refine k_reg ?_
      refine mops_end [2, 3, 4, 9, 18] hf5 (l' := [⟨2, [], .ptr 0 0 0⟩, ⟨3, [], .s (.int .u8 (Int.fdiv code_ (2 ^ (4))))⟩, ⟨4, [], .s (.int .u8 (bits .and .u8 code_ 15))⟩, ⟨9, [], .s (.int .u8 (Int.fdiv code_ (2 ^ (4))))⟩, ⟨18, [], .s (.bool ((Int.fdiv code_ (2 ^ (4))) == 2))⟩]) (L' := [⟨0, .mem, 1, [.s (.int .i64 0), .s (.int .i64 0), .s (.int .i64 0)]⟩]) (by kernel_rfl) fun f6 hf6 => ?_
      refine k_c ?_
      refine k_cond hf6 (t := ((Int.fdiv code_ (2 ^ (4))) == 2)) (by kernel_rfl) (fun hc3 => ?_) (fun hc3 => ?_)
      · have h := if_t h hc3
        refine k_seq ?_
        refine k_reg ?_
        refine mops_end [2, 3, 4] hf6 (l' := [⟨2, [], .ptr 0 0 0⟩, ⟨3, [], .s (.int .u8 (Int.fdiv code_ (2 ^ (4))))⟩, ⟨4, [], .s (.int .u8 (bits .and .u8 code_ 15))⟩]) (L' := [⟨0, .mem, 1, [.s (.int .i64 34), .s (.int .i64 6), .s (.int .i64 (IntKind.wrap .i64 (bits .and .u8 code_ 15)))]⟩]) (by kernel_rfl) fun f7 hf7 => ?_
        refine k_c ?_
        refine k_ret ?_
        refine x_br ?_
        refine x_c nofun ?_
        obtain rfl := Option.some.inj h
        exact k_fin (fin_ret (.inl rfl) hf7 (vs := [.agg [.s (.int .i64 34), .s (.int .i64 6), .s (.int .i64 (IntKind.wrap .i64 (bits .and .u8 code_ 15)))]]) (by kernel_rfl) (SettL.pure (FzL.stat rfl)))
      · have h := if_f h hc3
        refine k_seq ?_
        refine k_reg ?_
        refine mops_end [2, 3, 4, 9, 23] hf6 (l' := [⟨2, [], .ptr 0 0 0⟩, ⟨3, [], .s (.int .u8 (Int.fdiv code_ (2 ^ (4))))⟩, ⟨4, [], .s (.int .u8 (bits .and .u8 code_ 15))⟩, ⟨9, [], .s (.int .u8 (Int.fdiv code_ (2 ^ (4))))⟩, ⟨23, [], .s (.bool ((Int.fdiv code_ (2 ^ (4))) == 3))⟩]) (L' := [⟨0, .mem, 1, [.s (.int .i64 0), .s (.int .i64 0), .s (.int .i64 0)]⟩]) (by kernel_rfl) fun f7 hf7 => ?_
        refine k_c ?_
        refine k_cond hf7 (t := ((Int.fdiv code_ (2 ^ (4))) == 3)) (by kernel_rfl) (fun hc4 => ?_) (fun hc4 => ?_)
        · have h := if_t h hc4
          refine k_seq ?_
          refine k_reg ?_
          refine mops_seg [2, 3, 4, 25] 1 hf7 (l' := [⟨2, [], .ptr 0 0 0⟩, ⟨3, [], .s (.int .u8 (Int.fdiv code_ (2 ^ (4))))⟩, ⟨4, [], .s (.int .u8 (bits .and .u8 code_ 15))⟩, ⟨25, [], .s (.int .u8 (bits .and .u8 code_ 15))⟩]) (L' := [⟨0, .mem, 1, [.s (.int .i64 0), .s (.int .i64 0), .s (.int .i64 0)]⟩]) (by kernel_rfl) fun f8 hf8 => ?_
          obtain ⟨r_2, hx_r_2, h⟩ := Option.bind_eq_some_iff.1 h
          refine mops_call (dst := (some 26)) (m := 18) (args := [(.t 25)]) (aft := [0]) (by kernel_rfl) hf8 (av := [.s (.int .u8 (bits .and .u8 code_ 15))]) (by kernel_rfl) (v := .agg [.s (.int .i64 r_2.Op), .s (.int .i64 r_2.Mode), .s (.int .i64 r_2.Reg)]) (L' := [⟨0, .mem, 1, [.s (.int .i64 0), .s (.int .i64 0), .s (.int .i64 0)]⟩]) (CalL.pure (page_thirties_ok (bits .and .u8 code_ 15) r_2 hx_r_2) rfl rfl (Nat.le_of_ble_eq_true (by kernel_rfl))) (fun _ => rfl) fun f9 hf9 => ?_
          refine mops_end [2, 3, 4] hf9 (l' := [⟨2, [], .ptr 0 0 0⟩, ⟨3, [], .s (.int .u8 (Int.fdiv code_ (2 ^ (4))))⟩, ⟨4, [], .s (.int .u8 (bits .and .u8 code_ 15))⟩]) (L' := [⟨0, .mem, 1, [.s (.int .i64 r_2.Op), .s (.int .i64 r_2.Mode), .s (.int .i64 r_2.Reg)]⟩]) (by kernel_rfl) fun f10 hf10 => ?_
          refine k_c ?_
          refine k_ret ?_
          refine x_br ?_
          refine x_c nofun ?_
          obtain rfl := Option.some.inj h
          exact k_fin (fin_ret (.inl rfl) hf10 (vs := [.agg [.s (.int .i64 r_2.Op), .s (.int .i64 r_2.Mode), .s (.int .i64 r_2.Reg)]]) (by kernel_rfl) (SettL.pure (FzL.stat rfl)))
        · have h := if_f h hc4
          refine k_seq ?_
          refine k_reg ?_
          refine mops_end [2, 3, 4, 9, 27] hf7 (l' := [⟨2, [], .ptr 0 0 0⟩, ⟨3, [], .s (.int .u8 (Int.fdiv code_ (2 ^ (4))))⟩, ⟨4, [], .s (.int .u8 (bits .and .u8 code_ 15))⟩, ⟨9, [], .s (.int .u8 (Int.fdiv code_ (2 ^ (4))))⟩, ⟨27, [], .s (.bool ((Int.fdiv code_ (2 ^ (4))) == 4))⟩]) (L' := [⟨0, .mem, 1, [.s (.int .i64 0), .s (.int .i64 0), .s (.int .i64 0)]⟩]) (by kernel_rfl) fun f8 hf8 => ?_
          refine k_c ?_
          refine k_cond hf8 (t := ((Int.fdiv code_ (2 ^ (4))) == 4)) (by kernel_rfl) (fun hc5 => ?_) (fun hc5 => ?_)
          · have h := if_t h hc5
            refine k_seq ?_
            refine k_reg ?_
            refine mops_seg [2, 3, 4, 29] 1 hf8 (l' := [⟨2, [], .ptr 0 0 0⟩, ⟨3, [], .s (.int .u8 (Int.fdiv code_ (2 ^ (4))))⟩, ⟨4, [], .s (.int .u8 (bits .and .u8 code_ 15))⟩, ⟨29, [], .s (.int .u8 (bits .and .u8 code_ 15))⟩]) (L' := [⟨0, .mem, 1, [.s (.int .i64 0), .s (.int .i64 0), .s (.int .i64 0)]⟩]) (by kernel_rfl) fun f9 hf9 => ?_
            obtain ⟨r_3, hx_r_3, h⟩ := Option.bind_eq_some_iff.1 h
            refine mops_call (dst := (some 30)) (m := 19) (args := [(.t 29), (.k (.int .i64 8))]) (aft := [0]) (by kernel_rfl) hf9 (av := [.s (.int .u8 (bits .and .u8 code_ 15)), .s (.int .i64 8)]) (by kernel_rfl) (v := .agg [.s (.int .i64 r_3.Op), .s (.int .i64 r_3.Mode), .s (.int .i64 r_3.Reg)]) (L' := [⟨0, .mem, 1, [.s (.int .i64 0), .s (.int .i64 0), .s (.int .i64 0)]⟩]) (CalL.pure (page_inside_ok (bits .and .u8 code_ 15) (8) r_3 hx_r_3) rfl rfl (Nat.le_of_ble_eq_true (by kernel_rfl))) (fun _ => rfl) fun f10 hf10 => ?_
            refine mops_end [2, 3, 4] hf10 (l' := [⟨2, [], .ptr 0 0 0⟩, ⟨3, [], .s (.int .u8 (Int.fdiv code_ (2 ^ (4))))⟩, ⟨4, [], .s (.int .u8 (bits .and .u8 code_ 15))⟩]) (L' := [⟨0, .mem, 1, [.s (.int .i64 r_3.Op), .s (.int .i64 r_3.Mode), .s (.int .i64 r_3.Reg)]⟩]) (by kernel_rfl) fun f11 hf11 => ?_
            refine k_c ?_
            refine k_ret ?_
            refine x_br ?_
            refine x_c nofun ?_
            obtain rfl := Option.some.inj h
            exact k_fin (fin_ret (.inl rfl) hf11 (vs := [.agg [.s (.int .i64 r_3.Op), .s (.int .i64 r_3.Mode), .s (.int .i64 r_3.Reg)]]) (by kernel_rfl) (SettL.pure (FzL.stat rfl)))
          · have h := if_f h hc5
            refine k_seq ?_
            refine k_reg ?_
            refine mops_end [2, 3, 4, 9, 31] hf8 (l' := [⟨2, [], .ptr 0 0 0⟩, ⟨3, [], .s (.int .u8 (Int.fdiv code_ (2 ^ (4))))⟩, ⟨4, [], .s (.int .u8 (bits .and .u8 code_ 15))⟩, ⟨9, [], .s (.int .u8 (Int.fdiv code_ (2 ^ (4))))⟩, ⟨31, [], .s (.bool ((Int.fdiv code_ (2 ^ (4))) == 5))⟩]) (L' := [⟨0, .mem, 1, [.s (.int .i64 0), .s (.int .i64 0), .s (.int .i64 0)]⟩]) (by kernel_rfl) fun f9 hf9 => ?_
            refine k_c ?_
            refine k_cond hf9 (t := ((Int.fdiv code_ (2 ^ (4))) == 5)) (by kernel_rfl) (fun hc6 => ?_) (fun hc6 => ?_)
            · have h := if_t h hc6
              refine k_seq ?_
              refine k_reg ?_
              refine mops_seg [2, 3, 4, 33] 1 hf9 (l' := [⟨2, [], .ptr 0 0 0⟩, ⟨3, [], .s (.int .u8 (Int.fdiv code_ (2 ^ (4))))⟩, ⟨4, [], .s (.int .u8 (bits .and .u8 code_ 15))⟩, ⟨33, [], .s (.int .u8 (bits .and .u8 code_ 15))⟩]) (L' := [⟨0, .mem, 1, [.s (.int .i64 0), .s (.int .i64 0), .s (.int .i64 0)]⟩]) (by kernel_rfl) fun f10 hf10 => ?_
              obtain ⟨r_4, hx_r_4, h⟩ := Option.bind_eq_some_iff.1 h
              refine mops_call (dst := (some 34)) (m := 19) (args := [(.t 33), (.k (.int .i64 9))]) (aft := [0]) (by kernel_rfl) hf10 (av := [.s (.int .u8 (bits .and .u8 code_ 15)), .s (.int .i64 9)]) (by kernel_rfl) (v := .agg [.s (.int .i64 r_4.Op), .s (.int .i64 r_4.Mode), .s (.int .i64 r_4.Reg)]) (L' := [⟨0, .mem, 1, [.s (.int .i64 0), .s (.int .i64 0), .s (.int .i64 0)]⟩]) (CalL.pure (page_inside_ok (bits .and .u8 code_ 15) (9) r_4 hx_r_4) rfl rfl (Nat.le_of_ble_eq_true (by kernel_rfl))) (fun _ => rfl) fun f11 hf11 => ?_
              refine mops_end [2, 3, 4] hf11 (l' := [⟨2, [], .ptr 0 0 0⟩, ⟨3, [], .s (.int .u8 (Int.fdiv code_ (2 ^ (4))))⟩, ⟨4, [], .s (.int .u8 (bits .and .u8 code_ 15))⟩]) (L' := [⟨0, .mem, 1, [.s (.int .i64 r_4.Op), .s (.int .i64 r_4.Mode), .s (.int .i64 r_4.Reg)]⟩]) (by kernel_rfl) fun f12 hf12 => ?_
              refine k_c ?_
              refine k_ret ?_
              refine x_br ?_
              refine x_c nofun ?_
              obtain rfl := Option.some.inj h
              exact k_fin (fin_ret (.inl rfl) hf12 (vs := [.agg [.s (.int .i64 r_4.Op), .s (.int .i64 r_4.Mode), .s (.int .i64 r_4.Reg)]]) (by kernel_rfl) (SettL.pure (FzL.stat rfl)))
            · have h := if_f h hc6
              refine k_seq ?_
              refine k_reg ?_
              refine mops_end [2, 3, 4, 9, 35] hf9 (l' := [⟨2, [], .ptr 0 0 0⟩, ⟨3, [], .s (.int .u8 (Int.fdiv code_ (2 ^ (4))))⟩, ⟨4, [], .s (.int .u8 (bits .and .u8 code_ 15))⟩, ⟨9, [], .s (.int .u8 (Int.fdiv code_ (2 ^ (4))))⟩, ⟨35, [], .s (.bool ((Int.fdiv code_ (2 ^ (4))) == 6))⟩]) (L' := [⟨0, .mem, 1, [.s (.int .i64 0), .s (.int .i64 0), .s (.int .i64 0)]⟩]) (by kernel_rfl) fun f10 hf10 => ?_
              refine k_c ?_
              refine k_cond hf10 (t := ((Int.fdiv code_ (2 ^ (4))) == 6)) (by kernel_rfl) (fun hc7 => ?_) (fun hc7 => ?_)
              · have h := if_t h hc7
                refine k_seq ?_
                refine k_reg ?_
                refine mops_seg [2, 3, 4, 37] 1 hf10 (l' := [⟨2, [], .ptr 0 0 0⟩, ⟨3, [], .s (.int .u8 (Int.fdiv code_ (2 ^ (4))))⟩, ⟨4, [], .s (.int .u8 (bits .and .u8 code_ 15))⟩, ⟨37, [], .s (.int .u8 (bits .and .u8 code_ 15))⟩]) (L' := [⟨0, .mem, 1, [.s (.int .i64 0), .s (.int .i64 0), .s (.int .i64 0)]⟩]) (by kernel_rfl) fun f11 hf11 => ?_
                obtain ⟨r_5, hx_r_5, h⟩ := Option.bind_eq_some_iff.1 h
                refine mops_call (dst := (some 38)) (m := 16) (args := [(.t 37), (.k (.int .i64 4))]) (aft := [0]) (by kernel_rfl) hf11 (av := [.s (.int .u8 (bits .and .u8 code_ 15)), .s (.int .i64 4)]) (by kernel_rfl) (v := .agg [.s (.int .i64 r_5.Op), .s (.int .i64 r_5.Mode), .s (.int .i64 r_5.Reg)]) (L' := [⟨0, .mem, 1, [.s (.int .i64 0), .s (.int .i64 0), .s (.int .i64 0)]⟩]) (CalL.pure (page_memory_ok (bits .and .u8 code_ 15) (4) r_5 hx_r_5) rfl rfl (Nat.le_of_ble_eq_true (by kernel_rfl))) (fun _ => rfl) fun f12 hf12 => ?_
                refine mops_end [2, 3, 4] hf12 (l' := [⟨2, [], .ptr 0 0 0⟩, ⟨3, [], .s (.int .u8 (Int.fdiv code_ (2 ^ (4))))⟩, ⟨4, [], .s (.int .u8 (bits .and .u8 code_ 15))⟩]) (L' := [⟨0, .mem, 1, [.s (.int .i64 r_5.Op), .s (.int .i64 r_5.Mode), .s (.int .i64 r_5.Reg)]⟩]) (by kernel_rfl) fun f13 hf13 => ?_
                refine k_c ?_
                refine k_ret ?_
                refine x_br ?_
                refine x_c nofun ?_
                obtain rfl := Option.some.inj h
                exact k_fin (fin_ret (.inl rfl) hf13 (vs := [.agg [.s (.int .i64 r_5.Op), .s (.int .i64 r_5.Mode), .s (.int .i64 r_5.Reg)]]) (by kernel_rfl) (SettL.pure (FzL.stat rfl)))
              · have h := if_f h hc7
                refine k_seq ?_
                refine k_reg ?_
                refine mops_end [2, 3, 4, 39] hf10 (l' := [⟨2, [], .ptr 0 0 0⟩, ⟨3, [], .s (.int .u8 (Int.fdiv code_ (2 ^ (4))))⟩, ⟨4, [], .s (.int .u8 (bits .and .u8 code_ 15))⟩, ⟨39, [], .s (.bool ((Int.fdiv code_ (2 ^ (4))) == 7))⟩]) (L' := [⟨0, .mem, 1, [.s (.int .i64 0), .s (.int .i64 0), .s (.int .i64 0)]⟩]) (by kernel_rfl) fun f11 hf11 => ?_
                refine k_c ?_
                refine k_cond hf11 (t := ((Int.fdiv code_ (2 ^ (4))) == 7)) (by kernel_rfl) (fun hc8 => ?_) (fun hc8 => ?_)
                · have h := if_t h hc8
                  refine k_seq ?_
                  refine k_reg ?_
                  refine mops_seg [2, 3, 4, 41] 1 hf11 (l' := [⟨2, [], .ptr 0 0 0⟩, ⟨3, [], .s (.int .u8 (Int.fdiv code_ (2 ^ (4))))⟩, ⟨4, [], .s (.int .u8 (bits .and .u8 code_ 15))⟩, ⟨41, [], .s (.int .u8 (bits .and .u8 code_ 15))⟩]) (L' := [⟨0, .mem, 1, [.s (.int .i64 0), .s (.int .i64 0), .s (.int .i64 0)]⟩]) (by kernel_rfl) fun f12 hf12 => ?_
                  obtain ⟨r_6, hx_r_6, h⟩ := Option.bind_eq_some_iff.1 h
                  refine mops_call (dst := (some 42)) (m := 16) (args := [(.t 41), (.k (.int .i64 5))]) (aft := [0]) (by kernel_rfl) hf12 (av := [.s (.int .u8 (bits .and .u8 code_ 15)), .s (.int .i64 5)]) (by kernel_rfl) (v := .agg [.s (.int .i64 r_6.Op), .s (.int .i64 r_6.Mode), .s (.int .i64 r_6.Reg)]) (L' := [⟨0, .mem, 1, [.s (.int .i64 0), .s (.int .i64 0), .s (.int .i64 0)]⟩]) (CalL.pure (page_memory_ok (bits .and .u8 code_ 15) (5) r_6 hx_r_6) rfl rfl (Nat.le_of_ble_eq_true (by kernel_rfl))) (fun _ => rfl) fun f13 hf13 => ?_
                  refine mops_end [2, 3, 4] hf13 (l' := [⟨2, [], .ptr 0 0 0⟩, ⟨3, [], .s (.int .u8 (Int.fdiv code_ (2 ^ (4))))⟩, ⟨4, [], .s (.int .u8 (bits .and .u8 code_ 15))⟩]) (L' := [⟨0, .mem, 1, [.s (.int .i64 r_6.Op), .s (.int .i64 r_6.Mode), .s (.int .i64 r_6.Reg)]⟩]) (by kernel_rfl) fun f14 hf14 => ?_
                  refine k_c ?_
                  refine k_ret ?_
                  refine x_br ?_
                  refine x_c nofun ?_
                  obtain rfl := Option.some.inj h
                  exact k_fin (fin_ret (.inl rfl) hf14 (vs := [.agg [.s (.int .i64 r_6.Op), .s (.int .i64 r_6.Mode), .s (.int .i64 r_6.Reg)]]) (by kernel_rfl) (SettL.pure (FzL.stat rfl)))
                · have h := if_f h hc8
                  refine k_skip ?_
                  refine k_b ?_
                  refine k_c ?_
                  refine k_seq ?_
                  refine k_reg ?_
                  refine mops_seg [2, 43, 44] 2 hf11 (l' := [⟨2, [], .ptr 0 0 0⟩, ⟨43, [], .s (.int .u8 (Int.fdiv code_ (2 ^ (4))))⟩, ⟨44, [], .s (.int .u8 (bits .and .u8 code_ 15))⟩]) (L' := [⟨0, .mem, 1, [.s (.int .i64 0), .s (.int .i64 0), .s (.int .i64 0)]⟩]) (by kernel_rfl) fun f12 hf12 => ?_
                  obtain ⟨r_7, hx_r_7, h⟩ := Option.bind_eq_some_iff.1 h
                  refine mops_call (dst := (some 45)) (m := 20) (args := [(.t 43), (.t 44)]) (aft := [0, 1]) (by kernel_rfl) hf12 (av := [.s (.int .u8 (Int.fdiv code_ (2 ^ (4)))), .s (.int .u8 (bits .and .u8 code_ 15))]) (by kernel_rfl) (v := .agg [.s (.int .i64 r_7.Op), .s (.int .i64 r_7.Mode), .s (.int .i64 r_7.Reg)]) (L' := [⟨0, .mem, 1, [.s (.int .i64 0), .s (.int .i64 0), .s (.int .i64 0)]⟩]) (CalL.pure (page_columns_ok (Int.fdiv code_ (2 ^ (4))) (bits .and .u8 code_ 15) r_7 hx_r_7) rfl rfl (Nat.le_of_ble_eq_true (by kernel_rfl))) (fun _ => rfl) fun f13 hf13 => ?_
                  refine mops_end [2] hf13 (l' := [⟨2, [], .ptr 0 0 0⟩]) (L' := [⟨0, .mem, 1, [.s (.int .i64 r_7.Op), .s (.int .i64 r_7.Mode), .s (.int .i64 r_7.Reg)]⟩]) (by kernel_rfl) fun f14 hf14 => ?_
                  refine k_c ?_
                  refine k_ret ?_
                  obtain rfl := Option.some.inj h
                  exact k_fin (fin_ret (.inl rfl) hf14 (vs := [.agg [.s (.int .i64 r_7.Op), .s (.int .i64 r_7.Mode), .s (.int .i64 r_7.Reg)]]) (by kernel_rfl) (SettL.pure (FzL.stat rfl)))
end Go.Proofs.YtjaadpgmiejidaaK
