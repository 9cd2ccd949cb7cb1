/- The Go functions come to the functions over typed data. Printed by a program of this work. -/
import Derived.Test.YtjaadpgmiejidaaF
import Derived.Test.YtjaadpgmiejidaaProg
import Derived.Test.YtjaadpgmiejidaaG12
import Derived.Test.YtjaadpgmiejidaaG13
import Derived.Test.YtjaadpgmiejidaaG17
import Derived.Test.YtjaadpgmiejidaaG19
import Derived.Test.YtjaadpgmiejidaaG20
namespace Go.Proofs.YtjaadpgmiejidaaK
set_option linter.unusedVariables false
set_option linter.unusedSimpArgs false
set_option maxHeartbeats 4000000
open Go.RowKit
attribute [local irreducible] dwv mops lops lqops lwops kont iter run runK ex E1 vals val chain chB sel resF
def spinetlaw14_PageCodes_i0 : List Op1 := [⟨(some 4), (.e (.mv (.k (.bool false)))), none, []⟩]
def spinetlaw14_PageCodes_i1 : List Op1 := [⟨(some 10), (.e (.mv (.t 0))), none, []⟩, ⟨(some 11), (.e (.mv (.t 1))), none, []⟩, ⟨(some 12), (.call 8 [(.t 10), (.t 11)]), none, [0, 1]⟩, ⟨(some 5), (.e (.zero [(.int .i64 0), (.int .i64 0), (.int .i64 0)])), none, []⟩, ⟨none, (.e (.store 3 (.t 5) (.t 12))), none, [3, 2, 2, 0, 1, 2, 3]⟩]
def spinetlaw14_PageCodes_i2 : List Op1 := [⟨(some 6), (.e (.mv (.k (.int .i64 0)))), none, []⟩]
def spinetlaw14_PageCodes_i3 : List Op1 := [⟨(some 13), (.e (.mv (.t 1))), none, []⟩, ⟨(some 14), (.e (.bin .eql (.t 13) (.k (.int .u8 16)))), none, [0]⟩, ⟨(some 15), (.e (.mv (.t 14))), none, [1]⟩, ⟨(some 16), (.e (.mv (.t 1))), (some (15, false)), [2]⟩, ⟨(some 17), (.e (.bin .eql (.t 16) (.k (.int .u8 17)))), (some (15, false)), [3, 2]⟩, ⟨(some 18), (.e (.pick (.t 15) (.k (.bool true)) (.t 17))), none, [2, 4]⟩]
def spinetlaw14_PageCodes_i4 : List Op1 := [⟨(some 19), (.e (.mv (.t 1))), none, []⟩, ⟨(some 20), (.e (.cint .i64 (.t 19))), none, [0]⟩, ⟨(some 21), (.e (.bin .sub (.t 20) (.k (.int .i64 14)))), none, [1]⟩, ⟨(some 6), (.e (.mv (.t 21))), none, [2, 0, 1, 2]⟩]
def spinetlaw14_PageCodes_i5 : IR := (.cond (.t 18) (.reg false spinetlaw14_PageCodes_i4) .skip)
def spinetlaw14_PageCodes_i6 : List Op1 := [⟨(some 22), (.e (.load true 3 (.t 5))), none, []⟩, ⟨(some 23), (.e (.mv (.t 0))), none, []⟩, ⟨(some 24), (.e (.mv (.t 1))), none, []⟩, ⟨(some 25), (.e (.cint .i64 (.t 24))), none, [2]⟩, ⟨(some 26), (.call 9 [(.t 23), (.t 25)]), none, [1, 3]⟩, ⟨(some 27), (.e (.eqa true [.int, .int, .int] (.t 22) (.t 26))), none, [0, 4]⟩, ⟨(some 28), (.e (.mv (.t 27))), none, [5, 4]⟩, ⟨(some 29), (.e (.mv (.t 1))), (some (28, false)), [6]⟩, ⟨(some 30), (.call 10 [(.t 29)]), (some (28, false)), [7, 6, 6]⟩, ⟨(some 31), (.e (.mv (.t 6))), (some (28, false)), [6]⟩, ⟨(some 32), (.e (.bin .neq (.t 30) (.t 31))), (some (28, false)), [8, 9, 6]⟩, ⟨(some 33), (.e (.pick (.t 28) (.k (.bool true)) (.t 32))), none, [6, 10]⟩]
def spinetlaw14_PageCodes_i7 : List Op1 := [⟨(some 4), (.e (.mv (.k (.bool false)))), none, []⟩]
def spinetlaw14_PageCodes_i8 : IR := .ret
def spinetlaw14_PageCodes_i9 : IR := (.cond (.t 33) (.seq (.reg false spinetlaw14_PageCodes_i7) spinetlaw14_PageCodes_i8) .skip)
def spinetlaw14_PageCodes_i10 : List Op1 := [⟨(some 35), (.e (.load true 3 (.t 5))), none, []⟩, ⟨(some 36), (.call 5 [(.t 35)]), none, [0]⟩, ⟨(some 34), (.e (.mv (.t 36))), none, [1]⟩, ⟨(some 37), (.e (.ext 0 (.t 34))), none, [2]⟩, ⟨(some 38), (.e (.ext 1 (.t 34))), none, [2]⟩, ⟨(some 39), (.e (.ext 2 (.t 34))), none, [2]⟩, ⟨(some 7), (.e (.mv (.t 37))), none, [3, 1, 0, 1, 2, 3]⟩, ⟨(some 8), (.e (.mv (.t 38))), none, [4, 6, 0, 1, 2, 3, 4, 6]⟩, ⟨(some 9), (.e (.mv (.t 39))), none, [5, 7, 0, 1, 2, 3, 4, 5, 6, 7]⟩]
def spinetlaw14_PageCodes_i11 : List Op1 := [⟨(some 40), (.e (.fld 0 (.t 5))), none, []⟩, ⟨(some 41), (.e (.load false 1 (.t 40))), none, [0]⟩, ⟨(some 42), (.e (.bin .eql (.t 41) (.k (.int .i64 0)))), none, [1]⟩]
def spinetlaw14_PageCodes_i12 : List Op1 := [⟨(some 43), (.e (.mv (.t 7))), none, []⟩, ⟨(some 44), (.e (.bin .eql (.t 43) (.k (.int .i64 0)))), none, [0]⟩, ⟨(some 45), (.e (.mv (.t 44))), none, [1]⟩, ⟨(some 46), (.e (.mv (.t 8))), (some (45, true)), [2]⟩, ⟨(some 47), (.e (.bin .eql (.t 46) (.k (.int .u8 0)))), (some (45, true)), [3, 2]⟩, ⟨(some 48), (.e (.pick (.t 45) (.t 47) (.k (.bool false)))), none, [2, 4]⟩, ⟨(some 49), (.e (.mv (.t 48))), none, [5, 2]⟩, ⟨(some 50), (.e (.mv (.t 9))), (some (49, true)), [6]⟩, ⟨(some 51), (.e (.un .not (.t 50))), (some (49, true)), [7, 6]⟩, ⟨(some 52), (.e (.pick (.t 49) (.t 51) (.k (.bool false)))), none, [6, 8]⟩, ⟨(some 53), (.e (.mv (.t 52))), none, [9, 6]⟩, ⟨(some 54), (.call 7 []), (some (53, true)), [10, 10]⟩, ⟨(some 55), (.e (.pick (.t 53) (.t 54) (.k (.bool false)))), none, [10, 11]⟩, ⟨(some 4), (.e (.mv (.t 55))), none, [12, 11, 0, 1, 2, 3, 4, 5, 6, 7, 8, 9, 10, 11, 12]⟩]
def spinetlaw14_PageCodes_i13 : IR := .ret
def spinetlaw14_PageCodes_i14 : IR := (.cond (.t 42) (.seq (.reg false spinetlaw14_PageCodes_i12) spinetlaw14_PageCodes_i13) .skip)
def spinetlaw14_PageCodes_i15 : List Op1 := [⟨(some 56), (.e (.mv (.t 7))), none, []⟩, ⟨(some 57), (.e (.mv (.t 0))), none, []⟩, ⟨(some 58), (.e (.bin .eql (.t 56) (.t 57))), none, [0, 1]⟩, ⟨(some 59), (.e (.mv (.t 58))), none, [2]⟩, ⟨(some 60), (.e (.mv (.t 8))), (some (59, true)), [3]⟩, ⟨(some 61), (.e (.mv (.t 1))), (some (59, true)), [3]⟩, ⟨(some 62), (.e (.bin .eql (.t 60) (.t 61))), (some (59, true)), [4, 5, 3]⟩, ⟨(some 63), (.e (.pick (.t 59) (.t 62) (.k (.bool false)))), none, [3, 6]⟩, ⟨(some 64), (.e (.mv (.t 63))), none, [7, 3]⟩, ⟨(some 65), (.e (.mv (.t 9))), (some (64, true)), [8]⟩, ⟨(some 66), (.e (.pick (.t 64) (.t 65) (.k (.bool false)))), none, [8, 9]⟩, ⟨(some 67), (.e (.mv (.t 66))), none, [10, 8]⟩, ⟨(some 68), (.call 7 []), (some (67, true)), [11, 11]⟩, ⟨(some 69), (.e (.pick (.t 67) (.t 68) (.k (.bool false)))), none, [11, 12]⟩, ⟨(some 4), (.e (.mv (.t 69))), none, [13, 12, 0, 1, 2, 3, 4, 5, 6, 7, 8, 9, 10, 11, 12, 13]⟩]
def spinetlaw14_PageCodes_i16 : IR := .ret
def spinetlaw14_PageCodes_i17 : IR := (.seq (.reg false spinetlaw14_PageCodes_i15) spinetlaw14_PageCodes_i16)
def spinetlaw14_PageCodes_i18 : IR := (.seq (.seq (.reg false spinetlaw14_PageCodes_i11) spinetlaw14_PageCodes_i14) spinetlaw14_PageCodes_i17)
def spinetlaw14_PageCodes_i19 : IR := (.seq (.reg false spinetlaw14_PageCodes_i10) spinetlaw14_PageCodes_i18)
def spinetlaw14_PageCodes_i20 : IR := (.seq (.seq (.reg true spinetlaw14_PageCodes_i6) spinetlaw14_PageCodes_i9) spinetlaw14_PageCodes_i19)
def spinetlaw14_PageCodes_i21 : IR := (.seq (.seq (.reg false spinetlaw14_PageCodes_i3) spinetlaw14_PageCodes_i5) spinetlaw14_PageCodes_i20)
def spinetlaw14_PageCodes_i22 : IR := (.seq (.reg false spinetlaw14_PageCodes_i2) spinetlaw14_PageCodes_i21)
def spinetlaw14_PageCodes_i23 : IR := (.seq (.reg false spinetlaw14_PageCodes_i1) spinetlaw14_PageCodes_i22)
def spinetlaw14_PageCodes_ir : IR := (.seq (.reg false spinetlaw14_PageCodes_i0) spinetlaw14_PageCodes_i23)
theorem spinetlaw14_PageCodes_cfn : cFn Try.prog 4 = some (spinetlaw14_PageCodes_ir, [(.t 4)], 70) := by kernel_rfl
def spinetlaw14_PageCodes_V (r : (Bool)) : V := .s (.bool r)
def spinetlaw14_PageCodes_C (r : (Bool)) : X → Fr → Hp → Prop := FinL [(.t 4)] [] (spinetlaw14_PageCodes_V r) []
theorem spinetlaw14_PageCodes_ok (p_ : Int) (code_ : Int) (r : (Bool)) (h : spinetlaw14_PageCodes p_ code_ = some r) : Pure Try.prog 4 [.s (.int .i64 p_), .s (.int .u8 code_)] (spinetlaw14_PageCodes_V r) := by
  refine ConL.of spinetlaw14_PageCodes_cfn (Nat.le_of_ble_eq_true (by kernel_rfl)) (Nat.le_of_ble_eq_true (by kernel_rfl)) ?_
  refine k_start ?_
  show dwv Try.prog [] spinetlaw14_PageCodes_ir (kont Try.prog [] (spinetlaw14_PageCodes_C r) []) (fr0 [.s (.int .i64 p_), .s (.int .u8 code_)]) []
  have hf : FOk (fr0 [.s (.int .i64 p_), .s (.int .u8 code_)]) [⟨0, [], .s (.int .i64 p_)⟩, ⟨1, [], .s (.int .u8 code_)⟩] := ⟨⟨fun _ => rfl, fun h => (h trivial).elim⟩, ⟨fun _ => rfl, fun h => (h trivial).elim⟩, trivial⟩
  generalize fr0 [.s (.int .i64 p_), .s (.int .u8 code_)] = f at hf ⊢
  unfold spinetlaw14_PageCodes at h
  refine k_seq ?_
  refine k_reg ?_
  refine mops_end [0, 1, 4] hf (l' := [⟨0, [], .s (.int .i64 p_)⟩, ⟨1, [], .s (.int .u8 code_)⟩, ⟨4, [], .s (.bool false)⟩]) (L' := []) (by kernel_rfl) fun f1 hf1 => ?_
  refine k_c ?_
  refine k_seq ?_
  refine k_reg ?_
  refine mops_seg [0, 1, 4, 10, 11] 2 hf1 (l' := [⟨0, [], .s (.int .i64 p_)⟩, ⟨1, [], .s (.int .u8 code_)⟩, ⟨4, [], .s (.bool false)⟩, ⟨10, [], .s (.int .i64 p_)⟩, ⟨11, [], .s (.int .u8 code_)⟩]) (L' := []) (by kernel_rfl) fun f2 hf2 => ?_
  obtain ⟨r_, hx_r_, h⟩ := Option.bind_eq_some_iff.1 h
  refine mops_call (dst := (some 12)) (m := 8) (args := [(.t 10), (.t 11)]) (aft := [0, 1]) (by kernel_rfl) hf2 (av := [.s (.int .i64 p_), .s (.int .u8 code_)]) (by kernel_rfl) (v := .agg [.s (.int .i64 r_.Op), .s (.int .i64 r_.Mode), .s (.int .i64 r_.Reg)]) (L' := []) (CalL.pure (page_Of_ok p_ code_ r_ hx_r_) rfl rfl (Nat.le_of_ble_eq_true (by kernel_rfl))) (fun _ => rfl) fun f3 hf3 => ?_
  refine mops_end [0, 1, 4, 5] hf3 (l' := [⟨0, [], .s (.int .i64 p_)⟩, ⟨1, [], .s (.int .u8 code_)⟩, ⟨4, [], .s (.bool false)⟩, ⟨5, [], .ptr 0 0 0⟩]) (L' := [⟨0, .mem, 1, [.s (.int .i64 r_.Op), .s (.int .i64 r_.Mode), .s (.int .i64 r_.Reg)]⟩]) (by kernel_rfl) fun f4 hf4 => ?_
  refine k_c ?_
  refine k_seq ?_
  refine k_reg ?_
  refine mops_end [0, 1, 4, 5, 6] hf4 (l' := [⟨0, [], .s (.int .i64 p_)⟩, ⟨1, [], .s (.int .u8 code_)⟩, ⟨4, [], .s (.bool false)⟩, ⟨5, [], .ptr 0 0 0⟩, ⟨6, [], .s (.int .i64 0)⟩]) (L' := [⟨0, .mem, 1, [.s (.int .i64 r_.Op), .s (.int .i64 r_.Mode), .s (.int .i64 r_.Reg)]⟩]) (by kernel_rfl) fun f5 hf5 => ?_
  refine k_c ?_
  refine k_seq ?_
  refine k_seq ?_
  refine k_reg ?_
  refine mops_end [0, 1, 4, 5, 6, 18] hf5 (l' := [⟨0, [], .s (.int .i64 p_)⟩, ⟨1, [], .s (.int .u8 code_)⟩, ⟨4, [], .s (.bool false)⟩, ⟨5, [], .ptr 0 0 0⟩, ⟨6, [], .s (.int .i64 0)⟩, ⟨18, [], .s (.bool ((code_ == 16) || (code_ == 17)))⟩]) (L' := [⟨0, .mem, 1, [.s (.int .i64 r_.Op), .s (.int .i64 r_.Mode), .s (.int .i64 r_.Reg)]⟩]) (by kernel_rfl) fun f6 hf6 => ?_
  refine k_c ?_
  have hj1 : ∀ (prefix_ : Int), spinetlaw14_PageCodes_j0 p_ code_ r_ prefix_ = some r → ∀ f, FOk f [⟨0, [], .s (.int .i64 p_)⟩, ⟨1, [], .s (.int .u8 code_)⟩, ⟨4, [], .s (.bool false)⟩, ⟨5, [], .ptr 0 0 0⟩, ⟨6, [], .s (.int .i64 prefix_)⟩] → kont Try.prog [] (spinetlaw14_PageCodes_C r) ((.c spinetlaw14_PageCodes_i20) :: []) .normal f [⟨0, .mem, 1, [.s (.int .i64 r_.Op), .s (.int .i64 r_.Mode), .s (.int .i64 r_.Reg)]⟩] := by
    intro prefix_ h f hf
    unfold spinetlaw14_PageCodes_j0 at h
    refine k_c ?_
    refine k_seq ?_
    refine k_seq ?_
    refine k_regq ?_
    refine mops_seg [0, 1, 4, 5, 6, 22, 23, 25] 4 hf (l' := [⟨0, [], .s (.int .i64 p_)⟩, ⟨1, [], .s (.int .u8 code_)⟩, ⟨4, [], .s (.bool false)⟩, ⟨5, [], .ptr 0 0 0⟩, ⟨6, [], .s (.int .i64 prefix_)⟩, ⟨22, [], .agg [.s (.int .i64 r_.Op), .s (.int .i64 r_.Mode), .s (.int .i64 r_.Reg)]⟩, ⟨23, [], .s (.int .i64 p_)⟩, ⟨25, [], .s (.int .i64 (IntKind.wrap .i64 code_))⟩]) (L' := [⟨0, .mem, 1, [.s (.int .i64 r_.Op), .s (.int .i64 r_.Mode), .s (.int .i64 r_.Reg)]⟩]) (by kernel_rfl) fun f1 hf1 => ?_
    obtain ⟨r_1, hx_r_1, h⟩ := Option.bind_eq_some_iff.1 h
    refine mops_call (dst := (some 26)) (m := 9) (args := [(.t 23), (.t 25)]) (aft := [1, 3]) (by kernel_rfl) hf1 (av := [.s (.int .i64 p_), .s (.int .i64 (IntKind.wrap .i64 code_))]) (by kernel_rfl) (v := .agg [.s (.int .i64 r_1.Op), .s (.int .i64 r_1.Mode), .s (.int .i64 r_1.Reg)]) (L' := [⟨0, .mem, 1, [.s (.int .i64 r_.Op), .s (.int .i64 r_.Mode), .s (.int .i64 r_.Reg)]⟩]) (CalL.pure (spinetref14_Of_ok p_ (IntKind.wrap .i64 code_) r_1 hx_r_1) rfl rfl (Nat.le_of_ble_eq_true (by kernel_rfl))) (fun _ => rfl) fun f2 hf2 => ?_
    refine mops_seg [0, 1, 4, 5, 6, 28, 29] 3 hf2 (l' := [⟨0, [], .s (.int .i64 p_)⟩, ⟨1, [], .s (.int .u8 code_)⟩, ⟨4, [], .s (.bool false)⟩, ⟨5, [], .ptr 0 0 0⟩, ⟨6, [], .s (.int .i64 prefix_)⟩, ⟨28, [], .s (.bool (!((r_.Op == r_1.Op) && ((r_.Mode == r_1.Mode) && ((r_.Reg == r_1.Reg) && true)))))⟩, ⟨29, [(28, false)], .s (.int .u8 code_)⟩]) (L' := [⟨0, .mem, 1, [.s (.int .i64 r_.Op), .s (.int .i64 r_.Mode), .s (.int .i64 r_.Reg)]⟩]) (by kernel_rfl) fun f3 hf3 => ?_
    obtain ⟨r_2, hx_r_2, h⟩ := Option.bind_eq_some_iff.1 h
    refine mops_gcall (dst := (some 30)) (m := 10) (args := [(.t 29)]) (aft := [7, 6, 6]) (t := 28) (w := false) (ch := [(28, false)]) (b := (!(!((r_.Op == r_1.Op) && ((r_.Mode == r_1.Mode) && ((r_.Reg == r_1.Reg) && true)))))) (by kernel_rfl) hf3 (by kernel_rfl) (by kernel_rfl) (av := [.s (.int .u8 code_)]) (by kernel_rfl) (v := .s (.int .i64 r_2)) (by kernel_rfl) (fun hb2 => (CalL.pure (page_Prefix_ok code_ r_2 (if_t hx_r_2 hb2)) rfl rfl (Nat.le_of_ble_eq_true (by kernel_rfl)))) fun f4 hf4 => ?_
    refine mops_end [0, 1, 4, 5, 33] hf4 (l' := [⟨0, [], .s (.int .i64 p_)⟩, ⟨1, [], .s (.int .u8 code_)⟩, ⟨4, [], .s (.bool false)⟩, ⟨5, [], .ptr 0 0 0⟩, ⟨33, [], .s (.bool ((!((r_.Op == r_1.Op) && ((r_.Mode == r_1.Mode) && ((r_.Reg == r_1.Reg) && true)))) || (r_2 != prefix_)))⟩]) (L' := [⟨0, .mem, 1, [.s (.int .i64 r_.Op), .s (.int .i64 r_.Mode), .s (.int .i64 r_.Reg)]⟩]) (by kernel_rfl) fun f5 hf5 => ?_
    refine k_c ?_
    refine k_cond hf5 (t := ((!((r_.Op == r_1.Op) && ((r_.Mode == r_1.Mode) && ((r_.Reg == r_1.Reg) && true)))) || (r_2 != prefix_))) (by kernel_rfl) (fun hc3 => ?_) (fun hc3 => ?_)
    · have h := if_t h hc3
      refine k_seq ?_
      refine k_reg ?_
      refine mops_end [0, 1, 4, 5] hf5 (l' := [⟨0, [], .s (.int .i64 p_)⟩, ⟨1, [], .s (.int .u8 code_)⟩, ⟨4, [], .s (.bool false)⟩, ⟨5, [], .ptr 0 0 0⟩]) (L' := [⟨0, .mem, 1, [.s (.int .i64 r_.Op), .s (.int .i64 r_.Mode), .s (.int .i64 r_.Reg)]⟩]) (by kernel_rfl) fun f6 hf6 => ?_
      refine k_c ?_
      refine k_ret ?_
      refine x_c nofun ?_
      obtain rfl := Option.some.inj h
      exact k_fin (fin_ret (.inl rfl) hf6 (vs := [.s (.bool false)]) (by kernel_rfl) (SettL.pure (FzL.stat rfl)))
    · have h := if_f h hc3
      refine k_skip ?_
      refine k_c ?_
      refine k_seq ?_
      refine k_reg ?_
      refine mops_seg [0, 1, 4, 5, 35] 1 hf5 (l' := [⟨0, [], .s (.int .i64 p_)⟩, ⟨1, [], .s (.int .u8 code_)⟩, ⟨4, [], .s (.bool false)⟩, ⟨5, [], .ptr 0 0 0⟩, ⟨35, [], .agg [.s (.int .i64 r_.Op), .s (.int .i64 r_.Mode), .s (.int .i64 r_.Reg)]⟩]) (L' := [⟨0, .mem, 1, [.s (.int .i64 r_.Op), .s (.int .i64 r_.Mode), .s (.int .i64 r_.Reg)]⟩]) (by kernel_rfl) fun f6 hf6 => ?_
      obtain ⟨r_3, hx_r_3, h⟩ := Option.bind_eq_some_iff.1 h
      refine mops_call (dst := (some 36)) (m := 5) (args := [(.t 35)]) (aft := [0]) (by kernel_rfl) hf6 (av := [.agg [.s (.int .i64 r_.Op), .s (.int .i64 r_.Mode), .s (.int .i64 r_.Reg)]]) (by kernel_rfl) (v := .tup [.s (.int .i64 r_3.1), .s (.int .u8 r_3.2.1), .s (.bool r_3.2.2)]) (L' := [⟨0, .mem, 1, [.s (.int .i64 r_.Op), .s (.int .i64 r_.Mode), .s (.int .i64 r_.Reg)]⟩]) (CalL.pure (page_Find_ok r_ r_3 hx_r_3) rfl rfl (Nat.le_of_ble_eq_true (by kernel_rfl))) (fun _ => rfl) fun f7 hf7 => ?_
      refine mops_end [0, 1, 4, 5, 7, 8, 9] hf7 (l' := [⟨0, [], .s (.int .i64 p_)⟩, ⟨1, [], .s (.int .u8 code_)⟩, ⟨4, [], .s (.bool false)⟩, ⟨5, [], .ptr 0 0 0⟩, ⟨7, [], .s (.int .i64 r_3.1)⟩, ⟨8, [], .s (.int .u8 r_3.2.1)⟩, ⟨9, [], .s (.bool r_3.2.2)⟩]) (L' := [⟨0, .mem, 1, [.s (.int .i64 r_.Op), .s (.int .i64 r_.Mode), .s (.int .i64 r_.Reg)]⟩]) (by kernel_rfl) fun f8 hf8 => ?_
      refine k_c ?_
      refine k_seq ?_
      refine k_seq ?_
      refine k_reg ?_
      refine mops_end [0, 1, 4, 7, 8, 9, 42] hf8 (l' := [⟨0, [], .s (.int .i64 p_)⟩, ⟨1, [], .s (.int .u8 code_)⟩, ⟨4, [], .s (.bool false)⟩, ⟨7, [], .s (.int .i64 r_3.1)⟩, ⟨8, [], .s (.int .u8 r_3.2.1)⟩, ⟨9, [], .s (.bool r_3.2.2)⟩, ⟨42, [], .s (.bool (r_.Op == 0))⟩]) (L' := [⟨0, .mem, 1, [.s (.int .i64 r_.Op), .s (.int .i64 r_.Mode), .s (.int .i64 r_.Reg)]⟩]) (by kernel_rfl) fun f9 hf9 => ?_
      refine k_c ?_
      refine k_cond hf9 (t := (r_.Op == 0)) (by kernel_rfl) (fun hc4 => ?_) (fun hc4 => ?_)
      · have h := if_t h hc4
        refine k_seq ?_
        refine k_reg ?_
        refine mops_seg [0, 1, 4, 7, 8, 9, 53] 11 hf9 (l' := [⟨0, [], .s (.int .i64 p_)⟩, ⟨1, [], .s (.int .u8 code_)⟩, ⟨4, [], .s (.bool false)⟩, ⟨7, [], .s (.int .i64 r_3.1)⟩, ⟨8, [], .s (.int .u8 r_3.2.1)⟩, ⟨9, [], .s (.bool r_3.2.2)⟩, ⟨53, [], .s (.bool (((r_3.1 == 0) && (r_3.2.1 == 0)) && (!r_3.2.2)))⟩]) (L' := [⟨0, .mem, 1, [.s (.int .i64 r_.Op), .s (.int .i64 r_.Mode), .s (.int .i64 r_.Reg)]⟩]) (by kernel_rfl) fun f10 hf10 => ?_
        obtain ⟨r_4, hx_r_4, h⟩ := Option.bind_eq_some_iff.1 h
        refine mops_gcall (dst := (some 54)) (m := 7) (args := []) (aft := [10, 10]) (t := 53) (w := true) (ch := [(53, true)]) (b := (((r_3.1 == 0) && (r_3.2.1 == 0)) && (!r_3.2.2))) (by kernel_rfl) hf10 (by kernel_rfl) (by kernel_rfl) (av := []) (by kernel_rfl) (v := .s (.bool r_4)) (by kernel_rfl) (fun hb5 => (CalL.pure (spinetlaw14_alive_ok  r_4 (if_t hx_r_4 hb5)) rfl rfl (Nat.le_of_ble_eq_true (by kernel_rfl)))) fun f11 hf11 => ?_
        refine mops_end [0, 1, 4, 7, 8, 9] hf11 (l' := [⟨0, [], .s (.int .i64 p_)⟩, ⟨1, [], .s (.int .u8 code_)⟩, ⟨4, [], .s (.bool ((((r_3.1 == 0) && (r_3.2.1 == 0)) && (!r_3.2.2)) && r_4))⟩, ⟨7, [], .s (.int .i64 r_3.1)⟩, ⟨8, [], .s (.int .u8 r_3.2.1)⟩, ⟨9, [], .s (.bool r_3.2.2)⟩]) (L' := [⟨0, .mem, 1, [.s (.int .i64 r_.Op), .s (.int .i64 r_.Mode), .s (.int .i64 r_.Reg)]⟩]) (by kernel_rfl) fun f12 hf12 => ?_
        refine k_c ?_
        refine k_ret ?_
        refine x_c nofun ?_
        obtain rfl := Option.some.inj h
        exact k_fin (fin_ret (.inl rfl) hf12 (vs := [.s (.bool ((((r_3.1 == 0) && (r_3.2.1 == 0)) && (!r_3.2.2)) && r_4))]) (by kernel_rfl) (SettL.pure (FzL.stat rfl)))
      · have h := if_f h hc4
        refine k_skip ?_
        refine k_c ?_
        refine k_seq ?_
        refine k_reg ?_
        refine mops_seg [4, 67] 12 hf9 (l' := [⟨4, [], .s (.bool false)⟩, ⟨67, [], .s (.bool (((r_3.1 == p_) && (r_3.2.1 == code_)) && r_3.2.2))⟩]) (L' := [⟨0, .mem, 1, [.s (.int .i64 r_.Op), .s (.int .i64 r_.Mode), .s (.int .i64 r_.Reg)]⟩]) (by kernel_rfl) fun f10 hf10 => ?_
        obtain ⟨r_5, hx_r_5, h⟩ := Option.bind_eq_some_iff.1 h
        refine mops_gcall (dst := (some 68)) (m := 7) (args := []) (aft := [11, 11]) (t := 67) (w := true) (ch := [(67, true)]) (b := (((r_3.1 == p_) && (r_3.2.1 == code_)) && r_3.2.2)) (by kernel_rfl) hf10 (by kernel_rfl) (by kernel_rfl) (av := []) (by kernel_rfl) (v := .s (.bool r_5)) (by kernel_rfl) (fun hb6 => (CalL.pure (spinetlaw14_alive_ok  r_5 (if_t hx_r_5 hb6)) rfl rfl (Nat.le_of_ble_eq_true (by kernel_rfl)))) fun f11 hf11 => ?_
        refine mops_end [4] hf11 (l' := [⟨4, [], .s (.bool ((((r_3.1 == p_) && (r_3.2.1 == code_)) && r_3.2.2) && r_5))⟩]) (L' := [⟨0, .mem, 1, [.s (.int .i64 r_.Op), .s (.int .i64 r_.Mode), .s (.int .i64 r_.Reg)]⟩]) (by kernel_rfl) fun f12 hf12 => ?_
        refine k_c ?_
        refine k_ret ?_
        obtain rfl := Option.some.inj h
        exact k_fin (fin_ret (.inl rfl) hf12 (vs := [.s (.bool ((((r_3.1 == p_) && (r_3.2.1 == code_)) && r_3.2.2) && r_5))]) (by kernel_rfl) (SettL.pure (FzL.stat rfl)))
  refine k_cond hf6 (t := ((code_ == 16) || (code_ == 17))) (by kernel_rfl) (fun hc1 => ?_) (fun hc1 => ?_)
  · have h := if_t h hc1
    refine k_reg ?_
    refine mops_end [0, 1, 4, 5, 6] hf6 (l' := [⟨0, [], .s (.int .i64 p_)⟩, ⟨1, [], .s (.int .u8 code_)⟩, ⟨4, [], .s (.bool false)⟩, ⟨5, [], .ptr 0 0 0⟩, ⟨6, [], .s (.int .i64 (IntKind.wrap .i64 ((IntKind.wrap .i64 code_) - 14)))⟩]) (L' := [⟨0, .mem, 1, [.s (.int .i64 r_.Op), .s (.int .i64 r_.Mode), .s (.int .i64 r_.Reg)]⟩]) (by kernel_rfl) fun f7 hf7 => ?_
    exact hj1 (IntKind.wrap .i64 ((IntKind.wrap .i64 code_) - 14)) h _ (FOk_of [0, 1, 4, 5, 6] hf7 (by kernel_rfl))
  · have h := if_f h hc1
    refine k_skip ?_
    exact hj1 (0) h _ (FOk_of [0, 1, 4, 5, 6] hf6 (by kernel_rfl))
end Go.Proofs.YtjaadpgmiejidaaK
