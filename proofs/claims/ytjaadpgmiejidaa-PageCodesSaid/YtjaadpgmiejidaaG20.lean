/- The Go functions come to the functions over typed data. Printed by a program of this work. -/
import Derived.Test.YtjaadpgmiejidaaF
import Derived.Test.YtjaadpgmiejidaaProg
namespace Go.Proofs.YtjaadpgmiejidaaK
set_option linter.unusedVariables false
set_option linter.unusedSimpArgs false
set_option maxHeartbeats 4000000
open Go.RowKit
attribute [local irreducible] dwv mops lops lqops lwops kont iter run runK ex E1 vals val chain chB sel resF
def page_Prefix_i0 : List Op1 := [⟨(some 2), (.e (.mv (.k (.int .i64 0)))), none, []⟩]
def page_Prefix_i1 : List Op1 := [⟨(some 3), (.e (.mv (.t 0))), none, []⟩]
def page_Prefix_i2 : List Op1 := [⟨(some 5), (.e (.bin .eql (.t 3) (.k (.int .u8 16)))), none, []⟩, ⟨(some 4), (.e (.mv (.t 5))), none, [0]⟩]
def page_Prefix_i3 : List Op1 := [⟨(some 2), (.e (.mv (.k (.int .i64 2)))), none, []⟩]
def page_Prefix_i4 : IR := .ret
def page_Prefix_i5 : List Op1 := [⟨(some 7), (.e (.bin .eql (.t 3) (.k (.int .u8 17)))), none, []⟩, ⟨(some 6), (.e (.mv (.t 7))), none, [0]⟩]
def page_Prefix_i6 : List Op1 := [⟨(some 2), (.e (.mv (.k (.int .i64 3)))), none, []⟩]
def page_Prefix_i7 : IR := .ret
def page_Prefix_i8 : IR := (.cond (.t 6) (.seq (.reg false page_Prefix_i6) page_Prefix_i7) .skip)
def page_Prefix_i9 : IR := (.cond (.t 4) (.seq (.reg false page_Prefix_i3) page_Prefix_i4) (.seq (.reg false page_Prefix_i5) page_Prefix_i8))
def page_Prefix_i10 : IR := (.block 0 (.seq (.reg false page_Prefix_i2) page_Prefix_i9))
def page_Prefix_i11 : List Op1 := [⟨(some 2), (.e (.mv (.k (.int .i64 0)))), none, []⟩]
def page_Prefix_i12 : IR := .ret
def page_Prefix_i13 : IR := (.seq (.reg false page_Prefix_i11) page_Prefix_i12)
def page_Prefix_i14 : IR := (.seq (.seq (.reg false page_Prefix_i1) page_Prefix_i10) page_Prefix_i13)
def page_Prefix_ir : IR := (.seq (.reg false page_Prefix_i0) page_Prefix_i14)
theorem page_Prefix_cfn : cFn Try.prog 10 = some (page_Prefix_ir, [(.t 2)], 8) := by kernel_rfl
def page_Prefix_V (r : (Int)) : V := .s (.int .i64 r)
def page_Prefix_C (r : (Int)) : X → Fr → Hp → Prop := FinL [(.t 2)] [] (page_Prefix_V r) []
theorem page_Prefix_ok (code_ : Int) (r : (Int)) (h : page_Prefix code_ = some r) : Pure Try.prog 10 [.s (.int .u8 code_)] (page_Prefix_V r) := by
  refine ConL.of page_Prefix_cfn (Nat.le_of_ble_eq_true (by kernel_rfl)) (Nat.le_of_ble_eq_true (by kernel_rfl)) ?_
  refine k_start ?_
  show dwv Try.prog [] page_Prefix_ir (kont Try.prog [] (page_Prefix_C r) []) (fr0 [.s (.int .u8 code_)]) []
  have hf : FOk (fr0 [.s (.int .u8 code_)]) [⟨0, [], .s (.int .u8 code_)⟩] := ⟨⟨fun _ => rfl, fun h => (h trivial).elim⟩, trivial⟩
  generalize fr0 [.s (.int .u8 code_)] = f at hf ⊢
  unfold page_Prefix at h
  refine k_seq ?_
  refine k_reg ?_
  refine mops_end [0, 2] hf (l' := [⟨0, [], .s (.int .u8 code_)⟩, ⟨2, [], .s (.int .i64 0)⟩]) (L' := []) (by kernel_rfl) fun f1 hf1 => ?_
  refine k_c ?_
  refine k_seq ?_
  refine k_seq ?_
  refine k_reg ?_
  refine mops_end [2, 3] hf1 (l' := [⟨2, [], .s (.int .i64 0)⟩, ⟨3, [], .s (.int .u8 code_)⟩]) (L' := []) (by kernel_rfl) fun f2 hf2 => ?_
  refine k_c ?_
  refine k_block ?_
  refine k_seq ?_
  refine k_reg ?_
  refine mops_end [2, 3, 4] hf2 (l' := [⟨2, [], .s (.int .i64 0)⟩, ⟨3, [], .s (.int .u8 code_)⟩, ⟨4, [], .s (.bool (code_ == 16))⟩]) (L' := []) (by kernel_rfl) fun f3 hf3 => ?_
  refine k_c ?_
  refine k_cond hf3 (t := (code_ == 16)) (by kernel_rfl) (fun hc1 => ?_) (fun hc1 => ?_)
  · have h := if_t h hc1
    refine k_seq ?_
    refine k_reg ?_
    refine mops_end [2] hf3 (l' := [⟨2, [], .s (.int .i64 2)⟩]) (L' := []) (by kernel_rfl) fun f4 hf4 => ?_
    refine k_c ?_
    refine k_ret ?_
    refine x_br ?_
    refine x_c nofun ?_
    obtain rfl := Option.some.inj h
    exact k_fin (fin_ret (.inl rfl) hf4 (vs := [.s (.int .i64 2)]) (by kernel_rfl) (SettL.pure (FzL.stat rfl)))
  · have h := if_f h hc1
    refine k_seq ?_
    refine k_reg ?_
    refine mops_end [2, 6] hf3 (l' := [⟨2, [], .s (.int .i64 0)⟩, ⟨6, [], .s (.bool (code_ == 17))⟩]) (L' := []) (by kernel_rfl) fun f4 hf4 => ?_
    refine k_c ?_
    refine k_cond hf4 (t := (code_ == 17)) (by kernel_rfl) (fun hc2 => ?_) (fun hc2 => ?_)
    · have h := if_t h hc2
      refine k_seq ?_
      refine k_reg ?_
      refine mops_end [2] hf4 (l' := [⟨2, [], .s (.int .i64 3)⟩]) (L' := []) (by kernel_rfl) fun f5 hf5 => ?_
      refine k_c ?_
      refine k_ret ?_
      refine x_br ?_
      refine x_c nofun ?_
      obtain rfl := Option.some.inj h
      exact k_fin (fin_ret (.inl rfl) hf5 (vs := [.s (.int .i64 3)]) (by kernel_rfl) (SettL.pure (FzL.stat rfl)))
    · have h := if_f h hc2
      refine k_skip ?_
      refine k_b ?_
      refine k_c ?_
      refine k_seq ?_
      refine k_reg ?_
      refine mops_end [2] hf4 (l' := [⟨2, [], .s (.int .i64 0)⟩]) (L' := []) (by kernel_rfl) fun f5 hf5 => ?_
      refine k_c ?_
      refine k_ret ?_
      obtain rfl := Option.some.inj h
      exact k_fin (fin_ret (.inl rfl) hf5 (vs := [.s (.int .i64 0)]) (by kernel_rfl) (SettL.pure (FzL.stat rfl)))
end Go.Proofs.YtjaadpgmiejidaaK
