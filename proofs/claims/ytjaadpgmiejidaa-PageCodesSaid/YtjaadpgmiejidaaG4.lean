/- The Go functions come to the functions over typed data. Printed by a program of this work. -/
import Derived.Test.YtjaadpgmiejidaaF
import Derived.Test.YtjaadpgmiejidaaProg
import Derived.Test.YtjaadpgmiejidaaG0
namespace Go.Proofs.YtjaadpgmiejidaaK
set_option linter.unusedVariables false
set_option linter.unusedSimpArgs false
set_option maxHeartbeats 4000000
open Go.RowKit
attribute [local irreducible] dwv mops lops lqops lwops kont iter run runK ex E1 vals val chain chB sel resF
def page_inside_i0 : List Op1 := [⟨(some 4), (.e (.zero [(.int .i64 0), (.int .i64 0), (.int .i64 0)])), none, []⟩]
def page_inside_i1 : List Op1 := [⟨(some 6), (.e (.mv (.t 0))), none, []⟩, ⟨(some 7), (.call 23 [(.t 6)]), none, [0]⟩, ⟨(some 5), (.e (.mv (.t 7))), none, [1, 1, 0, 1]⟩]
def page_inside_i2 : List Op1 := [⟨(some 8), (.e (.mv (.t 5))), none, []⟩, ⟨(some 9), (.e (.bin .neq (.t 8) (.k (.int .i64 0)))), none, [0]⟩]
def page_inside_i3 : List Op1 := [⟨(some 10), (.e (.mv (.t 5))), none, []⟩, ⟨(some 11), (.e (.mv (.t 1))), none, []⟩, ⟨(some 12), (.e (.build [(.int .i64 0), (.int .i64 0), (.int .i64 0)] [(0, (1, (.t 10))), (2, (1, (.t 11)))])), none, [0, 1]⟩, ⟨none, (.e (.store 3 (.t 4) (.t 12))), none, [2, 0, 1, 2]⟩]
def page_inside_i4 : IR := .ret
def page_inside_i5 : IR := (.cond (.t 9) (.seq (.reg false page_inside_i3) page_inside_i4) .skip)
def page_inside_i6 : IR := (.seq (.reg false page_inside_i2) page_inside_i5)
def page_inside_i7 : List Op1 := [⟨(some 13), (.e (.build [(.int .i64 0), (.int .i64 0), (.int .i64 0)] [])), none, []⟩, ⟨none, (.e (.store 3 (.t 4) (.t 13))), none, [0, 0]⟩]
def page_inside_i8 : IR := .ret
def page_inside_i9 : IR := (.seq (.reg false page_inside_i7) page_inside_i8)
def page_inside_i10 : IR := (.seq (.seq (.reg false page_inside_i1) page_inside_i6) page_inside_i9)
def page_inside_ir : IR := (.seq (.reg false page_inside_i0) page_inside_i10)
theorem page_inside_cfn : cFn Try.prog 19 = some (page_inside_ir, [(.c 4 true 3)], 14) := by kernel_rfl
def page_inside_V (r : (api_Entry)) : V := .agg [.s (.int .i64 r.Op), .s (.int .i64 r.Mode), .s (.int .i64 r.Reg)]
def page_inside_C (r : (api_Entry)) : X → Fr → Hp → Prop := FinL [(.c 4 true 3)] [] (page_inside_V r) []
theorem page_inside_ok (low_ : Int) (reg_ : Int) (r : (api_Entry)) (h : page_inside low_ reg_ = some r) : Pure Try.prog 19 [.s (.int .u8 low_), .s (.int .i64 reg_)] (page_inside_V r) := by
  refine ConL.of page_inside_cfn (Nat.le_of_ble_eq_true (by kernel_rfl)) (Nat.le_of_ble_eq_true (by kernel_rfl)) ?_
  refine k_start ?_
  show dwv Try.prog [] page_inside_ir (kont Try.prog [] (page_inside_C r) []) (fr0 [.s (.int .u8 low_), .s (.int .i64 reg_)]) []
  have hf : FOk (fr0 [.s (.int .u8 low_), .s (.int .i64 reg_)]) [⟨0, [], .s (.int .u8 low_)⟩, ⟨1, [], .s (.int .i64 reg_)⟩] := ⟨⟨fun _ => rfl, fun h => (h trivial).elim⟩, ⟨fun _ => rfl, fun h => (h trivial).elim⟩, trivial⟩
  generalize fr0 [.s (.int .u8 low_), .s (.int .i64 reg_)] = f at hf ⊢
  unfold page_inside at h
  refine k_seq ?_
  refine k_reg ?_
  refine mops_end [0, 1, 4] hf (l' := [⟨0, [], .s (.int .u8 low_)⟩, ⟨1, [], .s (.int .i64 reg_)⟩, ⟨4, [], .ptr 0 0 0⟩]) (L' := [⟨0, .mem, 1, [.s (.int .i64 0), .s (.int .i64 0), .s (.int .i64 0)]⟩]) (by kernel_rfl) fun f1 hf1 => ?_
  refine k_c ?_
  refine k_seq ?_
  refine k_seq ?_
  refine k_reg ?_
  refine mops_seg [1, 4, 6] 1 hf1 (l' := [⟨1, [], .s (.int .i64 reg_)⟩, ⟨4, [], .ptr 0 0 0⟩, ⟨6, [], .s (.int .u8 low_)⟩]) (L' := [⟨0, .mem, 1, [.s (.int .i64 0), .s (.int .i64 0), .s (.int .i64 0)]⟩]) (by kernel_rfl) fun f2 hf2 => ?_
  obtain ⟨r_, hx_r_, h⟩ := Option.bind_eq_some_iff.1 h
  refine mops_call (dst := (some 7)) (m := 23) (args := [(.t 6)]) (aft := [0]) (by kernel_rfl) hf2 (av := [.s (.int .u8 low_)]) (by kernel_rfl) (v := .s (.int .i64 r_)) (L' := [⟨0, .mem, 1, [.s (.int .i64 0), .s (.int .i64 0), .s (.int .i64 0)]⟩]) (CalL.pure (page_change_ok low_ r_ hx_r_) rfl rfl (Nat.le_of_ble_eq_true (by kernel_rfl))) (fun _ => rfl) fun f3 hf3 => ?_
  refine mops_end [1, 4, 5] hf3 (l' := [⟨1, [], .s (.int .i64 reg_)⟩, ⟨4, [], .ptr 0 0 0⟩, ⟨5, [], .s (.int .i64 r_)⟩]) (L' := [⟨0, .mem, 1, [.s (.int .i64 0), .s (.int .i64 0), .s (.int .i64 0)]⟩]) (by kernel_rfl) fun f4 hf4 => ?_
  refine k_c ?_
  refine k_seq ?_
  refine k_reg ?_
  refine mops_end [1, 4, 5, 9] hf4 (l' := [⟨1, [], .s (.int .i64 reg_)⟩, ⟨4, [], .ptr 0 0 0⟩, ⟨5, [], .s (.int .i64 r_)⟩, ⟨9, [], .s (.bool (r_ != 0))⟩]) (L' := [⟨0, .mem, 1, [.s (.int .i64 0), .s (.int .i64 0), .s (.int .i64 0)]⟩]) (by kernel_rfl) fun f5 hf5 => ?_
  refine k_c ?_
  refine k_cond hf5 (t := (r_ != 0)) (by kernel_rfl) (fun hc1 => ?_) (fun hc1 => ?_)
  · have h := if_t h hc1
    refine k_seq ?_
    refine k_reg ?_
    refine mops_end [4] hf5 (l' := [⟨4, [], .ptr 0 0 0⟩]) (L' := [⟨0, .mem, 1, [.s (.int .i64 r_), .s (.int .i64 0), .s (.int .i64 reg_)]⟩]) (by kernel_rfl) fun f6 hf6 => ?_
    refine k_c ?_
    refine k_ret ?_
    refine x_c nofun ?_
    obtain rfl := Option.some.inj h
    exact k_fin (fin_ret (.inl rfl) hf6 (vs := [.agg [.s (.int .i64 r_), .s (.int .i64 0), .s (.int .i64 reg_)]]) (by kernel_rfl) (SettL.pure (FzL.stat rfl)))
  · have h := if_f h hc1
    refine k_skip ?_
    refine k_c ?_
    refine k_seq ?_
    refine k_reg ?_
    refine mops_end [4] hf5 (l' := [⟨4, [], .ptr 0 0 0⟩]) (L' := [⟨0, .mem, 1, [.s (.int .i64 0), .s (.int .i64 0), .s (.int .i64 0)]⟩]) (by kernel_rfl) fun f6 hf6 => ?_
    refine k_c ?_
    refine k_ret ?_
    obtain rfl := Option.some.inj h
    exact k_fin (fin_ret (.inl rfl) hf6 (vs := [.agg [.s (.int .i64 0), .s (.int .i64 0), .s (.int .i64 0)]]) (by kernel_rfl) (SettL.pure (FzL.stat rfl)))
end Go.Proofs.YtjaadpgmiejidaaK
