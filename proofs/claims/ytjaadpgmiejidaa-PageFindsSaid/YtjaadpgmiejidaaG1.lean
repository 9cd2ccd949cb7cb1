/- The Go functions come to the functions over typed data. Printed by a program of this work. -/
import Derived.Test.YtjaadpgmiejidaaF
import Derived.Test.YtjaadpgmiejidaaProg
import Derived.Test.YtjaadpgmiejidaaG0
namespace Go.Proofs.YtjaadpgmiejidaaK
set_option linter.unusedVariables false
set_option linter.unusedSimpArgs false
set_option maxHeartbeats 4000000
open Go.RowKit
attribute [local irreducible] dwv mops lops lqops lwops kont iter run runK ex E1 vals val chain chB sel resF
def page_memory_i0 : List Op1 := [⟨(some 4), (.e (.zero [(.int .i64 0), (.int .i64 0), (.int .i64 0)])), none, []⟩]
def page_memory_i1 : List Op1 := [⟨(some 6), (.e (.mv (.t 0))), none, []⟩, ⟨(some 7), (.e (.bin .eql (.t 6) (.k (.int .u8 14)))), none, [0]⟩]
def page_memory_i2 : List Op1 := [⟨(some 8), (.e (.mv (.t 1))), none, []⟩, ⟨(some 9), (.e (.build [(.int .i64 0), (.int .i64 0), (.int .i64 0)] [(0, (1, (.k (.int .i64 32)))), (1, (1, (.t 8)))])), none, [0]⟩, ⟨none, (.e (.store 3 (.t 4) (.t 9))), none, [1, 0, 1]⟩]
def page_memory_i3 : IR := .ret
def page_memory_i4 : IR := (.cond (.t 7) (.seq (.reg false page_memory_i2) page_memory_i3) .skip)
def page_memory_i5 : List Op1 := [⟨(some 10), (.e (.mv (.t 0))), none, []⟩, ⟨(some 11), (.call 23 [(.t 10)]), none, [0]⟩, ⟨(some 5), (.e (.mv (.t 11))), none, [1, 1, 0, 1]⟩]
def page_memory_i6 : List Op1 := [⟨(some 12), (.e (.mv (.t 5))), none, []⟩, ⟨(some 13), (.e (.bin .neq (.t 12) (.k (.int .i64 0)))), none, [0]⟩]
def page_memory_i7 : List Op1 := [⟨(some 14), (.e (.mv (.t 5))), none, []⟩, ⟨(some 15), (.e (.mv (.t 1))), none, []⟩, ⟨(some 16), (.e (.build [(.int .i64 0), (.int .i64 0), (.int .i64 0)] [(0, (1, (.t 14))), (1, (1, (.t 15)))])), none, [0, 1]⟩, ⟨none, (.e (.store 3 (.t 4) (.t 16))), none, [2, 0, 1, 2]⟩]
def page_memory_i8 : IR := .ret
def page_memory_i9 : IR := (.cond (.t 13) (.seq (.reg false page_memory_i7) page_memory_i8) .skip)
def page_memory_i10 : IR := (.seq (.reg false page_memory_i6) page_memory_i9)
def page_memory_i11 : List Op1 := [⟨(some 17), (.e (.build [(.int .i64 0), (.int .i64 0), (.int .i64 0)] [])), none, []⟩, ⟨none, (.e (.store 3 (.t 4) (.t 17))), none, [0, 0]⟩]
def page_memory_i12 : IR := .ret
def page_memory_i13 : IR := (.seq (.reg false page_memory_i11) page_memory_i12)
def page_memory_i14 : IR := (.seq (.seq (.reg false page_memory_i5) page_memory_i10) page_memory_i13)
def page_memory_i15 : IR := (.seq (.seq (.reg false page_memory_i1) page_memory_i4) page_memory_i14)
def page_memory_ir : IR := (.seq (.reg false page_memory_i0) page_memory_i15)
theorem page_memory_cfn : cFn Try.prog 16 = some (page_memory_ir, [(.c 4 true 3)], 18) := by kernel_rfl
def page_memory_V (r : (api_Entry)) : V := .agg [.s (.int .i64 r.Op), .s (.int .i64 r.Mode), .s (.int .i64 r.Reg)]
def page_memory_C (r : (api_Entry)) : X → Fr → Hp → Prop := FinL [(.c 4 true 3)] [] (page_memory_V r) []
theorem page_memory_ok (low_ : Int) (mode_ : Int) (r : (api_Entry)) (h : page_memory low_ mode_ = some r) : Pure Try.prog 16 [.s (.int .u8 low_), .s (.int .i64 mode_)] (page_memory_V r) := by
  refine ConL.of page_memory_cfn (Nat.le_of_ble_eq_true (by kernel_rfl)) (Nat.le_of_ble_eq_true (by kernel_rfl)) ?_
  refine k_start ?_
  show dwv Try.prog [] page_memory_ir (kont Try.prog [] (page_memory_C r) []) (fr0 [.s (.int .u8 low_), .s (.int .i64 mode_)]) []
  have hf : FOk (fr0 [.s (.int .u8 low_), .s (.int .i64 mode_)]) [⟨0, [], .s (.int .u8 low_)⟩, ⟨1, [], .s (.int .i64 mode_)⟩] := ⟨⟨fun _ => rfl, fun h => (h trivial).elim⟩, ⟨fun _ => rfl, fun h => (h trivial).elim⟩, trivial⟩
  generalize fr0 [.s (.int .u8 low_), .s (.int .i64 mode_)] = f at hf ⊢
  unfold page_memory at h
  refine k_seq ?_
  refine k_reg ?_
  refine mops_end [0, 1, 4] hf (l' := [⟨0, [], .s (.int .u8 low_)⟩, ⟨1, [], .s (.int .i64 mode_)⟩, ⟨4, [], .ptr 0 0 0⟩]) (L' := [⟨0, .mem, 1, [.s (.int .i64 0), .s (.int .i64 0), .s (.int .i64 0)]⟩]) (by kernel_rfl) fun f1 hf1 => ?_
  refine k_c ?_
  refine k_seq ?_
  refine k_seq ?_
  refine k_reg ?_
  refine mops_end [0, 1, 4, 7] hf1 (l' := [⟨0, [], .s (.int .u8 low_)⟩, ⟨1, [], .s (.int .i64 mode_)⟩, ⟨4, [], .ptr 0 0 0⟩, ⟨7, [], .s (.bool (low_ == 14))⟩]) (L' := [⟨0, .mem, 1, [.s (.int .i64 0), .s (.int .i64 0), .s (.int .i64 0)]⟩]) (by kernel_rfl) fun f2 hf2 => ?_
  refine k_c ?_
  refine k_cond hf2 (t := (low_ == 14)) (by kernel_rfl) (fun hc1 => ?_) (fun hc1 => ?_)
  · have h := if_t h hc1
    refine k_seq ?_
    refine k_reg ?_
    refine mops_end [0, 1, 4] hf2 (l' := [⟨0, [], .s (.int .u8 low_)⟩, ⟨1, [], .s (.int .i64 mode_)⟩, ⟨4, [], .ptr 0 0 0⟩]) (L' := [⟨0, .mem, 1, [.s (.int .i64 32), .s (.int .i64 mode_), .s (.int .i64 0)]⟩]) (by kernel_rfl) fun f3 hf3 => ?_
    refine k_c ?_
    refine k_ret ?_
    refine x_c nofun ?_
    obtain rfl := Option.some.inj h
    exact k_fin (fin_ret (.inl rfl) hf3 (vs := [.agg [.s (.int .i64 32), .s (.int .i64 mode_), .s (.int .i64 0)]]) (by kernel_rfl) (SettL.pure (FzL.stat rfl)))
  · have h := if_f h hc1
    refine k_skip ?_
    refine k_c ?_
    refine k_seq ?_
    refine k_seq ?_
    refine k_reg ?_
    refine mops_seg [1, 4, 10] 1 hf2 (l' := [⟨1, [], .s (.int .i64 mode_)⟩, ⟨4, [], .ptr 0 0 0⟩, ⟨10, [], .s (.int .u8 low_)⟩]) (L' := [⟨0, .mem, 1, [.s (.int .i64 0), .s (.int .i64 0), .s (.int .i64 0)]⟩]) (by kernel_rfl) fun f3 hf3 => ?_
    obtain ⟨r_, hx_r_, h⟩ := Option.bind_eq_some_iff.1 h
    refine mops_call (dst := (some 11)) (m := 23) (args := [(.t 10)]) (aft := [0]) (by kernel_rfl) hf3 (av := [.s (.int .u8 low_)]) (by kernel_rfl) (v := .s (.int .i64 r_)) (L' := [⟨0, .mem, 1, [.s (.int .i64 0), .s (.int .i64 0), .s (.int .i64 0)]⟩]) (CalL.pure (page_change_ok low_ r_ hx_r_) rfl rfl (Nat.le_of_ble_eq_true (by kernel_rfl))) (fun _ => rfl) fun f4 hf4 => ?_
    refine mops_end [1, 4, 5] hf4 (l' := [⟨1, [], .s (.int .i64 mode_)⟩, ⟨4, [], .ptr 0 0 0⟩, ⟨5, [], .s (.int .i64 r_)⟩]) (L' := [⟨0, .mem, 1, [.s (.int .i64 0), .s (.int .i64 0), .s (.int .i64 0)]⟩]) (by kernel_rfl) fun f5 hf5 => ?_
    refine k_c ?_
    refine k_seq ?_
    refine k_reg ?_
    refine mops_end [1, 4, 5, 13] hf5 (l' := [⟨1, [], .s (.int .i64 mode_)⟩, ⟨4, [], .ptr 0 0 0⟩, ⟨5, [], .s (.int .i64 r_)⟩, ⟨13, [], .s (.bool (r_ != 0))⟩]) (L' := [⟨0, .mem, 1, [.s (.int .i64 0), .s (.int .i64 0), .s (.int .i64 0)]⟩]) (by kernel_rfl) fun f6 hf6 => ?_
    refine k_c ?_
    refine k_cond hf6 (t := (r_ != 0)) (by kernel_rfl) (fun hc2 => ?_) (fun hc2 => ?_)
    · have h := if_t h hc2
      refine k_seq ?_
      refine k_reg ?_
      refine mops_end [4] hf6 (l' := [⟨4, [], .ptr 0 0 0⟩]) (L' := [⟨0, .mem, 1, [.s (.int .i64 r_), .s (.int .i64 mode_), .s (.int .i64 0)]⟩]) (by kernel_rfl) fun f7 hf7 => ?_
      refine k_c ?_
      refine k_ret ?_
      refine x_c nofun ?_
      obtain rfl := Option.some.inj h
      exact k_fin (fin_ret (.inl rfl) hf7 (vs := [.agg [.s (.int .i64 r_), .s (.int .i64 mode_), .s (.int .i64 0)]]) (by kernel_rfl) (SettL.pure (FzL.stat rfl)))
    · have h := if_f h hc2
      refine k_skip ?_
      refine k_c ?_
      refine k_seq ?_
      refine k_reg ?_
      refine mops_end [4] hf6 (l' := [⟨4, [], .ptr 0 0 0⟩]) (L' := [⟨0, .mem, 1, [.s (.int .i64 0), .s (.int .i64 0), .s (.int .i64 0)]⟩]) (by kernel_rfl) fun f7 hf7 => ?_
      refine k_c ?_
      refine k_ret ?_
      obtain rfl := Option.some.inj h
      exact k_fin (fin_ret (.inl rfl) hf7 (vs := [.agg [.s (.int .i64 0), .s (.int .i64 0), .s (.int .i64 0)]]) (by kernel_rfl) (SettL.pure (FzL.stat rfl)))
end Go.Proofs.YtjaadpgmiejidaaK
