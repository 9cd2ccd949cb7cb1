/- The Go functions come to the functions over typed data. Printed by a program of this work. -/
import Derived.Test.YtjaadpgmiejidaaF
import Derived.Test.YtjaadpgmiejidaaProg
namespace Go.Proofs.YtjaadpgmiejidaaK
set_option linter.unusedVariables false
set_option linter.unusedSimpArgs false
set_option maxHeartbeats 4000000
open Go.RowKit
attribute [local irreducible] dwv mops lops lqops lwops kont iter run runK ex E1 vals val chain chB sel resF
def page_wide_i0 : List Op1 := [⟨(some 6), (.e (.zero [(.int .i64 0), (.int .i64 0), (.int .i64 0)])), none, []⟩]
def page_wide_i1 : List Op1 := [⟨(some 7), (.e (.mv (.t 1))), none, []⟩, ⟨(some 8), (.e (.bin .eql (.t 7) (.k (.int .i64 1)))), none, [0]⟩]
def page_wide_i2 : List Op1 := [⟨(some 1), (.e (.mv (.k (.int .i64 2)))), none, []⟩]
def page_wide_i3 : List Op1 := [⟨(some 9), (.e (.mv (.t 0))), none, []⟩, ⟨(some 10), (.e (.bin .eql (.t 9) (.k (.int .i64 25)))), none, [0]⟩]
def page_wide_i4 : List Op1 := [⟨(some 11), (.e (.build [(.int .i64 0), (.int .i64 0), (.int .i64 0)] [])), none, []⟩, ⟨none, (.e (.store 3 (.t 6) (.t 11))), none, [0, 0]⟩]
def page_wide_i5 : IR := .ret
def page_wide_i6 : IR := (.cond (.t 10) (.seq (.reg false page_wide_i4) page_wide_i5) .skip)
def page_wide_i7 : IR := (.seq (.reg false page_wide_i3) page_wide_i6)
def page_wide_i8 : IR := (.cond (.t 8) (.seq (.reg false page_wide_i2) page_wide_i7) .skip)
def page_wide_i9 : List Op1 := [⟨(some 12), (.e (.mv (.t 0))), none, []⟩, ⟨(some 13), (.e (.mv (.t 1))), none, []⟩, ⟨(some 14), (.e (.mv (.t 2))), none, []⟩, ⟨(some 15), (.e (.build [(.int .i64 0), (.int .i64 0), (.int .i64 0)] [(0, (1, (.t 12))), (1, (1, (.t 13))), (2, (1, (.t 14)))])), none, [0, 1, 2]⟩, ⟨none, (.e (.store 3 (.t 6) (.t 15))), none, [3, 0, 1, 2, 3]⟩]
def page_wide_i10 : IR := .ret
def page_wide_i11 : IR := (.seq (.reg false page_wide_i9) page_wide_i10)
def page_wide_i12 : IR := (.seq (.seq (.reg false page_wide_i1) page_wide_i8) page_wide_i11)
def page_wide_ir : IR := (.seq (.reg false page_wide_i0) page_wide_i12)
theorem page_wide_cfn : cFn Try.prog 21 = some (page_wide_ir, [(.c 6 true 3)], 16) := by kernel_rfl
def page_wide_V (r : (api_Entry)) : V := .agg [.s (.int .i64 r.Op), .s (.int .i64 r.Mode), .s (.int .i64 r.Reg)]
def page_wide_C (r : (api_Entry)) : X → Fr → Hp → Prop := FinL [(.c 6 true 3)] [] (page_wide_V r) []
theorem page_wide_ok (op_ : Int) (mode_ : Int) (reg_ : Int) (r : (api_Entry)) (h : page_wide op_ mode_ reg_ = some r) : Pure Try.prog 21 [.s (.int .i64 op_), .s (.int .i64 mode_), .s (.int .i64 reg_)] (page_wide_V r) := by
  refine ConL.of page_wide_cfn (Nat.le_of_ble_eq_true (by kernel_rfl)) (Nat.le_of_ble_eq_true (by kernel_rfl)) ?_
  refine k_start ?_
  show dwv Try.prog [] page_wide_ir (kont Try.prog [] (page_wide_C r) []) (fr0 [.s (.int .i64 op_), .s (.int .i64 mode_), .s (.int .i64 reg_)]) []
  have hf : FOk (fr0 [.s (.int .i64 op_), .s (.int .i64 mode_), .s (.int .i64 reg_)]) [⟨0, [], .s (.int .i64 op_)⟩, ⟨1, [], .s (.int .i64 mode_)⟩, ⟨2, [], .s (.int .i64 reg_)⟩] := ⟨⟨fun _ => rfl, fun h => (h trivial).elim⟩, ⟨fun _ => rfl, fun h => (h trivial).elim⟩, ⟨fun _ => rfl, fun h => (h trivial).elim⟩, trivial⟩
  generalize fr0 [.s (.int .i64 op_), .s (.int .i64 mode_), .s (.int .i64 reg_)] = f at hf ⊢
  unfold page_wide at h
  refine k_seq ?_
  refine k_reg ?_
  refine mops_end [0, 1, 2, 6] hf (l' := [⟨0, [], .s (.int .i64 op_)⟩, ⟨1, [], .s (.int .i64 mode_)⟩, ⟨2, [], .s (.int .i64 reg_)⟩, ⟨6, [], .ptr 0 0 0⟩]) (L' := [⟨0, .mem, 1, [.s (.int .i64 0), .s (.int .i64 0), .s (.int .i64 0)]⟩]) (by kernel_rfl) fun f1 hf1 => ?_
  refine k_c ?_
  refine k_seq ?_
  refine k_seq ?_
  refine k_reg ?_
  refine mops_end [0, 1, 2, 6, 8] hf1 (l' := [⟨0, [], .s (.int .i64 op_)⟩, ⟨1, [], .s (.int .i64 mode_)⟩, ⟨2, [], .s (.int .i64 reg_)⟩, ⟨6, [], .ptr 0 0 0⟩, ⟨8, [], .s (.bool (mode_ == 1))⟩]) (L' := [⟨0, .mem, 1, [.s (.int .i64 0), .s (.int .i64 0), .s (.int .i64 0)]⟩]) (by kernel_rfl) fun f2 hf2 => ?_
  refine k_c ?_
  have hj1 : ∀ (t_ : Int), page_wide_j0 op_ reg_ t_ = some r → ∀ f, FOk f [⟨0, [], .s (.int .i64 op_)⟩, ⟨1, [], .s (.int .i64 t_)⟩, ⟨2, [], .s (.int .i64 reg_)⟩, ⟨6, [], .ptr 0 0 0⟩] → kont Try.prog [] (page_wide_C r) ((.c page_wide_i11) :: []) .normal f [⟨0, .mem, 1, [.s (.int .i64 0), .s (.int .i64 0), .s (.int .i64 0)]⟩] := by
    intro t_ h f hf
    unfold page_wide_j0 at h
    refine k_c ?_
    refine k_seq ?_
    refine k_reg ?_
    refine mops_end [6] hf (l' := [⟨6, [], .ptr 0 0 0⟩]) (L' := [⟨0, .mem, 1, [.s (.int .i64 op_), .s (.int .i64 t_), .s (.int .i64 reg_)]⟩]) (by kernel_rfl) fun f1 hf1 => ?_
    refine k_c ?_
    refine k_ret ?_
    obtain rfl := Option.some.inj h
    exact k_fin (fin_ret (.inl rfl) hf1 (vs := [.agg [.s (.int .i64 op_), .s (.int .i64 t_), .s (.int .i64 reg_)]]) (by kernel_rfl) (SettL.pure (FzL.stat rfl)))
  refine k_cond hf2 (t := (mode_ == 1)) (by kernel_rfl) (fun hc1 => ?_) (fun hc1 => ?_)
  · have h := if_t h hc1
    refine k_seq ?_
    refine k_reg ?_
    refine mops_end [0, 1, 2, 6] hf2 (l' := [⟨0, [], .s (.int .i64 op_)⟩, ⟨1, [], .s (.int .i64 2)⟩, ⟨2, [], .s (.int .i64 reg_)⟩, ⟨6, [], .ptr 0 0 0⟩]) (L' := [⟨0, .mem, 1, [.s (.int .i64 0), .s (.int .i64 0), .s (.int .i64 0)]⟩]) (by kernel_rfl) fun f3 hf3 => ?_
    refine k_c ?_
    refine k_seq ?_
    refine k_reg ?_
    refine mops_end [0, 1, 2, 6, 10] hf3 (l' := [⟨0, [], .s (.int .i64 op_)⟩, ⟨1, [], .s (.int .i64 2)⟩, ⟨2, [], .s (.int .i64 reg_)⟩, ⟨6, [], .ptr 0 0 0⟩, ⟨10, [], .s (.bool (op_ == 25))⟩]) (L' := [⟨0, .mem, 1, [.s (.int .i64 0), .s (.int .i64 0), .s (.int .i64 0)]⟩]) (by kernel_rfl) fun f4 hf4 => ?_
    refine k_c ?_
    refine k_cond hf4 (t := (op_ == 25)) (by kernel_rfl) (fun hc2 => ?_) (fun hc2 => ?_)
    · have h := if_t h hc2
      refine k_seq ?_
      refine k_reg ?_
      refine mops_end [0, 1, 2, 6] hf4 (l' := [⟨0, [], .s (.int .i64 op_)⟩, ⟨1, [], .s (.int .i64 2)⟩, ⟨2, [], .s (.int .i64 reg_)⟩, ⟨6, [], .ptr 0 0 0⟩]) (L' := [⟨0, .mem, 1, [.s (.int .i64 0), .s (.int .i64 0), .s (.int .i64 0)]⟩]) (by kernel_rfl) fun f5 hf5 => ?_
      refine k_c ?_
      refine k_ret ?_
      refine x_c nofun ?_
      obtain rfl := Option.some.inj h
      exact k_fin (fin_ret (.inl rfl) hf5 (vs := [.agg [.s (.int .i64 0), .s (.int .i64 0), .s (.int .i64 0)]]) (by kernel_rfl) (SettL.pure (FzL.stat rfl)))
    · have h := if_f h hc2
      refine k_skip ?_
      exact hj1 (2) h _ (FOk_of [0, 1, 2, 6] hf4 (by kernel_rfl))
  · have h := if_f h hc1
    refine k_skip ?_
    exact hj1 mode_ h _ (FOk_of [0, 1, 2, 6] hf2 (by kernel_rfl))
end Go.Proofs.YtjaadpgmiejidaaK
