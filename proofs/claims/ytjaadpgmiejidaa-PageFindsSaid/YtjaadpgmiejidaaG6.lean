/- The Go functions come to the functions over typed data. Printed by a program of this work. -/
import Derived.Test.YtjaadpgmiejidaaF
import Derived.Test.YtjaadpgmiejidaaProg
namespace Go.Proofs.YtjaadpgmiejidaaK
set_option linter.unusedVariables false
set_option linter.unusedSimpArgs false
set_option maxHeartbeats 4000000
open Go.RowKit
attribute [local irreducible] dwv mops lops lqops lwops kont iter run runK ex E1 vals val chain chB sel resF
def page_column_i0 : List Op1 := [⟨(some 2), (.e (.mv (.k (.int .i64 0)))), none, []⟩]
def page_column_i1 : List Op1 := [⟨(some 3), (.e (.build [(.int .i64 0), (.int .i64 0), (.int .i64 0), (.int .i64 0)] [(0, (1, (.k (.int .i64 1)))), (1, (1, (.k (.int .i64 3)))), (2, (1, (.k (.int .i64 4)))), (3, (1, (.k (.int .i64 5))))])), none, []⟩, ⟨(some 4), (.e (.mv (.t 0))), none, []⟩, ⟨(some 5), (.e (.bin .and (.t 4) (.k (.int .u8 3)))), none, [1]⟩, ⟨(some 6), (.e (.ixa false 4 1 (.t 3) (.t 5))), none, [0, 2]⟩, ⟨(some 2), (.e (.mv (.t 6))), none, [3, 0, 1, 2, 3]⟩]
def page_column_i2 : IR := .ret
def page_column_i3 : IR := (.seq (.reg false page_column_i1) page_column_i2)
def page_column_ir : IR := (.seq (.reg false page_column_i0) page_column_i3)
theorem page_column_cfn : cFn Try.prog 22 = some (page_column_ir, [(.t 2)], 7) := by kernel_rfl
def page_column_V (r : (Int)) : V := .s (.int .i64 r)
def page_column_C (r : (Int)) : X → Fr → Hp → Prop := FinL [(.t 2)] [] (page_column_V r) []
theorem page_column_ok (high_ : Int) (r : (Int)) (h : page_column high_ = some r) : Pure Try.prog 22 [.s (.int .u8 high_)] (page_column_V r) := by
  refine ConL.of page_column_cfn (Nat.le_of_ble_eq_true (by kernel_rfl)) (Nat.le_of_ble_eq_true (by kernel_rfl)) ?_
  refine k_start ?_
  show dwv Try.prog [] page_column_ir (kont Try.prog [] (page_column_C r) []) (fr0 [.s (.int .u8 high_)]) []
  have hf : FOk (fr0 [.s (.int .u8 high_)]) [⟨0, [], .s (.int .u8 high_)⟩] := ⟨⟨fun _ => rfl, fun h => (h trivial).elim⟩, trivial⟩
  generalize fr0 [.s (.int .u8 high_)] = f at hf ⊢
  unfold page_column at h
  refine k_seq ?_
  refine k_reg ?_
  refine mops_end [0, 2] hf (l' := [⟨0, [], .s (.int .u8 high_)⟩, ⟨2, [], .s (.int .i64 0)⟩]) (L' := []) (by kernel_rfl) fun f1 hf1 => ?_
  refine k_c ?_
  refine k_seq ?_
  refine k_reg ?_
  refine mops_seg [2, 3, 5] 3 hf1 (l' := [⟨2, [], .s (.int .i64 0)⟩, ⟨3, [], .agg [.s (.int .i64 1), .s (.int .i64 3), .s (.int .i64 4), .s (.int .i64 5)]⟩, ⟨5, [], .s (.int .u8 (bits .and .u8 high_ 3))⟩]) (L' := []) (by kernel_rfl) fun f2 hf2 => ?_
  obtain ⟨c1, h⟩ := as_ok h
  refine mops_adv (dst := (some 6)) (op := (.ixa false 4 1 (.t 3) (.t 5))) (aft := [0, 2]) (v := .s (.int .i64 (gt [1, 3, 4, 5] (bits .and .u8 high_ 3)))) (by kernel_rfl) hf2 (by kernel_rfl) (e_ixa (g := (nI .i64)) (l := [1, 3, 4, 5]) (n := 4) (k := .u8) (iv := (bits .and .u8 high_ 3)) (by kernel_rfl) (by kernel_rfl) c1 (by kernel_rfl) (by kernel_rfl)) fun f3 hf3 => ?_
  refine mops_end [2] hf3 (l' := [⟨2, [], .s (.int .i64 (gt [1, 3, 4, 5] (bits .and .u8 high_ 3)))⟩]) (L' := []) (by kernel_rfl) fun f4 hf4 => ?_
  refine k_c ?_
  refine k_ret ?_
  obtain rfl := Option.some.inj h
  exact k_fin (fin_ret (.inl rfl) hf4 (vs := [.s (.int .i64 (gt [1, 3, 4, 5] (bits .and .u8 high_ 3)))]) (by kernel_rfl) (SettL.pure (FzL.stat rfl)))
end Go.Proofs.YtjaadpgmiejidaaK
