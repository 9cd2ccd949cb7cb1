/- The Go functions come to the functions over typed data. Printed by a program of this work. -/
import Derived.Test.YtjaadpgmiejidaaF
import Derived.Test.YtjaadpgmiejidaaProg
import Derived.Test.YtjaadpgmiejidaaG12
namespace Go.Proofs.YtjaadpgmiejidaaK
set_option linter.unusedVariables false
set_option linter.unusedSimpArgs false
set_option maxHeartbeats 4000000
open Go.RowKit
attribute [local irreducible] dwv mops lops lqops lwops kont iter run runK ex E1 vals val chain chB sel resF
def spinetlaw14_alive_i0 : List Op1 := [⟨(some 0), (.e (.mv (.k (.bool false)))), none, []⟩]
def spinetlaw14_alive_i1 : List Op1 := [⟨(some 1), (.call 8 [(.k (.int .i64 1)), (.k (.int .u8 134))]), none, []⟩, ⟨(some 2), (.e (.build [(.int .i64 0), (.int .i64 0), (.int .i64 0)] [(0, (1, (.k (.int .i64 11)))), (1, (1, (.k (.int .i64 1)))), (2, (1, (.k (.int .i64 8))))])), none, []⟩, ⟨(some 3), (.e (.eqa false [.int, .int, .int] (.t 1) (.t 2))), none, [0, 1]⟩, ⟨(some 0), (.e (.mv (.t 3))), none, [2, 0, 0, 1, 2]⟩]
def spinetlaw14_alive_i2 : IR := .ret
def spinetlaw14_alive_i3 : IR := (.seq (.reg false spinetlaw14_alive_i1) spinetlaw14_alive_i2)
def spinetlaw14_alive_ir : IR := (.seq (.reg false spinetlaw14_alive_i0) spinetlaw14_alive_i3)
theorem spinetlaw14_alive_cfn : cFn Try.prog 7 = some (spinetlaw14_alive_ir, [(.t 0)], 4) := by kernel_rfl
def spinetlaw14_alive_V (r : (Bool)) : V := .s (.bool r)
def spinetlaw14_alive_C (r : (Bool)) : X → Fr → Hp → Prop := FinL [(.t 0)] [] (spinetlaw14_alive_V r) []
theorem spinetlaw14_alive_ok (r : (Bool)) (h : spinetlaw14_alive = some r) : Pure Try.prog 7 [] (spinetlaw14_alive_V r) := by
  refine ConL.of spinetlaw14_alive_cfn (Nat.le_of_ble_eq_true (by kernel_rfl)) (Nat.le_of_ble_eq_true (by kernel_rfl)) ?_
  refine k_start ?_
  show dwv Try.prog [] spinetlaw14_alive_ir (kont Try.prog [] (spinetlaw14_alive_C r) []) (fr0 []) []
  have hf : FOk (fr0 []) [] := trivial
  generalize fr0 [] = f at hf ⊢
  unfold spinetlaw14_alive at h
  refine k_seq ?_
  refine k_reg ?_
  refine mops_end [0] hf (l' := [⟨0, [], .s (.bool false)⟩]) (L' := []) (by kernel_rfl) fun f1 hf1 => ?_
  refine k_c ?_
  refine k_seq ?_
  refine k_reg ?_
  obtain ⟨r_, hx_r_, h⟩ := Option.bind_eq_some_iff.1 h
  refine mops_call (dst := (some 1)) (m := 8) (args := [(.k (.int .i64 1)), (.k (.int .u8 134))]) (aft := []) (by kernel_rfl) hf1 (av := [.s (.int .i64 1), .s (.int .u8 134)]) (by kernel_rfl) (v := .agg [.s (.int .i64 r_.Op), .s (.int .i64 r_.Mode), .s (.int .i64 r_.Reg)]) (L' := []) (CalL.pure (page_Of_ok (1) (134) r_ hx_r_) rfl rfl (Nat.le_of_ble_eq_true (by kernel_rfl))) (fun _ => rfl) fun f2 hf2 => ?_
  refine mops_end [0] hf2 (l' := [⟨0, [], .s (.bool ((r_.Op == 11) && ((r_.Mode == 1) && ((r_.Reg == 8) && true))))⟩]) (L' := []) (by kernel_rfl) fun f3 hf3 => ?_
  refine k_c ?_
  refine k_ret ?_
  obtain rfl := Option.some.inj h
  exact k_fin (fin_ret (.inl rfl) hf3 (vs := [.s (.bool ((r_.Op == 11) && ((r_.Mode == 1) && ((r_.Reg == 8) && true))))]) (by kernel_rfl) (SettL.pure (FzL.stat rfl)))
end Go.Proofs.YtjaadpgmiejidaaK
