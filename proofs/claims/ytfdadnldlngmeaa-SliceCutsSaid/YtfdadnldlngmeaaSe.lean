/- Builders: a byte that is written. -/
import Derived.Test.YtfdadnldlngmeaaSc
namespace Go.Proofs.YtfdadnldlngmeaaK
set_option linter.unusedVariables false
set_option linter.unusedSimpArgs false
set_option maxHeartbeats 4000000
open Go.RowKit
attribute [local irreducible] dwv mops lops lqops lwops kont iter run runK rk okK ex E1 vals val chain chB sel resF

def wb_i0 : List Op1 := [oM 4 (.k .nilIface) []]
def wb_i1 : List Op1 := [oM 5 (.t 0) [], oC 6 57 [(.t 5)] [0]]
def wb_i2 : List Op1 := [oM 7 (.t 0) [], oM 8 (.t 0) [], oE 9 (.nilc (.t 8)) [1], oE 10 (.fld 1 (.t 9)) [2], oE 11 (.load false 1 (.t 10)) [3], oM 12 (.t 1) [], oE 13 (.bslo 1 1 [(.int .u8 0)] [(0, (1, (.t 12)))]) [5], oE 14 (.app 5 1 1 (.t 11) (.t 13)) [4, 6], oE 15 (.nilc (.t 7)) [0, 0, 1, 2, 3, 4, 5, 6, 7], oE 16 (.fld 1 (.t 15)) [8, 0, 1, 2, 3, 4, 5, 6, 7], oN (.store 1 (.t 16) (.t 14)) [9, 7, 7, 0, 1, 2, 3, 4, 5, 6, 7]]
def wb_i3 : List Op1 := [oM 4 (.k .nilIface) []]
def wb_ir : IR := (.seq (.reg false wb_i0) (.seq (.reg false wb_i1) (.seq (.reg false wb_i2) (.seq (.reg false wb_i3) .ret))))
theorem wb_cfn : cFn Try.prog 53 = some (wb_ir, [(.t 4)], 17) := by kernel_rfl
theorem wb_con (z : Bool) (v : Nat) (l : List Int) (c : Int) (hc : (l.length + [c].length) * 1 ≤ 140737488355328) :
    ConL Try.prog 53 [.ptr 1 0 0, .s (.int .u8 c)] (Bld BT BU z v l) (.s .nilIface) (Bld BT BU false (v + 1) (l ++ [c])) := by
  refine ConL.of wb_cfn (Nat.le_of_ble_eq_true (by kernel_rfl)) (Nat.le_of_ble_eq_true (by kernel_rfl)) ?_
  refine k_start ?_
  have hf : FOk (fr0 [.ptr 1 0 0, .s (.int .u8 c)]) [⟨0, [], .ptr 1 0 0⟩, ⟨1, [], .s (.int .u8 c)⟩] := ⟨⟨fun _ => rfl, fun h => (h trivial).elim⟩, ⟨fun _ => rfl, fun h => (h trivial).elim⟩, trivial⟩
  generalize fr0 [.ptr 1 0 0, .s (.int .u8 c)] = f at hf ⊢
  refine k_seq ?_
  refine k_reg ?_
  refine mops_end [0, 1] hf (l' := [⟨0, [], .ptr 1 0 0⟩, ⟨1, [], .s (.int .u8 c)⟩]) (L' := Bld BT BU z v l) (by kernel_rfl) fun f1 hf1 => ?_
  refine k_c ?_
  refine k_seq ?_
  refine k_reg ?_
  refine mops_seg [0, 1, 5] 1 hf1 (l' := [⟨0, [], .ptr 1 0 0⟩, ⟨1, [], .s (.int .u8 c)⟩, ⟨5, [], .ptr 1 0 0⟩]) (L' := Bld BT BU z v l) (by kernel_rfl) fun f2 hf2 => ?_
  refine mops_call rfl hf2 (av := [.ptr 1 0 0]) (by kernel_rfl) (v := .tup []) (L' := Bld BT BU false v l) (cc_con z v l) (by intro h; cases h) fun f3 hf3 => ?_
  refine mops_end [0, 1] hf3 (l' := [⟨0, [], .ptr 1 0 0⟩, ⟨1, [], .s (.int .u8 c)⟩]) (L' := Bld BT BU false v l) (by kernel_rfl) fun f4 hf4 => ?_
  refine k_c ?_
  refine k_seq ?_
  refine k_reg ?_
  refine mops_sg 7 hf4 (by kernel_rfl) fun f5 hf5 => ?_
  refine mops_adv rfl (v := .ref 0 (v + 1) 0 (l ++ [c]).length) hf5 (by kernel_rfl) (e_app (g := nI .u8) (kd := .buf BU) (l := l) (l' := [c]) (b := 0) (ver := v) (n := l.length) (by kernel_rfl) (by kernel_rfl) rfl (live_k (by kernel_rfl) (by simp)) (by kernel_rfl) (by kernel_rfl) hc) fun f6 hf6 => ?_
  refine mops_end [] hf6 (l' := []) (L' := [⟨v + 1, .buf BU, 1, cat (nI .u8) (l ++ [c])⟩, ⟨0, .bld BT, 1, [sp false 1 0, .ref 0 (v + 1) 0 (l ++ [c]).length]⟩, ⟨0, .grow, 1, [.s (.int .u8 c)]⟩]) (by kernel_rfl) fun f7 hf7 => ?_
  refine k_c' (vs_cut (l := []) 2 (by kernel_rfl) (by kernel_rfl) (L' := Bld BT BU false (v + 1) (l ++ [c])) (by kernel_rfl) trivial ⟨.inr (.inr (statics_unders _ _ (cat_stat _))), .inr (.inr rfl), trivial⟩ hf7 fun f hf => ?_)
  refine k_seq ?_
  refine k_reg ?_
  refine mops_en hf (by kernel_rfl) fun f8 hf8 => ?_
  refine k_c ?_
  refine k_ret ?_
  refine k_hp (L' := Bld BT BU false (v + 1) (l ++ [c])) (by kernel_rfl) ?_
  exact k_fin (fin_ret (.inl rfl) hf8 (vs := [.s .nilIface]) (by kernel_rfl) SettL.refl)
end Go.Proofs.YtfdadnldlngmeaaK
