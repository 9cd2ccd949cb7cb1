/- The Go functions come to the functions over typed data. Printed by a program of this work. -/
import Derived.Test.YtjaadpgmiejidaaF
import Derived.Test.YtjaadpgmiejidaaProg
namespace Go.Proofs.YtjaadpgmiejidaaK
set_option linter.unusedVariables false
set_option linter.unusedSimpArgs false
set_option maxHeartbeats 4000000
open Go.RowKit
attribute [local irreducible] dwv mops lops lqops lwops kont iter run runK ex E1 vals val chain chB sel resF
def spinetref14_add_i0 : List Op1 := [⟨(some 12), (.e (.nilg 5)), none, []⟩]
def spinetref14_add_i1 : List Op1 := [⟨(some 13), (.e (.mv (.t 0))), none, []⟩, ⟨(some 14), (.e (.mv (.t 1))), none, []⟩, ⟨(some 15), (.e (.mv (.t 2))), none, []⟩, ⟨(some 16), (.e (.mv (.t 3))), none, []⟩, ⟨(some 17), (.e (.mv (.t 4))), none, []⟩, ⟨(some 18), (.e (.mv (.t 5))), none, []⟩, ⟨(some 19), (.e (.build [(.int .i64 0), (.int .i64 0), (.int .i64 0)] [(0, (1, (.t 16))), (1, (1, (.t 17))), (2, (1, (.t 18)))])), none, [3, 4, 5]⟩, ⟨(some 20), (.e (.build [(.int .i64 0), (.int .i64 0), (.int .i64 0), (.int .i64 0), (.int .i64 0)] [(0, (1, (.t 14))), (1, (1, (.t 15))), (2, (3, (.t 19)))])), none, [1, 2, 6]⟩, ⟨(some 21), (.e (.bslo 5 1 [(.int .i64 0), (.int .i64 0), (.int .i64 0), (.int .i64 0), (.int .i64 0)] [(0, (5, (.t 20)))])), none, [7]⟩, ⟨(some 22), (.e (.app 5 40 (.t 13) (.t 21))), none, [0, 8]⟩, ⟨(some 12), (.e (.mv (.t 22))), none, [9, 9, 0, 1, 2, 3, 4, 5, 6, 7, 8, 9]⟩]
def spinetref14_add_i2 : IR := .ret
def spinetref14_add_i3 : IR := (.seq (.reg false spinetref14_add_i1) spinetref14_add_i2)
def spinetref14_add_ir : IR := (.seq (.reg false spinetref14_add_i0) spinetref14_add_i3)
theorem spinetref14_add_cfn : cFn Try.prog 12 = some (spinetref14_add_ir, [(.t 12)], 23) := by kernel_rfl
def spinetref14_add_V (ver_ : Nat) (r : ((List spinetref14_Known))) : V := .ref 0 (ver_ + 1) 0 r.length
def spinetref14_add_L (l_ : (List spinetref14_Known)) (ver_ : Nat) : Hp := [⟨ver_, .grow, 5, cat spinetref14_Known.v l_⟩]
def spinetref14_add_C (l_ : (List spinetref14_Known)) (ver_ : Nat) (r : ((List spinetref14_Known))) : X → Fr → Hp → Prop := FinL [(.t 12)] (spinetref14_add_L l_ ver_) (spinetref14_add_V ver_ r) [⟨(ver_ + 1), .grow, 5, cat spinetref14_Known.v r⟩]
theorem spinetref14_add_ok (l_ : (List spinetref14_Known)) (page_ : Int) (code_ : Int) (op_ : Int) (mode_ : Int) (reg_ : Int) (ver_ : Nat) (r : ((List spinetref14_Known))) (h : spinetref14_add l_ page_ code_ op_ mode_ reg_ = some r) : ConL Try.prog 12 [.ref 0 ver_ 0 l_.length, .s (.int .i64 page_), .s (.int .i64 code_), .s (.int .i64 op_), .s (.int .i64 mode_), .s (.int .i64 reg_)] [⟨ver_, .grow, 5, cat spinetref14_Known.v l_⟩] (spinetref14_add_V ver_ r) [⟨(ver_ + 1), .grow, 5, cat spinetref14_Known.v r⟩] := by
  refine ConL.of spinetref14_add_cfn (Nat.le_of_ble_eq_true (by kernel_rfl)) (Nat.le_of_ble_eq_true (by kernel_rfl)) ?_
  refine k_start ?_
  show dwv Try.prog (spinetref14_add_L l_ ver_) spinetref14_add_ir (kont Try.prog (spinetref14_add_L l_ ver_) (spinetref14_add_C l_ ver_ r) []) (fr0 [.ref 0 ver_ 0 l_.length, .s (.int .i64 page_), .s (.int .i64 code_), .s (.int .i64 op_), .s (.int .i64 mode_), .s (.int .i64 reg_)]) [⟨ver_, .grow, 5, cat spinetref14_Known.v l_⟩]
  have hf : FOk (fr0 [.ref 0 ver_ 0 l_.length, .s (.int .i64 page_), .s (.int .i64 code_), .s (.int .i64 op_), .s (.int .i64 mode_), .s (.int .i64 reg_)]) [⟨0, [], .ref 0 ver_ 0 l_.length⟩, ⟨1, [], .s (.int .i64 page_)⟩, ⟨2, [], .s (.int .i64 code_)⟩, ⟨3, [], .s (.int .i64 op_)⟩, ⟨4, [], .s (.int .i64 mode_)⟩, ⟨5, [], .s (.int .i64 reg_)⟩] := ⟨⟨fun _ => rfl, fun h => (h trivial).elim⟩, ⟨fun _ => rfl, fun h => (h trivial).elim⟩, ⟨fun _ => rfl, fun h => (h trivial).elim⟩, ⟨fun _ => rfl, fun h => (h trivial).elim⟩, ⟨fun _ => rfl, fun h => (h trivial).elim⟩, ⟨fun _ => rfl, fun h => (h trivial).elim⟩, trivial⟩
  generalize fr0 [.ref 0 ver_ 0 l_.length, .s (.int .i64 page_), .s (.int .i64 code_), .s (.int .i64 op_), .s (.int .i64 mode_), .s (.int .i64 reg_)] = f at hf ⊢
  unfold spinetref14_add at h
  refine k_seq ?_
  refine k_reg ?_
  refine mops_end [0, 1, 2, 3, 4, 5, 12] hf (l' := [⟨0, [], .ref 0 ver_ 0 l_.length⟩, ⟨1, [], .s (.int .i64 page_)⟩, ⟨2, [], .s (.int .i64 code_)⟩, ⟨3, [], .s (.int .i64 op_)⟩, ⟨4, [], .s (.int .i64 mode_)⟩, ⟨5, [], .s (.int .i64 reg_)⟩, ⟨12, [], .ref 1 0 0 0⟩]) (L' := [⟨ver_, .grow, 5, cat spinetref14_Known.v l_⟩, ⟨0, .grow, 5, cat spinetref14_Known.v ([] : List spinetref14_Known)⟩]) (by kernel_rfl) fun f1 hf1 => ?_
  refine k_c ?_
  refine k_seq ?_
  refine k_reg ?_
  refine mops_seg [12, 13, 21] 9 hf1 (l' := [⟨12, [], .ref 1 0 0 0⟩, ⟨13, [], .ref 0 ver_ 0 l_.length⟩, ⟨21, [], .ref 2 0 0 1⟩]) (L' := [⟨ver_, .grow, 5, cat spinetref14_Known.v l_⟩, ⟨0, .grow, 5, cat spinetref14_Known.v ([] : List spinetref14_Known)⟩, ⟨0, .grow, 5, [.s (.int .i64 page_), .s (.int .i64 code_), .s (.int .i64 op_), .s (.int .i64 mode_), .s (.int .i64 reg_)]⟩]) (by kernel_rfl) fun f2 hf2 => ?_
  obtain ⟨c1, h⟩ := as_ok h
  refine mops_adv (dst := (some 22)) (op := (.app 5 40 (.t 13) (.t 21))) (aft := [0, 8]) (v := .ref 0 (ver_ + 1) 0 (l_ ++ [(spinetref14_Known.mk page_ code_ (api_Entry.mk op_ mode_ reg_))]).length) (by kernel_rfl) hf2 (by kernel_rfl) (e_app (g := spinetref14_Known.v) (l := l_) (l' := [(spinetref14_Known.mk page_ code_ (api_Entry.mk op_ mode_ reg_))]) (b := 0) (ver := ver_) (n := l_.length) (by kernel_rfl) rfl (live_grow (by kernel_rfl)) (sll_ref (B := ⟨0, .grow, 5, cat spinetref14_Known.v [(spinetref14_Known.mk page_ code_ (api_Entry.mk op_ mode_ reg_))]⟩) (by kernel_rfl) (live_grow (by kernel_rfl))) (slc_ref (g := spinetref14_Known.v) (l := [(spinetref14_Known.mk page_ code_ (api_Entry.mk op_ mode_ reg_))]) (kd := .grow) (q := 5) (by kernel_rfl) (live_grow (by kernel_rfl))) c1) fun f3 hf3 => ?_
  refine mops_end [12] hf3 (l' := [⟨12, [], .ref 0 (ver_ + 1) 0 (l_ ++ [(spinetref14_Known.mk page_ code_ (api_Entry.mk op_ mode_ reg_))]).length⟩]) (L' := [⟨(ver_ + 1), .grow, 5, cat spinetref14_Known.v (l_ ++ [(spinetref14_Known.mk page_ code_ (api_Entry.mk op_ mode_ reg_))])⟩, ⟨0, .grow, 5, cat spinetref14_Known.v ([] : List spinetref14_Known)⟩, ⟨0, .grow, 5, cat spinetref14_Known.v [(spinetref14_Known.mk page_ code_ (api_Entry.mk op_ mode_ reg_))]⟩]) (by kernel_rfl) fun f4 hf4 => ?_
  refine k_c ?_
  refine k_ret ?_
  obtain rfl := Option.some.inj h
  exact k_fin (fin_ret (.inl rfl) hf4 (vs := [.ref 0 (ver_ + 1) 0 (l_ ++ [(spinetref14_Known.mk page_ code_ (api_Entry.mk op_ mode_ reg_))]).length]) (by kernel_rfl) (SettL.cutb (L' := [⟨(ver_ + 1), .grow, 5, cat spinetref14_Known.v (l_ ++ [(spinetref14_Known.mk page_ code_ (api_Entry.mk op_ mode_ reg_))])⟩]) 1 (by kernel_rfl) (by kernel_rfl) (by kernel_rfl) ⟨.inr (.inr (statics_unders _ _ (cat_stat _))), trivial⟩ (FzL.und rfl (ref_len rfl))))
end Go.Proofs.YtjaadpgmiejidaaK
