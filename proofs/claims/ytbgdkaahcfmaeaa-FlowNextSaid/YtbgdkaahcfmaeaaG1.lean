/- The Go functions come to the functions over typed data. Printed by a program of this work. -/
import Derived.Test.YtbgdkaahcfmaeaaF
import Derived.Test.YtbgdkaahcfmaeaaProg
namespace Go.Proofs.YtbgdkaahcfmaeaaK
set_option linter.unusedVariables false
set_option linter.unusedSimpArgs false
set_option maxHeartbeats 4000000
open Go.RowKit
attribute [local irreducible] dwv mops lops lqops lwops kont iter run runK ex E1 vals val chain chB sel resF
def spinetref14_add_i0 : List Op1 := [⟨(some 12), (.e (.nilg 5)), none, []⟩]
def spinetref14_add_i1 : List Op1 := [⟨(some 13), (.e (.mv (.t 0))), none, []⟩, ⟨(some 14), (.e (.mv (.t 1))), none, []⟩, ⟨(some 15), (.e (.mv (.t 2))), none, []⟩, ⟨(some 16), (.e (.mv (.t 3))), none, []⟩, ⟨(some 17), (.e (.mv (.t 4))), none, []⟩, ⟨(some 18), (.e (.mv (.t 5))), none, []⟩, ⟨(some 19), (.e (.build [(.int .i64 0), (.int .i64 0), (.int .i64 0)] [(0, (1, (.t 16))), (1, (1, (.t 17))), (2, (1, (.t 18)))])), none, [3, 4, 5]⟩, ⟨(some 20), (.e (.build [(.int .i64 0), (.int .i64 0), (.int .i64 0), (.int .i64 0), (.int .i64 0)] [(0, (1, (.t 14))), (1, (1, (.t 15))), (2, (3, (.t 19)))])), none, [1, 2, 6]⟩, ⟨(some 21), (.e (.bslo 5 1 [(.int .i64 0), (.int .i64 0), (.int .i64 0), (.int .i64 0), (.int .i64 0)] [(0, (5, (.t 20)))])), none, [7]⟩, ⟨(some 22), (.e (.app 5 40 (.t 13) (.t 21))), none, [0, 8]⟩, ⟨(some 12), (.e (.mv (.t 22))), none, [9, 9, 0, 1, 2, 3, 4, 5, 6, 7, 8, 9]⟩]
def spinetref14_add_i2 : IR := .ret
def spinetref14_add_i3 : IR := (.seq (.reg false spinetref14_add_i1) spinetref14_add_i2)
def spinetref14_add_ir : IR := (.seq (.reg false spinetref14_add_i0) spinetref14_add_i3)
theorem spinetref14_add_cfn : cFn Try.prog 87 = some (spinetref14_add_ir, [(.t 12)], 23) := by kernel_rfl
def spinetref14_add_V (ver_ : Nat) (r : ((List spinetref14_Known))) : V := .ref 0 (ver_ + 1) 0 r.length
def spinetref14_add_L (l_ : (List spinetref14_Known)) (ver_ : Nat) : Hp := [⟨ver_, .grow, 5, cat spinetref14_Known.v l_⟩]
def spinetref14_add_C (l_ : (List spinetref14_Known)) (ver_ : Nat) (r : ((List spinetref14_Known))) : X → Fr → Hp → Prop := FinL [(.t 12)] (spinetref14_add_L l_ ver_) (spinetref14_add_V ver_ r) [⟨(ver_ + 1), .grow, 5, cat spinetref14_Known.v r⟩]
theorem spinetref14_add_ok (l_ : (List spinetref14_Known)) (page_ : Int) (code_ : Int) (op_ : Int) (mode_ : Int) (reg_ : Int) (ver_ : Nat) (r : ((List spinetref14_Known))) (h : spinetref14_add l_ page_ code_ op_ mode_ reg_ = some r) : ConL Try.prog 87 [.ref 0 ver_ 0 l_.length, .s (.int .i64 page_), .s (.int .i64 code_), .s (.int .i64 op_), .s (.int .i64 mode_), .s (.int .i64 reg_)] [⟨ver_, .grow, 5, cat spinetref14_Known.v l_⟩] (spinetref14_add_V ver_ r) [⟨(ver_ + 1), .grow, 5, cat spinetref14_Known.v r⟩] := by
  refine ConL.of spinetref14_add_cfn (Nat.le_of_ble_eq_true (by kernel_rfl)) (Nat.le_of_ble_eq_true (by kernel_rfl)) ?_
  refine k_start ?_
  show dwv Try.prog (spinetref14_add_L l_ ver_) spinetref14_add_ir (kont Try.prog (spinetref14_add_L l_ ver_) (spinetref14_add_C l_ ver_ r) []) (fr0 [.ref 0 ver_ 0 l_.length, .s (.int .i64 page_), .s (.int .i64 code_), .s (.int .i64 op_), .s (.int .i64 mode_), .s (.int .i64 reg_)]) [⟨ver_, .grow, 5, cat spinetref14_Known.v l_⟩]
  have hf : FOk (fr0 [.ref 0 ver_ 0 l_.length, .s (.int .i64 page_), .s (.int .i64 code_), .s (.int .i64 op_), .s (.int .i64 mode_), .s (.int .i64 reg_)]) [⟨0, [], .ref 0 ver_ 0 l_.length⟩, ⟨1, [], .s (.int .i64 page_)⟩, ⟨2, [], .s (.int .i64 code_)⟩, ⟨3, [], .s (.int .i64 op_)⟩, ⟨4, [], .s (.int .i64 mode_)⟩, ⟨5, [], .s (.int .i64 reg_)⟩] := ⟨⟨fun _ => rfl, fun h => (h trivial).elim⟩, ⟨fun _ => rfl, fun h => (h trivial).elim⟩, ⟨fun _ => rfl, fun h => (h trivial).elim⟩, ⟨fun _ => rfl, fun h => (h trivial).elim⟩, ⟨fun _ => rfl, fun h => (h trivial).elim⟩, ⟨fun _ => rfl, fun h => (h trivial).elim⟩, trivial⟩
  generalize fr0 [.ref 0 ver_ 0 l_.length, .s (.int .i64 page_), .s (.int .i64 code_), .s (.int .i64 op_), .s (.int .i64 mode_), .s (.int .i64 reg_)] = f at hf ⊢
  unfold spinetref14_add at h
  refine k_seq ?_
  refine k_reg ?_
  refine mops_end [0, 1, 2, 3, 4, 5, 12] hf (l' := [⟨0, [], .ref 0 ver_ 0 l_.length⟩, ⟨1, [], .s (.int .i64 page_)⟩, ⟨2, [], .s (.int .i64 code_)⟩, ⟨3, [], .s (.int .i64 op_)⟩, ⟨4, [], .s (.int .i64 mode_)⟩, ⟨5, [], .s (.int .i64 reg_)⟩, ⟨12, [], .ref 1 0 0 0⟩]) (L' := [⟨ver_, .grow, 5, cat spinetref14_Known.v l_⟩, ⟨0, .grow, 5, cat spinetref14_Known.v ([] : List spinetref14_Known)⟩]) (by kernel_rfl) fun f1 hf1 => ?_
  refine k_c ?_
  refine k_seq ?_
  refine k_reg ?_
  refine mops_seg [12, 13, 21] 9 hf1 (l' := [⟨12, [], .ref 1 0 0 0⟩, ⟨13, [], .ref 0 ver_ 0 l_.length⟩, ⟨21, [], .ref 2 0 0 1⟩]) (L' := [⟨ver_, .grow, 5, cat spinetref14_Known.v l_⟩, ⟨0, .grow, 5, cat spinetref14_Known.v ([] : List spinetref14_Known)⟩, ⟨0, .grow, 5, [.s (.int .i64 page_), .s (.int .i64 code_), .s (.int .i64 op_), .s (.int .i64 mode_), .s (.int .i64 reg_)]⟩]) (by kernel_rfl) fun f2 hf2 => ?_
  obtain ⟨c1, h⟩ := as_ok h
  refine mops_adv (dst := (some 22)) (op := (.app 5 40 (.t 13) (.t 21))) (aft := [0, 8]) (v := .ref 0 (ver_ + 1) 0 (l_ ++ [(spinetref14_Known.mk page_ code_ (api_Entry.mk op_ mode_ reg_))]).length) (by kernel_rfl) hf2 (by kernel_rfl) (e_app (g := spinetref14_Known.v) (l := l_) (l' := [(spinetref14_Known.mk page_ code_ (api_Entry.mk op_ mode_ reg_))]) (b := 0) (ver := ver_) (n := l_.length) (by kernel_rfl) rfl (live_grow (by kernel_rfl)) (sll_ref (B := ⟨0, .grow, 5, cat spinetref14_Known.v [(spinetref14_Known.mk page_ code_ (api_Entry.mk op_ mode_ reg_))]⟩) (by kernel_rfl) (live_grow (by kernel_rfl))) (slc_ref (g := spinetref14_Known.v) (l := [(spinetref14_Known.mk page_ code_ (api_Entry.mk op_ mode_ reg_))]) (kd := .grow) (q := 5) (by kernel_rfl) (live_grow (by kernel_rfl))) c1) fun f3 hf3 => ?_
  refine mops_end [12] hf3 (l' := [⟨12, [], .ref 0 (ver_ + 1) 0 (l_ ++ [(spinetref14_Known.mk page_ code_ (api_Entry.mk op_ mode_ reg_))]).length⟩]) (L' := [⟨(ver_ + 1), .grow, 5, cat spinetref14_Known.v (l_ ++ [(spinetref14_Known.mk page_ code_ (api_Entry.mk op_ mode_ reg_))])⟩, ⟨0, .grow, 5, cat spinetref14_Known.v ([] : List spinetref14_Known)⟩, ⟨0, .grow, 5, cat spinetref14_Known.v [(spinetref14_Known.mk page_ code_ (api_Entry.mk op_ mode_ reg_))]⟩]) (by kernel_rfl) fun f4 hf4 => ?_
  refine k_c ?_
  refine k_ret ?_
  obtain rfl := Option.some.inj h
  exact k_fin (fin_ret (.inl rfl) hf4 (vs := [.ref 0 (ver_ + 1) 0 (l_ ++ [(spinetref14_Known.mk page_ code_ (api_Entry.mk op_ mode_ reg_))]).length]) (by kernel_rfl) (SettL.cutb (L' := [⟨(ver_ + 1), .grow, 5, cat spinetref14_Known.v (l_ ++ [(spinetref14_Known.mk page_ code_ (api_Entry.mk op_ mode_ reg_))])⟩]) 1 (by kernel_rfl) (by kernel_rfl) (by kernel_rfl) ⟨.inr (.inr (statics_unders _ _ (cat_stat _))), trivial⟩ (FzL.und rfl (ref_len rfl))))
def spinetref15_Of_i0 : List Op1 := [⟨(some 2), (.e (.zero [(.int .i64 0), (.int .i64 0), (.int .i64 0), (.bool false), (.int .i64 0), (.int .i64 0)])), none, []⟩]
def spinetref15_Of_i1 : List Op1 := [⟨(some 8), (.e (.mv (.t 0))), none, []⟩, ⟨(some 9), (.e (.cint .i64 (.t 8))), none, [0]⟩, ⟨(some 3), (.e (.mv (.t 9))), none, [1, 0, 1]⟩]
def spinetref15_Of_i2 : List Op1 := [⟨(some 10), (.e (.mv (.t 3))), none, []⟩, ⟨(some 11), (.e (.bin .quo (.t 10) (.k (.int .i64 32)))), none, [0]⟩, ⟨(some 12), (.e (.bin .rem (.t 11) (.k (.int .i64 4)))), none, [1]⟩, ⟨(some 13), (.e (.bin .add (.t 12) (.k (.int .i64 1)))), none, [2]⟩, ⟨(some 4), (.e (.mv (.t 13))), none, [3, 0, 1, 2, 3]⟩]
def spinetref15_Of_i3 : List Op1 := [⟨(some 14), (.e (.mv (.t 3))), none, []⟩, ⟨(some 15), (.e (.bin .lss (.t 14) (.k (.int .i64 128)))), none, [0]⟩]
def spinetref15_Of_i4 : List Op1 := [⟨(some 16), (.e (.mv (.t 3))), none, []⟩, ⟨(some 17), (.e (.bin .rem (.t 16) (.k (.int .i64 32)))), none, [0]⟩, ⟨(some 5), (.e (.mv (.t 17))), none, [1, 0, 1]⟩]
def spinetref15_Of_i5 : List Op1 := [⟨(some 18), (.e (.mv (.t 5))), none, []⟩, ⟨(some 19), (.e (.bin .gtr (.t 18) (.k (.int .i64 15)))), none, [0]⟩]
def spinetref15_Of_i6 : List Op1 := [⟨(some 20), (.e (.mv (.t 5))), none, []⟩, ⟨(some 21), (.e (.bin .add (.t 20) (.k (.int .i64 65504)))), none, [0]⟩, ⟨(some 5), (.e (.mv (.t 21))), none, [1, 0, 1]⟩]
def spinetref15_Of_i7 : IR := (.cond (.t 19) (.reg false spinetref15_Of_i6) .skip)
def spinetref15_Of_i8 : List Op1 := [⟨(some 22), (.e (.mv (.t 4))), none, []⟩, ⟨(some 23), (.e (.mv (.t 5))), none, []⟩, ⟨(some 24), (.e (.build [(.int .i64 0), (.int .i64 0), (.int .i64 0), (.bool false), (.int .i64 0), (.int .i64 0)] [(0, (1, (.k (.int .i64 1)))), (1, (1, (.t 22))), (2, (1, (.t 23))), (3, (1, (.k (.bool false)))), (4, (1, (.k (.int .i64 0)))), (5, (1, (.k (.int .i64 2))))])), none, [0, 1]⟩, ⟨none, (.e (.store 6 (.t 2) (.t 24))), none, [2, 0, 1, 2]⟩]
def spinetref15_Of_i9 : IR := .ret
def spinetref15_Of_i10 : IR := (.seq (.reg false spinetref15_Of_i8) spinetref15_Of_i9)
def spinetref15_Of_i11 : IR := (.seq (.seq (.reg false spinetref15_Of_i5) spinetref15_Of_i7) spinetref15_Of_i10)
def spinetref15_Of_i12 : IR := (.cond (.t 15) (.seq (.reg false spinetref15_Of_i4) spinetref15_Of_i11) .skip)
def spinetref15_Of_i13 : List Op1 := [⟨(some 25), (.e (.build [(.int .i64 0), (.int .i64 0), (.int .i64 0)] [(0, (1, (.k (.int .i64 7)))), (1, (1, (.k (.int .i64 0)))), (2, (1, (.k (.int .i64 3))))])), none, []⟩, ⟨(some 26), (.e (.build [(.int .i64 0), (.int .i64 0), (.int .i64 0)] [(0, (1, (.k (.int .i64 8)))), (1, (1, (.k (.int .i64 0)))), (2, (1, (.k (.int .i64 4))))])), none, []⟩, ⟨(some 27), (.e (.build [(.int .i64 0), (.int .i64 0), (.int .i64 0)] [(0, (1, (.k (.int .i64 9)))), (1, (1, (.k (.int .i64 0)))), (2, (1, (.k (.int .i64 3))))])), none, []⟩, ⟨(some 28), (.e (.build [(.int .i64 0), (.int .i64 0), (.int .i64 0)] [(0, (1, (.k (.int .i64 10)))), (1, (1, (.k (.int .i64 0)))), (2, (1, (.k (.int .i64 4))))])), none, []⟩, ⟨(some 29), (.e (.build [(.int .i64 0), (.int .i64 0), (.int .i64 0)] [(0, (1, (.k (.int .i64 0)))), (1, (1, (.k (.int .i64 0)))), (2, (1, (.k (.int .i64 1))))])), none, []⟩, ⟨(some 30), (.e (.build [(.int .i64 0), (.int .i64 0), (.int .i64 0)] [(0, (1, (.k (.int .i64 5)))), (1, (1, (.k (.int .i64 0)))), (2, (1, (.k (.int .i64 2))))])), none, []⟩, ⟨(some 31), (.e (.build [(.int .i64 0), (.int .i64 0), (.int .i64 0)] [(0, (1, (.k (.int .i64 4)))), (1, (1, (.k (.int .i64 0)))), (2, (1, (.k (.int .i64 2))))])), none, []⟩, ⟨(some 32), (.e (.build [(.int .i64 0), (.int .i64 0), (.int .i64 0)] [(0, (1, (.k (.int .i64 0)))), (1, (1, (.k (.int .i64 0)))), (2, (1, (.k (.int .i64 1))))])), none, []⟩, ⟨(some 33), (.e (.build [(.int .i64 0), (.int .i64 0), (.int .i64 0)] [(0, (1, (.k (.int .i64 2)))), (1, (1, (.k (.int .i64 1)))), (2, (1, (.k (.int .i64 1))))])), none, []⟩, ⟨(some 34), (.e (.build [(.int .i64 0), (.int .i64 0), (.int .i64 0)] [(0, (1, (.k (.int .i64 3)))), (1, (1, (.k (.int .i64 2)))), (2, (1, (.k (.int .i64 3))))])), none, []⟩, ⟨(some 35), (.e (.build [(.int .i64 0), (.int .i64 0), (.int .i64 0)] [(0, (1, (.k (.int .i64 0)))), (1, (1, (.k (.int .i64 0)))), (2, (1, (.k (.int .i64 1))))])), none, []⟩, ⟨(some 36), (.e (.build [(.int .i64 0), (.int .i64 0), (.int .i64 0)] [(0, (1, (.k (.int .i64 6)))), (1, (1, (.k (.int .i64 0)))), (2, (1, (.k (.int .i64 5))))])), none, []⟩, ⟨(some 37), (.e (.build [(.int .i64 0), (.int .i64 0), (.int .i64 0)] [(0, (1, (.k (.int .i64 11)))), (1, (1, (.k (.int .i64 1)))), (2, (1, (.k (.int .i64 1))))])), none, []⟩, ⟨(some 38), (.e (.build [(.int .i64 0), (.int .i64 0), (.int .i64 0)] [(0, (1, (.k (.int .i64 12)))), (1, (1, (.k (.int .i64 2)))), (2, (1, (.k (.int .i64 4))))])), none, []⟩, ⟨(some 39), (.e (.build [(.int .i64 0), (.int .i64 0), (.int .i64 0)] [(0, (1, (.k (.int .i64 0)))), (1, (1, (.k (.int .i64 0)))), (2, (1, (.k (.int .i64 1))))])), none, []⟩, ⟨(some 40), (.e (.build [(.int .i64 0), (.int .i64 0), (.int .i64 0)] [(0, (1, (.k (.int .i64 13)))), (1, (1, (.k (.int .i64 2)))), (2, (1, (.k (.int .i64 1))))])), none, []⟩, ⟨(some 41), (.e (.build [(.int .i64 0), (.int .i64 0), (.int .i64 0), (.int .i64 0), (.int .i64 0), (.int .i64 0), (.int .i64 0), (.int .i64 0), (.int .i64 0), (.int .i64 0), (.int .i64 0), (.int .i64 0), (.int .i64 0), (.int .i64 0), (.int .i64 0), (.int .i64 0), (.int .i64 0), (.int .i64 0), (.int .i64 0), (.int .i64 0), (.int .i64 0), (.int .i64 0), (.int .i64 0), (.int .i64 0), (.int .i64 0), (.int .i64 0), (.int .i64 0), (.int .i64 0), (.int .i64 0), (.int .i64 0), (.int .i64 0), (.int .i64 0), (.int .i64 0), (.int .i64 0), (.int .i64 0), (.int .i64 0), (.int .i64 0), (.int .i64 0), (.int .i64 0), (.int .i64 0), (.int .i64 0), (.int .i64 0), (.int .i64 0), (.int .i64 0), (.int .i64 0), (.int .i64 0), (.int .i64 0), (.int .i64 0)] [(0, (3, (.t 25))), (3, (3, (.t 26))), (6, (3, (.t 27))), (9, (3, (.t 28))), (12, (3, (.t 29))), (15, (3, (.t 30))), (18, (3, (.t 31))), (21, (3, (.t 32))), (24, (3, (.t 33))), (27, (3, (.t 34))), (30, (3, (.t 35))), (33, (3, (.t 36))), (36, (3, (.t 37))), (39, (3, (.t 38))), (42, (3, (.t 39))), (45, (3, (.t 40)))])), none, [0, 1, 2, 3, 4, 5, 6, 7, 8, 9, 10, 11, 12, 13, 14, 15]⟩, ⟨(some 6), (.e (.zero [(.int .i64 0), (.int .i64 0), (.int .i64 0), (.int .i64 0), (.int .i64 0), (.int .i64 0), (.int .i64 0), (.int .i64 0), (.int .i64 0), (.int .i64 0), (.int .i64 0), (.int .i64 0), (.int .i64 0), (.int .i64 0), (.int .i64 0), (.int .i64 0), (.int .i64 0), (.int .i64 0), (.int .i64 0), (.int .i64 0), (.int .i64 0), (.int .i64 0), (.int .i64 0), (.int .i64 0), (.int .i64 0), (.int .i64 0), (.int .i64 0), (.int .i64 0), (.int .i64 0), (.int .i64 0), (.int .i64 0), (.int .i64 0), (.int .i64 0), (.int .i64 0), (.int .i64 0), (.int .i64 0), (.int .i64 0), (.int .i64 0), (.int .i64 0), (.int .i64 0), (.int .i64 0), (.int .i64 0), (.int .i64 0), (.int .i64 0), (.int .i64 0), (.int .i64 0), (.int .i64 0), (.int .i64 0)])), none, []⟩, ⟨none, (.e (.store 48 (.t 6) (.t 41))), none, [17, 16, 0, 1, 2, 3, 4, 5, 6, 7, 8, 9, 10, 11, 12, 13, 14, 15, 16, 17]⟩]
def spinetref15_Of_i14 : List Op1 := [⟨(some 42), (.e (.mv (.t 3))), none, []⟩, ⟨(some 43), (.e (.bin .rem (.t 42) (.k (.int .i64 16)))), none, [0]⟩, ⟨(some 44), (.e (.iaa 16 3 (.t 6) (.t 43))), none, [1]⟩, ⟨(some 45), (.e (.load true 3 (.t 44))), none, [2]⟩, ⟨(some 7), (.e (.zero [(.int .i64 0), (.int .i64 0), (.int .i64 0)])), none, []⟩, ⟨none, (.e (.store 3 (.t 7) (.t 45))), none, [4, 3, 0, 1, 2, 3, 4]⟩]
def spinetref15_Of_i15 : List Op1 := [⟨(some 46), (.e (.mv (.t 3))), none, []⟩, ⟨(some 47), (.e (.bin .rem (.t 46) (.k (.int .i64 16)))), none, [0]⟩, ⟨(some 48), (.e (.bin .eql (.t 47) (.k (.int .i64 12)))), none, [1]⟩, ⟨(some 49), (.e (.mv (.t 48))), none, [2]⟩, ⟨(some 50), (.e (.mv (.t 3))), (some (49, false)), [3]⟩, ⟨(some 51), (.e (.bin .rem (.t 50) (.k (.int .i64 16)))), (some (49, false)), [4, 3]⟩, ⟨(some 52), (.e (.bin .eql (.t 51) (.k (.int .i64 13)))), (some (49, false)), [5, 3]⟩, ⟨(some 53), (.e (.pick (.t 49) (.k (.bool true)) (.t 52))), none, [3, 6]⟩]
def spinetref15_Of_i16 : List Op1 := [⟨(some 4), (.e (.mv (.k (.int .i64 5)))), none, []⟩]
def spinetref15_Of_i17 : IR := (.cond (.t 53) (.reg false spinetref15_Of_i16) .skip)
def spinetref15_Of_i18 : List Op1 := [⟨(some 54), (.e (.mv (.t 3))), none, []⟩, ⟨(some 55), (.e (.bin .rem (.t 54) (.k (.int .i64 16)))), none, [0]⟩, ⟨(some 56), (.e (.bin .eql (.t 55) (.k (.int .i64 15)))), none, [1]⟩]
def spinetref15_Of_i19 : List Op1 := [⟨(some 4), (.e (.mv (.k (.int .i64 0)))), none, []⟩]
def spinetref15_Of_i20 : IR := (.cond (.t 56) (.reg false spinetref15_Of_i19) .skip)
def spinetref15_Of_i21 : List Op1 := [⟨(some 57), (.e (.iaa 3 1 (.t 7) (.k (.int .i64 0)))), none, []⟩, ⟨(some 58), (.e (.load false 1 (.t 57))), none, [0]⟩, ⟨(some 59), (.e (.mv (.t 4))), none, []⟩, ⟨(some 60), (.e (.mv (.t 3))), none, []⟩, ⟨(some 61), (.e (.bin .quo (.t 60) (.k (.int .i64 16)))), none, [3]⟩, ⟨(some 62), (.e (.bin .rem (.t 61) (.k (.int .i64 2)))), none, [4]⟩, ⟨(some 63), (.e (.bin .eql (.t 62) (.k (.int .i64 1)))), none, [5]⟩, ⟨(some 64), (.e (.mv (.t 63))), none, [6]⟩, ⟨(some 65), (.e (.mv (.t 3))), (some (64, false)), [7]⟩, ⟨(some 66), (.e (.bin .rem (.t 65) (.k (.int .i64 16)))), (some (64, false)), [8, 7]⟩, ⟨(some 67), (.e (.bin .eql (.t 66) (.k (.int .i64 15)))), (some (64, false)), [9, 7]⟩, ⟨(some 68), (.e (.pick (.t 64) (.k (.bool true)) (.t 67))), none, [7, 10]⟩, ⟨(some 69), (.e (.iaa 3 1 (.t 7) (.k (.int .i64 1)))), none, []⟩, ⟨(some 70), (.e (.load false 1 (.t 69))), none, [12]⟩, ⟨(some 71), (.e (.iaa 3 1 (.t 7) (.k (.int .i64 2)))), none, []⟩, ⟨(some 72), (.e (.load false 1 (.t 71))), none, [14]⟩, ⟨(some 73), (.e (.build [(.int .i64 0), (.int .i64 0), (.int .i64 0), (.bool false), (.int .i64 0), (.int .i64 0)] [(0, (1, (.t 58))), (1, (1, (.t 59))), (2, (1, (.k (.int .i64 0)))), (3, (1, (.t 68))), (4, (1, (.t 70))), (5, (1, (.t 72)))])), none, [1, 2, 11, 13, 15]⟩, ⟨none, (.e (.store 6 (.t 2) (.t 73))), none, [16, 7, 0, 1, 2, 3, 4, 5, 6, 7, 8, 9, 10, 11, 12, 13, 14, 15, 16]⟩]
def spinetref15_Of_i22 : IR := .ret
def spinetref15_Of_i23 : IR := (.seq (.reg false spinetref15_Of_i21) spinetref15_Of_i22)
def spinetref15_Of_i24 : IR := (.seq (.seq (.reg false spinetref15_Of_i18) spinetref15_Of_i20) spinetref15_Of_i23)
def spinetref15_Of_i25 : IR := (.seq (.seq (.reg false spinetref15_Of_i15) spinetref15_Of_i17) spinetref15_Of_i24)
def spinetref15_Of_i26 : IR := (.seq (.reg false spinetref15_Of_i14) spinetref15_Of_i25)
def spinetref15_Of_i27 : IR := (.seq (.reg false spinetref15_Of_i13) spinetref15_Of_i26)
def spinetref15_Of_i28 : IR := (.seq (.seq (.reg false spinetref15_Of_i3) spinetref15_Of_i12) spinetref15_Of_i27)
def spinetref15_Of_i29 : IR := (.seq (.reg false spinetref15_Of_i2) spinetref15_Of_i28)
def spinetref15_Of_i30 : IR := (.seq (.reg false spinetref15_Of_i1) spinetref15_Of_i29)
def spinetref15_Of_ir : IR := (.seq (.reg false spinetref15_Of_i0) spinetref15_Of_i30)
theorem spinetref15_Of_cfn : cFn Try.prog 74 = some (spinetref15_Of_ir, [(.c 2 true 6)], 74) := by kernel_rfl
def spinetref15_Of_V (r : (spinetref15_P)) : V := .agg [.s (.int .i64 r.Kind), .s (.int .i64 r.Reg), .s (.int .i64 r.Off), .s (.bool r.Indirect), .s (.int .i64 r.Bytes), .s (.int .i64 r.Idle)]
def spinetref15_Of_C (r : (spinetref15_P)) : X → Fr → Hp → Prop := FinL [(.c 2 true 6)] [] (spinetref15_Of_V r) []
theorem spinetref15_Of_ok (b_ : Int) (r : (spinetref15_P)) (h : spinetref15_Of b_ = some r) : Pure Try.prog 74 [.s (.int .u8 b_)] (spinetref15_Of_V r) := by
  refine ConL.of spinetref15_Of_cfn (Nat.le_of_ble_eq_true (by kernel_rfl)) (Nat.le_of_ble_eq_true (by kernel_rfl)) ?_
  refine k_start ?_
  show dwv Try.prog [] spinetref15_Of_ir (kont Try.prog [] (spinetref15_Of_C r) []) (fr0 [.s (.int .u8 b_)]) []
  have hf : FOk (fr0 [.s (.int .u8 b_)]) [⟨0, [], .s (.int .u8 b_)⟩] := ⟨⟨fun _ => rfl, fun h => (h trivial).elim⟩, trivial⟩
  generalize fr0 [.s (.int .u8 b_)] = f at hf ⊢
  unfold spinetref15_Of at h
  refine k_seq ?_
  refine k_reg ?_
  refine mops_end [0, 2] hf (l' := [⟨0, [], .s (.int .u8 b_)⟩, ⟨2, [], .ptr 0 0 0⟩]) (L' := [⟨0, .mem, 1, [.s (.int .i64 0), .s (.int .i64 0), .s (.int .i64 0), .s (.bool false), .s (.int .i64 0), .s (.int .i64 0)]⟩]) (by kernel_rfl) fun f1 hf1 => ?_
  refine k_c ?_
  refine k_seq ?_
  refine k_reg ?_
  refine mops_end [2, 3] hf1 (l' := [⟨2, [], .ptr 0 0 0⟩, ⟨3, [], .s (.int .i64 (IntKind.wrap .i64 b_))⟩]) (L' := [⟨0, .mem, 1, [.s (.int .i64 0), .s (.int .i64 0), .s (.int .i64 0), .s (.bool false), .s (.int .i64 0), .s (.int .i64 0)]⟩]) (by kernel_rfl) fun f2 hf2 => ?_
  refine k_c ?_
  refine k_seq ?_
  refine k_reg ?_
  refine mops_end [2, 3, 4] hf2 (l' := [⟨2, [], .ptr 0 0 0⟩, ⟨3, [], .s (.int .i64 (IntKind.wrap .i64 b_))⟩, ⟨4, [], .s (.int .i64 (IntKind.wrap .i64 ((Int.tmod (IntKind.wrap .i64 (Int.tdiv (IntKind.wrap .i64 b_) 32)) 4) + 1)))⟩]) (L' := [⟨0, .mem, 1, [.s (.int .i64 0), .s (.int .i64 0), .s (.int .i64 0), .s (.bool false), .s (.int .i64 0), .s (.int .i64 0)]⟩]) (by kernel_rfl) fun f3 hf3 => ?_
  refine k_c ?_
  refine k_seq ?_
  refine k_seq ?_
  refine k_reg ?_
  refine mops_end [2, 3, 4, 15] hf3 (l' := [⟨2, [], .ptr 0 0 0⟩, ⟨3, [], .s (.int .i64 (IntKind.wrap .i64 b_))⟩, ⟨4, [], .s (.int .i64 (IntKind.wrap .i64 ((Int.tmod (IntKind.wrap .i64 (Int.tdiv (IntKind.wrap .i64 b_) 32)) 4) + 1)))⟩, ⟨15, [], .s (.bool (decide ((IntKind.wrap .i64 b_) < 128)))⟩]) (L' := [⟨0, .mem, 1, [.s (.int .i64 0), .s (.int .i64 0), .s (.int .i64 0), .s (.bool false), .s (.int .i64 0), .s (.int .i64 0)]⟩]) (by kernel_rfl) fun f4 hf4 => ?_
  refine k_c ?_
  refine k_cond hf4 (t := (decide ((IntKind.wrap .i64 b_) < 128))) (by kernel_rfl) (fun hc1 => ?_) (fun hc1 => ?_)
  · have h := if_t h hc1
    refine k_seq ?_
    refine k_reg ?_
    refine mops_end [2, 3, 4, 5] hf4 (l' := [⟨2, [], .ptr 0 0 0⟩, ⟨3, [], .s (.int .i64 (IntKind.wrap .i64 b_))⟩, ⟨4, [], .s (.int .i64 (IntKind.wrap .i64 ((Int.tmod (IntKind.wrap .i64 (Int.tdiv (IntKind.wrap .i64 b_) 32)) 4) + 1)))⟩, ⟨5, [], .s (.int .i64 (Int.tmod (IntKind.wrap .i64 b_) 32))⟩]) (L' := [⟨0, .mem, 1, [.s (.int .i64 0), .s (.int .i64 0), .s (.int .i64 0), .s (.bool false), .s (.int .i64 0), .s (.int .i64 0)]⟩]) (by kernel_rfl) fun f5 hf5 => ?_
    refine k_c ?_
    refine k_seq ?_
    refine k_seq ?_
    refine k_reg ?_
    refine mops_end [2, 3, 4, 5, 19] hf5 (l' := [⟨2, [], .ptr 0 0 0⟩, ⟨3, [], .s (.int .i64 (IntKind.wrap .i64 b_))⟩, ⟨4, [], .s (.int .i64 (IntKind.wrap .i64 ((Int.tmod (IntKind.wrap .i64 (Int.tdiv (IntKind.wrap .i64 b_) 32)) 4) + 1)))⟩, ⟨5, [], .s (.int .i64 (Int.tmod (IntKind.wrap .i64 b_) 32))⟩, ⟨19, [], .s (.bool (decide (15 < (Int.tmod (IntKind.wrap .i64 b_) 32))))⟩]) (L' := [⟨0, .mem, 1, [.s (.int .i64 0), .s (.int .i64 0), .s (.int .i64 0), .s (.bool false), .s (.int .i64 0), .s (.int .i64 0)]⟩]) (by kernel_rfl) fun f6 hf6 => ?_
    refine k_c ?_
    have hj1 : ∀ (off_ : Int), spinetref15_Of_j0 b_ off_ = some r → ∀ f, FOk f [⟨2, [], .ptr 0 0 0⟩, ⟨3, [], .s (.int .i64 (IntKind.wrap .i64 b_))⟩, ⟨4, [], .s (.int .i64 (IntKind.wrap .i64 ((Int.tmod (IntKind.wrap .i64 (Int.tdiv (IntKind.wrap .i64 b_) 32)) 4) + 1)))⟩, ⟨5, [], .s (.int .i64 off_)⟩] → kont Try.prog [] (spinetref15_Of_C r) ((.c spinetref15_Of_i10) :: (.c spinetref15_Of_i27) :: []) .normal f [⟨0, .mem, 1, [.s (.int .i64 0), .s (.int .i64 0), .s (.int .i64 0), .s (.bool false), .s (.int .i64 0), .s (.int .i64 0)]⟩] := by
      intro off_ h f hf
      unfold spinetref15_Of_j0 at h
      refine k_c ?_
      refine k_seq ?_
      refine k_reg ?_
      refine mops_end [2, 3, 4] hf (l' := [⟨2, [], .ptr 0 0 0⟩, ⟨3, [], .s (.int .i64 (IntKind.wrap .i64 b_))⟩, ⟨4, [], .s (.int .i64 (IntKind.wrap .i64 ((Int.tmod (IntKind.wrap .i64 (Int.tdiv (IntKind.wrap .i64 b_) 32)) 4) + 1)))⟩]) (L' := [⟨0, .mem, 1, [.s (.int .i64 1), .s (.int .i64 (IntKind.wrap .i64 ((Int.tmod (IntKind.wrap .i64 (Int.tdiv (IntKind.wrap .i64 b_) 32)) 4) + 1))), .s (.int .i64 off_), .s (.bool false), .s (.int .i64 0), .s (.int .i64 2)]⟩]) (by kernel_rfl) fun f1 hf1 => ?_
      refine k_c ?_
      refine k_ret ?_
      refine x_c nofun ?_
      obtain rfl := Option.some.inj h
      exact k_fin (fin_ret (.inl rfl) hf1 (vs := [.agg [.s (.int .i64 1), .s (.int .i64 (IntKind.wrap .i64 ((Int.tmod (IntKind.wrap .i64 (Int.tdiv (IntKind.wrap .i64 b_) 32)) 4) + 1))), .s (.int .i64 off_), .s (.bool false), .s (.int .i64 0), .s (.int .i64 2)]]) (by kernel_rfl) (SettL.pure (FzL.stat rfl)))
    refine k_cond hf6 (t := (decide (15 < (Int.tmod (IntKind.wrap .i64 b_) 32)))) (by kernel_rfl) (fun hc2 => ?_) (fun hc2 => ?_)
    · have h := if_t h hc2
      refine k_reg ?_
      refine mops_end [2, 3, 4, 5] hf6 (l' := [⟨2, [], .ptr 0 0 0⟩, ⟨3, [], .s (.int .i64 (IntKind.wrap .i64 b_))⟩, ⟨4, [], .s (.int .i64 (IntKind.wrap .i64 ((Int.tmod (IntKind.wrap .i64 (Int.tdiv (IntKind.wrap .i64 b_) 32)) 4) + 1)))⟩, ⟨5, [], .s (.int .i64 (IntKind.wrap .i64 ((Int.tmod (IntKind.wrap .i64 b_) 32) + 65504)))⟩]) (L' := [⟨0, .mem, 1, [.s (.int .i64 0), .s (.int .i64 0), .s (.int .i64 0), .s (.bool false), .s (.int .i64 0), .s (.int .i64 0)]⟩]) (by kernel_rfl) fun f7 hf7 => ?_
      exact hj1 (IntKind.wrap .i64 ((Int.tmod (IntKind.wrap .i64 b_) 32) + 65504)) h _ (FOk_of [2, 3, 4, 5] hf7 (by kernel_rfl))
    · have h := if_f h hc2
      refine k_skip ?_
      exact hj1 (Int.tmod (IntKind.wrap .i64 b_) 32) h _ (FOk_of [2, 3, 4, 5] hf6 (by kernel_rfl))
  · have h := if_f h hc1
    refine k_skip ?_
    refine k_c ?_
    refine k_seq ?_
    refine k_reg ?_
    refine mops_end [2, 3, 4, 6] hf4 (l' := [⟨2, [], .ptr 0 0 0⟩, ⟨3, [], .s (.int .i64 (IntKind.wrap .i64 b_))⟩, ⟨4, [], .s (.int .i64 (IntKind.wrap .i64 ((Int.tmod (IntKind.wrap .i64 (Int.tdiv (IntKind.wrap .i64 b_) 32)) 4) + 1)))⟩, ⟨6, [], .ptr 1 0 0⟩]) (L' := [⟨0, .mem, 1, [.s (.int .i64 0), .s (.int .i64 0), .s (.int .i64 0), .s (.bool false), .s (.int .i64 0), .s (.int .i64 0)]⟩, ⟨0, .mem, 1, [.s (.int .i64 7), .s (.int .i64 0), .s (.int .i64 3), .s (.int .i64 8), .s (.int .i64 0), .s (.int .i64 4), .s (.int .i64 9), .s (.int .i64 0), .s (.int .i64 3), .s (.int .i64 10), .s (.int .i64 0), .s (.int .i64 4), .s (.int .i64 0), .s (.int .i64 0), .s (.int .i64 1), .s (.int .i64 5), .s (.int .i64 0), .s (.int .i64 2), .s (.int .i64 4), .s (.int .i64 0), .s (.int .i64 2), .s (.int .i64 0), .s (.int .i64 0), .s (.int .i64 1), .s (.int .i64 2), .s (.int .i64 1), .s (.int .i64 1), .s (.int .i64 3), .s (.int .i64 2), .s (.int .i64 3), .s (.int .i64 0), .s (.int .i64 0), .s (.int .i64 1), .s (.int .i64 6), .s (.int .i64 0), .s (.int .i64 5), .s (.int .i64 11), .s (.int .i64 1), .s (.int .i64 1), .s (.int .i64 12), .s (.int .i64 2), .s (.int .i64 4), .s (.int .i64 0), .s (.int .i64 0), .s (.int .i64 1), .s (.int .i64 13), .s (.int .i64 2), .s (.int .i64 1)]⟩]) (by kernel_rfl) fun f5 hf5 => ?_
    refine k_c ?_
    refine k_seq ?_
    refine k_reg ?_
    refine mops_seg [2, 3, 4, 6, 43] 2 hf5 (l' := [⟨2, [], .ptr 0 0 0⟩, ⟨3, [], .s (.int .i64 (IntKind.wrap .i64 b_))⟩, ⟨4, [], .s (.int .i64 (IntKind.wrap .i64 ((Int.tmod (IntKind.wrap .i64 (Int.tdiv (IntKind.wrap .i64 b_) 32)) 4) + 1)))⟩, ⟨6, [], .ptr 1 0 0⟩, ⟨43, [], .s (.int .i64 (Int.tmod (IntKind.wrap .i64 b_) 16))⟩]) (L' := [⟨0, .mem, 1, [.s (.int .i64 0), .s (.int .i64 0), .s (.int .i64 0), .s (.bool false), .s (.int .i64 0), .s (.int .i64 0)]⟩, ⟨0, .mem, 1, [.s (.int .i64 7), .s (.int .i64 0), .s (.int .i64 3), .s (.int .i64 8), .s (.int .i64 0), .s (.int .i64 4), .s (.int .i64 9), .s (.int .i64 0), .s (.int .i64 3), .s (.int .i64 10), .s (.int .i64 0), .s (.int .i64 4), .s (.int .i64 0), .s (.int .i64 0), .s (.int .i64 1), .s (.int .i64 5), .s (.int .i64 0), .s (.int .i64 2), .s (.int .i64 4), .s (.int .i64 0), .s (.int .i64 2), .s (.int .i64 0), .s (.int .i64 0), .s (.int .i64 1), .s (.int .i64 2), .s (.int .i64 1), .s (.int .i64 1), .s (.int .i64 3), .s (.int .i64 2), .s (.int .i64 3), .s (.int .i64 0), .s (.int .i64 0), .s (.int .i64 1), .s (.int .i64 6), .s (.int .i64 0), .s (.int .i64 5), .s (.int .i64 11), .s (.int .i64 1), .s (.int .i64 1), .s (.int .i64 12), .s (.int .i64 2), .s (.int .i64 4), .s (.int .i64 0), .s (.int .i64 0), .s (.int .i64 1), .s (.int .i64 13), .s (.int .i64 2), .s (.int .i64 1)]⟩]) (by kernel_rfl) fun f6 hf6 => ?_
    obtain ⟨c3, h⟩ := as_ok h
    refine mops_adv (dst := (some 44)) (op := (.iaa 16 3 (.t 6) (.t 43))) (aft := [1]) (v := .ptr 1 0 (0 + ((Int.tmod (IntKind.wrap .i64 b_) 16) : Int).toNat * 3)) (by kernel_rfl) hf6 (by kernel_rfl) (e_iaa (n := 16) (xv := .ptr 1 0 0) (k := .i64) (iv := (Int.tmod (IntKind.wrap .i64 b_) 16)) (p := .ptr 1 0 (0 + ((Int.tmod (IntKind.wrap .i64 b_) 16) : Int).toNat * 3)) (by kernel_rfl) (by kernel_rfl) (by kernel_rfl) (by kernel_rfl) c3) fun f7 hf7 => ?_
    refine mops_adv (dst := (some 45)) (op := (.load true 3 (.t 44))) (aft := [2]) (v := .agg [.s (.int .i64 (gt [(A3_i64.mk (7) (0) (3)), (A3_i64.mk (8) (0) (4)), (A3_i64.mk (9) (0) (3)), (A3_i64.mk (10) (0) (4)), (A3_i64.mk (0) (0) (1)), (A3_i64.mk (5) (0) (2)), (A3_i64.mk (4) (0) (2)), (A3_i64.mk (0) (0) (1)), (A3_i64.mk (2) (1) (1)), (A3_i64.mk (3) (2) (3)), (A3_i64.mk (0) (0) (1)), (A3_i64.mk (6) (0) (5)), (A3_i64.mk (11) (1) (1)), (A3_i64.mk (12) (2) (4)), (A3_i64.mk (0) (0) (1)), (A3_i64.mk (13) (2) (1))] (Int.tmod (IntKind.wrap .i64 b_) 16)).a0), .s (.int .i64 (gt [(A3_i64.mk (7) (0) (3)), (A3_i64.mk (8) (0) (4)), (A3_i64.mk (9) (0) (3)), (A3_i64.mk (10) (0) (4)), (A3_i64.mk (0) (0) (1)), (A3_i64.mk (5) (0) (2)), (A3_i64.mk (4) (0) (2)), (A3_i64.mk (0) (0) (1)), (A3_i64.mk (2) (1) (1)), (A3_i64.mk (3) (2) (3)), (A3_i64.mk (0) (0) (1)), (A3_i64.mk (6) (0) (5)), (A3_i64.mk (11) (1) (1)), (A3_i64.mk (12) (2) (4)), (A3_i64.mk (0) (0) (1)), (A3_i64.mk (13) (2) (1))] (Int.tmod (IntKind.wrap .i64 b_) 16)).a1), .s (.int .i64 (gt [(A3_i64.mk (7) (0) (3)), (A3_i64.mk (8) (0) (4)), (A3_i64.mk (9) (0) (3)), (A3_i64.mk (10) (0) (4)), (A3_i64.mk (0) (0) (1)), (A3_i64.mk (5) (0) (2)), (A3_i64.mk (4) (0) (2)), (A3_i64.mk (0) (0) (1)), (A3_i64.mk (2) (1) (1)), (A3_i64.mk (3) (2) (3)), (A3_i64.mk (0) (0) (1)), (A3_i64.mk (6) (0) (5)), (A3_i64.mk (11) (1) (1)), (A3_i64.mk (12) (2) (4)), (A3_i64.mk (0) (0) (1)), (A3_i64.mk (13) (2) (1))] (Int.tmod (IntKind.wrap .i64 b_) 16)).a2)]) (by kernel_rfl) hf7 (by kernel_rfl) (e_load_pe (g := A3_i64.v) (l := [(A3_i64.mk (7) (0) (3)), (A3_i64.mk (8) (0) (4)), (A3_i64.mk (9) (0) (3)), (A3_i64.mk (10) (0) (4)), (A3_i64.mk (0) (0) (1)), (A3_i64.mk (5) (0) (2)), (A3_i64.mk (4) (0) (2)), (A3_i64.mk (0) (0) (1)), (A3_i64.mk (2) (1) (1)), (A3_i64.mk (3) (2) (3)), (A3_i64.mk (0) (0) (1)), (A3_i64.mk (6) (0) (5)), (A3_i64.mk (11) (1) (1)), (A3_i64.mk (12) (2) (4)), (A3_i64.mk (0) (0) (1)), (A3_i64.mk (13) (2) (1))]) (iv := (Int.tmod (IntKind.wrap .i64 b_) 16)) (kd := .mem) (q := 1) (b := 1) (ver := 0) [] (by kernel_rfl) (live_mem (by kernel_rfl)) (arr_h (l := [(A3_i64.mk (7) (0) (3)), (A3_i64.mk (8) (0) (4)), (A3_i64.mk (9) (0) (3)), (A3_i64.mk (10) (0) (4)), (A3_i64.mk (0) (0) (1)), (A3_i64.mk (5) (0) (2)), (A3_i64.mk (4) (0) (2)), (A3_i64.mk (0) (0) (1)), (A3_i64.mk (2) (1) (1)), (A3_i64.mk (3) (2) (3)), (A3_i64.mk (0) (0) (1)), (A3_i64.mk (6) (0) (5)), (A3_i64.mk (11) (1) (1)), (A3_i64.mk (12) (2) (4)), (A3_i64.mk (0) (0) (1)), (A3_i64.mk (13) (2) (1))]) c3 (by kernel_rfl)) (by kernel_rfl) (by kernel_rfl)) fun f8 hf8 => ?_
    refine mops_end [2, 3, 4, 7] hf8 (l' := [⟨2, [], .ptr 0 0 0⟩, ⟨3, [], .s (.int .i64 (IntKind.wrap .i64 b_))⟩, ⟨4, [], .s (.int .i64 (IntKind.wrap .i64 ((Int.tmod (IntKind.wrap .i64 (Int.tdiv (IntKind.wrap .i64 b_) 32)) 4) + 1)))⟩, ⟨7, [], .ptr 2 0 0⟩]) (L' := [⟨0, .mem, 1, [.s (.int .i64 0), .s (.int .i64 0), .s (.int .i64 0), .s (.bool false), .s (.int .i64 0), .s (.int .i64 0)]⟩, ⟨0, .mem, 1, cat A3_i64.v [(A3_i64.mk (7) (0) (3)), (A3_i64.mk (8) (0) (4)), (A3_i64.mk (9) (0) (3)), (A3_i64.mk (10) (0) (4)), (A3_i64.mk (0) (0) (1)), (A3_i64.mk (5) (0) (2)), (A3_i64.mk (4) (0) (2)), (A3_i64.mk (0) (0) (1)), (A3_i64.mk (2) (1) (1)), (A3_i64.mk (3) (2) (3)), (A3_i64.mk (0) (0) (1)), (A3_i64.mk (6) (0) (5)), (A3_i64.mk (11) (1) (1)), (A3_i64.mk (12) (2) (4)), (A3_i64.mk (0) (0) (1)), (A3_i64.mk (13) (2) (1))]⟩, ⟨0, .mem, 1, [.s (.int .i64 (gt [(A3_i64.mk (7) (0) (3)), (A3_i64.mk (8) (0) (4)), (A3_i64.mk (9) (0) (3)), (A3_i64.mk (10) (0) (4)), (A3_i64.mk (0) (0) (1)), (A3_i64.mk (5) (0) (2)), (A3_i64.mk (4) (0) (2)), (A3_i64.mk (0) (0) (1)), (A3_i64.mk (2) (1) (1)), (A3_i64.mk (3) (2) (3)), (A3_i64.mk (0) (0) (1)), (A3_i64.mk (6) (0) (5)), (A3_i64.mk (11) (1) (1)), (A3_i64.mk (12) (2) (4)), (A3_i64.mk (0) (0) (1)), (A3_i64.mk (13) (2) (1))] (Int.tmod (IntKind.wrap .i64 b_) 16)).a0), .s (.int .i64 (gt [(A3_i64.mk (7) (0) (3)), (A3_i64.mk (8) (0) (4)), (A3_i64.mk (9) (0) (3)), (A3_i64.mk (10) (0) (4)), (A3_i64.mk (0) (0) (1)), (A3_i64.mk (5) (0) (2)), (A3_i64.mk (4) (0) (2)), (A3_i64.mk (0) (0) (1)), (A3_i64.mk (2) (1) (1)), (A3_i64.mk (3) (2) (3)), (A3_i64.mk (0) (0) (1)), (A3_i64.mk (6) (0) (5)), (A3_i64.mk (11) (1) (1)), (A3_i64.mk (12) (2) (4)), (A3_i64.mk (0) (0) (1)), (A3_i64.mk (13) (2) (1))] (Int.tmod (IntKind.wrap .i64 b_) 16)).a1), .s (.int .i64 (gt [(A3_i64.mk (7) (0) (3)), (A3_i64.mk (8) (0) (4)), (A3_i64.mk (9) (0) (3)), (A3_i64.mk (10) (0) (4)), (A3_i64.mk (0) (0) (1)), (A3_i64.mk (5) (0) (2)), (A3_i64.mk (4) (0) (2)), (A3_i64.mk (0) (0) (1)), (A3_i64.mk (2) (1) (1)), (A3_i64.mk (3) (2) (3)), (A3_i64.mk (0) (0) (1)), (A3_i64.mk (6) (0) (5)), (A3_i64.mk (11) (1) (1)), (A3_i64.mk (12) (2) (4)), (A3_i64.mk (0) (0) (1)), (A3_i64.mk (13) (2) (1))] (Int.tmod (IntKind.wrap .i64 b_) 16)).a2)]⟩]) (by kernel_rfl) fun f9 hf9 => ?_
    refine k_c ?_
    refine k_seq ?_
    refine k_seq ?_
    refine k_reg ?_
    refine mops_end [2, 3, 4, 7, 53] hf9 (l' := [⟨2, [], .ptr 0 0 0⟩, ⟨3, [], .s (.int .i64 (IntKind.wrap .i64 b_))⟩, ⟨4, [], .s (.int .i64 (IntKind.wrap .i64 ((Int.tmod (IntKind.wrap .i64 (Int.tdiv (IntKind.wrap .i64 b_) 32)) 4) + 1)))⟩, ⟨7, [], .ptr 2 0 0⟩, ⟨53, [], .s (.bool (((Int.tmod (IntKind.wrap .i64 b_) 16) == 12) || ((Int.tmod (IntKind.wrap .i64 b_) 16) == 13)))⟩]) (L' := [⟨0, .mem, 1, [.s (.int .i64 0), .s (.int .i64 0), .s (.int .i64 0), .s (.bool false), .s (.int .i64 0), .s (.int .i64 0)]⟩, ⟨0, .mem, 1, cat A3_i64.v [(A3_i64.mk (7) (0) (3)), (A3_i64.mk (8) (0) (4)), (A3_i64.mk (9) (0) (3)), (A3_i64.mk (10) (0) (4)), (A3_i64.mk (0) (0) (1)), (A3_i64.mk (5) (0) (2)), (A3_i64.mk (4) (0) (2)), (A3_i64.mk (0) (0) (1)), (A3_i64.mk (2) (1) (1)), (A3_i64.mk (3) (2) (3)), (A3_i64.mk (0) (0) (1)), (A3_i64.mk (6) (0) (5)), (A3_i64.mk (11) (1) (1)), (A3_i64.mk (12) (2) (4)), (A3_i64.mk (0) (0) (1)), (A3_i64.mk (13) (2) (1))]⟩, ⟨0, .mem, 1, [.s (.int .i64 (gt [(A3_i64.mk (7) (0) (3)), (A3_i64.mk (8) (0) (4)), (A3_i64.mk (9) (0) (3)), (A3_i64.mk (10) (0) (4)), (A3_i64.mk (0) (0) (1)), (A3_i64.mk (5) (0) (2)), (A3_i64.mk (4) (0) (2)), (A3_i64.mk (0) (0) (1)), (A3_i64.mk (2) (1) (1)), (A3_i64.mk (3) (2) (3)), (A3_i64.mk (0) (0) (1)), (A3_i64.mk (6) (0) (5)), (A3_i64.mk (11) (1) (1)), (A3_i64.mk (12) (2) (4)), (A3_i64.mk (0) (0) (1)), (A3_i64.mk (13) (2) (1))] (Int.tmod (IntKind.wrap .i64 b_) 16)).a0), .s (.int .i64 (gt [(A3_i64.mk (7) (0) (3)), (A3_i64.mk (8) (0) (4)), (A3_i64.mk (9) (0) (3)), (A3_i64.mk (10) (0) (4)), (A3_i64.mk (0) (0) (1)), (A3_i64.mk (5) (0) (2)), (A3_i64.mk (4) (0) (2)), (A3_i64.mk (0) (0) (1)), (A3_i64.mk (2) (1) (1)), (A3_i64.mk (3) (2) (3)), (A3_i64.mk (0) (0) (1)), (A3_i64.mk (6) (0) (5)), (A3_i64.mk (11) (1) (1)), (A3_i64.mk (12) (2) (4)), (A3_i64.mk (0) (0) (1)), (A3_i64.mk (13) (2) (1))] (Int.tmod (IntKind.wrap .i64 b_) 16)).a1), .s (.int .i64 (gt [(A3_i64.mk (7) (0) (3)), (A3_i64.mk (8) (0) (4)), (A3_i64.mk (9) (0) (3)), (A3_i64.mk (10) (0) (4)), (A3_i64.mk (0) (0) (1)), (A3_i64.mk (5) (0) (2)), (A3_i64.mk (4) (0) (2)), (A3_i64.mk (0) (0) (1)), (A3_i64.mk (2) (1) (1)), (A3_i64.mk (3) (2) (3)), (A3_i64.mk (0) (0) (1)), (A3_i64.mk (6) (0) (5)), (A3_i64.mk (11) (1) (1)), (A3_i64.mk (12) (2) (4)), (A3_i64.mk (0) (0) (1)), (A3_i64.mk (13) (2) (1))] (Int.tmod (IntKind.wrap .i64 b_) 16)).a2)]⟩]) (by kernel_rfl) fun f10 hf10 => ?_
    refine k_c ?_
    have hj2 : ∀ (reg_ : Int), spinetref15_Of_j2 b_ reg_ = some r → ∀ f, FOk f [⟨2, [], .ptr 0 0 0⟩, ⟨3, [], .s (.int .i64 (IntKind.wrap .i64 b_))⟩, ⟨4, [], .s (.int .i64 reg_)⟩, ⟨7, [], .ptr 2 0 0⟩] → kont Try.prog [] (spinetref15_Of_C r) ((.c spinetref15_Of_i24) :: []) .normal f [⟨0, .mem, 1, [.s (.int .i64 0), .s (.int .i64 0), .s (.int .i64 0), .s (.bool false), .s (.int .i64 0), .s (.int .i64 0)]⟩, ⟨0, .mem, 1, cat A3_i64.v [(A3_i64.mk (7) (0) (3)), (A3_i64.mk (8) (0) (4)), (A3_i64.mk (9) (0) (3)), (A3_i64.mk (10) (0) (4)), (A3_i64.mk (0) (0) (1)), (A3_i64.mk (5) (0) (2)), (A3_i64.mk (4) (0) (2)), (A3_i64.mk (0) (0) (1)), (A3_i64.mk (2) (1) (1)), (A3_i64.mk (3) (2) (3)), (A3_i64.mk (0) (0) (1)), (A3_i64.mk (6) (0) (5)), (A3_i64.mk (11) (1) (1)), (A3_i64.mk (12) (2) (4)), (A3_i64.mk (0) (0) (1)), (A3_i64.mk (13) (2) (1))]⟩, ⟨0, .mem, 1, [.s (.int .i64 (gt [(A3_i64.mk (7) (0) (3)), (A3_i64.mk (8) (0) (4)), (A3_i64.mk (9) (0) (3)), (A3_i64.mk (10) (0) (4)), (A3_i64.mk (0) (0) (1)), (A3_i64.mk (5) (0) (2)), (A3_i64.mk (4) (0) (2)), (A3_i64.mk (0) (0) (1)), (A3_i64.mk (2) (1) (1)), (A3_i64.mk (3) (2) (3)), (A3_i64.mk (0) (0) (1)), (A3_i64.mk (6) (0) (5)), (A3_i64.mk (11) (1) (1)), (A3_i64.mk (12) (2) (4)), (A3_i64.mk (0) (0) (1)), (A3_i64.mk (13) (2) (1))] (Int.tmod (IntKind.wrap .i64 b_) 16)).a0), .s (.int .i64 (gt [(A3_i64.mk (7) (0) (3)), (A3_i64.mk (8) (0) (4)), (A3_i64.mk (9) (0) (3)), (A3_i64.mk (10) (0) (4)), (A3_i64.mk (0) (0) (1)), (A3_i64.mk (5) (0) (2)), (A3_i64.mk (4) (0) (2)), (A3_i64.mk (0) (0) (1)), (A3_i64.mk (2) (1) (1)), (A3_i64.mk (3) (2) (3)), (A3_i64.mk (0) (0) (1)), (A3_i64.mk (6) (0) (5)), (A3_i64.mk (11) (1) (1)), (A3_i64.mk (12) (2) (4)), (A3_i64.mk (0) (0) (1)), (A3_i64.mk (13) (2) (1))] (Int.tmod (IntKind.wrap .i64 b_) 16)).a1), .s (.int .i64 (gt [(A3_i64.mk (7) (0) (3)), (A3_i64.mk (8) (0) (4)), (A3_i64.mk (9) (0) (3)), (A3_i64.mk (10) (0) (4)), (A3_i64.mk (0) (0) (1)), (A3_i64.mk (5) (0) (2)), (A3_i64.mk (4) (0) (2)), (A3_i64.mk (0) (0) (1)), (A3_i64.mk (2) (1) (1)), (A3_i64.mk (3) (2) (3)), (A3_i64.mk (0) (0) (1)), (A3_i64.mk (6) (0) (5)), (A3_i64.mk (11) (1) (1)), (A3_i64.mk (12) (2) (4)), (A3_i64.mk (0) (0) (1)), (A3_i64.mk (13) (2) (1))] (Int.tmod (IntKind.wrap .i64 b_) 16)).a2)]⟩] := by
      intro reg_ h f hf
      unfold spinetref15_Of_j2 at h
      refine k_c ?_
      refine k_seq ?_
      refine k_seq ?_
      refine k_reg ?_
      refine mops_end [2, 3, 4, 7, 56] hf (l' := [⟨2, [], .ptr 0 0 0⟩, ⟨3, [], .s (.int .i64 (IntKind.wrap .i64 b_))⟩, ⟨4, [], .s (.int .i64 reg_)⟩, ⟨7, [], .ptr 2 0 0⟩, ⟨56, [], .s (.bool ((Int.tmod (IntKind.wrap .i64 b_) 16) == 15))⟩]) (L' := [⟨0, .mem, 1, [.s (.int .i64 0), .s (.int .i64 0), .s (.int .i64 0), .s (.bool false), .s (.int .i64 0), .s (.int .i64 0)]⟩, ⟨0, .mem, 1, cat A3_i64.v [(A3_i64.mk (7) (0) (3)), (A3_i64.mk (8) (0) (4)), (A3_i64.mk (9) (0) (3)), (A3_i64.mk (10) (0) (4)), (A3_i64.mk (0) (0) (1)), (A3_i64.mk (5) (0) (2)), (A3_i64.mk (4) (0) (2)), (A3_i64.mk (0) (0) (1)), (A3_i64.mk (2) (1) (1)), (A3_i64.mk (3) (2) (3)), (A3_i64.mk (0) (0) (1)), (A3_i64.mk (6) (0) (5)), (A3_i64.mk (11) (1) (1)), (A3_i64.mk (12) (2) (4)), (A3_i64.mk (0) (0) (1)), (A3_i64.mk (13) (2) (1))]⟩, ⟨0, .mem, 1, [.s (.int .i64 (gt [(A3_i64.mk (7) (0) (3)), (A3_i64.mk (8) (0) (4)), (A3_i64.mk (9) (0) (3)), (A3_i64.mk (10) (0) (4)), (A3_i64.mk (0) (0) (1)), (A3_i64.mk (5) (0) (2)), (A3_i64.mk (4) (0) (2)), (A3_i64.mk (0) (0) (1)), (A3_i64.mk (2) (1) (1)), (A3_i64.mk (3) (2) (3)), (A3_i64.mk (0) (0) (1)), (A3_i64.mk (6) (0) (5)), (A3_i64.mk (11) (1) (1)), (A3_i64.mk (12) (2) (4)), (A3_i64.mk (0) (0) (1)), (A3_i64.mk (13) (2) (1))] (Int.tmod (IntKind.wrap .i64 b_) 16)).a0), .s (.int .i64 (gt [(A3_i64.mk (7) (0) (3)), (A3_i64.mk (8) (0) (4)), (A3_i64.mk (9) (0) (3)), (A3_i64.mk (10) (0) (4)), (A3_i64.mk (0) (0) (1)), (A3_i64.mk (5) (0) (2)), (A3_i64.mk (4) (0) (2)), (A3_i64.mk (0) (0) (1)), (A3_i64.mk (2) (1) (1)), (A3_i64.mk (3) (2) (3)), (A3_i64.mk (0) (0) (1)), (A3_i64.mk (6) (0) (5)), (A3_i64.mk (11) (1) (1)), (A3_i64.mk (12) (2) (4)), (A3_i64.mk (0) (0) (1)), (A3_i64.mk (13) (2) (1))] (Int.tmod (IntKind.wrap .i64 b_) 16)).a1), .s (.int .i64 (gt [(A3_i64.mk (7) (0) (3)), (A3_i64.mk (8) (0) (4)), (A3_i64.mk (9) (0) (3)), (A3_i64.mk (10) (0) (4)), (A3_i64.mk (0) (0) (1)), (A3_i64.mk (5) (0) (2)), (A3_i64.mk (4) (0) (2)), (A3_i64.mk (0) (0) (1)), (A3_i64.mk (2) (1) (1)), (A3_i64.mk (3) (2) (3)), (A3_i64.mk (0) (0) (1)), (A3_i64.mk (6) (0) (5)), (A3_i64.mk (11) (1) (1)), (A3_i64.mk (12) (2) (4)), (A3_i64.mk (0) (0) (1)), (A3_i64.mk (13) (2) (1))] (Int.tmod (IntKind.wrap .i64 b_) 16)).a2)]⟩]) (by kernel_rfl) fun f1 hf1 => ?_
      refine k_c ?_
      have hj3 : ∀ (reg_1 : Int), spinetref15_Of_j1 b_ reg_1 = some r → ∀ f, FOk f [⟨2, [], .ptr 0 0 0⟩, ⟨3, [], .s (.int .i64 (IntKind.wrap .i64 b_))⟩, ⟨4, [], .s (.int .i64 reg_1)⟩, ⟨7, [], .ptr 2 0 0⟩] → kont Try.prog [] (spinetref15_Of_C r) ((.c spinetref15_Of_i23) :: []) .normal f [⟨0, .mem, 1, [.s (.int .i64 0), .s (.int .i64 0), .s (.int .i64 0), .s (.bool false), .s (.int .i64 0), .s (.int .i64 0)]⟩, ⟨0, .mem, 1, cat A3_i64.v [(A3_i64.mk (7) (0) (3)), (A3_i64.mk (8) (0) (4)), (A3_i64.mk (9) (0) (3)), (A3_i64.mk (10) (0) (4)), (A3_i64.mk (0) (0) (1)), (A3_i64.mk (5) (0) (2)), (A3_i64.mk (4) (0) (2)), (A3_i64.mk (0) (0) (1)), (A3_i64.mk (2) (1) (1)), (A3_i64.mk (3) (2) (3)), (A3_i64.mk (0) (0) (1)), (A3_i64.mk (6) (0) (5)), (A3_i64.mk (11) (1) (1)), (A3_i64.mk (12) (2) (4)), (A3_i64.mk (0) (0) (1)), (A3_i64.mk (13) (2) (1))]⟩, ⟨0, .mem, 1, [.s (.int .i64 (gt [(A3_i64.mk (7) (0) (3)), (A3_i64.mk (8) (0) (4)), (A3_i64.mk (9) (0) (3)), (A3_i64.mk (10) (0) (4)), (A3_i64.mk (0) (0) (1)), (A3_i64.mk (5) (0) (2)), (A3_i64.mk (4) (0) (2)), (A3_i64.mk (0) (0) (1)), (A3_i64.mk (2) (1) (1)), (A3_i64.mk (3) (2) (3)), (A3_i64.mk (0) (0) (1)), (A3_i64.mk (6) (0) (5)), (A3_i64.mk (11) (1) (1)), (A3_i64.mk (12) (2) (4)), (A3_i64.mk (0) (0) (1)), (A3_i64.mk (13) (2) (1))] (Int.tmod (IntKind.wrap .i64 b_) 16)).a0), .s (.int .i64 (gt [(A3_i64.mk (7) (0) (3)), (A3_i64.mk (8) (0) (4)), (A3_i64.mk (9) (0) (3)), (A3_i64.mk (10) (0) (4)), (A3_i64.mk (0) (0) (1)), (A3_i64.mk (5) (0) (2)), (A3_i64.mk (4) (0) (2)), (A3_i64.mk (0) (0) (1)), (A3_i64.mk (2) (1) (1)), (A3_i64.mk (3) (2) (3)), (A3_i64.mk (0) (0) (1)), (A3_i64.mk (6) (0) (5)), (A3_i64.mk (11) (1) (1)), (A3_i64.mk (12) (2) (4)), (A3_i64.mk (0) (0) (1)), (A3_i64.mk (13) (2) (1))] (Int.tmod (IntKind.wrap .i64 b_) 16)).a1), .s (.int .i64 (gt [(A3_i64.mk (7) (0) (3)), (A3_i64.mk (8) (0) (4)), (A3_i64.mk (9) (0) (3)), (A3_i64.mk (10) (0) (4)), (A3_i64.mk (0) (0) (1)), (A3_i64.mk (5) (0) (2)), (A3_i64.mk (4) (0) (2)), (A3_i64.mk (0) (0) (1)), (A3_i64.mk (2) (1) (1)), (A3_i64.mk (3) (2) (3)), (A3_i64.mk (0) (0) (1)), (A3_i64.mk (6) (0) (5)), (A3_i64.mk (11) (1) (1)), (A3_i64.mk (12) (2) (4)), (A3_i64.mk (0) (0) (1)), (A3_i64.mk (13) (2) (1))] (Int.tmod (IntKind.wrap .i64 b_) 16)).a2)]⟩] := by
        intro reg_1 h f hf
        unfold spinetref15_Of_j1 at h
        refine k_c ?_
        refine k_seq ?_
        refine k_reg ?_
        refine mops_end [2] hf (l' := [⟨2, [], .ptr 0 0 0⟩]) (L' := [⟨0, .mem, 1, [.s (.int .i64 (gt [(A3_i64.mk (7) (0) (3)), (A3_i64.mk (8) (0) (4)), (A3_i64.mk (9) (0) (3)), (A3_i64.mk (10) (0) (4)), (A3_i64.mk (0) (0) (1)), (A3_i64.mk (5) (0) (2)), (A3_i64.mk (4) (0) (2)), (A3_i64.mk (0) (0) (1)), (A3_i64.mk (2) (1) (1)), (A3_i64.mk (3) (2) (3)), (A3_i64.mk (0) (0) (1)), (A3_i64.mk (6) (0) (5)), (A3_i64.mk (11) (1) (1)), (A3_i64.mk (12) (2) (4)), (A3_i64.mk (0) (0) (1)), (A3_i64.mk (13) (2) (1))] (Int.tmod (IntKind.wrap .i64 b_) 16)).a0), .s (.int .i64 reg_1), .s (.int .i64 0), .s (.bool (((Int.tmod (IntKind.wrap .i64 (Int.tdiv (IntKind.wrap .i64 b_) 16)) 2) == 1) || ((Int.tmod (IntKind.wrap .i64 b_) 16) == 15))), .s (.int .i64 (gt [(A3_i64.mk (7) (0) (3)), (A3_i64.mk (8) (0) (4)), (A3_i64.mk (9) (0) (3)), (A3_i64.mk (10) (0) (4)), (A3_i64.mk (0) (0) (1)), (A3_i64.mk (5) (0) (2)), (A3_i64.mk (4) (0) (2)), (A3_i64.mk (0) (0) (1)), (A3_i64.mk (2) (1) (1)), (A3_i64.mk (3) (2) (3)), (A3_i64.mk (0) (0) (1)), (A3_i64.mk (6) (0) (5)), (A3_i64.mk (11) (1) (1)), (A3_i64.mk (12) (2) (4)), (A3_i64.mk (0) (0) (1)), (A3_i64.mk (13) (2) (1))] (Int.tmod (IntKind.wrap .i64 b_) 16)).a1), .s (.int .i64 (gt [(A3_i64.mk (7) (0) (3)), (A3_i64.mk (8) (0) (4)), (A3_i64.mk (9) (0) (3)), (A3_i64.mk (10) (0) (4)), (A3_i64.mk (0) (0) (1)), (A3_i64.mk (5) (0) (2)), (A3_i64.mk (4) (0) (2)), (A3_i64.mk (0) (0) (1)), (A3_i64.mk (2) (1) (1)), (A3_i64.mk (3) (2) (3)), (A3_i64.mk (0) (0) (1)), (A3_i64.mk (6) (0) (5)), (A3_i64.mk (11) (1) (1)), (A3_i64.mk (12) (2) (4)), (A3_i64.mk (0) (0) (1)), (A3_i64.mk (13) (2) (1))] (Int.tmod (IntKind.wrap .i64 b_) 16)).a2)]⟩, ⟨0, .mem, 1, cat A3_i64.v [(A3_i64.mk (7) (0) (3)), (A3_i64.mk (8) (0) (4)), (A3_i64.mk (9) (0) (3)), (A3_i64.mk (10) (0) (4)), (A3_i64.mk (0) (0) (1)), (A3_i64.mk (5) (0) (2)), (A3_i64.mk (4) (0) (2)), (A3_i64.mk (0) (0) (1)), (A3_i64.mk (2) (1) (1)), (A3_i64.mk (3) (2) (3)), (A3_i64.mk (0) (0) (1)), (A3_i64.mk (6) (0) (5)), (A3_i64.mk (11) (1) (1)), (A3_i64.mk (12) (2) (4)), (A3_i64.mk (0) (0) (1)), (A3_i64.mk (13) (2) (1))]⟩, ⟨0, .mem, 1, [.s (.int .i64 (gt [(A3_i64.mk (7) (0) (3)), (A3_i64.mk (8) (0) (4)), (A3_i64.mk (9) (0) (3)), (A3_i64.mk (10) (0) (4)), (A3_i64.mk (0) (0) (1)), (A3_i64.mk (5) (0) (2)), (A3_i64.mk (4) (0) (2)), (A3_i64.mk (0) (0) (1)), (A3_i64.mk (2) (1) (1)), (A3_i64.mk (3) (2) (3)), (A3_i64.mk (0) (0) (1)), (A3_i64.mk (6) (0) (5)), (A3_i64.mk (11) (1) (1)), (A3_i64.mk (12) (2) (4)), (A3_i64.mk (0) (0) (1)), (A3_i64.mk (13) (2) (1))] (Int.tmod (IntKind.wrap .i64 b_) 16)).a0), .s (.int .i64 (gt [(A3_i64.mk (7) (0) (3)), (A3_i64.mk (8) (0) (4)), (A3_i64.mk (9) (0) (3)), (A3_i64.mk (10) (0) (4)), (A3_i64.mk (0) (0) (1)), (A3_i64.mk (5) (0) (2)), (A3_i64.mk (4) (0) (2)), (A3_i64.mk (0) (0) (1)), (A3_i64.mk (2) (1) (1)), (A3_i64.mk (3) (2) (3)), (A3_i64.mk (0) (0) (1)), (A3_i64.mk (6) (0) (5)), (A3_i64.mk (11) (1) (1)), (A3_i64.mk (12) (2) (4)), (A3_i64.mk (0) (0) (1)), (A3_i64.mk (13) (2) (1))] (Int.tmod (IntKind.wrap .i64 b_) 16)).a1), .s (.int .i64 (gt [(A3_i64.mk (7) (0) (3)), (A3_i64.mk (8) (0) (4)), (A3_i64.mk (9) (0) (3)), (A3_i64.mk (10) (0) (4)), (A3_i64.mk (0) (0) (1)), (A3_i64.mk (5) (0) (2)), (A3_i64.mk (4) (0) (2)), (A3_i64.mk (0) (0) (1)), (A3_i64.mk (2) (1) (1)), (A3_i64.mk (3) (2) (3)), (A3_i64.mk (0) (0) (1)), (A3_i64.mk (6) (0) (5)), (A3_i64.mk (11) (1) (1)), (A3_i64.mk (12) (2) (4)), (A3_i64.mk (0) (0) (1)), (A3_i64.mk (13) (2) (1))] (Int.tmod (IntKind.wrap .i64 b_) 16)).a2)]⟩]) (by kernel_rfl) fun f1 hf1 => ?_
        refine k_c ?_
        refine k_ret ?_
        obtain rfl := Option.some.inj h
        exact k_fin (fin_ret (.inl rfl) hf1 (vs := [.agg [.s (.int .i64 (gt [(A3_i64.mk (7) (0) (3)), (A3_i64.mk (8) (0) (4)), (A3_i64.mk (9) (0) (3)), (A3_i64.mk (10) (0) (4)), (A3_i64.mk (0) (0) (1)), (A3_i64.mk (5) (0) (2)), (A3_i64.mk (4) (0) (2)), (A3_i64.mk (0) (0) (1)), (A3_i64.mk (2) (1) (1)), (A3_i64.mk (3) (2) (3)), (A3_i64.mk (0) (0) (1)), (A3_i64.mk (6) (0) (5)), (A3_i64.mk (11) (1) (1)), (A3_i64.mk (12) (2) (4)), (A3_i64.mk (0) (0) (1)), (A3_i64.mk (13) (2) (1))] (Int.tmod (IntKind.wrap .i64 b_) 16)).a0), .s (.int .i64 reg_1), .s (.int .i64 0), .s (.bool (((Int.tmod (IntKind.wrap .i64 (Int.tdiv (IntKind.wrap .i64 b_) 16)) 2) == 1) || ((Int.tmod (IntKind.wrap .i64 b_) 16) == 15))), .s (.int .i64 (gt [(A3_i64.mk (7) (0) (3)), (A3_i64.mk (8) (0) (4)), (A3_i64.mk (9) (0) (3)), (A3_i64.mk (10) (0) (4)), (A3_i64.mk (0) (0) (1)), (A3_i64.mk (5) (0) (2)), (A3_i64.mk (4) (0) (2)), (A3_i64.mk (0) (0) (1)), (A3_i64.mk (2) (1) (1)), (A3_i64.mk (3) (2) (3)), (A3_i64.mk (0) (0) (1)), (A3_i64.mk (6) (0) (5)), (A3_i64.mk (11) (1) (1)), (A3_i64.mk (12) (2) (4)), (A3_i64.mk (0) (0) (1)), (A3_i64.mk (13) (2) (1))] (Int.tmod (IntKind.wrap .i64 b_) 16)).a1), .s (.int .i64 (gt [(A3_i64.mk (7) (0) (3)), (A3_i64.mk (8) (0) (4)), (A3_i64.mk (9) (0) (3)), (A3_i64.mk (10) (0) (4)), (A3_i64.mk (0) (0) (1)), (A3_i64.mk (5) (0) (2)), (A3_i64.mk (4) (0) (2)), (A3_i64.mk (0) (0) (1)), (A3_i64.mk (2) (1) (1)), (A3_i64.mk (3) (2) (3)), (A3_i64.mk (0) (0) (1)), (A3_i64.mk (6) (0) (5)), (A3_i64.mk (11) (1) (1)), (A3_i64.mk (12) (2) (4)), (A3_i64.mk (0) (0) (1)), (A3_i64.mk (13) (2) (1))] (Int.tmod (IntKind.wrap .i64 b_) 16)).a2)]]) (by kernel_rfl) (SettL.pure (FzL.stat rfl)))
      refine k_cond hf1 (t := ((Int.tmod (IntKind.wrap .i64 b_) 16) == 15)) (by kernel_rfl) (fun hc5 => ?_) (fun hc5 => ?_)
      · have h := if_t h hc5
        refine k_reg ?_
        refine mops_end [2, 3, 4, 7] hf1 (l' := [⟨2, [], .ptr 0 0 0⟩, ⟨3, [], .s (.int .i64 (IntKind.wrap .i64 b_))⟩, ⟨4, [], .s (.int .i64 0)⟩, ⟨7, [], .ptr 2 0 0⟩]) (L' := [⟨0, .mem, 1, [.s (.int .i64 0), .s (.int .i64 0), .s (.int .i64 0), .s (.bool false), .s (.int .i64 0), .s (.int .i64 0)]⟩, ⟨0, .mem, 1, cat A3_i64.v [(A3_i64.mk (7) (0) (3)), (A3_i64.mk (8) (0) (4)), (A3_i64.mk (9) (0) (3)), (A3_i64.mk (10) (0) (4)), (A3_i64.mk (0) (0) (1)), (A3_i64.mk (5) (0) (2)), (A3_i64.mk (4) (0) (2)), (A3_i64.mk (0) (0) (1)), (A3_i64.mk (2) (1) (1)), (A3_i64.mk (3) (2) (3)), (A3_i64.mk (0) (0) (1)), (A3_i64.mk (6) (0) (5)), (A3_i64.mk (11) (1) (1)), (A3_i64.mk (12) (2) (4)), (A3_i64.mk (0) (0) (1)), (A3_i64.mk (13) (2) (1))]⟩, ⟨0, .mem, 1, [.s (.int .i64 (gt [(A3_i64.mk (7) (0) (3)), (A3_i64.mk (8) (0) (4)), (A3_i64.mk (9) (0) (3)), (A3_i64.mk (10) (0) (4)), (A3_i64.mk (0) (0) (1)), (A3_i64.mk (5) (0) (2)), (A3_i64.mk (4) (0) (2)), (A3_i64.mk (0) (0) (1)), (A3_i64.mk (2) (1) (1)), (A3_i64.mk (3) (2) (3)), (A3_i64.mk (0) (0) (1)), (A3_i64.mk (6) (0) (5)), (A3_i64.mk (11) (1) (1)), (A3_i64.mk (12) (2) (4)), (A3_i64.mk (0) (0) (1)), (A3_i64.mk (13) (2) (1))] (Int.tmod (IntKind.wrap .i64 b_) 16)).a0), .s (.int .i64 (gt [(A3_i64.mk (7) (0) (3)), (A3_i64.mk (8) (0) (4)), (A3_i64.mk (9) (0) (3)), (A3_i64.mk (10) (0) (4)), (A3_i64.mk (0) (0) (1)), (A3_i64.mk (5) (0) (2)), (A3_i64.mk (4) (0) (2)), (A3_i64.mk (0) (0) (1)), (A3_i64.mk (2) (1) (1)), (A3_i64.mk (3) (2) (3)), (A3_i64.mk (0) (0) (1)), (A3_i64.mk (6) (0) (5)), (A3_i64.mk (11) (1) (1)), (A3_i64.mk (12) (2) (4)), (A3_i64.mk (0) (0) (1)), (A3_i64.mk (13) (2) (1))] (Int.tmod (IntKind.wrap .i64 b_) 16)).a1), .s (.int .i64 (gt [(A3_i64.mk (7) (0) (3)), (A3_i64.mk (8) (0) (4)), (A3_i64.mk (9) (0) (3)), (A3_i64.mk (10) (0) (4)), (A3_i64.mk (0) (0) (1)), (A3_i64.mk (5) (0) (2)), (A3_i64.mk (4) (0) (2)), (A3_i64.mk (0) (0) (1)), (A3_i64.mk (2) (1) (1)), (A3_i64.mk (3) (2) (3)), (A3_i64.mk (0) (0) (1)), (A3_i64.mk (6) (0) (5)), (A3_i64.mk (11) (1) (1)), (A3_i64.mk (12) (2) (4)), (A3_i64.mk (0) (0) (1)), (A3_i64.mk (13) (2) (1))] (Int.tmod (IntKind.wrap .i64 b_) 16)).a2)]⟩]) (by kernel_rfl) fun f2 hf2 => ?_
        exact hj3 (0) h _ (FOk_of [2, 3, 4, 7] hf2 (by kernel_rfl))
      · have h := if_f h hc5
        refine k_skip ?_
        exact hj3 reg_ h _ (FOk_of [2, 3, 4, 7] hf1 (by kernel_rfl))
    refine k_cond hf10 (t := (((Int.tmod (IntKind.wrap .i64 b_) 16) == 12) || ((Int.tmod (IntKind.wrap .i64 b_) 16) == 13))) (by kernel_rfl) (fun hc4 => ?_) (fun hc4 => ?_)
    · have h := if_t h hc4
      refine k_reg ?_
      refine mops_end [2, 3, 4, 7] hf10 (l' := [⟨2, [], .ptr 0 0 0⟩, ⟨3, [], .s (.int .i64 (IntKind.wrap .i64 b_))⟩, ⟨4, [], .s (.int .i64 5)⟩, ⟨7, [], .ptr 2 0 0⟩]) (L' := [⟨0, .mem, 1, [.s (.int .i64 0), .s (.int .i64 0), .s (.int .i64 0), .s (.bool false), .s (.int .i64 0), .s (.int .i64 0)]⟩, ⟨0, .mem, 1, cat A3_i64.v [(A3_i64.mk (7) (0) (3)), (A3_i64.mk (8) (0) (4)), (A3_i64.mk (9) (0) (3)), (A3_i64.mk (10) (0) (4)), (A3_i64.mk (0) (0) (1)), (A3_i64.mk (5) (0) (2)), (A3_i64.mk (4) (0) (2)), (A3_i64.mk (0) (0) (1)), (A3_i64.mk (2) (1) (1)), (A3_i64.mk (3) (2) (3)), (A3_i64.mk (0) (0) (1)), (A3_i64.mk (6) (0) (5)), (A3_i64.mk (11) (1) (1)), (A3_i64.mk (12) (2) (4)), (A3_i64.mk (0) (0) (1)), (A3_i64.mk (13) (2) (1))]⟩, ⟨0, .mem, 1, [.s (.int .i64 (gt [(A3_i64.mk (7) (0) (3)), (A3_i64.mk (8) (0) (4)), (A3_i64.mk (9) (0) (3)), (A3_i64.mk (10) (0) (4)), (A3_i64.mk (0) (0) (1)), (A3_i64.mk (5) (0) (2)), (A3_i64.mk (4) (0) (2)), (A3_i64.mk (0) (0) (1)), (A3_i64.mk (2) (1) (1)), (A3_i64.mk (3) (2) (3)), (A3_i64.mk (0) (0) (1)), (A3_i64.mk (6) (0) (5)), (A3_i64.mk (11) (1) (1)), (A3_i64.mk (12) (2) (4)), (A3_i64.mk (0) (0) (1)), (A3_i64.mk (13) (2) (1))] (Int.tmod (IntKind.wrap .i64 b_) 16)).a0), .s (.int .i64 (gt [(A3_i64.mk (7) (0) (3)), (A3_i64.mk (8) (0) (4)), (A3_i64.mk (9) (0) (3)), (A3_i64.mk (10) (0) (4)), (A3_i64.mk (0) (0) (1)), (A3_i64.mk (5) (0) (2)), (A3_i64.mk (4) (0) (2)), (A3_i64.mk (0) (0) (1)), (A3_i64.mk (2) (1) (1)), (A3_i64.mk (3) (2) (3)), (A3_i64.mk (0) (0) (1)), (A3_i64.mk (6) (0) (5)), (A3_i64.mk (11) (1) (1)), (A3_i64.mk (12) (2) (4)), (A3_i64.mk (0) (0) (1)), (A3_i64.mk (13) (2) (1))] (Int.tmod (IntKind.wrap .i64 b_) 16)).a1), .s (.int .i64 (gt [(A3_i64.mk (7) (0) (3)), (A3_i64.mk (8) (0) (4)), (A3_i64.mk (9) (0) (3)), (A3_i64.mk (10) (0) (4)), (A3_i64.mk (0) (0) (1)), (A3_i64.mk (5) (0) (2)), (A3_i64.mk (4) (0) (2)), (A3_i64.mk (0) (0) (1)), (A3_i64.mk (2) (1) (1)), (A3_i64.mk (3) (2) (3)), (A3_i64.mk (0) (0) (1)), (A3_i64.mk (6) (0) (5)), (A3_i64.mk (11) (1) (1)), (A3_i64.mk (12) (2) (4)), (A3_i64.mk (0) (0) (1)), (A3_i64.mk (13) (2) (1))] (Int.tmod (IntKind.wrap .i64 b_) 16)).a2)]⟩]) (by kernel_rfl) fun f11 hf11 => ?_
      exact hj2 (5) h _ (FOk_of [2, 3, 4, 7] hf11 (by kernel_rfl))
    · have h := if_f h hc4
      refine k_skip ?_
      exact hj2 (IntKind.wrap .i64 ((Int.tmod (IntKind.wrap .i64 (Int.tdiv (IntKind.wrap .i64 b_) 32)) 4) + 1)) h _ (FOk_of [2, 3, 4, 7] hf10 (by kernel_rfl))
def spinetref18_Sign_i0 : List Op1 := [⟨(some 2), (.e (.mv (.k (.int .u16 0)))), none, []⟩]
def spinetref18_Sign_i1 : List Op1 := [⟨(some 3), (.e (.mv (.t 0))), none, []⟩, ⟨(some 4), (.e (.bin .gtr (.t 3) (.k (.int .u8 127)))), none, [0]⟩]
def spinetref18_Sign_i2 : List Op1 := [⟨(some 5), (.e (.mv (.t 0))), none, []⟩, ⟨(some 6), (.e (.cint .u16 (.t 5))), none, [0]⟩, ⟨(some 7), (.e (.bin .add (.k (.int .u16 65280)) (.t 6))), none, [1]⟩, ⟨(some 2), (.e (.mv (.t 7))), none, [2, 0, 1, 2]⟩]
def spinetref18_Sign_i3 : IR := .ret
def spinetref18_Sign_i4 : IR := (.cond (.t 4) (.seq (.reg false spinetref18_Sign_i2) spinetref18_Sign_i3) .skip)
def spinetref18_Sign_i5 : List Op1 := [⟨(some 8), (.e (.mv (.t 0))), none, []⟩, ⟨(some 9), (.e (.cint .u16 (.t 8))), none, [0]⟩, ⟨(some 2), (.e (.mv (.t 9))), none, [1, 0, 1]⟩]
def spinetref18_Sign_i6 : IR := .ret
def spinetref18_Sign_i7 : IR := (.seq (.reg false spinetref18_Sign_i5) spinetref18_Sign_i6)
def spinetref18_Sign_i8 : IR := (.seq (.seq (.reg false spinetref18_Sign_i1) spinetref18_Sign_i4) spinetref18_Sign_i7)
def spinetref18_Sign_ir : IR := (.seq (.reg false spinetref18_Sign_i0) spinetref18_Sign_i8)
theorem spinetref18_Sign_cfn : cFn Try.prog 44 = some (spinetref18_Sign_ir, [(.t 2)], 10) := by kernel_rfl
def spinetref18_Sign_V (r : (Int)) : V := .s (.int .u16 r)
def spinetref18_Sign_C (r : (Int)) : X → Fr → Hp → Prop := FinL [(.t 2)] [] (spinetref18_Sign_V r) []
theorem spinetref18_Sign_ok (b_ : Int) (r : (Int)) (h : spinetref18_Sign b_ = some r) : Pure Try.prog 44 [.s (.int .u8 b_)] (spinetref18_Sign_V r) := by
  refine ConL.of spinetref18_Sign_cfn (Nat.le_of_ble_eq_true (by kernel_rfl)) (Nat.le_of_ble_eq_true (by kernel_rfl)) ?_
  refine k_start ?_
  show dwv Try.prog [] spinetref18_Sign_ir (kont Try.prog [] (spinetref18_Sign_C r) []) (fr0 [.s (.int .u8 b_)]) []
  have hf : FOk (fr0 [.s (.int .u8 b_)]) [⟨0, [], .s (.int .u8 b_)⟩] := ⟨⟨fun _ => rfl, fun h => (h trivial).elim⟩, trivial⟩
  generalize fr0 [.s (.int .u8 b_)] = f at hf ⊢
  unfold spinetref18_Sign at h
  refine k_seq ?_
  refine k_reg ?_
  refine mops_end [0, 2] hf (l' := [⟨0, [], .s (.int .u8 b_)⟩, ⟨2, [], .s (.int .u16 0)⟩]) (L' := []) (by kernel_rfl) fun f1 hf1 => ?_
  refine k_c ?_
  refine k_seq ?_
  refine k_seq ?_
  refine k_reg ?_
  refine mops_end [0, 2, 4] hf1 (l' := [⟨0, [], .s (.int .u8 b_)⟩, ⟨2, [], .s (.int .u16 0)⟩, ⟨4, [], .s (.bool (decide (127 < b_)))⟩]) (L' := []) (by kernel_rfl) fun f2 hf2 => ?_
  refine k_c ?_
  refine k_cond hf2 (t := (decide (127 < b_))) (by kernel_rfl) (fun hc1 => ?_) (fun hc1 => ?_)
  · have h := if_t h hc1
    refine k_seq ?_
    refine k_reg ?_
    refine mops_end [0, 2] hf2 (l' := [⟨0, [], .s (.int .u8 b_)⟩, ⟨2, [], .s (.int .u16 (IntKind.wrap .u16 (65280 + (IntKind.wrap .u16 b_))))⟩]) (L' := []) (by kernel_rfl) fun f3 hf3 => ?_
    refine k_c ?_
    refine k_ret ?_
    refine x_c nofun ?_
    obtain rfl := Option.some.inj h
    exact k_fin (fin_ret (.inl rfl) hf3 (vs := [.s (.int .u16 (IntKind.wrap .u16 (65280 + (IntKind.wrap .u16 b_))))]) (by kernel_rfl) (SettL.pure (FzL.stat rfl)))
  · have h := if_f h hc1
    refine k_skip ?_
    refine k_c ?_
    refine k_seq ?_
    refine k_reg ?_
    refine mops_end [2] hf2 (l' := [⟨2, [], .s (.int .u16 (IntKind.wrap .u16 b_))⟩]) (L' := []) (by kernel_rfl) fun f3 hf3 => ?_
    refine k_c ?_
    refine k_ret ?_
    obtain rfl := Option.some.inj h
    exact k_fin (fin_ret (.inl rfl) hf3 (vs := [.s (.int .u16 (IntKind.wrap .u16 b_))]) (by kernel_rfl) (SettL.pure (FzL.stat rfl)))
def inst_Next_i0 : List Op1 := [⟨(some 2), (.e (.box (.t 0))), none, []⟩, ⟨(some 4), (.e (.mv (.k (.int .u16 0)))), none, []⟩]
def inst_Next_i1 : List Op1 := [⟨(some 5), (.e (.mv (.t 1))), none, []⟩, ⟨(some 6), (.e (.fld 7 (.t 2))), none, []⟩, ⟨(some 7), (.e (.load false 1 (.t 6))), none, [1]⟩, ⟨(some 8), (.e (.cint .u16 (.t 7))), none, [2]⟩, ⟨(some 9), (.e (.bin .add (.t 5) (.t 8))), none, [0, 3]⟩, ⟨(some 4), (.e (.mv (.t 9))), none, [4, 0, 1, 2, 3, 4]⟩]
def inst_Next_i2 : IR := .ret
def inst_Next_i3 : IR := (.seq (.reg false inst_Next_i1) inst_Next_i2)
def inst_Next_ir : IR := (.seq (.reg false inst_Next_i0) inst_Next_i3)
theorem inst_Next_cfn : cFn Try.prog 45 = some (inst_Next_ir, [(.t 4)], 10) := by kernel_rfl
def inst_Next_V (r : (Int)) : V := .s (.int .u16 r)
def inst_Next_C (r : (Int)) : X → Fr → Hp → Prop := FinL [(.t 4)] [] (inst_Next_V r) []
theorem inst_Next_ok (i_ : api_Inst) (at_ : Int) (r : (Int)) (h : inst_Next i_ at_ = some r) : Pure Try.prog 45 [.agg [.s (.int .i64 i_.Page), .s (.int .u8 i_.Code), .s (.int .i64 i_.Entry.Op), .s (.int .i64 i_.Entry.Mode), .s (.int .i64 i_.Entry.Reg), .s (.int .u8 i_.Post), .s (.int .u16 i_.Value), .s (.int .i64 i_.Len)], .s (.int .u16 at_)] (inst_Next_V r) := by
  refine ConL.of inst_Next_cfn (Nat.le_of_ble_eq_true (by kernel_rfl)) (Nat.le_of_ble_eq_true (by kernel_rfl)) ?_
  refine k_start ?_
  show dwv Try.prog [] inst_Next_ir (kont Try.prog [] (inst_Next_C r) []) (fr0 [.agg [.s (.int .i64 i_.Page), .s (.int .u8 i_.Code), .s (.int .i64 i_.Entry.Op), .s (.int .i64 i_.Entry.Mode), .s (.int .i64 i_.Entry.Reg), .s (.int .u8 i_.Post), .s (.int .u16 i_.Value), .s (.int .i64 i_.Len)], .s (.int .u16 at_)]) []
  have hf : FOk (fr0 [.agg [.s (.int .i64 i_.Page), .s (.int .u8 i_.Code), .s (.int .i64 i_.Entry.Op), .s (.int .i64 i_.Entry.Mode), .s (.int .i64 i_.Entry.Reg), .s (.int .u8 i_.Post), .s (.int .u16 i_.Value), .s (.int .i64 i_.Len)], .s (.int .u16 at_)]) [⟨0, [], .agg [.s (.int .i64 i_.Page), .s (.int .u8 i_.Code), .s (.int .i64 i_.Entry.Op), .s (.int .i64 i_.Entry.Mode), .s (.int .i64 i_.Entry.Reg), .s (.int .u8 i_.Post), .s (.int .u16 i_.Value), .s (.int .i64 i_.Len)]⟩, ⟨1, [], .s (.int .u16 at_)⟩] := ⟨⟨fun _ => rfl, fun h => (h trivial).elim⟩, ⟨fun _ => rfl, fun h => (h trivial).elim⟩, trivial⟩
  generalize fr0 [.agg [.s (.int .i64 i_.Page), .s (.int .u8 i_.Code), .s (.int .i64 i_.Entry.Op), .s (.int .i64 i_.Entry.Mode), .s (.int .i64 i_.Entry.Reg), .s (.int .u8 i_.Post), .s (.int .u16 i_.Value), .s (.int .i64 i_.Len)], .s (.int .u16 at_)] = f at hf ⊢
  unfold inst_Next at h
  refine k_seq ?_
  refine k_reg ?_
  refine mops_end [1, 2, 4] hf (l' := [⟨1, [], .s (.int .u16 at_)⟩, ⟨2, [], .ptr 0 0 0⟩, ⟨4, [], .s (.int .u16 0)⟩]) (L' := [⟨0, .mem, 1, [.s (.int .i64 i_.Page), .s (.int .u8 i_.Code), .s (.int .i64 i_.Entry.Op), .s (.int .i64 i_.Entry.Mode), .s (.int .i64 i_.Entry.Reg), .s (.int .u8 i_.Post), .s (.int .u16 i_.Value), .s (.int .i64 i_.Len)]⟩]) (by kernel_rfl) fun f1 hf1 => ?_
  refine k_c ?_
  refine k_seq ?_
  refine k_reg ?_
  refine mops_end [4] hf1 (l' := [⟨4, [], .s (.int .u16 (IntKind.wrap .u16 (at_ + (IntKind.wrap .u16 i_.Len))))⟩]) (L' := [⟨0, .mem, 1, [.s (.int .i64 i_.Page), .s (.int .u8 i_.Code), .s (.int .i64 i_.Entry.Op), .s (.int .i64 i_.Entry.Mode), .s (.int .i64 i_.Entry.Reg), .s (.int .u8 i_.Post), .s (.int .u16 i_.Value), .s (.int .i64 i_.Len)]⟩]) (by kernel_rfl) fun f2 hf2 => ?_
  refine k_c ?_
  refine k_ret ?_
  obtain rfl := Option.some.inj h
  exact k_fin (fin_ret (.inl rfl) hf2 (vs := [.s (.int .u16 (IntKind.wrap .u16 (at_ + (IntKind.wrap .u16 i_.Len))))]) (by kernel_rfl) (SettL.pure (FzL.stat rfl)))
def flow_leaves_i0 : List Op1 := [⟨(some 1), (.e (.box (.t 0))), none, []⟩, ⟨(some 2), (.e (.mv (.k (.bool false)))), none, []⟩]
def flow_leaves_i1 : List Op1 := [⟨(some 3), (.e (.fld 2 (.t 1))), none, []⟩, ⟨(some 4), (.e (.fld 0 (.t 3))), none, [0]⟩, ⟨(some 5), (.e (.load false 1 (.t 4))), none, [1]⟩]
def flow_leaves_i2 : List Op1 := [⟨(some 7), (.e (.bin .eql (.t 5) (.k (.int .i64 32)))), none, []⟩, ⟨(some 6), (.e (.mv (.t 7))), none, [0]⟩]
def flow_leaves_i3 : List Op1 := [⟨(some 8), (.e (.bin .eql (.t 5) (.k (.int .i64 48)))), none, []⟩, ⟨(some 6), (.e (.mv (.t 8))), none, [0]⟩]
def flow_leaves_i4 : List Op1 := [⟨(some 9), (.e (.bin .eql (.t 5) (.k (.int .i64 49)))), none, []⟩, ⟨(some 6), (.e (.mv (.t 9))), none, [0]⟩]
def flow_leaves_i5 : IR := (.cond (.t 6) .skip (.reg false flow_leaves_i4))
def flow_leaves_i6 : IR := (.cond (.t 6) .skip (.seq (.reg false flow_leaves_i3) flow_leaves_i5))
def flow_leaves_i7 : List Op1 := [⟨(some 2), (.e (.mv (.k (.bool true)))), none, []⟩]
def flow_leaves_i8 : IR := .ret
def flow_leaves_i9 : List Op1 := [⟨(some 11), (.e (.bin .eql (.t 5) (.k (.int .i64 47)))), none, []⟩, ⟨(some 10), (.e (.mv (.t 11))), none, [0]⟩]
def flow_leaves_i10 : List Op1 := [⟨(some 12), (.e (.fld 5 (.t 1))), none, []⟩, ⟨(some 13), (.e (.load false 1 (.t 12))), none, [0]⟩, ⟨(some 14), (.e (.bin .and (.t 13) (.k (.int .u8 15)))), none, [1]⟩, ⟨(some 15), (.e (.bin .eql (.t 14) (.k (.int .u8 5)))), none, [2]⟩, ⟨(some 2), (.e (.mv (.t 15))), none, [3, 0, 1, 2, 3]⟩]
def flow_leaves_i11 : IR := .ret
def flow_leaves_i12 : List Op1 := [⟨(some 17), (.e (.bin .eql (.t 5) (.k (.int .i64 46)))), none, []⟩, ⟨(some 16), (.e (.mv (.t 17))), none, [0]⟩]
def flow_leaves_i13 : List Op1 := [⟨(some 18), (.e (.fld 5 (.t 1))), none, []⟩, ⟨(some 19), (.e (.load false 1 (.t 18))), none, [0]⟩, ⟨(some 20), (.e (.bin .and (.t 19) (.k (.int .u8 15)))), none, [1]⟩, ⟨(some 21), (.e (.bin .eql (.t 20) (.k (.int .u8 5)))), none, [2]⟩, ⟨(some 22), (.e (.mv (.t 21))), none, [3]⟩, ⟨(some 23), (.e (.fld 5 (.t 1))), (some (22, false)), [4]⟩, ⟨(some 24), (.e (.load false 1 (.t 23))), (some (22, false)), [5, 4]⟩, ⟨(some 25), (.e (.bin .shr (.t 24) (.k (.int .u64 4)))), (some (22, false)), [6, 4]⟩, ⟨(some 26), (.e (.bin .eql (.t 25) (.k (.int .u8 5)))), (some (22, false)), [7, 4]⟩, ⟨(some 27), (.e (.pick (.t 22) (.k (.bool true)) (.t 26))), none, [4, 8]⟩, ⟨(some 2), (.e (.mv (.t 27))), none, [9, 4, 0, 1, 2, 3, 4, 5, 6, 7, 8, 9]⟩]
def flow_leaves_i14 : IR := .ret
def flow_leaves_i15 : List Op1 := [⟨(some 29), (.e (.bin .eql (.t 5) (.k (.int .i64 31)))), none, []⟩, ⟨(some 28), (.e (.mv (.t 29))), none, [0]⟩]
def flow_leaves_i16 : List Op1 := [⟨(some 30), (.e (.fld 5 (.t 1))), none, []⟩, ⟨(some 31), (.e (.load false 1 (.t 30))), none, [0]⟩, ⟨(some 32), (.e (.bin .and (.t 31) (.k (.int .u8 128)))), none, [1]⟩, ⟨(some 33), (.e (.bin .neq (.t 32) (.k (.int .u8 0)))), none, [2]⟩, ⟨(some 2), (.e (.mv (.t 33))), none, [3, 0, 1, 2, 3]⟩]
def flow_leaves_i17 : IR := .ret
def flow_leaves_i18 : IR := (.cond (.t 28) (.seq (.reg false flow_leaves_i16) flow_leaves_i17) .skip)
def flow_leaves_i19 : IR := (.cond (.t 16) (.seq (.reg false flow_leaves_i13) flow_leaves_i14) (.seq (.reg false flow_leaves_i15) flow_leaves_i18))
def flow_leaves_i20 : IR := (.cond (.t 10) (.seq (.reg false flow_leaves_i10) flow_leaves_i11) (.seq (.reg false flow_leaves_i12) flow_leaves_i19))
def flow_leaves_i21 : IR := (.cond (.t 6) (.seq (.reg false flow_leaves_i7) flow_leaves_i8) (.seq (.reg false flow_leaves_i9) flow_leaves_i20))
def flow_leaves_i22 : IR := (.block 0 (.seq (.seq (.reg false flow_leaves_i2) flow_leaves_i6) flow_leaves_i21))
def flow_leaves_i23 : List Op1 := [⟨(some 2), (.e (.mv (.k (.bool false)))), none, []⟩]
def flow_leaves_i24 : IR := .ret
def flow_leaves_i25 : IR := (.seq (.reg false flow_leaves_i23) flow_leaves_i24)
def flow_leaves_i26 : IR := (.seq (.seq (.reg false flow_leaves_i1) flow_leaves_i22) flow_leaves_i25)
def flow_leaves_ir : IR := (.seq (.reg false flow_leaves_i0) flow_leaves_i26)
theorem flow_leaves_cfn : cFn Try.prog 47 = some (flow_leaves_ir, [(.t 2)], 34) := by kernel_rfl
def flow_leaves_V (r : (Bool)) : V := .s (.bool r)
def flow_leaves_C (r : (Bool)) : X → Fr → Hp → Prop := FinL [(.t 2)] [] (flow_leaves_V r) []
theorem flow_leaves_ok (i_ : api_Inst) (r : (Bool)) (h : flow_leaves i_ = some r) : Pure Try.prog 47 [.agg [.s (.int .i64 i_.Page), .s (.int .u8 i_.Code), .s (.int .i64 i_.Entry.Op), .s (.int .i64 i_.Entry.Mode), .s (.int .i64 i_.Entry.Reg), .s (.int .u8 i_.Post), .s (.int .u16 i_.Value), .s (.int .i64 i_.Len)]] (flow_leaves_V r) := by
  refine ConL.of flow_leaves_cfn (Nat.le_of_ble_eq_true (by kernel_rfl)) (Nat.le_of_ble_eq_true (by kernel_rfl)) ?_
  refine k_start ?_
  show dwv Try.prog [] flow_leaves_ir (kont Try.prog [] (flow_leaves_C r) []) (fr0 [.agg [.s (.int .i64 i_.Page), .s (.int .u8 i_.Code), .s (.int .i64 i_.Entry.Op), .s (.int .i64 i_.Entry.Mode), .s (.int .i64 i_.Entry.Reg), .s (.int .u8 i_.Post), .s (.int .u16 i_.Value), .s (.int .i64 i_.Len)]]) []
  have hf : FOk (fr0 [.agg [.s (.int .i64 i_.Page), .s (.int .u8 i_.Code), .s (.int .i64 i_.Entry.Op), .s (.int .i64 i_.Entry.Mode), .s (.int .i64 i_.Entry.Reg), .s (.int .u8 i_.Post), .s (.int .u16 i_.Value), .s (.int .i64 i_.Len)]]) [⟨0, [], .agg [.s (.int .i64 i_.Page), .s (.int .u8 i_.Code), .s (.int .i64 i_.Entry.Op), .s (.int .i64 i_.Entry.Mode), .s (.int .i64 i_.Entry.Reg), .s (.int .u8 i_.Post), .s (.int .u16 i_.Value), .s (.int .i64 i_.Len)]⟩] := ⟨⟨fun _ => rfl, fun h => (h trivial).elim⟩, trivial⟩
  generalize fr0 [.agg [.s (.int .i64 i_.Page), .s (.int .u8 i_.Code), .s (.int .i64 i_.Entry.Op), .s (.int .i64 i_.Entry.Mode), .s (.int .i64 i_.Entry.Reg), .s (.int .u8 i_.Post), .s (.int .u16 i_.Value), .s (.int .i64 i_.Len)]] = f at hf ⊢
  unfold flow_leaves at h
  refine k_seq ?_
  refine k_reg ?_
  refine mops_end [1, 2] hf (l' := [⟨1, [], .ptr 0 0 0⟩, ⟨2, [], .s (.bool false)⟩]) (L' := [⟨0, .mem, 1, [.s (.int .i64 i_.Page), .s (.int .u8 i_.Code), .s (.int .i64 i_.Entry.Op), .s (.int .i64 i_.Entry.Mode), .s (.int .i64 i_.Entry.Reg), .s (.int .u8 i_.Post), .s (.int .u16 i_.Value), .s (.int .i64 i_.Len)]⟩]) (by kernel_rfl) fun f1 hf1 => ?_
  refine k_c ?_
  refine k_seq ?_
  refine k_seq ?_
  refine k_reg ?_
  refine mops_end [1, 2, 5] hf1 (l' := [⟨1, [], .ptr 0 0 0⟩, ⟨2, [], .s (.bool false)⟩, ⟨5, [], .s (.int .i64 i_.Entry.Op)⟩]) (L' := [⟨0, .mem, 1, [.s (.int .i64 i_.Page), .s (.int .u8 i_.Code), .s (.int .i64 i_.Entry.Op), .s (.int .i64 i_.Entry.Mode), .s (.int .i64 i_.Entry.Reg), .s (.int .u8 i_.Post), .s (.int .u16 i_.Value), .s (.int .i64 i_.Len)]⟩]) (by kernel_rfl) fun f2 hf2 => ?_
  refine k_c ?_
  refine k_block ?_
  refine k_seq ?_
  refine k_seq ?_
  refine k_reg ?_
  refine mops_end [1, 2, 5, 6] hf2 (l' := [⟨1, [], .ptr 0 0 0⟩, ⟨2, [], .s (.bool false)⟩, ⟨5, [], .s (.int .i64 i_.Entry.Op)⟩, ⟨6, [], .s (.bool (i_.Entry.Op == 32))⟩]) (L' := [⟨0, .mem, 1, [.s (.int .i64 i_.Page), .s (.int .u8 i_.Code), .s (.int .i64 i_.Entry.Op), .s (.int .i64 i_.Entry.Mode), .s (.int .i64 i_.Entry.Reg), .s (.int .u8 i_.Post), .s (.int .u16 i_.Value), .s (.int .i64 i_.Len)]⟩]) (by kernel_rfl) fun f3 hf3 => ?_
  refine k_c ?_
  have hj1 : ∀ (t_ : Bool), flow_leaves_j0 i_ t_ = some r → ∀ f, FOk f [⟨1, [], .ptr 0 0 0⟩, ⟨2, [], .s (.bool false)⟩, ⟨5, [], .s (.int .i64 i_.Entry.Op)⟩, ⟨6, [], .s (.bool t_)⟩] → kont Try.prog [] (flow_leaves_C r) ((.c flow_leaves_i21) :: (.b 0) :: (.c flow_leaves_i25) :: []) .normal f [⟨0, .mem, 1, [.s (.int .i64 i_.Page), .s (.int .u8 i_.Code), .s (.int .i64 i_.Entry.Op), .s (.int .i64 i_.Entry.Mode), .s (.int .i64 i_.Entry.Reg), .s (.int .u8 i_.Post), .s (.int .u16 i_.Value), .s (.int .i64 i_.Len)]⟩] := by
    intro t_ h f hf
    unfold flow_leaves_j0 at h
    refine k_c ?_
    refine k_cond hf (t := t_) (by kernel_rfl) (fun hc3 => ?_) (fun hc3 => ?_)
    · have h := if_t h hc3
      refine k_seq ?_
      refine k_reg ?_
      refine mops_end [2] hf (l' := [⟨2, [], .s (.bool true)⟩]) (L' := [⟨0, .mem, 1, [.s (.int .i64 i_.Page), .s (.int .u8 i_.Code), .s (.int .i64 i_.Entry.Op), .s (.int .i64 i_.Entry.Mode), .s (.int .i64 i_.Entry.Reg), .s (.int .u8 i_.Post), .s (.int .u16 i_.Value), .s (.int .i64 i_.Len)]⟩]) (by kernel_rfl) fun f1 hf1 => ?_
      refine k_c ?_
      refine k_ret ?_
      refine x_br ?_
      refine x_c nofun ?_
      obtain rfl := Option.some.inj h
      exact k_fin (fin_ret (.inl rfl) hf1 (vs := [.s (.bool true)]) (by kernel_rfl) (SettL.pure (FzL.stat rfl)))
    · have h := if_f h hc3
      refine k_seq ?_
      refine k_reg ?_
      refine mops_end [1, 2, 5, 10] hf (l' := [⟨1, [], .ptr 0 0 0⟩, ⟨2, [], .s (.bool false)⟩, ⟨5, [], .s (.int .i64 i_.Entry.Op)⟩, ⟨10, [], .s (.bool (i_.Entry.Op == 47))⟩]) (L' := [⟨0, .mem, 1, [.s (.int .i64 i_.Page), .s (.int .u8 i_.Code), .s (.int .i64 i_.Entry.Op), .s (.int .i64 i_.Entry.Mode), .s (.int .i64 i_.Entry.Reg), .s (.int .u8 i_.Post), .s (.int .u16 i_.Value), .s (.int .i64 i_.Len)]⟩]) (by kernel_rfl) fun f1 hf1 => ?_
      refine k_c ?_
      refine k_cond hf1 (t := (i_.Entry.Op == 47)) (by kernel_rfl) (fun hc4 => ?_) (fun hc4 => ?_)
      · have h := if_t h hc4
        refine k_seq ?_
        refine k_reg ?_
        refine mops_end [2] hf1 (l' := [⟨2, [], .s (.bool ((bits .and .u8 i_.Post 15) == 5))⟩]) (L' := [⟨0, .mem, 1, [.s (.int .i64 i_.Page), .s (.int .u8 i_.Code), .s (.int .i64 i_.Entry.Op), .s (.int .i64 i_.Entry.Mode), .s (.int .i64 i_.Entry.Reg), .s (.int .u8 i_.Post), .s (.int .u16 i_.Value), .s (.int .i64 i_.Len)]⟩]) (by kernel_rfl) fun f2 hf2 => ?_
        refine k_c ?_
        refine k_ret ?_
        refine x_br ?_
        refine x_c nofun ?_
        obtain rfl := Option.some.inj h
        exact k_fin (fin_ret (.inl rfl) hf2 (vs := [.s (.bool ((bits .and .u8 i_.Post 15) == 5))]) (by kernel_rfl) (SettL.pure (FzL.stat rfl)))
      · have h := if_f h hc4
        refine k_seq ?_
        refine k_reg ?_
        refine mops_end [1, 2, 5, 16] hf1 (l' := [⟨1, [], .ptr 0 0 0⟩, ⟨2, [], .s (.bool false)⟩, ⟨5, [], .s (.int .i64 i_.Entry.Op)⟩, ⟨16, [], .s (.bool (i_.Entry.Op == 46))⟩]) (L' := [⟨0, .mem, 1, [.s (.int .i64 i_.Page), .s (.int .u8 i_.Code), .s (.int .i64 i_.Entry.Op), .s (.int .i64 i_.Entry.Mode), .s (.int .i64 i_.Entry.Reg), .s (.int .u8 i_.Post), .s (.int .u16 i_.Value), .s (.int .i64 i_.Len)]⟩]) (by kernel_rfl) fun f2 hf2 => ?_
        refine k_c ?_
        refine k_cond hf2 (t := (i_.Entry.Op == 46)) (by kernel_rfl) (fun hc5 => ?_) (fun hc5 => ?_)
        · have h := if_t h hc5
          refine k_seq ?_
          refine k_reg ?_
          refine mops_end [2] hf2 (l' := [⟨2, [], .s (.bool (((bits .and .u8 i_.Post 15) == 5) || ((Int.fdiv i_.Post (2 ^ (4))) == 5)))⟩]) (L' := [⟨0, .mem, 1, [.s (.int .i64 i_.Page), .s (.int .u8 i_.Code), .s (.int .i64 i_.Entry.Op), .s (.int .i64 i_.Entry.Mode), .s (.int .i64 i_.Entry.Reg), .s (.int .u8 i_.Post), .s (.int .u16 i_.Value), .s (.int .i64 i_.Len)]⟩]) (by kernel_rfl) fun f3 hf3 => ?_
          refine k_c ?_
          refine k_ret ?_
          refine x_br ?_
          refine x_c nofun ?_
          obtain rfl := Option.some.inj h
          exact k_fin (fin_ret (.inl rfl) hf3 (vs := [.s (.bool (((bits .and .u8 i_.Post 15) == 5) || ((Int.fdiv i_.Post (2 ^ (4))) == 5)))]) (by kernel_rfl) (SettL.pure (FzL.stat rfl)))
        · have h := if_f h hc5
          refine k_seq ?_
          refine k_reg ?_
          refine mops_end [1, 2, 28] hf2 (l' := [⟨1, [], .ptr 0 0 0⟩, ⟨2, [], .s (.bool false)⟩, ⟨28, [], .s (.bool (i_.Entry.Op == 31))⟩]) (L' := [⟨0, .mem, 1, [.s (.int .i64 i_.Page), .s (.int .u8 i_.Code), .s (.int .i64 i_.Entry.Op), .s (.int .i64 i_.Entry.Mode), .s (.int .i64 i_.Entry.Reg), .s (.int .u8 i_.Post), .s (.int .u16 i_.Value), .s (.int .i64 i_.Len)]⟩]) (by kernel_rfl) fun f3 hf3 => ?_
          refine k_c ?_
          refine k_cond hf3 (t := (i_.Entry.Op == 31)) (by kernel_rfl) (fun hc6 => ?_) (fun hc6 => ?_)
          · have h := if_t h hc6
            refine k_seq ?_
            refine k_reg ?_
            refine mops_end [2] hf3 (l' := [⟨2, [], .s (.bool ((bits .and .u8 i_.Post 128) != 0))⟩]) (L' := [⟨0, .mem, 1, [.s (.int .i64 i_.Page), .s (.int .u8 i_.Code), .s (.int .i64 i_.Entry.Op), .s (.int .i64 i_.Entry.Mode), .s (.int .i64 i_.Entry.Reg), .s (.int .u8 i_.Post), .s (.int .u16 i_.Value), .s (.int .i64 i_.Len)]⟩]) (by kernel_rfl) fun f4 hf4 => ?_
            refine k_c ?_
            refine k_ret ?_
            refine x_br ?_
            refine x_c nofun ?_
            obtain rfl := Option.some.inj h
            exact k_fin (fin_ret (.inl rfl) hf4 (vs := [.s (.bool ((bits .and .u8 i_.Post 128) != 0))]) (by kernel_rfl) (SettL.pure (FzL.stat rfl)))
          · have h := if_f h hc6
            refine k_skip ?_
            refine k_b ?_
            refine k_c ?_
            refine k_seq ?_
            refine k_reg ?_
            refine mops_end [2] hf3 (l' := [⟨2, [], .s (.bool false)⟩]) (L' := [⟨0, .mem, 1, [.s (.int .i64 i_.Page), .s (.int .u8 i_.Code), .s (.int .i64 i_.Entry.Op), .s (.int .i64 i_.Entry.Mode), .s (.int .i64 i_.Entry.Reg), .s (.int .u8 i_.Post), .s (.int .u16 i_.Value), .s (.int .i64 i_.Len)]⟩]) (by kernel_rfl) fun f4 hf4 => ?_
            refine k_c ?_
            refine k_ret ?_
            obtain rfl := Option.some.inj h
            exact k_fin (fin_ret (.inl rfl) hf4 (vs := [.s (.bool false)]) (by kernel_rfl) (SettL.pure (FzL.stat rfl)))
  refine k_cond hf3 (t := (i_.Entry.Op == 32)) (by kernel_rfl) (fun hc1 => ?_) (fun hc1 => ?_)
  · have h := if_t h hc1
    refine k_skip ?_
    exact hj1 (i_.Entry.Op == 32) h _ (FOk_of [1, 2, 5, 6] hf3 (by kernel_rfl))
  · have h := if_f h hc1
    refine k_seq ?_
    refine k_reg ?_
    refine mops_end [1, 2, 5, 6] hf3 (l' := [⟨1, [], .ptr 0 0 0⟩, ⟨2, [], .s (.bool false)⟩, ⟨5, [], .s (.int .i64 i_.Entry.Op)⟩, ⟨6, [], .s (.bool (i_.Entry.Op == 48))⟩]) (L' := [⟨0, .mem, 1, [.s (.int .i64 i_.Page), .s (.int .u8 i_.Code), .s (.int .i64 i_.Entry.Op), .s (.int .i64 i_.Entry.Mode), .s (.int .i64 i_.Entry.Reg), .s (.int .u8 i_.Post), .s (.int .u16 i_.Value), .s (.int .i64 i_.Len)]⟩]) (by kernel_rfl) fun f4 hf4 => ?_
    refine k_c ?_
    refine k_cond hf4 (t := (i_.Entry.Op == 48)) (by kernel_rfl) (fun hc2 => ?_) (fun hc2 => ?_)
    · have h := if_t h hc2
      refine k_skip ?_
      exact hj1 (i_.Entry.Op == 48) h _ (FOk_of [1, 2, 5, 6] hf4 (by kernel_rfl))
    · have h := if_f h hc2
      refine k_reg ?_
      refine mops_end [1, 2, 5, 6] hf4 (l' := [⟨1, [], .ptr 0 0 0⟩, ⟨2, [], .s (.bool false)⟩, ⟨5, [], .s (.int .i64 i_.Entry.Op)⟩, ⟨6, [], .s (.bool (i_.Entry.Op == 49))⟩]) (L' := [⟨0, .mem, 1, [.s (.int .i64 i_.Page), .s (.int .u8 i_.Code), .s (.int .i64 i_.Entry.Op), .s (.int .i64 i_.Entry.Mode), .s (.int .i64 i_.Entry.Reg), .s (.int .u8 i_.Post), .s (.int .u16 i_.Value), .s (.int .i64 i_.Len)]⟩]) (by kernel_rfl) fun f5 hf5 => ?_
      exact hj1 (i_.Entry.Op == 49) h _ (FOk_of [1, 2, 5, 6] hf5 (by kernel_rfl))
end Go.Proofs.YtbgdkaahcfmaeaaK
