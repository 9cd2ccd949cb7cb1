/- The Go functions come to the functions over typed data. Printed by a program of this work. -/
import Derived.Test.YtmabdijipkmmkaaF
import Derived.Test.YtmabdijipkmmkaaProg
namespace Go.Proofs.YtmabdijipkmmkaaK
set_option linter.unusedVariables false
set_option linter.unusedSimpArgs false
set_option maxHeartbeats 4000000
open Go.RowKit
attribute [local irreducible] dwv mops lops lqops lwops kont iter run runK rk okK ex E1 vals val chain chB sel resF
def spinetref14_add_i0 : List Op1 := [(oE 12 (.nilg 5) [])]
def spinetref14_add_i1 : List Op1 := [(oM 13 (.t 0) []), (oM 14 (.t 1) []), (oM 15 (.t 2) []), (oM 16 (.t 3) []), (oM 17 (.t 4) []), (oM 18 (.t 5) []), (oE 19 (.build [(.int .i64 0), (.int .i64 0), (.int .i64 0)] [(0, (1, (.t 16))), (1, (1, (.t 17))), (2, (1, (.t 18)))]) [3, 4, 5]), (oE 20 (.build [(.int .i64 0), (.int .i64 0), (.int .i64 0), (.int .i64 0), (.int .i64 0)] [(0, (1, (.t 14))), (1, (1, (.t 15))), (2, (3, (.t 19)))]) [1, 2, 6]), (oE 21 (.bslo 5 1 [(.int .i64 0), (.int .i64 0), (.int .i64 0), (.int .i64 0), (.int .i64 0)] [(0, (5, (.t 20)))]) [7]), (oE 22 (.app 5 40 (.t 13) (.t 21)) [0, 8]), (oM 12 (.t 22) [9, 9, 0, 1, 2, 3, 4, 5, 6, 7, 8, 9])]
def spinetref14_add_i2 : IR := .ret
def spinetref14_add_i3 : IR := (.seq (.reg false spinetref14_add_i1) spinetref14_add_i2)
def spinetref14_add_ir : IR := (.seq (.reg false spinetref14_add_i0) spinetref14_add_i3)
theorem spinetref14_add_cfn : cFn Try.prog 46 = some (spinetref14_add_ir, [(.t 12)], 23) := by kernel_rfl
def spinetref14_add_V (ver_ : Nat) (r : ((List spinetref14_Known))) : V := .ref 0 (ver_ + 1) 0 r.length
def spinetref14_add_L (l_ : (List spinetref14_Known)) (ver_ : Nat) : Hp := [⟨ver_, .grow, 5, cat spinetref14_Known.v l_⟩]
def spinetref14_add_C (l_ : (List spinetref14_Known)) (ver_ : Nat) (r : ((List spinetref14_Known))) : X → Fr → Hp → Prop := FinL [(.t 12)] (spinetref14_add_L l_ ver_) (spinetref14_add_V ver_ r) [⟨(ver_ + 1), .grow, 5, cat spinetref14_Known.v r⟩]
theorem spinetref14_add_ok (l_ : (List spinetref14_Known)) (page_ : Int) (code_ : Int) (op_ : Int) (mode_ : Int) (reg_ : Int) (ver_ : Nat) (r : ((List spinetref14_Known))) (h : spinetref14_add l_ page_ code_ op_ mode_ reg_ = some r) : ConL Try.prog 46 [.ref 0 ver_ 0 l_.length, .s (.int .i64 page_), .s (.int .i64 code_), .s (.int .i64 op_), .s (.int .i64 mode_), .s (.int .i64 reg_)] [⟨ver_, .grow, 5, cat spinetref14_Known.v l_⟩] (spinetref14_add_V ver_ r) [⟨(ver_ + 1), .grow, 5, cat spinetref14_Known.v r⟩] := by
  refine ConL.of spinetref14_add_cfn (Nat.le_of_ble_eq_true (by kernel_rfl)) (Nat.le_of_ble_eq_true (by kernel_rfl)) ?_
  refine k_start ?_
  show dwv Try.prog (spinetref14_add_L l_ ver_) spinetref14_add_ir (kont Try.prog (spinetref14_add_L l_ ver_) (spinetref14_add_C l_ ver_ r) []) (fr0 [.ref 0 ver_ 0 l_.length, .s (.int .i64 page_), .s (.int .i64 code_), .s (.int .i64 op_), .s (.int .i64 mode_), .s (.int .i64 reg_)]) [⟨ver_, .grow, 5, cat spinetref14_Known.v l_⟩]
  have hf : FOk (fr0 [.ref 0 ver_ 0 l_.length, .s (.int .i64 page_), .s (.int .i64 code_), .s (.int .i64 op_), .s (.int .i64 mode_), .s (.int .i64 reg_)]) [⟨0, [], .ref 0 ver_ 0 l_.length⟩, ⟨1, [], .s (.int .i64 page_)⟩, ⟨2, [], .s (.int .i64 code_)⟩, ⟨3, [], .s (.int .i64 op_)⟩, ⟨4, [], .s (.int .i64 mode_)⟩, ⟨5, [], .s (.int .i64 reg_)⟩] := ⟨⟨fun _ => rfl, fun h => (h trivial).elim⟩, ⟨fun _ => rfl, fun h => (h trivial).elim⟩, ⟨fun _ => rfl, fun h => (h trivial).elim⟩, ⟨fun _ => rfl, fun h => (h trivial).elim⟩, ⟨fun _ => rfl, fun h => (h trivial).elim⟩, ⟨fun _ => rfl, fun h => (h trivial).elim⟩, trivial⟩
  generalize fr0 [.ref 0 ver_ 0 l_.length, .s (.int .i64 page_), .s (.int .i64 code_), .s (.int .i64 op_), .s (.int .i64 mode_), .s (.int .i64 reg_)] = f at hf ⊢
  unfold spinetref14_add at h
  refine k_seq ?_
  refine k_reg ?_
  refine mops_en hf (by kernel_rfl) fun f1 hf1 => ?_
  refine k_c ?_
  refine k_seq ?_
  refine k_reg ?_
  refine mops_sg 9 hf1 (by kernel_rfl) fun f2 hf2 => ?_
  obtain ⟨c1, h⟩ := as_ok h
  refine mops_adv rfl (v := .ref 0 (ver_ + 1) 0 (l_ ++ [(spinetref14_Known.mk page_ code_ (api_Entry.mk op_ mode_ reg_))]).length) hf2 (by kernel_rfl) (e_app (g := spinetref14_Known.v) (l := l_) (l' := [(spinetref14_Known.mk page_ code_ (api_Entry.mk op_ mode_ reg_))]) (b := 0) (ver := ver_) (n := l_.length) (by kernel_rfl) rfl (live_grow (by kernel_rfl)) (sll_ev (v := .ref 2 0 0 1) (by kernel_rfl) (sll_ref (B := ⟨0, .grow, 5, cat spinetref14_Known.v [(spinetref14_Known.mk page_ code_ (api_Entry.mk op_ mode_ reg_))]⟩) (by kernel_rfl) (live_grow (by kernel_rfl)))) (slc_ev (v := .ref 2 0 0 1) (by kernel_rfl) (slc_ref (g := spinetref14_Known.v) (l := [(spinetref14_Known.mk page_ code_ (api_Entry.mk op_ mode_ reg_))]) (kd := .grow) (q := 5) (by kernel_rfl) (live_grow (by kernel_rfl)))) c1) fun f3 hf3 => ?_
  refine mops_en hf3 (by kernel_rfl) fun f4 hf4 => ?_
  refine k_c ?_
  refine k_ret ?_
  obtain rfl := Option.some.inj h
  exact k_fin (fin_ret (.inl rfl) hf4 (vs := [.ref 0 (ver_ + 1) 0 (l_ ++ [(spinetref14_Known.mk page_ code_ (api_Entry.mk op_ mode_ reg_))]).length]) (by kernel_rfl) (SettL.cutb (L' := [⟨(ver_ + 1), .grow, 5, cat spinetref14_Known.v (l_ ++ [(spinetref14_Known.mk page_ code_ (api_Entry.mk op_ mode_ reg_))])⟩]) 1 (by kernel_rfl) (by kernel_rfl) (by kernel_rfl) ⟨.inr (.inr (statics_unders _ _ (cat_stat _))), trivial⟩ (FzL.und rfl (ref_len rfl))))
def spinetref15_Of_i0 : List Op1 := [(oE 2 (.zero [(.int .i64 0), (.int .i64 0), (.int .i64 0), (.bool false), (.int .i64 0), (.int .i64 0)]) [])]
def spinetref15_Of_i1 : List Op1 := [(oM 8 (.t 0) []), (oE 9 (.cint .i64 (.t 8)) [0]), (oM 3 (.t 9) [1, 0, 1])]
def spinetref15_Of_i2 : List Op1 := [(oM 10 (.t 3) []), (oE 11 (.bin .quo (.t 10) (.k (.int .i64 32))) [0]), (oE 12 (.bin .rem (.t 11) (.k (.int .i64 4))) [1]), (oE 13 (.bin .add (.t 12) (.k (.int .i64 1))) [2]), (oM 4 (.t 13) [3, 0, 1, 2, 3])]
def spinetref15_Of_i3 : List Op1 := [(oM 14 (.t 3) []), (oE 15 (.bin .lss (.t 14) (.k (.int .i64 128))) [0])]
def spinetref15_Of_i4 : List Op1 := [(oM 16 (.t 3) []), (oE 17 (.bin .rem (.t 16) (.k (.int .i64 32))) [0]), (oM 5 (.t 17) [1, 0, 1])]
def spinetref15_Of_i5 : List Op1 := [(oM 18 (.t 5) []), (oE 19 (.bin .gtr (.t 18) (.k (.int .i64 15))) [0])]
def spinetref15_Of_i6 : List Op1 := [(oM 20 (.t 5) []), (oE 21 (.bin .add (.t 20) (.k (.int .i64 65504))) [0]), (oM 5 (.t 21) [1, 0, 1])]
def spinetref15_Of_i7 : IR := (.cond (.t 19) (.reg false spinetref15_Of_i6) .skip)
def spinetref15_Of_i8 : List Op1 := [(oM 22 (.t 4) []), (oM 23 (.t 5) []), (oE 24 (.build [(.int .i64 0), (.int .i64 0), (.int .i64 0), (.bool false), (.int .i64 0), (.int .i64 0)] [(0, (1, (.k (.int .i64 1)))), (1, (1, (.t 22))), (2, (1, (.t 23))), (3, (1, (.k (.bool false)))), (4, (1, (.k (.int .i64 0)))), (5, (1, (.k (.int .i64 2))))]) [0, 1]), (oN (.store 6 (.t 2) (.t 24)) [2, 0, 1, 2])]
def spinetref15_Of_i9 : IR := .ret
def spinetref15_Of_i10 : IR := (.seq (.reg false spinetref15_Of_i8) spinetref15_Of_i9)
def spinetref15_Of_i11 : IR := (.seq (.seq (.reg false spinetref15_Of_i5) spinetref15_Of_i7) spinetref15_Of_i10)
def spinetref15_Of_i12 : IR := (.cond (.t 15) (.seq (.reg false spinetref15_Of_i4) spinetref15_Of_i11) .skip)
def spinetref15_Of_i13 : List Op1 := [(oE 25 (.build [(.int .i64 0), (.int .i64 0), (.int .i64 0)] [(0, (1, (.k (.int .i64 7)))), (1, (1, (.k (.int .i64 0)))), (2, (1, (.k (.int .i64 3))))]) []), (oE 26 (.build [(.int .i64 0), (.int .i64 0), (.int .i64 0)] [(0, (1, (.k (.int .i64 8)))), (1, (1, (.k (.int .i64 0)))), (2, (1, (.k (.int .i64 4))))]) []), (oE 27 (.build [(.int .i64 0), (.int .i64 0), (.int .i64 0)] [(0, (1, (.k (.int .i64 9)))), (1, (1, (.k (.int .i64 0)))), (2, (1, (.k (.int .i64 3))))]) []), (oE 28 (.build [(.int .i64 0), (.int .i64 0), (.int .i64 0)] [(0, (1, (.k (.int .i64 10)))), (1, (1, (.k (.int .i64 0)))), (2, (1, (.k (.int .i64 4))))]) []), (oE 29 (.build [(.int .i64 0), (.int .i64 0), (.int .i64 0)] [(0, (1, (.k (.int .i64 0)))), (1, (1, (.k (.int .i64 0)))), (2, (1, (.k (.int .i64 1))))]) []), (oE 30 (.build [(.int .i64 0), (.int .i64 0), (.int .i64 0)] [(0, (1, (.k (.int .i64 5)))), (1, (1, (.k (.int .i64 0)))), (2, (1, (.k (.int .i64 2))))]) []), (oE 31 (.build [(.int .i64 0), (.int .i64 0), (.int .i64 0)] [(0, (1, (.k (.int .i64 4)))), (1, (1, (.k (.int .i64 0)))), (2, (1, (.k (.int .i64 2))))]) []), (oE 32 (.build [(.int .i64 0), (.int .i64 0), (.int .i64 0)] [(0, (1, (.k (.int .i64 0)))), (1, (1, (.k (.int .i64 0)))), (2, (1, (.k (.int .i64 1))))]) []), (oE 33 (.build [(.int .i64 0), (.int .i64 0), (.int .i64 0)] [(0, (1, (.k (.int .i64 2)))), (1, (1, (.k (.int .i64 1)))), (2, (1, (.k (.int .i64 1))))]) []), (oE 34 (.build [(.int .i64 0), (.int .i64 0), (.int .i64 0)] [(0, (1, (.k (.int .i64 3)))), (1, (1, (.k (.int .i64 2)))), (2, (1, (.k (.int .i64 3))))]) []), (oE 35 (.build [(.int .i64 0), (.int .i64 0), (.int .i64 0)] [(0, (1, (.k (.int .i64 0)))), (1, (1, (.k (.int .i64 0)))), (2, (1, (.k (.int .i64 1))))]) []), (oE 36 (.build [(.int .i64 0), (.int .i64 0), (.int .i64 0)] [(0, (1, (.k (.int .i64 6)))), (1, (1, (.k (.int .i64 0)))), (2, (1, (.k (.int .i64 5))))]) []), (oE 37 (.build [(.int .i64 0), (.int .i64 0), (.int .i64 0)] [(0, (1, (.k (.int .i64 11)))), (1, (1, (.k (.int .i64 1)))), (2, (1, (.k (.int .i64 1))))]) []), (oE 38 (.build [(.int .i64 0), (.int .i64 0), (.int .i64 0)] [(0, (1, (.k (.int .i64 12)))), (1, (1, (.k (.int .i64 2)))), (2, (1, (.k (.int .i64 4))))]) []), (oE 39 (.build [(.int .i64 0), (.int .i64 0), (.int .i64 0)] [(0, (1, (.k (.int .i64 0)))), (1, (1, (.k (.int .i64 0)))), (2, (1, (.k (.int .i64 1))))]) []), (oE 40 (.build [(.int .i64 0), (.int .i64 0), (.int .i64 0)] [(0, (1, (.k (.int .i64 13)))), (1, (1, (.k (.int .i64 2)))), (2, (1, (.k (.int .i64 1))))]) []), (oE 41 (.build [(.int .i64 0), (.int .i64 0), (.int .i64 0), (.int .i64 0), (.int .i64 0), (.int .i64 0), (.int .i64 0), (.int .i64 0), (.int .i64 0), (.int .i64 0), (.int .i64 0), (.int .i64 0), (.int .i64 0), (.int .i64 0), (.int .i64 0), (.int .i64 0), (.int .i64 0), (.int .i64 0), (.int .i64 0), (.int .i64 0), (.int .i64 0), (.int .i64 0), (.int .i64 0), (.int .i64 0), (.int .i64 0), (.int .i64 0), (.int .i64 0), (.int .i64 0), (.int .i64 0), (.int .i64 0), (.int .i64 0), (.int .i64 0), (.int .i64 0), (.int .i64 0), (.int .i64 0), (.int .i64 0), (.int .i64 0), (.int .i64 0), (.int .i64 0), (.int .i64 0), (.int .i64 0), (.int .i64 0), (.int .i64 0), (.int .i64 0), (.int .i64 0), (.int .i64 0), (.int .i64 0), (.int .i64 0)] [(0, (3, (.t 25))), (3, (3, (.t 26))), (6, (3, (.t 27))), (9, (3, (.t 28))), (12, (3, (.t 29))), (15, (3, (.t 30))), (18, (3, (.t 31))), (21, (3, (.t 32))), (24, (3, (.t 33))), (27, (3, (.t 34))), (30, (3, (.t 35))), (33, (3, (.t 36))), (36, (3, (.t 37))), (39, (3, (.t 38))), (42, (3, (.t 39))), (45, (3, (.t 40)))]) [0, 1, 2, 3, 4, 5, 6, 7, 8, 9, 10, 11, 12, 13, 14, 15]), (oE 6 (.zero [(.int .i64 0), (.int .i64 0), (.int .i64 0), (.int .i64 0), (.int .i64 0), (.int .i64 0), (.int .i64 0), (.int .i64 0), (.int .i64 0), (.int .i64 0), (.int .i64 0), (.int .i64 0), (.int .i64 0), (.int .i64 0), (.int .i64 0), (.int .i64 0), (.int .i64 0), (.int .i64 0), (.int .i64 0), (.int .i64 0), (.int .i64 0), (.int .i64 0), (.int .i64 0), (.int .i64 0), (.int .i64 0), (.int .i64 0), (.int .i64 0), (.int .i64 0), (.int .i64 0), (.int .i64 0), (.int .i64 0), (.int .i64 0), (.int .i64 0), (.int .i64 0), (.int .i64 0), (.int .i64 0), (.int .i64 0), (.int .i64 0), (.int .i64 0), (.int .i64 0), (.int .i64 0), (.int .i64 0), (.int .i64 0), (.int .i64 0), (.int .i64 0), (.int .i64 0), (.int .i64 0), (.int .i64 0)]) []), (oN (.store 48 (.t 6) (.t 41)) [17, 16, 0, 1, 2, 3, 4, 5, 6, 7, 8, 9, 10, 11, 12, 13, 14, 15, 16, 17])]
def spinetref15_Of_i14 : List Op1 := [(oM 42 (.t 3) []), (oE 43 (.bin .rem (.t 42) (.k (.int .i64 16))) [0]), (oE 44 (.iaa 16 3 (.t 6) (.t 43)) [1]), (oE 45 (.load true 3 (.t 44)) [2]), (oE 7 (.zero [(.int .i64 0), (.int .i64 0), (.int .i64 0)]) []), (oN (.store 3 (.t 7) (.t 45)) [4, 3, 0, 1, 2, 3, 4])]
def spinetref15_Of_i15 : List Op1 := [(oM 46 (.t 3) []), (oE 47 (.bin .rem (.t 46) (.k (.int .i64 16))) [0]), (oE 48 (.bin .eql (.t 47) (.k (.int .i64 12))) [1]), (oM 49 (.t 48) [2]), (oG 50 (.mv (.t 3)) 49 false [3]), (oG 51 (.bin .rem (.t 50) (.k (.int .i64 16))) 49 false [4, 3]), (oG 52 (.bin .eql (.t 51) (.k (.int .i64 13))) 49 false [5, 3]), (oE 53 (.pick (.t 49) (.k (.bool true)) (.t 52)) [3, 6])]
def spinetref15_Of_i16 : List Op1 := [(oM 4 (.k (.int .i64 5)) [])]
def spinetref15_Of_i17 : IR := (.cond (.t 53) (.reg false spinetref15_Of_i16) .skip)
def spinetref15_Of_i18 : List Op1 := [(oM 54 (.t 3) []), (oE 55 (.bin .rem (.t 54) (.k (.int .i64 16))) [0]), (oE 56 (.bin .eql (.t 55) (.k (.int .i64 15))) [1])]
def spinetref15_Of_i19 : List Op1 := [(oM 4 (.k (.int .i64 0)) [])]
def spinetref15_Of_i20 : IR := (.cond (.t 56) (.reg false spinetref15_Of_i19) .skip)
def spinetref15_Of_i21 : List Op1 := [(oE 57 (.iaa 3 1 (.t 7) (.k (.int .i64 0))) []), (oE 58 (.load false 1 (.t 57)) [0]), (oM 59 (.t 4) []), (oM 60 (.t 3) []), (oE 61 (.bin .quo (.t 60) (.k (.int .i64 16))) [3]), (oE 62 (.bin .rem (.t 61) (.k (.int .i64 2))) [4]), (oE 63 (.bin .eql (.t 62) (.k (.int .i64 1))) [5]), (oM 64 (.t 63) [6]), (oG 65 (.mv (.t 3)) 64 false [7]), (oG 66 (.bin .rem (.t 65) (.k (.int .i64 16))) 64 false [8, 7]), (oG 67 (.bin .eql (.t 66) (.k (.int .i64 15))) 64 false [9, 7]), (oE 68 (.pick (.t 64) (.k (.bool true)) (.t 67)) [7, 10]), (oE 69 (.iaa 3 1 (.t 7) (.k (.int .i64 1))) []), (oE 70 (.load false 1 (.t 69)) [12]), (oE 71 (.iaa 3 1 (.t 7) (.k (.int .i64 2))) []), (oE 72 (.load false 1 (.t 71)) [14]), (oE 73 (.build [(.int .i64 0), (.int .i64 0), (.int .i64 0), (.bool false), (.int .i64 0), (.int .i64 0)] [(0, (1, (.t 58))), (1, (1, (.t 59))), (2, (1, (.k (.int .i64 0)))), (3, (1, (.t 68))), (4, (1, (.t 70))), (5, (1, (.t 72)))]) [1, 2, 11, 13, 15]), (oN (.store 6 (.t 2) (.t 73)) [16, 7, 0, 1, 2, 3, 4, 5, 6, 7, 8, 9, 10, 11, 12, 13, 14, 15, 16])]
def spinetref15_Of_i22 : IR := .ret
def spinetref15_Of_i23 : IR := (.seq (.reg false spinetref15_Of_i21) spinetref15_Of_i22)
def spinetref15_Of_i24 : IR := (.seq (.seq (.reg false spinetref15_Of_i18) spinetref15_Of_i20) spinetref15_Of_i23)
def spinetref15_Of_i25 : IR := (.seq (.seq (.reg false spinetref15_Of_i15) spinetref15_Of_i17) spinetref15_Of_i24)
def spinetref15_Of_i26 : IR := (.seq (.reg false spinetref15_Of_i14) spinetref15_Of_i25)
def spinetref15_Of_i27 : IR := (.seq (.reg false spinetref15_Of_i13) spinetref15_Of_i26)
def spinetref15_Of_i28 : IR := (.seq (.seq (.reg false spinetref15_Of_i3) spinetref15_Of_i12) spinetref15_Of_i27)
def spinetref15_Of_i29 : IR := (.seq (.reg false spinetref15_Of_i2) spinetref15_Of_i28)
def spinetref15_Of_i30 : IR := (.seq (.reg false spinetref15_Of_i1) spinetref15_Of_i29)
def spinetref15_Of_ir : IR := (.seq (.reg false spinetref15_Of_i0) spinetref15_Of_i30)
theorem spinetref15_Of_cfn : cFn Try.prog 33 = some (spinetref15_Of_ir, [(.c 2 true 6)], 74) := by kernel_rfl
def spinetref15_Of_V (r : (spinetref15_P)) : V := .agg [.s (.int .i64 r.Kind), .s (.int .i64 r.Reg), .s (.int .i64 r.Off), .s (.bool r.Indirect), .s (.int .i64 r.Bytes), .s (.int .i64 r.Idle)]
def spinetref15_Of_C (r : (spinetref15_P)) : X → Fr → Hp → Prop := FinL [(.c 2 true 6)] [] (spinetref15_Of_V r) []
theorem spinetref15_Of_ok (b_ : Int) (r : (spinetref15_P)) (h : spinetref15_Of b_ = some r) : Pure Try.prog 33 [.s (.int .u8 b_)] (spinetref15_Of_V r) := by
  refine ConL.of spinetref15_Of_cfn (Nat.le_of_ble_eq_true (by kernel_rfl)) (Nat.le_of_ble_eq_true (by kernel_rfl)) ?_
  refine k_start ?_
  show dwv Try.prog [] spinetref15_Of_ir (kont Try.prog [] (spinetref15_Of_C r) []) (fr0 [.s (.int .u8 b_)]) []
  have hf : FOk (fr0 [.s (.int .u8 b_)]) [⟨0, [], .s (.int .u8 b_)⟩] := ⟨⟨fun _ => rfl, fun h => (h trivial).elim⟩, trivial⟩
  generalize fr0 [.s (.int .u8 b_)] = f at hf ⊢
  unfold spinetref15_Of at h
  refine k_seq ?_
  refine k_reg ?_
  refine mops_en hf (by kernel_rfl) fun f1 hf1 => ?_
  refine k_c ?_
  refine k_seq ?_
  refine k_reg ?_
  refine mops_en hf1 (by kernel_rfl) fun f2 hf2 => ?_
  refine k_c ?_
  refine k_seq ?_
  refine k_reg ?_
  refine mops_en hf2 (by kernel_rfl) fun f3 hf3 => ?_
  refine k_c ?_
  refine k_seq ?_
  refine k_seq ?_
  refine k_reg ?_
  refine mops_en hf3 (by kernel_rfl) fun f4 hf4 => ?_
  refine k_c ?_
  refine k_cond hf4 (t := (decide ((IntKind.wrap .i64 b_) < 128))) (by kernel_rfl) (fun hc1 => ?_) (fun hc1 => ?_)
  · have h := if_t h hc1
    refine k_seq ?_
    refine k_reg ?_
    refine mops_en hf4 (by kernel_rfl) fun f5 hf5 => ?_
    refine k_c ?_
    refine k_seq ?_
    refine k_seq ?_
    refine k_reg ?_
    refine mops_en hf5 (by kernel_rfl) fun f6 hf6 => ?_
    refine k_c ?_
    have hj1 : ∀ (off_ : Int), spinetref15_Of_j0 b_ off_ = some r → ∀ f, FOk f [⟨2, [], .ptr 0 0 0⟩, ⟨3, [], .s (.int .i64 (IntKind.wrap .i64 b_))⟩, ⟨4, [], .s (.int .i64 (IntKind.wrap .i64 ((Int.tmod (IntKind.wrap .i64 (Int.tdiv (IntKind.wrap .i64 b_) 32)) 4) + 1)))⟩, ⟨5, [], .s (.int .i64 off_)⟩] → kont Try.prog [] (spinetref15_Of_C r) ((.c spinetref15_Of_i10) :: (.c spinetref15_Of_i27) :: []) .normal f [⟨0, .mem, 1, [.s (.int .i64 0), .s (.int .i64 0), .s (.int .i64 0), .s (.bool false), .s (.int .i64 0), .s (.int .i64 0)]⟩] := by
      intro off_ h f hf
      unfold spinetref15_Of_j0 at h
      refine k_c ?_
      refine k_seq ?_
      refine k_reg ?_
      refine mops_en hf (by kernel_rfl) fun f1 hf1 => ?_
      refine k_c ?_
      refine k_ret ?_
      refine x_c nofun ?_
      obtain rfl := Option.some.inj h
      exact k_fin (fin_ret (.inl rfl) hf1 (vs := [.agg [.s (.int .i64 1), .s (.int .i64 (IntKind.wrap .i64 ((Int.tmod (IntKind.wrap .i64 (Int.tdiv (IntKind.wrap .i64 b_) 32)) 4) + 1))), .s (.int .i64 off_), .s (.bool false), .s (.int .i64 0), .s (.int .i64 2)]]) (by kernel_rfl) (SettL.pure (FzL.stat rfl)))
    refine k_cond hf6 (t := (decide (15 < (Int.tmod (IntKind.wrap .i64 b_) 32)))) (by kernel_rfl) (fun hc2 => ?_) (fun hc2 => ?_)
    · have h := if_t h hc2
      refine k_reg ?_
      refine mops_en hf6 (by kernel_rfl) fun f7 hf7 => ?_
      refine k_hp (L' := [⟨0, .mem, 1, [.s (.int .i64 0), .s (.int .i64 0), .s (.int .i64 0), .s (.bool false), .s (.int .i64 0), .s (.int .i64 0)]⟩]) (by kernel_rfl) ?_
      exact hj1 (IntKind.wrap .i64 ((Int.tmod (IntKind.wrap .i64 b_) 32) + 65504)) h _ (FOk_of [2, 3, 4, 5] hf7 (by kernel_rfl))
    · have h := if_f h hc2
      refine k_skip ?_
      refine k_hp (L' := [⟨0, .mem, 1, [.s (.int .i64 0), .s (.int .i64 0), .s (.int .i64 0), .s (.bool false), .s (.int .i64 0), .s (.int .i64 0)]⟩]) (by kernel_rfl) ?_
      exact hj1 (Int.tmod (IntKind.wrap .i64 b_) 32) h _ (FOk_of [2, 3, 4, 5] hf6 (by kernel_rfl))
  · have h := if_f h hc1
    refine k_skip ?_
    refine k_c ?_
    refine k_seq ?_
    refine k_reg ?_
    refine mops_en hf4 (by kernel_rfl) fun f5 hf5 => ?_
    refine k_c ?_
    refine k_seq ?_
    refine k_reg ?_
    refine mops_sg 2 hf5 (by kernel_rfl) fun f6 hf6 => ?_
    obtain ⟨c3, h⟩ := as_ok h
    refine mops_adv rfl (v := .ptr 1 0 (0 + ((Int.tmod (IntKind.wrap .i64 b_) 16) : Int).toNat * 3)) hf6 (by kernel_rfl) (e_iaa (n := 16) (xv := .ptr 1 0 0) (k := .i64) (iv := (Int.tmod (IntKind.wrap .i64 b_) 16)) (p := .ptr 1 0 (0 + ((Int.tmod (IntKind.wrap .i64 b_) 16) : Int).toNat * 3)) (by kernel_rfl) (by kernel_rfl) (by kernel_rfl) (by kernel_rfl) c3) fun f7 hf7 => ?_
    refine mops_adv rfl (v := .agg [.s (.int .i64 (gt [(A3_i64.mk (7) (0) (3)), (A3_i64.mk (8) (0) (4)), (A3_i64.mk (9) (0) (3)), (A3_i64.mk (10) (0) (4)), (A3_i64.mk (0) (0) (1)), (A3_i64.mk (5) (0) (2)), (A3_i64.mk (4) (0) (2)), (A3_i64.mk (0) (0) (1)), (A3_i64.mk (2) (1) (1)), (A3_i64.mk (3) (2) (3)), (A3_i64.mk (0) (0) (1)), (A3_i64.mk (6) (0) (5)), (A3_i64.mk (11) (1) (1)), (A3_i64.mk (12) (2) (4)), (A3_i64.mk (0) (0) (1)), (A3_i64.mk (13) (2) (1))] (Int.tmod (IntKind.wrap .i64 b_) 16)).a0), .s (.int .i64 (gt [(A3_i64.mk (7) (0) (3)), (A3_i64.mk (8) (0) (4)), (A3_i64.mk (9) (0) (3)), (A3_i64.mk (10) (0) (4)), (A3_i64.mk (0) (0) (1)), (A3_i64.mk (5) (0) (2)), (A3_i64.mk (4) (0) (2)), (A3_i64.mk (0) (0) (1)), (A3_i64.mk (2) (1) (1)), (A3_i64.mk (3) (2) (3)), (A3_i64.mk (0) (0) (1)), (A3_i64.mk (6) (0) (5)), (A3_i64.mk (11) (1) (1)), (A3_i64.mk (12) (2) (4)), (A3_i64.mk (0) (0) (1)), (A3_i64.mk (13) (2) (1))] (Int.tmod (IntKind.wrap .i64 b_) 16)).a1), .s (.int .i64 (gt [(A3_i64.mk (7) (0) (3)), (A3_i64.mk (8) (0) (4)), (A3_i64.mk (9) (0) (3)), (A3_i64.mk (10) (0) (4)), (A3_i64.mk (0) (0) (1)), (A3_i64.mk (5) (0) (2)), (A3_i64.mk (4) (0) (2)), (A3_i64.mk (0) (0) (1)), (A3_i64.mk (2) (1) (1)), (A3_i64.mk (3) (2) (3)), (A3_i64.mk (0) (0) (1)), (A3_i64.mk (6) (0) (5)), (A3_i64.mk (11) (1) (1)), (A3_i64.mk (12) (2) (4)), (A3_i64.mk (0) (0) (1)), (A3_i64.mk (13) (2) (1))] (Int.tmod (IntKind.wrap .i64 b_) 16)).a2)]) hf7 (by kernel_rfl) (e_load_pe (g := A3_i64.v) (l := [(A3_i64.mk (7) (0) (3)), (A3_i64.mk (8) (0) (4)), (A3_i64.mk (9) (0) (3)), (A3_i64.mk (10) (0) (4)), (A3_i64.mk (0) (0) (1)), (A3_i64.mk (5) (0) (2)), (A3_i64.mk (4) (0) (2)), (A3_i64.mk (0) (0) (1)), (A3_i64.mk (2) (1) (1)), (A3_i64.mk (3) (2) (3)), (A3_i64.mk (0) (0) (1)), (A3_i64.mk (6) (0) (5)), (A3_i64.mk (11) (1) (1)), (A3_i64.mk (12) (2) (4)), (A3_i64.mk (0) (0) (1)), (A3_i64.mk (13) (2) (1))]) (iv := (Int.tmod (IntKind.wrap .i64 b_) 16)) (kd := .mem) (q := 1) (b := 1) (ver := 0) [] (by kernel_rfl) (live_mem (by kernel_rfl)) (arr_h (l := [(A3_i64.mk (7) (0) (3)), (A3_i64.mk (8) (0) (4)), (A3_i64.mk (9) (0) (3)), (A3_i64.mk (10) (0) (4)), (A3_i64.mk (0) (0) (1)), (A3_i64.mk (5) (0) (2)), (A3_i64.mk (4) (0) (2)), (A3_i64.mk (0) (0) (1)), (A3_i64.mk (2) (1) (1)), (A3_i64.mk (3) (2) (3)), (A3_i64.mk (0) (0) (1)), (A3_i64.mk (6) (0) (5)), (A3_i64.mk (11) (1) (1)), (A3_i64.mk (12) (2) (4)), (A3_i64.mk (0) (0) (1)), (A3_i64.mk (13) (2) (1))]) c3 (by kernel_rfl)) (by kernel_rfl) (by kernel_rfl)) fun f8 hf8 => ?_
    refine mops_end [2, 3, 4, 7] hf8 (l' := [⟨2, [], .ptr 0 0 0⟩, ⟨3, [], .s (.int .i64 (IntKind.wrap .i64 b_))⟩, ⟨4, [], .s (.int .i64 (IntKind.wrap .i64 ((Int.tmod (IntKind.wrap .i64 (Int.tdiv (IntKind.wrap .i64 b_) 32)) 4) + 1)))⟩, ⟨7, [], .ptr 2 0 0⟩]) (L' := [⟨0, .mem, 1, [.s (.int .i64 0), .s (.int .i64 0), .s (.int .i64 0), .s (.bool false), .s (.int .i64 0), .s (.int .i64 0)]⟩, ⟨0, .mem, 1, cat A3_i64.v [(A3_i64.mk (7) (0) (3)), (A3_i64.mk (8) (0) (4)), (A3_i64.mk (9) (0) (3)), (A3_i64.mk (10) (0) (4)), (A3_i64.mk (0) (0) (1)), (A3_i64.mk (5) (0) (2)), (A3_i64.mk (4) (0) (2)), (A3_i64.mk (0) (0) (1)), (A3_i64.mk (2) (1) (1)), (A3_i64.mk (3) (2) (3)), (A3_i64.mk (0) (0) (1)), (A3_i64.mk (6) (0) (5)), (A3_i64.mk (11) (1) (1)), (A3_i64.mk (12) (2) (4)), (A3_i64.mk (0) (0) (1)), (A3_i64.mk (13) (2) (1))]⟩, ⟨0, .mem, 1, [.s (.int .i64 (gt [(A3_i64.mk (7) (0) (3)), (A3_i64.mk (8) (0) (4)), (A3_i64.mk (9) (0) (3)), (A3_i64.mk (10) (0) (4)), (A3_i64.mk (0) (0) (1)), (A3_i64.mk (5) (0) (2)), (A3_i64.mk (4) (0) (2)), (A3_i64.mk (0) (0) (1)), (A3_i64.mk (2) (1) (1)), (A3_i64.mk (3) (2) (3)), (A3_i64.mk (0) (0) (1)), (A3_i64.mk (6) (0) (5)), (A3_i64.mk (11) (1) (1)), (A3_i64.mk (12) (2) (4)), (A3_i64.mk (0) (0) (1)), (A3_i64.mk (13) (2) (1))] (Int.tmod (IntKind.wrap .i64 b_) 16)).a0), .s (.int .i64 (gt [(A3_i64.mk (7) (0) (3)), (A3_i64.mk (8) (0) (4)), (A3_i64.mk (9) (0) (3)), (A3_i64.mk (10) (0) (4)), (A3_i64.mk (0) (0) (1)), (A3_i64.mk (5) (0) (2)), (A3_i64.mk (4) (0) (2)), (A3_i64.mk (0) (0) (1)), (A3_i64.mk (2) (1) (1)), (A3_i64.mk (3) (2) (3)), (A3_i64.mk (0) (0) (1)), (A3_i64.mk (6) (0) (5)), (A3_i64.mk (11) (1) (1)), (A3_i64.mk (12) (2) (4)), (A3_i64.mk (0) (0) (1)), (A3_i64.mk (13) (2) (1))] (Int.tmod (IntKind.wrap .i64 b_) 16)).a1), .s (.int .i64 (gt [(A3_i64.mk (7) (0) (3)), (A3_i64.mk (8) (0) (4)), (A3_i64.mk (9) (0) (3)), (A3_i64.mk (10) (0) (4)), (A3_i64.mk (0) (0) (1)), (A3_i64.mk (5) (0) (2)), (A3_i64.mk (4) (0) (2)), (A3_i64.mk (0) (0) (1)), (A3_i64.mk (2) (1) (1)), (A3_i64.mk (3) (2) (3)), (A3_i64.mk (0) (0) (1)), (A3_i64.mk (6) (0) (5)), (A3_i64.mk (11) (1) (1)), (A3_i64.mk (12) (2) (4)), (A3_i64.mk (0) (0) (1)), (A3_i64.mk (13) (2) (1))] (Int.tmod (IntKind.wrap .i64 b_) 16)).a2)]⟩]) (by kernel_rfl) fun f9 hf9 => ?_
    refine k_c ?_
    refine k_seq ?_
    refine k_seq ?_
    refine k_reg ?_
    refine mops_en hf9 (by kernel_rfl) fun f10 hf10 => ?_
    refine k_c ?_
    have hj2 : ∀ (reg_ : Int), spinetref15_Of_j2 b_ reg_ = some r → ∀ f, FOk f [⟨2, [], .ptr 0 0 0⟩, ⟨3, [], .s (.int .i64 (IntKind.wrap .i64 b_))⟩, ⟨4, [], .s (.int .i64 reg_)⟩, ⟨7, [], .ptr 2 0 0⟩] → kont Try.prog [] (spinetref15_Of_C r) ((.c spinetref15_Of_i24) :: []) .normal f [⟨0, .mem, 1, [.s (.int .i64 0), .s (.int .i64 0), .s (.int .i64 0), .s (.bool false), .s (.int .i64 0), .s (.int .i64 0)]⟩, ⟨0, .mem, 1, cat A3_i64.v [(A3_i64.mk (7) (0) (3)), (A3_i64.mk (8) (0) (4)), (A3_i64.mk (9) (0) (3)), (A3_i64.mk (10) (0) (4)), (A3_i64.mk (0) (0) (1)), (A3_i64.mk (5) (0) (2)), (A3_i64.mk (4) (0) (2)), (A3_i64.mk (0) (0) (1)), (A3_i64.mk (2) (1) (1)), (A3_i64.mk (3) (2) (3)), (A3_i64.mk (0) (0) (1)), (A3_i64.mk (6) (0) (5)), (A3_i64.mk (11) (1) (1)), (A3_i64.mk (12) (2) (4)), (A3_i64.mk (0) (0) (1)), (A3_i64.mk (13) (2) (1))]⟩, ⟨0, .mem, 1, [.s (.int .i64 (gt [(A3_i64.mk (7) (0) (3)), (A3_i64.mk (8) (0) (4)), (A3_i64.mk (9) (0) (3)), (A3_i64.mk (10) (0) (4)), (A3_i64.mk (0) (0) (1)), (A3_i64.mk (5) (0) (2)), (A3_i64.mk (4) (0) (2)), (A3_i64.mk (0) (0) (1)), (A3_i64.mk (2) (1) (1)), (A3_i64.mk (3) (2) (3)), (A3_i64.mk (0) (0) (1)), (A3_i64.mk (6) (0) (5)), (A3_i64.mk (11) (1) (1)), (A3_i64.mk (12) (2) (4)), (A3_i64.mk (0) (0) (1)), (A3_i64.mk (13) (2) (1))] (Int.tmod (IntKind.wrap .i64 b_) 16)).a0), .s (.int .i64 (gt [(A3_i64.mk (7) (0) (3)), (A3_i64.mk (8) (0) (4)), (A3_i64.mk (9) (0) (3)), (A3_i64.mk (10) (0) (4)), (A3_i64.mk (0) (0) (1)), (A3_i64.mk (5) (0) (2)), (A3_i64.mk (4) (0) (2)), (A3_i64.mk (0) (0) (1)), (A3_i64.mk (2) (1) (1)), (A3_i64.mk (3) (2) (3)), (A3_i64.mk (0) (0) (1)), (A3_i64.mk (6) (0) (5)), (A3_i64.mk (11) (1) (1)), (A3_i64.mk (12) (2) (4)), (A3_i64.mk (0) (0) (1)), (A3_i64.mk (13) (2) (1))] (Int.tmod (IntKind.wrap .i64 b_) 16)).a1), .s (.int .i64 (gt [(A3_i64.mk (7) (0) (3)), (A3_i64.mk (8) (0) (4)), (A3_i64.mk (9) (0) (3)), (A3_i64.mk (10) (0) (4)), (A3_i64.mk (0) (0) (1)), (A3_i64.mk (5) (0) (2)), (A3_i64.mk (4) (0) (2)), (A3_i64.mk (0) (0) (1)), (A3_i64.mk (2) (1) (1)), (A3_i64.mk (3) (2) (3)), (A3_i64.mk (0) (0) (1)), (A3_i64.mk (6) (0) (5)), (A3_i64.mk (11) (1) (1)), (A3_i64.mk (12) (2) (4)), (A3_i64.mk (0) (0) (1)), (A3_i64.mk (13) (2) (1))] (Int.tmod (IntKind.wrap .i64 b_) 16)).a2)]⟩] := by
      intro reg_ h f hf
      unfold spinetref15_Of_j2 at h
      refine k_c ?_
      refine k_seq ?_
      refine k_seq ?_
      refine k_reg ?_
      refine mops_en hf (by kernel_rfl) fun f1 hf1 => ?_
      refine k_c ?_
      have hj3 : ∀ (reg_1 : Int), spinetref15_Of_j1 b_ reg_1 = some r → ∀ f, FOk f [⟨2, [], .ptr 0 0 0⟩, ⟨3, [], .s (.int .i64 (IntKind.wrap .i64 b_))⟩, ⟨4, [], .s (.int .i64 reg_1)⟩, ⟨7, [], .ptr 2 0 0⟩] → kont Try.prog [] (spinetref15_Of_C r) ((.c spinetref15_Of_i23) :: []) .normal f [⟨0, .mem, 1, [.s (.int .i64 0), .s (.int .i64 0), .s (.int .i64 0), .s (.bool false), .s (.int .i64 0), .s (.int .i64 0)]⟩, ⟨0, .mem, 1, cat A3_i64.v [(A3_i64.mk (7) (0) (3)), (A3_i64.mk (8) (0) (4)), (A3_i64.mk (9) (0) (3)), (A3_i64.mk (10) (0) (4)), (A3_i64.mk (0) (0) (1)), (A3_i64.mk (5) (0) (2)), (A3_i64.mk (4) (0) (2)), (A3_i64.mk (0) (0) (1)), (A3_i64.mk (2) (1) (1)), (A3_i64.mk (3) (2) (3)), (A3_i64.mk (0) (0) (1)), (A3_i64.mk (6) (0) (5)), (A3_i64.mk (11) (1) (1)), (A3_i64.mk (12) (2) (4)), (A3_i64.mk (0) (0) (1)), (A3_i64.mk (13) (2) (1))]⟩, ⟨0, .mem, 1, [.s (.int .i64 (gt [(A3_i64.mk (7) (0) (3)), (A3_i64.mk (8) (0) (4)), (A3_i64.mk (9) (0) (3)), (A3_i64.mk (10) (0) (4)), (A3_i64.mk (0) (0) (1)), (A3_i64.mk (5) (0) (2)), (A3_i64.mk (4) (0) (2)), (A3_i64.mk (0) (0) (1)), (A3_i64.mk (2) (1) (1)), (A3_i64.mk (3) (2) (3)), (A3_i64.mk (0) (0) (1)), (A3_i64.mk (6) (0) (5)), (A3_i64.mk (11) (1) (1)), (A3_i64.mk (12) (2) (4)), (A3_i64.mk (0) (0) (1)), (A3_i64.mk (13) (2) (1))] (Int.tmod (IntKind.wrap .i64 b_) 16)).a0), .s (.int .i64 (gt [(A3_i64.mk (7) (0) (3)), (A3_i64.mk (8) (0) (4)), (A3_i64.mk (9) (0) (3)), (A3_i64.mk (10) (0) (4)), (A3_i64.mk (0) (0) (1)), (A3_i64.mk (5) (0) (2)), (A3_i64.mk (4) (0) (2)), (A3_i64.mk (0) (0) (1)), (A3_i64.mk (2) (1) (1)), (A3_i64.mk (3) (2) (3)), (A3_i64.mk (0) (0) (1)), (A3_i64.mk (6) (0) (5)), (A3_i64.mk (11) (1) (1)), (A3_i64.mk (12) (2) (4)), (A3_i64.mk (0) (0) (1)), (A3_i64.mk (13) (2) (1))] (Int.tmod (IntKind.wrap .i64 b_) 16)).a1), .s (.int .i64 (gt [(A3_i64.mk (7) (0) (3)), (A3_i64.mk (8) (0) (4)), (A3_i64.mk (9) (0) (3)), (A3_i64.mk (10) (0) (4)), (A3_i64.mk (0) (0) (1)), (A3_i64.mk (5) (0) (2)), (A3_i64.mk (4) (0) (2)), (A3_i64.mk (0) (0) (1)), (A3_i64.mk (2) (1) (1)), (A3_i64.mk (3) (2) (3)), (A3_i64.mk (0) (0) (1)), (A3_i64.mk (6) (0) (5)), (A3_i64.mk (11) (1) (1)), (A3_i64.mk (12) (2) (4)), (A3_i64.mk (0) (0) (1)), (A3_i64.mk (13) (2) (1))] (Int.tmod (IntKind.wrap .i64 b_) 16)).a2)]⟩] := by
        intro reg_1 h f hf
        unfold spinetref15_Of_j1 at h
        refine k_c ?_
        refine k_seq ?_
        refine k_reg ?_
        refine mops_en hf (by kernel_rfl) fun f1 hf1 => ?_
        refine k_c ?_
        refine k_ret ?_
        obtain rfl := Option.some.inj h
        exact k_fin (fin_ret (.inl rfl) hf1 (vs := [.agg [.s (.int .i64 (gt [(A3_i64.mk (7) (0) (3)), (A3_i64.mk (8) (0) (4)), (A3_i64.mk (9) (0) (3)), (A3_i64.mk (10) (0) (4)), (A3_i64.mk (0) (0) (1)), (A3_i64.mk (5) (0) (2)), (A3_i64.mk (4) (0) (2)), (A3_i64.mk (0) (0) (1)), (A3_i64.mk (2) (1) (1)), (A3_i64.mk (3) (2) (3)), (A3_i64.mk (0) (0) (1)), (A3_i64.mk (6) (0) (5)), (A3_i64.mk (11) (1) (1)), (A3_i64.mk (12) (2) (4)), (A3_i64.mk (0) (0) (1)), (A3_i64.mk (13) (2) (1))] (Int.tmod (IntKind.wrap .i64 b_) 16)).a0), .s (.int .i64 reg_1), .s (.int .i64 0), .s (.bool (((Int.tmod (IntKind.wrap .i64 (Int.tdiv (IntKind.wrap .i64 b_) 16)) 2) == 1) || ((Int.tmod (IntKind.wrap .i64 b_) 16) == 15))), .s (.int .i64 (gt [(A3_i64.mk (7) (0) (3)), (A3_i64.mk (8) (0) (4)), (A3_i64.mk (9) (0) (3)), (A3_i64.mk (10) (0) (4)), (A3_i64.mk (0) (0) (1)), (A3_i64.mk (5) (0) (2)), (A3_i64.mk (4) (0) (2)), (A3_i64.mk (0) (0) (1)), (A3_i64.mk (2) (1) (1)), (A3_i64.mk (3) (2) (3)), (A3_i64.mk (0) (0) (1)), (A3_i64.mk (6) (0) (5)), (A3_i64.mk (11) (1) (1)), (A3_i64.mk (12) (2) (4)), (A3_i64.mk (0) (0) (1)), (A3_i64.mk (13) (2) (1))] (Int.tmod (IntKind.wrap .i64 b_) 16)).a1), .s (.int .i64 (gt [(A3_i64.mk (7) (0) (3)), (A3_i64.mk (8) (0) (4)), (A3_i64.mk (9) (0) (3)), (A3_i64.mk (10) (0) (4)), (A3_i64.mk (0) (0) (1)), (A3_i64.mk (5) (0) (2)), (A3_i64.mk (4) (0) (2)), (A3_i64.mk (0) (0) (1)), (A3_i64.mk (2) (1) (1)), (A3_i64.mk (3) (2) (3)), (A3_i64.mk (0) (0) (1)), (A3_i64.mk (6) (0) (5)), (A3_i64.mk (11) (1) (1)), (A3_i64.mk (12) (2) (4)), (A3_i64.mk (0) (0) (1)), (A3_i64.mk (13) (2) (1))] (Int.tmod (IntKind.wrap .i64 b_) 16)).a2)]]) (by kernel_rfl) (SettL.pure (FzL.stat rfl)))
      refine k_cond hf1 (t := ((Int.tmod (IntKind.wrap .i64 b_) 16) == 15)) (by kernel_rfl) (fun hc5 => ?_) (fun hc5 => ?_)
      · have h := if_t h hc5
        refine k_reg ?_
        refine mops_en hf1 (by kernel_rfl) fun f2 hf2 => ?_
        refine k_hp (L' := [⟨0, .mem, 1, [.s (.int .i64 0), .s (.int .i64 0), .s (.int .i64 0), .s (.bool false), .s (.int .i64 0), .s (.int .i64 0)]⟩, ⟨0, .mem, 1, cat A3_i64.v [(A3_i64.mk (7) (0) (3)), (A3_i64.mk (8) (0) (4)), (A3_i64.mk (9) (0) (3)), (A3_i64.mk (10) (0) (4)), (A3_i64.mk (0) (0) (1)), (A3_i64.mk (5) (0) (2)), (A3_i64.mk (4) (0) (2)), (A3_i64.mk (0) (0) (1)), (A3_i64.mk (2) (1) (1)), (A3_i64.mk (3) (2) (3)), (A3_i64.mk (0) (0) (1)), (A3_i64.mk (6) (0) (5)), (A3_i64.mk (11) (1) (1)), (A3_i64.mk (12) (2) (4)), (A3_i64.mk (0) (0) (1)), (A3_i64.mk (13) (2) (1))]⟩, ⟨0, .mem, 1, [.s (.int .i64 (gt [(A3_i64.mk (7) (0) (3)), (A3_i64.mk (8) (0) (4)), (A3_i64.mk (9) (0) (3)), (A3_i64.mk (10) (0) (4)), (A3_i64.mk (0) (0) (1)), (A3_i64.mk (5) (0) (2)), (A3_i64.mk (4) (0) (2)), (A3_i64.mk (0) (0) (1)), (A3_i64.mk (2) (1) (1)), (A3_i64.mk (3) (2) (3)), (A3_i64.mk (0) (0) (1)), (A3_i64.mk (6) (0) (5)), (A3_i64.mk (11) (1) (1)), (A3_i64.mk (12) (2) (4)), (A3_i64.mk (0) (0) (1)), (A3_i64.mk (13) (2) (1))] (Int.tmod (IntKind.wrap .i64 b_) 16)).a0), .s (.int .i64 (gt [(A3_i64.mk (7) (0) (3)), (A3_i64.mk (8) (0) (4)), (A3_i64.mk (9) (0) (3)), (A3_i64.mk (10) (0) (4)), (A3_i64.mk (0) (0) (1)), (A3_i64.mk (5) (0) (2)), (A3_i64.mk (4) (0) (2)), (A3_i64.mk (0) (0) (1)), (A3_i64.mk (2) (1) (1)), (A3_i64.mk (3) (2) (3)), (A3_i64.mk (0) (0) (1)), (A3_i64.mk (6) (0) (5)), (A3_i64.mk (11) (1) (1)), (A3_i64.mk (12) (2) (4)), (A3_i64.mk (0) (0) (1)), (A3_i64.mk (13) (2) (1))] (Int.tmod (IntKind.wrap .i64 b_) 16)).a1), .s (.int .i64 (gt [(A3_i64.mk (7) (0) (3)), (A3_i64.mk (8) (0) (4)), (A3_i64.mk (9) (0) (3)), (A3_i64.mk (10) (0) (4)), (A3_i64.mk (0) (0) (1)), (A3_i64.mk (5) (0) (2)), (A3_i64.mk (4) (0) (2)), (A3_i64.mk (0) (0) (1)), (A3_i64.mk (2) (1) (1)), (A3_i64.mk (3) (2) (3)), (A3_i64.mk (0) (0) (1)), (A3_i64.mk (6) (0) (5)), (A3_i64.mk (11) (1) (1)), (A3_i64.mk (12) (2) (4)), (A3_i64.mk (0) (0) (1)), (A3_i64.mk (13) (2) (1))] (Int.tmod (IntKind.wrap .i64 b_) 16)).a2)]⟩]) (by kernel_rfl) ?_
        exact hj3 (0) h _ (FOk_of [2, 3, 4, 7] hf2 (by kernel_rfl))
      · have h := if_f h hc5
        refine k_skip ?_
        refine k_hp (L' := [⟨0, .mem, 1, [.s (.int .i64 0), .s (.int .i64 0), .s (.int .i64 0), .s (.bool false), .s (.int .i64 0), .s (.int .i64 0)]⟩, ⟨0, .mem, 1, cat A3_i64.v [(A3_i64.mk (7) (0) (3)), (A3_i64.mk (8) (0) (4)), (A3_i64.mk (9) (0) (3)), (A3_i64.mk (10) (0) (4)), (A3_i64.mk (0) (0) (1)), (A3_i64.mk (5) (0) (2)), (A3_i64.mk (4) (0) (2)), (A3_i64.mk (0) (0) (1)), (A3_i64.mk (2) (1) (1)), (A3_i64.mk (3) (2) (3)), (A3_i64.mk (0) (0) (1)), (A3_i64.mk (6) (0) (5)), (A3_i64.mk (11) (1) (1)), (A3_i64.mk (12) (2) (4)), (A3_i64.mk (0) (0) (1)), (A3_i64.mk (13) (2) (1))]⟩, ⟨0, .mem, 1, [.s (.int .i64 (gt [(A3_i64.mk (7) (0) (3)), (A3_i64.mk (8) (0) (4)), (A3_i64.mk (9) (0) (3)), (A3_i64.mk (10) (0) (4)), (A3_i64.mk (0) (0) (1)), (A3_i64.mk (5) (0) (2)), (A3_i64.mk (4) (0) (2)), (A3_i64.mk (0) (0) (1)), (A3_i64.mk (2) (1) (1)), (A3_i64.mk (3) (2) (3)), (A3_i64.mk (0) (0) (1)), (A3_i64.mk (6) (0) (5)), (A3_i64.mk (11) (1) (1)), (A3_i64.mk (12) (2) (4)), (A3_i64.mk (0) (0) (1)), (A3_i64.mk (13) (2) (1))] (Int.tmod (IntKind.wrap .i64 b_) 16)).a0), .s (.int .i64 (gt [(A3_i64.mk (7) (0) (3)), (A3_i64.mk (8) (0) (4)), (A3_i64.mk (9) (0) (3)), (A3_i64.mk (10) (0) (4)), (A3_i64.mk (0) (0) (1)), (A3_i64.mk (5) (0) (2)), (A3_i64.mk (4) (0) (2)), (A3_i64.mk (0) (0) (1)), (A3_i64.mk (2) (1) (1)), (A3_i64.mk (3) (2) (3)), (A3_i64.mk (0) (0) (1)), (A3_i64.mk (6) (0) (5)), (A3_i64.mk (11) (1) (1)), (A3_i64.mk (12) (2) (4)), (A3_i64.mk (0) (0) (1)), (A3_i64.mk (13) (2) (1))] (Int.tmod (IntKind.wrap .i64 b_) 16)).a1), .s (.int .i64 (gt [(A3_i64.mk (7) (0) (3)), (A3_i64.mk (8) (0) (4)), (A3_i64.mk (9) (0) (3)), (A3_i64.mk (10) (0) (4)), (A3_i64.mk (0) (0) (1)), (A3_i64.mk (5) (0) (2)), (A3_i64.mk (4) (0) (2)), (A3_i64.mk (0) (0) (1)), (A3_i64.mk (2) (1) (1)), (A3_i64.mk (3) (2) (3)), (A3_i64.mk (0) (0) (1)), (A3_i64.mk (6) (0) (5)), (A3_i64.mk (11) (1) (1)), (A3_i64.mk (12) (2) (4)), (A3_i64.mk (0) (0) (1)), (A3_i64.mk (13) (2) (1))] (Int.tmod (IntKind.wrap .i64 b_) 16)).a2)]⟩]) (by kernel_rfl) ?_
        exact hj3 reg_ h _ (FOk_of [2, 3, 4, 7] hf1 (by kernel_rfl))
    refine k_cond hf10 (t := (((Int.tmod (IntKind.wrap .i64 b_) 16) == 12) || ((Int.tmod (IntKind.wrap .i64 b_) 16) == 13))) (by kernel_rfl) (fun hc4 => ?_) (fun hc4 => ?_)
    · have h := if_t h hc4
      refine k_reg ?_
      refine mops_en hf10 (by kernel_rfl) fun f11 hf11 => ?_
      refine k_hp (L' := [⟨0, .mem, 1, [.s (.int .i64 0), .s (.int .i64 0), .s (.int .i64 0), .s (.bool false), .s (.int .i64 0), .s (.int .i64 0)]⟩, ⟨0, .mem, 1, cat A3_i64.v [(A3_i64.mk (7) (0) (3)), (A3_i64.mk (8) (0) (4)), (A3_i64.mk (9) (0) (3)), (A3_i64.mk (10) (0) (4)), (A3_i64.mk (0) (0) (1)), (A3_i64.mk (5) (0) (2)), (A3_i64.mk (4) (0) (2)), (A3_i64.mk (0) (0) (1)), (A3_i64.mk (2) (1) (1)), (A3_i64.mk (3) (2) (3)), (A3_i64.mk (0) (0) (1)), (A3_i64.mk (6) (0) (5)), (A3_i64.mk (11) (1) (1)), (A3_i64.mk (12) (2) (4)), (A3_i64.mk (0) (0) (1)), (A3_i64.mk (13) (2) (1))]⟩, ⟨0, .mem, 1, [.s (.int .i64 (gt [(A3_i64.mk (7) (0) (3)), (A3_i64.mk (8) (0) (4)), (A3_i64.mk (9) (0) (3)), (A3_i64.mk (10) (0) (4)), (A3_i64.mk (0) (0) (1)), (A3_i64.mk (5) (0) (2)), (A3_i64.mk (4) (0) (2)), (A3_i64.mk (0) (0) (1)), (A3_i64.mk (2) (1) (1)), (A3_i64.mk (3) (2) (3)), (A3_i64.mk (0) (0) (1)), (A3_i64.mk (6) (0) (5)), (A3_i64.mk (11) (1) (1)), (A3_i64.mk (12) (2) (4)), (A3_i64.mk (0) (0) (1)), (A3_i64.mk (13) (2) (1))] (Int.tmod (IntKind.wrap .i64 b_) 16)).a0), .s (.int .i64 (gt [(A3_i64.mk (7) (0) (3)), (A3_i64.mk (8) (0) (4)), (A3_i64.mk (9) (0) (3)), (A3_i64.mk (10) (0) (4)), (A3_i64.mk (0) (0) (1)), (A3_i64.mk (5) (0) (2)), (A3_i64.mk (4) (0) (2)), (A3_i64.mk (0) (0) (1)), (A3_i64.mk (2) (1) (1)), (A3_i64.mk (3) (2) (3)), (A3_i64.mk (0) (0) (1)), (A3_i64.mk (6) (0) (5)), (A3_i64.mk (11) (1) (1)), (A3_i64.mk (12) (2) (4)), (A3_i64.mk (0) (0) (1)), (A3_i64.mk (13) (2) (1))] (Int.tmod (IntKind.wrap .i64 b_) 16)).a1), .s (.int .i64 (gt [(A3_i64.mk (7) (0) (3)), (A3_i64.mk (8) (0) (4)), (A3_i64.mk (9) (0) (3)), (A3_i64.mk (10) (0) (4)), (A3_i64.mk (0) (0) (1)), (A3_i64.mk (5) (0) (2)), (A3_i64.mk (4) (0) (2)), (A3_i64.mk (0) (0) (1)), (A3_i64.mk (2) (1) (1)), (A3_i64.mk (3) (2) (3)), (A3_i64.mk (0) (0) (1)), (A3_i64.mk (6) (0) (5)), (A3_i64.mk (11) (1) (1)), (A3_i64.mk (12) (2) (4)), (A3_i64.mk (0) (0) (1)), (A3_i64.mk (13) (2) (1))] (Int.tmod (IntKind.wrap .i64 b_) 16)).a2)]⟩]) (by kernel_rfl) ?_
      exact hj2 (5) h _ (FOk_of [2, 3, 4, 7] hf11 (by kernel_rfl))
    · have h := if_f h hc4
      refine k_skip ?_
      refine k_hp (L' := [⟨0, .mem, 1, [.s (.int .i64 0), .s (.int .i64 0), .s (.int .i64 0), .s (.bool false), .s (.int .i64 0), .s (.int .i64 0)]⟩, ⟨0, .mem, 1, cat A3_i64.v [(A3_i64.mk (7) (0) (3)), (A3_i64.mk (8) (0) (4)), (A3_i64.mk (9) (0) (3)), (A3_i64.mk (10) (0) (4)), (A3_i64.mk (0) (0) (1)), (A3_i64.mk (5) (0) (2)), (A3_i64.mk (4) (0) (2)), (A3_i64.mk (0) (0) (1)), (A3_i64.mk (2) (1) (1)), (A3_i64.mk (3) (2) (3)), (A3_i64.mk (0) (0) (1)), (A3_i64.mk (6) (0) (5)), (A3_i64.mk (11) (1) (1)), (A3_i64.mk (12) (2) (4)), (A3_i64.mk (0) (0) (1)), (A3_i64.mk (13) (2) (1))]⟩, ⟨0, .mem, 1, [.s (.int .i64 (gt [(A3_i64.mk (7) (0) (3)), (A3_i64.mk (8) (0) (4)), (A3_i64.mk (9) (0) (3)), (A3_i64.mk (10) (0) (4)), (A3_i64.mk (0) (0) (1)), (A3_i64.mk (5) (0) (2)), (A3_i64.mk (4) (0) (2)), (A3_i64.mk (0) (0) (1)), (A3_i64.mk (2) (1) (1)), (A3_i64.mk (3) (2) (3)), (A3_i64.mk (0) (0) (1)), (A3_i64.mk (6) (0) (5)), (A3_i64.mk (11) (1) (1)), (A3_i64.mk (12) (2) (4)), (A3_i64.mk (0) (0) (1)), (A3_i64.mk (13) (2) (1))] (Int.tmod (IntKind.wrap .i64 b_) 16)).a0), .s (.int .i64 (gt [(A3_i64.mk (7) (0) (3)), (A3_i64.mk (8) (0) (4)), (A3_i64.mk (9) (0) (3)), (A3_i64.mk (10) (0) (4)), (A3_i64.mk (0) (0) (1)), (A3_i64.mk (5) (0) (2)), (A3_i64.mk (4) (0) (2)), (A3_i64.mk (0) (0) (1)), (A3_i64.mk (2) (1) (1)), (A3_i64.mk (3) (2) (3)), (A3_i64.mk (0) (0) (1)), (A3_i64.mk (6) (0) (5)), (A3_i64.mk (11) (1) (1)), (A3_i64.mk (12) (2) (4)), (A3_i64.mk (0) (0) (1)), (A3_i64.mk (13) (2) (1))] (Int.tmod (IntKind.wrap .i64 b_) 16)).a1), .s (.int .i64 (gt [(A3_i64.mk (7) (0) (3)), (A3_i64.mk (8) (0) (4)), (A3_i64.mk (9) (0) (3)), (A3_i64.mk (10) (0) (4)), (A3_i64.mk (0) (0) (1)), (A3_i64.mk (5) (0) (2)), (A3_i64.mk (4) (0) (2)), (A3_i64.mk (0) (0) (1)), (A3_i64.mk (2) (1) (1)), (A3_i64.mk (3) (2) (3)), (A3_i64.mk (0) (0) (1)), (A3_i64.mk (6) (0) (5)), (A3_i64.mk (11) (1) (1)), (A3_i64.mk (12) (2) (4)), (A3_i64.mk (0) (0) (1)), (A3_i64.mk (13) (2) (1))] (Int.tmod (IntKind.wrap .i64 b_) 16)).a2)]⟩]) (by kernel_rfl) ?_
      exact hj2 (IntKind.wrap .i64 ((Int.tmod (IntKind.wrap .i64 (Int.tdiv (IntKind.wrap .i64 b_) 32)) 4) + 1)) h _ (FOk_of [2, 3, 4, 7] hf10 (by kernel_rfl))
def spinetref18_Sign_i0 : List Op1 := [(oM 2 (.k (.int .u16 0)) [])]
def spinetref18_Sign_i1 : List Op1 := [(oM 3 (.t 0) []), (oE 4 (.bin .gtr (.t 3) (.k (.int .u8 127))) [0])]
def spinetref18_Sign_i2 : List Op1 := [(oM 5 (.t 0) []), (oE 6 (.cint .u16 (.t 5)) [0]), (oE 7 (.bin .add (.k (.int .u16 65280)) (.t 6)) [1]), (oM 2 (.t 7) [2, 0, 1, 2])]
def spinetref18_Sign_i3 : IR := .ret
def spinetref18_Sign_i4 : IR := (.cond (.t 4) (.seq (.reg false spinetref18_Sign_i2) spinetref18_Sign_i3) .skip)
def spinetref18_Sign_i5 : List Op1 := [(oM 8 (.t 0) []), (oE 9 (.cint .u16 (.t 8)) [0]), (oM 2 (.t 9) [1, 0, 1])]
def spinetref18_Sign_i6 : IR := .ret
def spinetref18_Sign_i7 : IR := (.seq (.reg false spinetref18_Sign_i5) spinetref18_Sign_i6)
def spinetref18_Sign_i8 : IR := (.seq (.seq (.reg false spinetref18_Sign_i1) spinetref18_Sign_i4) spinetref18_Sign_i7)
def spinetref18_Sign_ir : IR := (.seq (.reg false spinetref18_Sign_i0) spinetref18_Sign_i8)
theorem spinetref18_Sign_cfn : cFn Try.prog 21 = some (spinetref18_Sign_ir, [(.t 2)], 10) := by kernel_rfl
def spinetref18_Sign_V (r : (Int)) : V := .s (.int .u16 r)
def spinetref18_Sign_C (r : (Int)) : X → Fr → Hp → Prop := FinL [(.t 2)] [] (spinetref18_Sign_V r) []
theorem spinetref18_Sign_ok (b_ : Int) (r : (Int)) (h : spinetref18_Sign b_ = some r) : Pure Try.prog 21 [.s (.int .u8 b_)] (spinetref18_Sign_V r) := by
  refine ConL.of spinetref18_Sign_cfn (Nat.le_of_ble_eq_true (by kernel_rfl)) (Nat.le_of_ble_eq_true (by kernel_rfl)) ?_
  refine k_start ?_
  show dwv Try.prog [] spinetref18_Sign_ir (kont Try.prog [] (spinetref18_Sign_C r) []) (fr0 [.s (.int .u8 b_)]) []
  have hf : FOk (fr0 [.s (.int .u8 b_)]) [⟨0, [], .s (.int .u8 b_)⟩] := ⟨⟨fun _ => rfl, fun h => (h trivial).elim⟩, trivial⟩
  generalize fr0 [.s (.int .u8 b_)] = f at hf ⊢
  unfold spinetref18_Sign at h
  refine k_seq ?_
  refine k_reg ?_
  refine mops_en hf (by kernel_rfl) fun f1 hf1 => ?_
  refine k_c ?_
  refine k_seq ?_
  refine k_seq ?_
  refine k_reg ?_
  refine mops_en hf1 (by kernel_rfl) fun f2 hf2 => ?_
  refine k_c ?_
  refine k_cond hf2 (t := (decide (127 < b_))) (by kernel_rfl) (fun hc1 => ?_) (fun hc1 => ?_)
  · have h := if_t h hc1
    refine k_seq ?_
    refine k_reg ?_
    refine mops_en hf2 (by kernel_rfl) fun f3 hf3 => ?_
    refine k_c ?_
    refine k_ret ?_
    refine x_c nofun ?_
    obtain rfl := Option.some.inj h
    exact k_fin (fin_ret (.inl rfl) hf3 (vs := [.s (.int .u16 (IntKind.wrap .u16 (65280 + (IntKind.wrap .u16 b_))))]) (by kernel_rfl) (SettL.pure (FzL.stat rfl)))
  · have h := if_f h hc1
    refine k_skip ?_
    refine k_c ?_
    refine k_seq ?_
    refine k_reg ?_
    refine mops_en hf2 (by kernel_rfl) fun f3 hf3 => ?_
    refine k_c ?_
    refine k_ret ?_
    obtain rfl := Option.some.inj h
    exact k_fin (fin_ret (.inl rfl) hf3 (vs := [.s (.int .u16 (IntKind.wrap .u16 b_))]) (by kernel_rfl) (SettL.pure (FzL.stat rfl)))
def inst_Next_i0 : List Op1 := [(oE 2 (.box (.t 0)) []), (oM 4 (.k (.int .u16 0)) [])]
def inst_Next_i1 : List Op1 := [(oM 5 (.t 1) []), (oE 6 (.fld 7 (.t 2)) []), (oE 7 (.load false 1 (.t 6)) [1]), (oE 8 (.cint .u16 (.t 7)) [2]), (oE 9 (.bin .add (.t 5) (.t 8)) [0, 3]), (oM 4 (.t 9) [4, 0, 1, 2, 3, 4])]
def inst_Next_i2 : IR := .ret
def inst_Next_i3 : IR := (.seq (.reg false inst_Next_i1) inst_Next_i2)
def inst_Next_ir : IR := (.seq (.reg false inst_Next_i0) inst_Next_i3)
theorem inst_Next_cfn : cFn Try.prog 12 = some (inst_Next_ir, [(.t 4)], 10) := by kernel_rfl
def inst_Next_V (r : (Int)) : V := .s (.int .u16 r)
def inst_Next_C (r : (Int)) : X → Fr → Hp → Prop := FinL [(.t 4)] [] (inst_Next_V r) []
theorem inst_Next_ok (i_ : api_Inst) (at_ : Int) (r : (Int)) (h : inst_Next i_ at_ = some r) : Pure Try.prog 12 [.agg [.s (.int .i64 i_.Page), .s (.int .u8 i_.Code), .s (.int .i64 i_.Entry.Op), .s (.int .i64 i_.Entry.Mode), .s (.int .i64 i_.Entry.Reg), .s (.int .u8 i_.Post), .s (.int .u16 i_.Value), .s (.int .i64 i_.Len)], .s (.int .u16 at_)] (inst_Next_V r) := by
  refine ConL.of inst_Next_cfn (Nat.le_of_ble_eq_true (by kernel_rfl)) (Nat.le_of_ble_eq_true (by kernel_rfl)) ?_
  refine k_start ?_
  show dwv Try.prog [] inst_Next_ir (kont Try.prog [] (inst_Next_C r) []) (fr0 [.agg [.s (.int .i64 i_.Page), .s (.int .u8 i_.Code), .s (.int .i64 i_.Entry.Op), .s (.int .i64 i_.Entry.Mode), .s (.int .i64 i_.Entry.Reg), .s (.int .u8 i_.Post), .s (.int .u16 i_.Value), .s (.int .i64 i_.Len)], .s (.int .u16 at_)]) []
  have hf : FOk (fr0 [.agg [.s (.int .i64 i_.Page), .s (.int .u8 i_.Code), .s (.int .i64 i_.Entry.Op), .s (.int .i64 i_.Entry.Mode), .s (.int .i64 i_.Entry.Reg), .s (.int .u8 i_.Post), .s (.int .u16 i_.Value), .s (.int .i64 i_.Len)], .s (.int .u16 at_)]) [⟨0, [], .agg [.s (.int .i64 i_.Page), .s (.int .u8 i_.Code), .s (.int .i64 i_.Entry.Op), .s (.int .i64 i_.Entry.Mode), .s (.int .i64 i_.Entry.Reg), .s (.int .u8 i_.Post), .s (.int .u16 i_.Value), .s (.int .i64 i_.Len)]⟩, ⟨1, [], .s (.int .u16 at_)⟩] := ⟨⟨fun _ => rfl, fun h => (h trivial).elim⟩, ⟨fun _ => rfl, fun h => (h trivial).elim⟩, trivial⟩
  generalize fr0 [.agg [.s (.int .i64 i_.Page), .s (.int .u8 i_.Code), .s (.int .i64 i_.Entry.Op), .s (.int .i64 i_.Entry.Mode), .s (.int .i64 i_.Entry.Reg), .s (.int .u8 i_.Post), .s (.int .u16 i_.Value), .s (.int .i64 i_.Len)], .s (.int .u16 at_)] = f at hf ⊢
  unfold inst_Next at h
  refine k_seq ?_
  refine k_reg ?_
  refine mops_en hf (by kernel_rfl) fun f1 hf1 => ?_
  refine k_c ?_
  refine k_seq ?_
  refine k_reg ?_
  refine mops_en hf1 (by kernel_rfl) fun f2 hf2 => ?_
  refine k_c ?_
  refine k_ret ?_
  obtain rfl := Option.some.inj h
  exact k_fin (fin_ret (.inl rfl) hf2 (vs := [.s (.int .u16 (IntKind.wrap .u16 (at_ + (IntKind.wrap .u16 i_.Len))))]) (by kernel_rfl) (SettL.pure (FzL.stat rfl)))
def octet_Low_i0 : List Op1 := [(oM 2 (.k (.int .u8 0)) [])]
def octet_Low_i1 : List Op1 := [(oM 3 (.t 0) []), (oE 4 (.cint .u8 (.t 3)) [0]), (oM 2 (.t 4) [1, 0, 1])]
def octet_Low_i2 : IR := .ret
def octet_Low_i3 : IR := (.seq (.reg false octet_Low_i1) octet_Low_i2)
def octet_Low_ir : IR := (.seq (.reg false octet_Low_i0) octet_Low_i3)
theorem octet_Low_cfn : cFn Try.prog 22 = some (octet_Low_ir, [(.t 2)], 5) := by kernel_rfl
def octet_Low_V (r : (Int)) : V := .s (.int .u8 r)
def octet_Low_C (r : (Int)) : X → Fr → Hp → Prop := FinL [(.t 2)] [] (octet_Low_V r) []
theorem octet_Low_ok (w_ : Int) (r : (Int)) (h : octet_Low w_ = some r) : Pure Try.prog 22 [.s (.int .u16 w_)] (octet_Low_V r) := by
  refine ConL.of octet_Low_cfn (Nat.le_of_ble_eq_true (by kernel_rfl)) (Nat.le_of_ble_eq_true (by kernel_rfl)) ?_
  refine k_start ?_
  show dwv Try.prog [] octet_Low_ir (kont Try.prog [] (octet_Low_C r) []) (fr0 [.s (.int .u16 w_)]) []
  have hf : FOk (fr0 [.s (.int .u16 w_)]) [⟨0, [], .s (.int .u16 w_)⟩] := ⟨⟨fun _ => rfl, fun h => (h trivial).elim⟩, trivial⟩
  generalize fr0 [.s (.int .u16 w_)] = f at hf ⊢
  unfold octet_Low at h
  refine k_seq ?_
  refine k_reg ?_
  refine mops_en hf (by kernel_rfl) fun f1 hf1 => ?_
  refine k_c ?_
  refine k_seq ?_
  refine k_reg ?_
  refine mops_en hf1 (by kernel_rfl) fun f2 hf2 => ?_
  refine k_c ?_
  refine k_ret ?_
  obtain rfl := Option.some.inj h
  exact k_fin (fin_ret (.inl rfl) hf2 (vs := [.s (.int .u8 (IntKind.wrap .u8 w_))]) (by kernel_rfl) (SettL.pure (FzL.stat rfl)))
def octet_High_i0 : List Op1 := [(oM 2 (.k (.int .u8 0)) [])]
def octet_High_i1 : List Op1 := [(oM 3 (.t 0) []), (oE 4 (.bin .shr (.t 3) (.k (.int .u64 8))) [0]), (oE 5 (.cint .u8 (.t 4)) [1]), (oM 2 (.t 5) [2, 0, 1, 2])]
def octet_High_i2 : IR := .ret
def octet_High_i3 : IR := (.seq (.reg false octet_High_i1) octet_High_i2)
def octet_High_ir : IR := (.seq (.reg false octet_High_i0) octet_High_i3)
theorem octet_High_cfn : cFn Try.prog 34 = some (octet_High_ir, [(.t 2)], 6) := by kernel_rfl
def octet_High_V (r : (Int)) : V := .s (.int .u8 r)
def octet_High_C (r : (Int)) : X → Fr → Hp → Prop := FinL [(.t 2)] [] (octet_High_V r) []
theorem octet_High_ok (w_ : Int) (r : (Int)) (h : octet_High w_ = some r) : Pure Try.prog 34 [.s (.int .u16 w_)] (octet_High_V r) := by
  refine ConL.of octet_High_cfn (Nat.le_of_ble_eq_true (by kernel_rfl)) (Nat.le_of_ble_eq_true (by kernel_rfl)) ?_
  refine k_start ?_
  show dwv Try.prog [] octet_High_ir (kont Try.prog [] (octet_High_C r) []) (fr0 [.s (.int .u16 w_)]) []
  have hf : FOk (fr0 [.s (.int .u16 w_)]) [⟨0, [], .s (.int .u16 w_)⟩] := ⟨⟨fun _ => rfl, fun h => (h trivial).elim⟩, trivial⟩
  generalize fr0 [.s (.int .u16 w_)] = f at hf ⊢
  unfold octet_High at h
  refine k_seq ?_
  refine k_reg ?_
  refine mops_en hf (by kernel_rfl) fun f1 hf1 => ?_
  refine k_c ?_
  refine k_seq ?_
  refine k_reg ?_
  refine mops_en hf1 (by kernel_rfl) fun f2 hf2 => ?_
  refine k_c ?_
  refine k_ret ?_
  obtain rfl := Option.some.inj h
  exact k_fin (fin_ret (.inl rfl) hf2 (vs := [.s (.int .u8 (IntKind.wrap .u8 (Int.fdiv w_ (2 ^ (8)))))]) (by kernel_rfl) (SettL.pure (FzL.stat rfl)))
def bytes_Equal_i0 : List Op1 := [(oM 4 (.k (.bool false)) [])]
def bytes_Equal_i1 : List Op1 := [(oM 5 (.t 0) []), (oE 6 (.bstr (.t 5)) [0]), (oM 7 (.t 1) []), (oE 8 (.bstr (.t 7)) [2]), (oE 9 (.bin .eql (.t 6) (.t 8)) [1, 3]), (oM 4 (.t 9) [4, 0, 1, 2, 3, 4])]
def bytes_Equal_i2 : IR := .ret
def bytes_Equal_i3 : IR := (.seq (.reg false bytes_Equal_i1) bytes_Equal_i2)
def bytes_Equal_ir : IR := (.seq (.reg false bytes_Equal_i0) bytes_Equal_i3)
theorem bytes_Equal_cfn : cFn Try.prog 10 = some (bytes_Equal_ir, [(.t 4)], 10) := by kernel_rfl
def bytes_Equal_V (r : (Bool)) : V := .s (.bool r)
def bytes_Equal_C (r : (Bool)) : X → Fr → Hp → Prop := FinL [(.t 4)] [] (bytes_Equal_V r) []
theorem bytes_Equal_ok (a_ : (List Int)) (b_ : (List Int)) (r : (Bool)) (h : bytes_Equal a_ b_ = some r) : Pure Try.prog 10 [.sl false a_.length (cat (nI .u8) a_), .sl false b_.length (cat (nI .u8) b_)] (bytes_Equal_V r) := by
  refine ConL.of bytes_Equal_cfn (Nat.le_of_ble_eq_true (by kernel_rfl)) (Nat.le_of_ble_eq_true (by kernel_rfl)) ?_
  refine k_start ?_
  show dwv Try.prog [] bytes_Equal_ir (kont Try.prog [] (bytes_Equal_C r) []) (fr0 [.sl false a_.length (cat (nI .u8) a_), .sl false b_.length (cat (nI .u8) b_)]) []
  have hf : FOk (fr0 [.sl false a_.length (cat (nI .u8) a_), .sl false b_.length (cat (nI .u8) b_)]) [⟨0, [], .sl false a_.length (cat (nI .u8) a_)⟩, ⟨1, [], .sl false b_.length (cat (nI .u8) b_)⟩] := ⟨⟨fun _ => rfl, fun h => (h trivial).elim⟩, ⟨fun _ => rfl, fun h => (h trivial).elim⟩, trivial⟩
  generalize fr0 [.sl false a_.length (cat (nI .u8) a_), .sl false b_.length (cat (nI .u8) b_)] = f at hf ⊢
  unfold bytes_Equal at h
  refine k_seq ?_
  refine k_reg ?_
  refine mops_en hf (by kernel_rfl) fun f1 hf1 => ?_
  refine k_c ?_
  refine k_seq ?_
  refine k_reg ?_
  refine mops_sg 1 hf1 (by kernel_rfl) fun f2 hf2 => ?_
  refine mops_adv rfl (v := .s (.string (bs a_))) hf2 (by kernel_rfl) (e_bstr (q := a_) (slc_ev (v := .sl false a_.length (cat (nI .u8) a_)) (by kernel_rfl) (slc_sl (g := (nI .u8)) a_))) fun f3 hf3 => ?_
  refine mops_sg 1 hf3 (by kernel_rfl) fun f4 hf4 => ?_
  refine mops_adv rfl (v := .s (.string (bs b_))) hf4 (by kernel_rfl) (e_bstr (q := b_) (slc_ev (v := .sl false b_.length (cat (nI .u8) b_)) (by kernel_rfl) (slc_sl (g := (nI .u8)) b_))) fun f5 hf5 => ?_
  refine mops_en hf5 (by kernel_rfl) fun f6 hf6 => ?_
  refine k_c ?_
  refine k_ret ?_
  obtain rfl := Option.some.inj h
  exact k_fin (fin_ret (.inl rfl) hf6 (vs := [.s (.bool ((bs a_).toList == (bs b_).toList))]) (by kernel_rfl) (SettL.pure (FzL.stat rfl)))
end Go.Proofs.YtmabdijipkmmkaaK
