/- The Go functions come to the functions over typed data. Printed by a program of this work. -/
import Derived.Test.YtbgdkaahcfmaeaaF
import Derived.Test.YtbgdkaahcfmaeaaProg
import Derived.Test.YtbgdkaahcfmaeaaG1
import Derived.Test.YtbgdkaahcfmaeaaG3
namespace Go.Proofs.YtbgdkaahcfmaeaaK
set_option linter.unusedVariables false
set_option linter.unusedSimpArgs false
set_option maxHeartbeats 4000000
open Go.RowKit
attribute [local irreducible] dwv mops lops lqops lwops kont iter run runK ex E1 vals val chain chB sel resF
def spinetref18_Shape_i0 : List Op1 := [⟨(some 4), (.e (.mv (.k (.bool false)))), none, []⟩, ⟨(some 5), (.e (.mv (.k (.int .i64 0)))), none, [0]⟩, ⟨(some 6), (.e (.mv (.k (.bool false)))), none, [1]⟩]
def spinetref18_Shape_i1 : List Op1 := [⟨(some 8), (.e (.build [(.int .i64 0), (.int .i64 0), (.int .i64 0), (.int .i64 0), (.int .i64 0), (.int .i64 0), (.int .i64 0), (.int .i64 0), (.int .i64 0), (.int .i64 0)] [(0, (1, (.k (.int .i64 0)))), (1, (1, (.k (.int .i64 1)))), (2, (1, (.k (.int .i64 2)))), (3, (1, (.k (.int .i64 1)))), (4, (1, (.k (.int .i64 0)))), (5, (1, (.k (.int .i64 2)))), (6, (1, (.k (.int .i64 1)))), (7, (1, (.k (.int .i64 2)))), (8, (1, (.k (.int .i64 0)))), (9, (1, (.k (.int .i64 0))))])), none, []⟩, ⟨(some 7), (.e (.zero [(.int .i64 0), (.int .i64 0), (.int .i64 0), (.int .i64 0), (.int .i64 0), (.int .i64 0), (.int .i64 0), (.int .i64 0), (.int .i64 0), (.int .i64 0)])), none, []⟩, ⟨none, (.e (.store 10 (.t 7) (.t 8))), none, [1, 0, 0, 1]⟩]
def spinetref18_Shape_i2 : List Op1 := [⟨(some 9), (.e (.mv (.t 0))), none, []⟩, ⟨(some 10), (.e (.bin .eql (.t 9) (.k (.int .i64 4)))), none, [0]⟩]
def spinetref18_Shape_i3 : List Op1 := [⟨(some 11), (.e (.mv (.t 1))), none, []⟩, ⟨(some 12), (.call 74 [(.t 11)]), none, [0]⟩, ⟨(some 13), (.e (.part false 4 1 (.t 12))), none, [1]⟩, ⟨(some 4), (.e (.mv (.k (.bool true)))), none, [1]⟩, ⟨(some 5), (.e (.mv (.t 13))), none, [2, 3, 0, 1, 2, 3]⟩, ⟨(some 6), (.e (.mv (.k (.bool true)))), none, [4, 0, 1, 2, 3, 4]⟩]
def spinetref18_Shape_i4 : IR := .ret
def spinetref18_Shape_i5 : IR := (.cond (.t 10) (.seq (.reg false spinetref18_Shape_i3) spinetref18_Shape_i4) .skip)
def spinetref18_Shape_i6 : List Op1 := [⟨(some 14), (.e (.mv (.t 0))), none, []⟩, ⟨(some 15), (.e (.bin .eql (.t 14) (.k (.int .i64 8)))), none, [0]⟩, ⟨(some 16), (.e (.mv (.t 15))), none, [1]⟩, ⟨(some 17), (.e (.mv (.t 0))), (some (16, false)), [2]⟩, ⟨(some 18), (.e (.bin .eql (.t 17) (.k (.int .i64 9)))), (some (16, false)), [3, 2]⟩, ⟨(some 19), (.e (.pick (.t 16) (.k (.bool true)) (.t 18))), none, [2, 4]⟩, ⟨(some 20), (.e (.mv (.t 0))), none, []⟩, ⟨(some 21), (.e (.iaa 10 1 (.t 7) (.t 20))), none, [6]⟩, ⟨(some 22), (.e (.load false 1 (.t 21))), none, [7]⟩, ⟨(some 23), (.e (.mv (.t 0))), none, []⟩, ⟨(some 24), (.e (.bin .eql (.t 23) (.k (.int .i64 6)))), none, [9]⟩, ⟨(some 4), (.e (.mv (.t 19))), none, [5, 2, 0, 1, 2, 3, 4, 5]⟩, ⟨(some 5), (.e (.mv (.t 22))), none, [8, 11, 0, 1, 2, 3, 4, 5, 6, 7, 8, 11]⟩, ⟨(some 6), (.e (.mv (.t 24))), none, [10, 12, 0, 1, 2, 3, 4, 5, 6, 7, 8, 9, 10, 11, 12]⟩]
def spinetref18_Shape_i7 : IR := .ret
def spinetref18_Shape_i8 : IR := (.seq (.reg true spinetref18_Shape_i6) spinetref18_Shape_i7)
def spinetref18_Shape_i9 : IR := (.seq (.seq (.reg false spinetref18_Shape_i2) spinetref18_Shape_i5) spinetref18_Shape_i8)
def spinetref18_Shape_i10 : IR := (.seq (.reg false spinetref18_Shape_i1) spinetref18_Shape_i9)
def spinetref18_Shape_ir : IR := (.seq (.reg false spinetref18_Shape_i0) spinetref18_Shape_i10)
theorem spinetref18_Shape_cfn : cFn Try.prog 43 = some (spinetref18_Shape_ir, [(.t 4), (.t 5), (.t 6)], 25) := by kernel_rfl
def spinetref18_Shape_V (r : (Bool × Int × Bool)) : V := .tup [.s (.bool r.1), .s (.int .i64 r.2.1), .s (.bool r.2.2)]
def spinetref18_Shape_C (r : (Bool × Int × Bool)) : X → Fr → Hp → Prop := FinL [(.t 4), (.t 5), (.t 6)] [] (spinetref18_Shape_V r) []
theorem spinetref18_Shape_ok (mode_ : Int) (post_ : Int) (r : (Bool × Int × Bool)) (h : spinetref18_Shape mode_ post_ = some r) : Pure Try.prog 43 [.s (.int .i64 mode_), .s (.int .u8 post_)] (spinetref18_Shape_V r) := by
  refine ConL.of spinetref18_Shape_cfn (Nat.le_of_ble_eq_true (by kernel_rfl)) (Nat.le_of_ble_eq_true (by kernel_rfl)) ?_
  refine k_start ?_
  show dwv Try.prog [] spinetref18_Shape_ir (kont Try.prog [] (spinetref18_Shape_C r) []) (fr0 [.s (.int .i64 mode_), .s (.int .u8 post_)]) []
  have hf : FOk (fr0 [.s (.int .i64 mode_), .s (.int .u8 post_)]) [⟨0, [], .s (.int .i64 mode_)⟩, ⟨1, [], .s (.int .u8 post_)⟩] := ⟨⟨fun _ => rfl, fun h => (h trivial).elim⟩, ⟨fun _ => rfl, fun h => (h trivial).elim⟩, trivial⟩
  generalize fr0 [.s (.int .i64 mode_), .s (.int .u8 post_)] = f at hf ⊢
  unfold spinetref18_Shape at h
  refine k_seq ?_
  refine k_reg ?_
  refine mops_end [0, 1, 4, 5, 6] hf (l' := [⟨0, [], .s (.int .i64 mode_)⟩, ⟨1, [], .s (.int .u8 post_)⟩, ⟨4, [], .s (.bool false)⟩, ⟨5, [], .s (.int .i64 0)⟩, ⟨6, [], .s (.bool false)⟩]) (L' := []) (by kernel_rfl) fun f1 hf1 => ?_
  refine k_c ?_
  refine k_seq ?_
  refine k_reg ?_
  refine mops_end [0, 1, 4, 5, 6, 7] hf1 (l' := [⟨0, [], .s (.int .i64 mode_)⟩, ⟨1, [], .s (.int .u8 post_)⟩, ⟨4, [], .s (.bool false)⟩, ⟨5, [], .s (.int .i64 0)⟩, ⟨6, [], .s (.bool false)⟩, ⟨7, [], .ptr 0 0 0⟩]) (L' := [⟨0, .mem, 1, [.s (.int .i64 0), .s (.int .i64 1), .s (.int .i64 2), .s (.int .i64 1), .s (.int .i64 0), .s (.int .i64 2), .s (.int .i64 1), .s (.int .i64 2), .s (.int .i64 0), .s (.int .i64 0)]⟩]) (by kernel_rfl) fun f2 hf2 => ?_
  refine k_c ?_
  refine k_seq ?_
  refine k_seq ?_
  refine k_reg ?_
  refine mops_end [0, 1, 4, 5, 6, 7, 10] hf2 (l' := [⟨0, [], .s (.int .i64 mode_)⟩, ⟨1, [], .s (.int .u8 post_)⟩, ⟨4, [], .s (.bool false)⟩, ⟨5, [], .s (.int .i64 0)⟩, ⟨6, [], .s (.bool false)⟩, ⟨7, [], .ptr 0 0 0⟩, ⟨10, [], .s (.bool (mode_ == 4))⟩]) (L' := [⟨0, .mem, 1, [.s (.int .i64 0), .s (.int .i64 1), .s (.int .i64 2), .s (.int .i64 1), .s (.int .i64 0), .s (.int .i64 2), .s (.int .i64 1), .s (.int .i64 2), .s (.int .i64 0), .s (.int .i64 0)]⟩]) (by kernel_rfl) fun f3 hf3 => ?_
  refine k_c ?_
  refine k_cond hf3 (t := (mode_ == 4)) (by kernel_rfl) (fun hc1 => ?_) (fun hc1 => ?_)
  · have h := if_t h hc1
    refine k_seq ?_
    refine k_reg ?_
    refine mops_seg [0, 4, 5, 6, 7, 11] 1 hf3 (l' := [⟨0, [], .s (.int .i64 mode_)⟩, ⟨4, [], .s (.bool false)⟩, ⟨5, [], .s (.int .i64 0)⟩, ⟨6, [], .s (.bool false)⟩, ⟨7, [], .ptr 0 0 0⟩, ⟨11, [], .s (.int .u8 post_)⟩]) (L' := [⟨0, .mem, 1, [.s (.int .i64 0), .s (.int .i64 1), .s (.int .i64 2), .s (.int .i64 1), .s (.int .i64 0), .s (.int .i64 2), .s (.int .i64 1), .s (.int .i64 2), .s (.int .i64 0), .s (.int .i64 0)]⟩]) (by kernel_rfl) fun f4 hf4 => ?_
    obtain ⟨r_, hx_r_, h⟩ := Option.bind_eq_some_iff.1 h
    refine mops_call (dst := (some 12)) (m := 74) (args := [(.t 11)]) (aft := [0]) (by kernel_rfl) hf4 (av := [.s (.int .u8 post_)]) (by kernel_rfl) (v := .agg [.s (.int .i64 r_.Kind), .s (.int .i64 r_.Reg), .s (.int .i64 r_.Off), .s (.bool r_.Indirect), .s (.int .i64 r_.Bytes), .s (.int .i64 r_.Idle)]) (L' := [⟨0, .mem, 1, [.s (.int .i64 0), .s (.int .i64 1), .s (.int .i64 2), .s (.int .i64 1), .s (.int .i64 0), .s (.int .i64 2), .s (.int .i64 1), .s (.int .i64 2), .s (.int .i64 0), .s (.int .i64 0)]⟩]) (CalL.pure (spinetref15_Of_ok post_ r_ hx_r_) rfl rfl (Nat.le_of_ble_eq_true (by kernel_rfl))) (fun _ => rfl) fun f5 hf5 => ?_
    refine mops_end [0, 4, 5, 6, 7] hf5 (l' := [⟨0, [], .s (.int .i64 mode_)⟩, ⟨4, [], .s (.bool true)⟩, ⟨5, [], .s (.int .i64 r_.Bytes)⟩, ⟨6, [], .s (.bool true)⟩, ⟨7, [], .ptr 0 0 0⟩]) (L' := [⟨0, .mem, 1, [.s (.int .i64 0), .s (.int .i64 1), .s (.int .i64 2), .s (.int .i64 1), .s (.int .i64 0), .s (.int .i64 2), .s (.int .i64 1), .s (.int .i64 2), .s (.int .i64 0), .s (.int .i64 0)]⟩]) (by kernel_rfl) fun f6 hf6 => ?_
    refine k_c ?_
    refine k_ret ?_
    refine x_c nofun ?_
    obtain rfl := Option.some.inj h
    exact k_fin (fin_ret (.inl rfl) hf6 (vs := [.s (.bool true), .s (.int .i64 r_.Bytes), .s (.bool true)]) (by kernel_rfl) (SettL.pure (FzL.tup (FzsL.cons (FzL.stat rfl) (FzsL.cons (FzL.stat rfl) (FzsL.cons (FzL.stat rfl) FzsL.nil))))))
  · have h := if_f h hc1
    refine k_skip ?_
    refine k_c ?_
    refine k_seq ?_
    refine k_regq ?_
    refine mops_seg [0, 4, 5, 6, 7, 19, 20] 7 hf3 (l' := [⟨0, [], .s (.int .i64 mode_)⟩, ⟨4, [], .s (.bool false)⟩, ⟨5, [], .s (.int .i64 0)⟩, ⟨6, [], .s (.bool false)⟩, ⟨7, [], .ptr 0 0 0⟩, ⟨19, [], .s (.bool ((mode_ == 8) || (mode_ == 9)))⟩, ⟨20, [], .s (.int .i64 mode_)⟩]) (L' := [⟨0, .mem, 1, [.s (.int .i64 0), .s (.int .i64 1), .s (.int .i64 2), .s (.int .i64 1), .s (.int .i64 0), .s (.int .i64 2), .s (.int .i64 1), .s (.int .i64 2), .s (.int .i64 0), .s (.int .i64 0)]⟩]) (by kernel_rfl) fun f4 hf4 => ?_
    obtain ⟨c2, h⟩ := as_ok h
    refine mops_adv (dst := (some 21)) (op := (.iaa 10 1 (.t 7) (.t 20))) (aft := [6]) (v := .ptr 0 0 (0 + (mode_ : Int).toNat * 1)) (by kernel_rfl) hf4 (by kernel_rfl) (e_iaa (n := 10) (xv := .ptr 0 0 0) (k := .i64) (iv := mode_) (p := .ptr 0 0 (0 + (mode_ : Int).toNat * 1)) (by kernel_rfl) (by kernel_rfl) (by kernel_rfl) (by kernel_rfl) c2) fun f5 hf5 => ?_
    refine mops_adv (dst := (some 22)) (op := (.load false 1 (.t 21))) (aft := [7]) (v := .s (.int .i64 (gt [0, 1, 2, 1, 0, 2, 1, 2, 0, 0] mode_))) (by kernel_rfl) hf5 (by kernel_rfl) (e_load_pe (g := (nI .i64)) (l := [0, 1, 2, 1, 0, 2, 1, 2, 0, 0]) (iv := mode_) (kd := .mem) (q := 1) (b := 0) (ver := 0) [] (by kernel_rfl) (live_mem (by kernel_rfl)) (arr_h (l := [0, 1, 2, 1, 0, 2, 1, 2, 0, 0]) c2 (by kernel_rfl)) (by kernel_rfl) (by kernel_rfl)) fun f6 hf6 => ?_
    refine mops_end [4, 5, 6] hf6 (l' := [⟨4, [], .s (.bool ((mode_ == 8) || (mode_ == 9)))⟩, ⟨5, [], .s (.int .i64 (gt [0, 1, 2, 1, 0, 2, 1, 2, 0, 0] mode_))⟩, ⟨6, [], .s (.bool (mode_ == 6))⟩]) (L' := [⟨0, .mem, 1, cat (nI .i64) [0, 1, 2, 1, 0, 2, 1, 2, 0, 0]⟩]) (by kernel_rfl) fun f7 hf7 => ?_
    refine k_c ?_
    refine k_ret ?_
    obtain rfl := Option.some.inj h
    exact k_fin (fin_ret (.inl rfl) hf7 (vs := [.s (.bool ((mode_ == 8) || (mode_ == 9))), .s (.int .i64 (gt [0, 1, 2, 1, 0, 2, 1, 2, 0, 0] mode_)), .s (.bool (mode_ == 6))]) (by kernel_rfl) (SettL.pure (FzL.tup (FzsL.cons (FzL.stat rfl) (FzsL.cons (FzL.stat rfl) (FzsL.cons (FzL.stat rfl) FzsL.nil))))))
def inst_Target_i0 : List Op1 := [⟨(some 2), (.e (.box (.t 0))), none, []⟩, ⟨(some 4), (.e (.mv (.k (.int .u16 0)))), none, []⟩, ⟨(some 5), (.e (.mv (.k (.bool false)))), none, [1]⟩]
def inst_Target_i1 : List Op1 := [⟨(some 6), (.e (.fld 2 (.t 2))), none, []⟩, ⟨(some 7), (.e (.fld 1 (.t 6))), none, [0]⟩, ⟨(some 8), (.e (.load false 1 (.t 7))), none, [1]⟩, ⟨(some 9), (.e (.bin .neq (.t 8) (.k (.int .i64 6)))), none, [2]⟩, ⟨(some 10), (.e (.mv (.t 9))), none, [3]⟩, ⟨(some 11), (.e (.fld 2 (.t 2))), (some (10, true)), [4]⟩, ⟨(some 12), (.e (.fld 1 (.t 11))), (some (10, true)), [5, 4]⟩, ⟨(some 13), (.e (.load false 1 (.t 12))), (some (10, true)), [6, 4]⟩, ⟨(some 14), (.e (.bin .neq (.t 13) (.k (.int .i64 7)))), (some (10, true)), [7, 4]⟩, ⟨(some 15), (.e (.pick (.t 10) (.t 14) (.k (.bool false)))), none, [4, 8]⟩]
def inst_Target_i2 : List Op1 := [⟨(some 4), (.e (.mv (.k (.int .u16 0)))), none, []⟩, ⟨(some 5), (.e (.mv (.k (.bool false)))), none, [0, 0]⟩]
def inst_Target_i3 : IR := .ret
def inst_Target_i4 : IR := (.cond (.t 15) (.seq (.reg false inst_Target_i2) inst_Target_i3) .skip)
def inst_Target_i5 : List Op1 := [⟨(some 16), (.e (.load true 8 (.t 2))), none, []⟩, ⟨(some 17), (.e (.mv (.t 1))), none, []⟩, ⟨(some 18), (.call 45 [(.t 16), (.t 17)]), none, [0, 1]⟩, ⟨(some 19), (.e (.fld 6 (.t 2))), none, []⟩, ⟨(some 20), (.e (.load false 1 (.t 19))), none, [3]⟩, ⟨(some 21), (.e (.bin .add (.t 18) (.t 20))), none, [2, 4]⟩, ⟨(some 4), (.e (.mv (.t 21))), none, [5, 2, 0, 1, 2, 3, 4, 5]⟩, ⟨(some 5), (.e (.mv (.k (.bool true)))), none, [6, 0, 1, 2, 3, 4, 5, 6]⟩]
def inst_Target_i6 : IR := .ret
def inst_Target_i7 : IR := (.seq (.reg true inst_Target_i5) inst_Target_i6)
def inst_Target_i8 : IR := (.seq (.seq (.reg false inst_Target_i1) inst_Target_i4) inst_Target_i7)
def inst_Target_ir : IR := (.seq (.reg false inst_Target_i0) inst_Target_i8)
theorem inst_Target_cfn : cFn Try.prog 46 = some (inst_Target_ir, [(.t 4), (.t 5)], 22) := by kernel_rfl
def inst_Target_V (r : (Int × Bool)) : V := .tup [.s (.int .u16 r.1), .s (.bool r.2)]
def inst_Target_C (r : (Int × Bool)) : X → Fr → Hp → Prop := FinL [(.t 4), (.t 5)] [] (inst_Target_V r) []
theorem inst_Target_ok (i_ : api_Inst) (at_ : Int) (r : (Int × Bool)) (h : inst_Target i_ at_ = some r) : Pure Try.prog 46 [.agg [.s (.int .i64 i_.Page), .s (.int .u8 i_.Code), .s (.int .i64 i_.Entry.Op), .s (.int .i64 i_.Entry.Mode), .s (.int .i64 i_.Entry.Reg), .s (.int .u8 i_.Post), .s (.int .u16 i_.Value), .s (.int .i64 i_.Len)], .s (.int .u16 at_)] (inst_Target_V r) := by
  refine ConL.of inst_Target_cfn (Nat.le_of_ble_eq_true (by kernel_rfl)) (Nat.le_of_ble_eq_true (by kernel_rfl)) ?_
  refine k_start ?_
  show dwv Try.prog [] inst_Target_ir (kont Try.prog [] (inst_Target_C r) []) (fr0 [.agg [.s (.int .i64 i_.Page), .s (.int .u8 i_.Code), .s (.int .i64 i_.Entry.Op), .s (.int .i64 i_.Entry.Mode), .s (.int .i64 i_.Entry.Reg), .s (.int .u8 i_.Post), .s (.int .u16 i_.Value), .s (.int .i64 i_.Len)], .s (.int .u16 at_)]) []
  have hf : FOk (fr0 [.agg [.s (.int .i64 i_.Page), .s (.int .u8 i_.Code), .s (.int .i64 i_.Entry.Op), .s (.int .i64 i_.Entry.Mode), .s (.int .i64 i_.Entry.Reg), .s (.int .u8 i_.Post), .s (.int .u16 i_.Value), .s (.int .i64 i_.Len)], .s (.int .u16 at_)]) [⟨0, [], .agg [.s (.int .i64 i_.Page), .s (.int .u8 i_.Code), .s (.int .i64 i_.Entry.Op), .s (.int .i64 i_.Entry.Mode), .s (.int .i64 i_.Entry.Reg), .s (.int .u8 i_.Post), .s (.int .u16 i_.Value), .s (.int .i64 i_.Len)]⟩, ⟨1, [], .s (.int .u16 at_)⟩] := ⟨⟨fun _ => rfl, fun h => (h trivial).elim⟩, ⟨fun _ => rfl, fun h => (h trivial).elim⟩, trivial⟩
  generalize fr0 [.agg [.s (.int .i64 i_.Page), .s (.int .u8 i_.Code), .s (.int .i64 i_.Entry.Op), .s (.int .i64 i_.Entry.Mode), .s (.int .i64 i_.Entry.Reg), .s (.int .u8 i_.Post), .s (.int .u16 i_.Value), .s (.int .i64 i_.Len)], .s (.int .u16 at_)] = f at hf ⊢
  unfold inst_Target at h
  refine k_seq ?_
  refine k_reg ?_
  refine mops_end [1, 2, 4, 5] hf (l' := [⟨1, [], .s (.int .u16 at_)⟩, ⟨2, [], .ptr 0 0 0⟩, ⟨4, [], .s (.int .u16 0)⟩, ⟨5, [], .s (.bool false)⟩]) (L' := [⟨0, .mem, 1, [.s (.int .i64 i_.Page), .s (.int .u8 i_.Code), .s (.int .i64 i_.Entry.Op), .s (.int .i64 i_.Entry.Mode), .s (.int .i64 i_.Entry.Reg), .s (.int .u8 i_.Post), .s (.int .u16 i_.Value), .s (.int .i64 i_.Len)]⟩]) (by kernel_rfl) fun f1 hf1 => ?_
  refine k_c ?_
  refine k_seq ?_
  refine k_seq ?_
  refine k_reg ?_
  refine mops_end [1, 2, 4, 5, 15] hf1 (l' := [⟨1, [], .s (.int .u16 at_)⟩, ⟨2, [], .ptr 0 0 0⟩, ⟨4, [], .s (.int .u16 0)⟩, ⟨5, [], .s (.bool false)⟩, ⟨15, [], .s (.bool ((i_.Entry.Mode != 6) && (i_.Entry.Mode != 7)))⟩]) (L' := [⟨0, .mem, 1, [.s (.int .i64 i_.Page), .s (.int .u8 i_.Code), .s (.int .i64 i_.Entry.Op), .s (.int .i64 i_.Entry.Mode), .s (.int .i64 i_.Entry.Reg), .s (.int .u8 i_.Post), .s (.int .u16 i_.Value), .s (.int .i64 i_.Len)]⟩]) (by kernel_rfl) fun f2 hf2 => ?_
  refine k_c ?_
  refine k_cond hf2 (t := ((i_.Entry.Mode != 6) && (i_.Entry.Mode != 7))) (by kernel_rfl) (fun hc1 => ?_) (fun hc1 => ?_)
  · have h := if_t h hc1
    refine k_seq ?_
    refine k_reg ?_
    refine mops_end [1, 2, 4, 5] hf2 (l' := [⟨1, [], .s (.int .u16 at_)⟩, ⟨2, [], .ptr 0 0 0⟩, ⟨4, [], .s (.int .u16 0)⟩, ⟨5, [], .s (.bool false)⟩]) (L' := [⟨0, .mem, 1, [.s (.int .i64 i_.Page), .s (.int .u8 i_.Code), .s (.int .i64 i_.Entry.Op), .s (.int .i64 i_.Entry.Mode), .s (.int .i64 i_.Entry.Reg), .s (.int .u8 i_.Post), .s (.int .u16 i_.Value), .s (.int .i64 i_.Len)]⟩]) (by kernel_rfl) fun f3 hf3 => ?_
    refine k_c ?_
    refine k_ret ?_
    refine x_c nofun ?_
    obtain rfl := Option.some.inj h
    exact k_fin (fin_ret (.inl rfl) hf3 (vs := [.s (.int .u16 0), .s (.bool false)]) (by kernel_rfl) (SettL.pure (FzL.tup (FzsL.cons (FzL.stat rfl) (FzsL.cons (FzL.stat rfl) FzsL.nil)))))
  · have h := if_f h hc1
    refine k_skip ?_
    refine k_c ?_
    refine k_seq ?_
    refine k_regq ?_
    refine mops_seg [2, 4, 5, 16, 17] 2 hf2 (l' := [⟨2, [], .ptr 0 0 0⟩, ⟨4, [], .s (.int .u16 0)⟩, ⟨5, [], .s (.bool false)⟩, ⟨16, [], .agg [.s (.int .i64 i_.Page), .s (.int .u8 i_.Code), .s (.int .i64 i_.Entry.Op), .s (.int .i64 i_.Entry.Mode), .s (.int .i64 i_.Entry.Reg), .s (.int .u8 i_.Post), .s (.int .u16 i_.Value), .s (.int .i64 i_.Len)]⟩, ⟨17, [], .s (.int .u16 at_)⟩]) (L' := [⟨0, .mem, 1, [.s (.int .i64 i_.Page), .s (.int .u8 i_.Code), .s (.int .i64 i_.Entry.Op), .s (.int .i64 i_.Entry.Mode), .s (.int .i64 i_.Entry.Reg), .s (.int .u8 i_.Post), .s (.int .u16 i_.Value), .s (.int .i64 i_.Len)]⟩]) (by kernel_rfl) fun f3 hf3 => ?_
    obtain ⟨r_, hx_r_, h⟩ := Option.bind_eq_some_iff.1 h
    refine mops_call (dst := (some 18)) (m := 45) (args := [(.t 16), (.t 17)]) (aft := [0, 1]) (by kernel_rfl) hf3 (av := [.agg [.s (.int .i64 i_.Page), .s (.int .u8 i_.Code), .s (.int .i64 i_.Entry.Op), .s (.int .i64 i_.Entry.Mode), .s (.int .i64 i_.Entry.Reg), .s (.int .u8 i_.Post), .s (.int .u16 i_.Value), .s (.int .i64 i_.Len)], .s (.int .u16 at_)]) (by kernel_rfl) (v := .s (.int .u16 r_)) (L' := [⟨0, .mem, 1, [.s (.int .i64 i_.Page), .s (.int .u8 i_.Code), .s (.int .i64 i_.Entry.Op), .s (.int .i64 i_.Entry.Mode), .s (.int .i64 i_.Entry.Reg), .s (.int .u8 i_.Post), .s (.int .u16 i_.Value), .s (.int .i64 i_.Len)]⟩]) (CalL.pure (inst_Next_ok i_ at_ r_ hx_r_) rfl rfl (Nat.le_of_ble_eq_true (by kernel_rfl))) (fun _ => rfl) fun f4 hf4 => ?_
    refine mops_end [4, 5] hf4 (l' := [⟨4, [], .s (.int .u16 (IntKind.wrap .u16 (r_ + i_.Value)))⟩, ⟨5, [], .s (.bool true)⟩]) (L' := [⟨0, .mem, 1, [.s (.int .i64 i_.Page), .s (.int .u8 i_.Code), .s (.int .i64 i_.Entry.Op), .s (.int .i64 i_.Entry.Mode), .s (.int .i64 i_.Entry.Reg), .s (.int .u8 i_.Post), .s (.int .u16 i_.Value), .s (.int .i64 i_.Len)]⟩]) (by kernel_rfl) fun f5 hf5 => ?_
    refine k_c ?_
    refine k_ret ?_
    obtain rfl := Option.some.inj h
    exact k_fin (fin_ret (.inl rfl) hf5 (vs := [.s (.int .u16 (IntKind.wrap .u16 (r_ + i_.Value))), .s (.bool true)]) (by kernel_rfl) (SettL.pure (FzL.tup (FzsL.cons (FzL.stat rfl) (FzsL.cons (FzL.stat rfl) FzsL.nil)))))
def spinetref14_Of_i0 : List Op1 := [⟨(some 4), (.e (.zero [(.int .i64 0), (.int .i64 0), (.int .i64 0)])), none, []⟩]
def spinetref14_Of_i1 : List Op1 := [⟨(some 7), (.call 73 []), none, []⟩, ⟨(some 5), (.e (.mv (.t 7))), none, [0, 0, 0]⟩]
def spinetref14_Of_i2 : List Op1 := [⟨(some 6), (.e (.mv (.k (.int .i64 0)))), none, []⟩]
def spinetref14_Of_i3 : List Op1 := [⟨(some 8), (.e (.mv (.t 6))), none, []⟩, ⟨(some 9), (.e (.mv (.t 5))), none, []⟩, ⟨(some 10), (.e (.len (.t 9))), none, [1]⟩, ⟨(some 11), (.e (.bin .lss (.t 8) (.t 10))), none, [0, 2]⟩]
def spinetref14_Of_i4 : IR := (.cond (.t 11) .skip (.exit 0))
def spinetref14_Of_i5 : List Op1 := [⟨(some 14), (.e (.mv (.t 5))), none, []⟩, ⟨(some 15), (.e (.mv (.t 6))), none, []⟩, ⟨(some 16), (.e (.ias 5 (.t 14) (.t 15))), none, [0, 1]⟩, ⟨(some 17), (.e (.fld 0 (.t 16))), none, [2]⟩, ⟨(some 18), (.e (.load false 1 (.t 17))), none, [3]⟩, ⟨(some 19), (.e (.mv (.t 0))), none, []⟩, ⟨(some 20), (.e (.bin .eql (.t 18) (.t 19))), none, [4, 5]⟩, ⟨(some 21), (.e (.mv (.t 20))), none, [6]⟩, ⟨(some 22), (.e (.mv (.t 5))), (some (21, true)), [7]⟩, ⟨(some 23), (.e (.mv (.t 6))), (some (21, true)), [7]⟩, ⟨(some 24), (.e (.ias 5 (.t 22) (.t 23))), (some (21, true)), [8, 9, 7]⟩, ⟨(some 25), (.e (.fld 1 (.t 24))), (some (21, true)), [10, 7]⟩, ⟨(some 26), (.e (.load false 1 (.t 25))), (some (21, true)), [11, 7]⟩, ⟨(some 27), (.e (.mv (.t 1))), (some (21, true)), [7]⟩, ⟨(some 28), (.e (.bin .eql (.t 26) (.t 27))), (some (21, true)), [12, 13, 7]⟩, ⟨(some 29), (.e (.pick (.t 21) (.t 28) (.k (.bool false)))), none, [7, 14]⟩]
def spinetref14_Of_i6 : List Op1 := [⟨(some 30), (.e (.mv (.t 5))), none, []⟩, ⟨(some 31), (.e (.mv (.t 6))), none, []⟩, ⟨(some 32), (.e (.ias 5 (.t 30) (.t 31))), none, [0, 1]⟩, ⟨(some 33), (.e (.fld 2 (.t 32))), none, [2]⟩, ⟨(some 34), (.e (.load true 3 (.t 33))), none, [3]⟩, ⟨none, (.e (.store 3 (.t 4) (.t 34))), none, [4, 0, 1, 2, 3, 4]⟩]
def spinetref14_Of_i7 : IR := .ret
def spinetref14_Of_i8 : IR := (.cond (.t 29) (.seq (.reg false spinetref14_Of_i6) spinetref14_Of_i7) .skip)
def spinetref14_Of_i9 : List Op1 := [⟨(some 12), (.e (.mv (.t 6))), none, []⟩, ⟨(some 13), (.e (.bin .add (.t 12) (.k (.int .i64 1)))), none, [0]⟩, ⟨(some 6), (.e (.mv (.t 13))), none, [1, 0, 1]⟩]
def spinetref14_Of_i10 : IR := (.reg false spinetref14_Of_i9)
def spinetref14_Of_i11 : IR := (.seq (.block 1 (.seq (.reg false spinetref14_Of_i5) spinetref14_Of_i8)) spinetref14_Of_i10)
def spinetref14_Of_i12 : IR := (.seq (.seq (.reg false spinetref14_Of_i3) spinetref14_Of_i4) spinetref14_Of_i11)
def spinetref14_Of_i13 : IR := (.block 0 (.loop spinetref14_Of_i12))
def spinetref14_Of_i14 : List Op1 := [⟨(some 35), (.e (.build [(.int .i64 0), (.int .i64 0), (.int .i64 0)] [])), none, []⟩, ⟨none, (.e (.store 3 (.t 4) (.t 35))), none, [0, 0]⟩]
def spinetref14_Of_i15 : IR := .ret
def spinetref14_Of_i16 : IR := (.seq (.reg false spinetref14_Of_i14) spinetref14_Of_i15)
def spinetref14_Of_i17 : IR := (.seq (.seq (.reg false spinetref14_Of_i2) spinetref14_Of_i13) spinetref14_Of_i16)
def spinetref14_Of_i18 : IR := (.seq (.reg false spinetref14_Of_i1) spinetref14_Of_i17)
def spinetref14_Of_ir : IR := (.seq (.reg false spinetref14_Of_i0) spinetref14_Of_i18)
theorem spinetref14_Of_cfn : cFn Try.prog 42 = some (spinetref14_Of_ir, [(.c 4 true 3)], 36) := by kernel_rfl
def spinetref14_Of_V (r : (api_Entry)) : V := .agg [.s (.int .i64 r.Op), .s (.int .i64 r.Mode), .s (.int .i64 r.Reg)]
def spinetref14_Of_C (r : (api_Entry)) : X → Fr → Hp → Prop := FinL [(.c 4 true 3)] [] (spinetref14_Of_V r) []
theorem spinetref14_Of_ok (page_ : Int) (code_ : Int) (r : (api_Entry)) (h : spinetref14_Of page_ code_ = some r) : Pure Try.prog 42 [.s (.int .i64 page_), .s (.int .i64 code_)] (spinetref14_Of_V r) := by
  refine ConL.of spinetref14_Of_cfn (Nat.le_of_ble_eq_true (by kernel_rfl)) (Nat.le_of_ble_eq_true (by kernel_rfl)) ?_
  refine k_start ?_
  show dwv Try.prog [] spinetref14_Of_ir (kont Try.prog [] (spinetref14_Of_C r) []) (fr0 [.s (.int .i64 page_), .s (.int .i64 code_)]) []
  have hf : FOk (fr0 [.s (.int .i64 page_), .s (.int .i64 code_)]) [⟨0, [], .s (.int .i64 page_)⟩, ⟨1, [], .s (.int .i64 code_)⟩] := ⟨⟨fun _ => rfl, fun h => (h trivial).elim⟩, ⟨fun _ => rfl, fun h => (h trivial).elim⟩, trivial⟩
  generalize fr0 [.s (.int .i64 page_), .s (.int .i64 code_)] = f at hf ⊢
  unfold spinetref14_Of at h
  refine k_seq ?_
  refine k_reg ?_
  refine mops_end [0, 1, 4] hf (l' := [⟨0, [], .s (.int .i64 page_)⟩, ⟨1, [], .s (.int .i64 code_)⟩, ⟨4, [], .ptr 0 0 0⟩]) (L' := [⟨0, .mem, 1, [.s (.int .i64 0), .s (.int .i64 0), .s (.int .i64 0)]⟩]) (by kernel_rfl) fun f1 hf1 => ?_
  refine k_c ?_
  refine k_seq ?_
  refine k_reg ?_
  obtain ⟨r_, hx_r_, h⟩ := Option.bind_eq_some_iff.1 h
  refine mops_call (dst := (some 7)) (m := 73) (args := []) (aft := []) (by kernel_rfl) hf1 (av := []) (by kernel_rfl) (v := .sl false r_.length (cat spinetref14_Known.v r_)) (L' := [⟨0, .mem, 1, [.s (.int .i64 0), .s (.int .i64 0), .s (.int .i64 0)]⟩]) (CalL.pure (spinetref14_All_ok  r_ hx_r_) rfl (by simp [V.static, statics, cat_stat, spinetref14_All_V]) (Nat.le_of_ble_eq_true (by kernel_rfl))) (fun _ => rfl) fun f2 hf2 => ?_
  refine mops_end [0, 1, 4, 5] hf2 (l' := [⟨0, [], .s (.int .i64 page_)⟩, ⟨1, [], .s (.int .i64 code_)⟩, ⟨4, [], .ptr 0 0 0⟩, ⟨5, [], .sl false r_.length (cat spinetref14_Known.v r_)⟩]) (L' := [⟨0, .mem, 1, [.s (.int .i64 0), .s (.int .i64 0), .s (.int .i64 0)]⟩]) (by kernel_rfl) fun f3 hf3 => ?_
  refine k_c ?_
  refine k_seq ?_
  refine k_seq ?_
  refine k_reg ?_
  refine mops_end [0, 1, 4, 5, 6] hf3 (l' := [⟨0, [], .s (.int .i64 page_)⟩, ⟨1, [], .s (.int .i64 code_)⟩, ⟨4, [], .ptr 0 0 0⟩, ⟨5, [], .sl false r_.length (cat spinetref14_Known.v r_)⟩, ⟨6, [], .s (.int .i64 0)⟩]) (L' := [⟨0, .mem, 1, [.s (.int .i64 0), .s (.int .i64 0), .s (.int .i64 0)]⟩]) (by kernel_rfl) fun f4 hf4 => ?_
  refine k_c ?_
  refine k_block ?_
  obtain ⟨o0, hx0, h⟩ := Option.bind_eq_some_iff.1 h
  have hret0 : ∀ r0, .ret r0 = o0 → r0 = r := fun r0 e => by subst e; exact Option.some.inj h
  have hgo0 : .go () = o0 → ∀ f, FOk f [⟨4, [], .ptr 0 0 0⟩] → kont Try.prog [] (spinetref14_Of_C r) ((.c spinetref14_Of_i16) :: []) .normal f [⟨0, .mem, 1, [.s (.int .i64 0), .s (.int .i64 0), .s (.int .i64 0)]⟩] := by
    intro  e f hf
    subst e
    refine k_c ?_
    refine k_seq ?_
    refine k_reg ?_
    refine mops_end [4] hf (l' := [⟨4, [], .ptr 0 0 0⟩]) (L' := [⟨0, .mem, 1, [.s (.int .i64 0), .s (.int .i64 0), .s (.int .i64 0)]⟩]) (by kernel_rfl) fun f1 hf1 => ?_
    refine k_c ?_
    refine k_ret ?_
    obtain rfl := Option.some.inj h
    exact k_fin (fin_ret (.inl rfl) hf1 (vs := [.agg [.s (.int .i64 0), .s (.int .i64 0), .s (.int .i64 0)]]) (by kernel_rfl) (SettL.pure (FzL.stat rfl)))
  refine k_loop BIG ?_
  refine loop_ind (fun n f L => ∃ (i_1 : Int), spinetref14_Of_l0 page_ code_ r_ n i_1 = some o0 ∧ FOk f [⟨0, [], .s (.int .i64 page_)⟩, ⟨1, [], .s (.int .i64 code_)⟩, ⟨4, [], .ptr 0 0 0⟩, ⟨5, [], .sl false r_.length (cat spinetref14_Known.v r_)⟩, ⟨6, [], .s (.int .i64 i_1)⟩] ∧ L = [⟨0, .mem, 1, [.s (.int .i64 0), .s (.int .i64 0), .s (.int .i64 0)]⟩]) ?_ ?_ BIG _ _ ⟨(0), hx0, FOk_of [0, 1, 4, 5, 6] hf4 (by kernel_rfl), rfl⟩
  · rintro f L ⟨i_1, h, _⟩
    cases (show (none : Option _) = some _ from h)
  · rintro n0 R0 ih f L ⟨i_1, h, hf, rfl⟩
    rw [spinetref14_Of_l0] at h
    refine k_seq ?_
    refine k_seq ?_
    refine k_reg ?_
    refine mops_end [0, 1, 4, 5, 6, 8, 9, 10, 11] hf (l' := [⟨0, [], .s (.int .i64 page_)⟩, ⟨1, [], .s (.int .i64 code_)⟩, ⟨4, [], .ptr 0 0 0⟩, ⟨5, [], .sl false r_.length (cat spinetref14_Known.v r_)⟩, ⟨6, [], .s (.int .i64 i_1)⟩, ⟨8, [], .s (.int .i64 i_1)⟩, ⟨9, [], .sl false r_.length (cat spinetref14_Known.v r_)⟩, ⟨10, [], .s (.int .i64 (ln r_))⟩, ⟨11, [], .s (.bool (decide (i_1 < (ln r_))))⟩]) (L' := [⟨0, .mem, 1, [.s (.int .i64 0), .s (.int .i64 0), .s (.int .i64 0)]⟩]) (by kernel_rfl) fun f1 hf1 => ?_
    refine k_c ?_
    refine k_cond hf1 (t := (decide (i_1 < (ln r_)))) (by kernel_rfl) (fun hc1 => ?_) (fun hc1 => ?_)
    · have h := if_t h hc1
      refine k_skip ?_
      refine k_c ?_
      refine k_seq ?_
      refine k_block ?_
      refine k_seq ?_
      refine k_reg ?_
      refine mops_seg [0, 1, 4, 5, 6, 8, 9, 10, 11, 14, 15] 2 hf1 (l' := [⟨0, [], .s (.int .i64 page_)⟩, ⟨1, [], .s (.int .i64 code_)⟩, ⟨4, [], .ptr 0 0 0⟩, ⟨5, [], .sl false r_.length (cat spinetref14_Known.v r_)⟩, ⟨6, [], .s (.int .i64 i_1)⟩, ⟨8, [], .s (.int .i64 i_1)⟩, ⟨9, [], .sl false r_.length (cat spinetref14_Known.v r_)⟩, ⟨10, [], .s (.int .i64 (ln r_))⟩, ⟨11, [], .s (.bool (decide (i_1 < (ln r_))))⟩, ⟨14, [], .sl false r_.length (cat spinetref14_Known.v r_)⟩, ⟨15, [], .s (.int .i64 i_1)⟩]) (L' := [⟨0, .mem, 1, [.s (.int .i64 0), .s (.int .i64 0), .s (.int .i64 0)]⟩]) (by kernel_rfl) fun f2 hf2 => ?_
      obtain ⟨c2, h⟩ := as_ok h
      refine mops_adv (dst := (some 16)) (op := (.ias 5 (.t 14) (.t 15))) (aft := [0, 1]) (v := .ip ((cat spinetref14_Known.v r_).drop ((i_1 : Int).toNat * 5))) (by kernel_rfl) hf2 (by kernel_rfl) (e_ias (n := r_.length) (xv := .sl false r_.length (cat spinetref14_Known.v r_)) (k := .i64) (iv := i_1) (p := .ip ((cat spinetref14_Known.v r_).drop ((i_1 : Int).toNat * 5))) (by kernel_rfl) (by kernel_rfl) (by kernel_rfl) (by kernel_rfl) c2) fun f3 hf3 => ?_
      refine mops_seg [0, 1, 4, 5, 6, 8, 9, 10, 11, 14, 15, 16, 17] 1 hf3 (l' := [⟨0, [], .s (.int .i64 page_)⟩, ⟨1, [], .s (.int .i64 code_)⟩, ⟨4, [], .ptr 0 0 0⟩, ⟨5, [], .sl false r_.length (cat spinetref14_Known.v r_)⟩, ⟨6, [], .s (.int .i64 i_1)⟩, ⟨8, [], .s (.int .i64 i_1)⟩, ⟨9, [], .sl false r_.length (cat spinetref14_Known.v r_)⟩, ⟨10, [], .s (.int .i64 (ln r_))⟩, ⟨11, [], .s (.bool (decide (i_1 < (ln r_))))⟩, ⟨14, [], .sl false r_.length (cat spinetref14_Known.v r_)⟩, ⟨15, [], .s (.int .i64 i_1)⟩, ⟨16, [], .ip ((cat spinetref14_Known.v r_).drop ((i_1 : Int).toNat * 5))⟩, ⟨17, [], .ip (((cat spinetref14_Known.v r_).drop ((i_1 : Int).toNat * 5)).drop 0)⟩]) (L' := [⟨0, .mem, 1, [.s (.int .i64 0), .s (.int .i64 0), .s (.int .i64 0)]⟩]) (by kernel_rfl) fun f4 hf4 => ?_
      refine mops_adv (dst := (some 18)) (op := (.load false 1 (.t 17))) (aft := [3]) (v := .s (.int .i64 (gt r_ i_1).Page)) (by kernel_rfl) hf4 (by kernel_rfl) (e_load_ip (g := spinetref14_Known.v) (l := r_) (iv := i_1) [0] (by kernel_rfl) c2 (by kernel_rfl) (by kernel_rfl)) fun f5 hf5 => ?_
      refine mops_seg [0, 1, 4, 5, 6, 8, 9, 10, 11, 14, 15, 16, 17, 18, 19, 20, 21, 22, 23] 5 hf5 (l' := [⟨0, [], .s (.int .i64 page_)⟩, ⟨1, [], .s (.int .i64 code_)⟩, ⟨4, [], .ptr 0 0 0⟩, ⟨5, [], .sl false r_.length (cat spinetref14_Known.v r_)⟩, ⟨6, [], .s (.int .i64 i_1)⟩, ⟨8, [], .s (.int .i64 i_1)⟩, ⟨9, [], .sl false r_.length (cat spinetref14_Known.v r_)⟩, ⟨10, [], .s (.int .i64 (ln r_))⟩, ⟨11, [], .s (.bool (decide (i_1 < (ln r_))))⟩, ⟨14, [], .sl false r_.length (cat spinetref14_Known.v r_)⟩, ⟨15, [], .s (.int .i64 i_1)⟩, ⟨16, [], .ip ((cat spinetref14_Known.v r_).drop ((i_1 : Int).toNat * 5))⟩, ⟨17, [], .ip (((cat spinetref14_Known.v r_).drop ((i_1 : Int).toNat * 5)).drop 0)⟩, ⟨18, [], .s (.int .i64 (gt r_ i_1).Page)⟩, ⟨19, [], .s (.int .i64 page_)⟩, ⟨20, [], .s (.bool ((gt r_ i_1).Page == page_))⟩, ⟨21, [], .s (.bool ((gt r_ i_1).Page == page_))⟩, ⟨22, [(21, true)], .sl false r_.length (cat spinetref14_Known.v r_)⟩, ⟨23, [(21, true)], .s (.int .i64 i_1)⟩]) (L' := [⟨0, .mem, 1, [.s (.int .i64 0), .s (.int .i64 0), .s (.int .i64 0)]⟩]) (by kernel_rfl) fun f6 hf6 => ?_
      obtain ⟨c3, h⟩ := as_ok h
      refine mops_gadv (dst := (some 24)) (op := (.ias 5 (.t 22) (.t 23))) (aft := [8, 9, 7]) (t := 21) (w := true) (ch := [(21, true)]) (b := ((gt r_ i_1).Page == page_)) (v := .ip ((cat spinetref14_Known.v r_).drop ((i_1 : Int).toNat * 5))) (by kernel_rfl) hf6 (by kernel_rfl) (by kernel_rfl) (by kernel_rfl) (fun hb4 => e_ias (n := r_.length) (xv := .sl false r_.length (cat spinetref14_Known.v r_)) (k := .i64) (iv := i_1) (p := .ip ((cat spinetref14_Known.v r_).drop ((i_1 : Int).toNat * 5))) (by kernel_rfl) (by kernel_rfl) (by kernel_rfl) (by kernel_rfl) (c3 hb4)) fun f7 hf7 => ?_
      refine mops_seg [0, 1, 4, 5, 6, 8, 9, 10, 11, 14, 15, 16, 17, 18, 19, 20, 21, 22, 23, 24, 25] 1 hf7 (l' := [⟨0, [], .s (.int .i64 page_)⟩, ⟨1, [], .s (.int .i64 code_)⟩, ⟨4, [], .ptr 0 0 0⟩, ⟨5, [], .sl false r_.length (cat spinetref14_Known.v r_)⟩, ⟨6, [], .s (.int .i64 i_1)⟩, ⟨8, [], .s (.int .i64 i_1)⟩, ⟨9, [], .sl false r_.length (cat spinetref14_Known.v r_)⟩, ⟨10, [], .s (.int .i64 (ln r_))⟩, ⟨11, [], .s (.bool (decide (i_1 < (ln r_))))⟩, ⟨14, [], .sl false r_.length (cat spinetref14_Known.v r_)⟩, ⟨15, [], .s (.int .i64 i_1)⟩, ⟨16, [], .ip ((cat spinetref14_Known.v r_).drop ((i_1 : Int).toNat * 5))⟩, ⟨17, [], .ip (((cat spinetref14_Known.v r_).drop ((i_1 : Int).toNat * 5)).drop 0)⟩, ⟨18, [], .s (.int .i64 (gt r_ i_1).Page)⟩, ⟨19, [], .s (.int .i64 page_)⟩, ⟨20, [], .s (.bool ((gt r_ i_1).Page == page_))⟩, ⟨21, [], .s (.bool ((gt r_ i_1).Page == page_))⟩, ⟨22, [(21, true)], .sl false r_.length (cat spinetref14_Known.v r_)⟩, ⟨23, [(21, true)], .s (.int .i64 i_1)⟩, ⟨24, [(21, true)], .ip ((cat spinetref14_Known.v r_).drop ((i_1 : Int).toNat * 5))⟩, ⟨25, [(21, true)], .ip (((cat spinetref14_Known.v r_).drop ((i_1 : Int).toNat * 5)).drop 1)⟩]) (L' := [⟨0, .mem, 1, [.s (.int .i64 0), .s (.int .i64 0), .s (.int .i64 0)]⟩]) (by kernel_rfl) fun f8 hf8 => ?_
      refine mops_gadv (dst := (some 26)) (op := (.load false 1 (.t 25))) (aft := [11, 7]) (t := 21) (w := true) (ch := [(21, true)]) (b := ((gt r_ i_1).Page == page_)) (v := .s (.int .i64 (gt r_ i_1).Code)) (by kernel_rfl) hf8 (by kernel_rfl) (by kernel_rfl) (by kernel_rfl) (fun hb5 => e_load_ip (g := spinetref14_Known.v) (l := r_) (iv := i_1) [1] (by kernel_rfl) (c3 hb5) (by kernel_rfl) (by kernel_rfl)) fun f9 hf9 => ?_
      refine mops_end [0, 1, 4, 5, 6, 8, 9, 10, 11, 14, 15, 16, 17, 18, 19, 20, 21, 22, 23, 24, 25, 26, 27, 28, 29] hf9 (l' := [⟨0, [], .s (.int .i64 page_)⟩, ⟨1, [], .s (.int .i64 code_)⟩, ⟨4, [], .ptr 0 0 0⟩, ⟨5, [], .sl false r_.length (cat spinetref14_Known.v r_)⟩, ⟨6, [], .s (.int .i64 i_1)⟩, ⟨8, [], .s (.int .i64 i_1)⟩, ⟨9, [], .sl false r_.length (cat spinetref14_Known.v r_)⟩, ⟨10, [], .s (.int .i64 (ln r_))⟩, ⟨11, [], .s (.bool (decide (i_1 < (ln r_))))⟩, ⟨14, [], .sl false r_.length (cat spinetref14_Known.v r_)⟩, ⟨15, [], .s (.int .i64 i_1)⟩, ⟨16, [], .ip ((cat spinetref14_Known.v r_).drop ((i_1 : Int).toNat * 5))⟩, ⟨17, [], .ip (((cat spinetref14_Known.v r_).drop ((i_1 : Int).toNat * 5)).drop 0)⟩, ⟨18, [], .s (.int .i64 (gt r_ i_1).Page)⟩, ⟨19, [], .s (.int .i64 page_)⟩, ⟨20, [], .s (.bool ((gt r_ i_1).Page == page_))⟩, ⟨21, [], .s (.bool ((gt r_ i_1).Page == page_))⟩, ⟨22, [(21, true)], .sl false r_.length (cat spinetref14_Known.v r_)⟩, ⟨23, [(21, true)], .s (.int .i64 i_1)⟩, ⟨24, [(21, true)], .ip ((cat spinetref14_Known.v r_).drop ((i_1 : Int).toNat * 5))⟩, ⟨25, [(21, true)], .ip (((cat spinetref14_Known.v r_).drop ((i_1 : Int).toNat * 5)).drop 1)⟩, ⟨26, [(21, true)], .s (.int .i64 (gt r_ i_1).Code)⟩, ⟨27, [(21, true)], .s (.int .i64 code_)⟩, ⟨28, [(21, true)], .s (.bool ((gt r_ i_1).Code == code_))⟩, ⟨29, [], .s (.bool (((gt r_ i_1).Page == page_) && ((gt r_ i_1).Code == code_)))⟩]) (L' := [⟨0, .mem, 1, [.s (.int .i64 0), .s (.int .i64 0), .s (.int .i64 0)]⟩]) (by kernel_rfl) fun f10 hf10 => ?_
      refine k_c ?_
      refine k_cond hf10 (t := (((gt r_ i_1).Page == page_) && ((gt r_ i_1).Code == code_))) (by kernel_rfl) (fun hc6 => ?_) (fun hc6 => ?_)
      · have h := if_t h hc6
        refine k_seq ?_
        refine k_reg ?_
        refine mops_seg [0, 1, 4, 5, 6, 8, 9, 10, 11, 14, 15, 16, 17, 18, 19, 20, 21, 22, 23, 24, 25, 26, 27, 28, 29, 30, 31] 2 hf10 (l' := [⟨0, [], .s (.int .i64 page_)⟩, ⟨1, [], .s (.int .i64 code_)⟩, ⟨4, [], .ptr 0 0 0⟩, ⟨5, [], .sl false r_.length (cat spinetref14_Known.v r_)⟩, ⟨6, [], .s (.int .i64 i_1)⟩, ⟨8, [], .s (.int .i64 i_1)⟩, ⟨9, [], .sl false r_.length (cat spinetref14_Known.v r_)⟩, ⟨10, [], .s (.int .i64 (ln r_))⟩, ⟨11, [], .s (.bool (decide (i_1 < (ln r_))))⟩, ⟨14, [], .sl false r_.length (cat spinetref14_Known.v r_)⟩, ⟨15, [], .s (.int .i64 i_1)⟩, ⟨16, [], .ip ((cat spinetref14_Known.v r_).drop ((i_1 : Int).toNat * 5))⟩, ⟨17, [], .ip (((cat spinetref14_Known.v r_).drop ((i_1 : Int).toNat * 5)).drop 0)⟩, ⟨18, [], .s (.int .i64 (gt r_ i_1).Page)⟩, ⟨19, [], .s (.int .i64 page_)⟩, ⟨20, [], .s (.bool ((gt r_ i_1).Page == page_))⟩, ⟨21, [], .s (.bool ((gt r_ i_1).Page == page_))⟩, ⟨22, [(21, true)], .sl false r_.length (cat spinetref14_Known.v r_)⟩, ⟨23, [(21, true)], .s (.int .i64 i_1)⟩, ⟨24, [(21, true)], .ip ((cat spinetref14_Known.v r_).drop ((i_1 : Int).toNat * 5))⟩, ⟨25, [(21, true)], .ip (((cat spinetref14_Known.v r_).drop ((i_1 : Int).toNat * 5)).drop 1)⟩, ⟨26, [(21, true)], .s (.int .i64 (gt r_ i_1).Code)⟩, ⟨27, [(21, true)], .s (.int .i64 code_)⟩, ⟨28, [(21, true)], .s (.bool ((gt r_ i_1).Code == code_))⟩, ⟨29, [], .s (.bool (((gt r_ i_1).Page == page_) && ((gt r_ i_1).Code == code_)))⟩, ⟨30, [], .sl false r_.length (cat spinetref14_Known.v r_)⟩, ⟨31, [], .s (.int .i64 i_1)⟩]) (L' := [⟨0, .mem, 1, [.s (.int .i64 0), .s (.int .i64 0), .s (.int .i64 0)]⟩]) (by kernel_rfl) fun f11 hf11 => ?_
        obtain ⟨c7, h⟩ := as_ok h
        refine mops_adv (dst := (some 32)) (op := (.ias 5 (.t 30) (.t 31))) (aft := [0, 1]) (v := .ip ((cat spinetref14_Known.v r_).drop ((i_1 : Int).toNat * 5))) (by kernel_rfl) hf11 (by kernel_rfl) (e_ias (n := r_.length) (xv := .sl false r_.length (cat spinetref14_Known.v r_)) (k := .i64) (iv := i_1) (p := .ip ((cat spinetref14_Known.v r_).drop ((i_1 : Int).toNat * 5))) (by kernel_rfl) (by kernel_rfl) (by kernel_rfl) (by kernel_rfl) c7) fun f12 hf12 => ?_
        refine mops_seg [0, 1, 4, 5, 6, 8, 9, 10, 11, 14, 15, 16, 17, 18, 19, 20, 21, 22, 23, 24, 25, 26, 27, 28, 29, 30, 31, 32, 33] 1 hf12 (l' := [⟨0, [], .s (.int .i64 page_)⟩, ⟨1, [], .s (.int .i64 code_)⟩, ⟨4, [], .ptr 0 0 0⟩, ⟨5, [], .sl false r_.length (cat spinetref14_Known.v r_)⟩, ⟨6, [], .s (.int .i64 i_1)⟩, ⟨8, [], .s (.int .i64 i_1)⟩, ⟨9, [], .sl false r_.length (cat spinetref14_Known.v r_)⟩, ⟨10, [], .s (.int .i64 (ln r_))⟩, ⟨11, [], .s (.bool (decide (i_1 < (ln r_))))⟩, ⟨14, [], .sl false r_.length (cat spinetref14_Known.v r_)⟩, ⟨15, [], .s (.int .i64 i_1)⟩, ⟨16, [], .ip ((cat spinetref14_Known.v r_).drop ((i_1 : Int).toNat * 5))⟩, ⟨17, [], .ip (((cat spinetref14_Known.v r_).drop ((i_1 : Int).toNat * 5)).drop 0)⟩, ⟨18, [], .s (.int .i64 (gt r_ i_1).Page)⟩, ⟨19, [], .s (.int .i64 page_)⟩, ⟨20, [], .s (.bool ((gt r_ i_1).Page == page_))⟩, ⟨21, [], .s (.bool ((gt r_ i_1).Page == page_))⟩, ⟨22, [(21, true)], .sl false r_.length (cat spinetref14_Known.v r_)⟩, ⟨23, [(21, true)], .s (.int .i64 i_1)⟩, ⟨24, [(21, true)], .ip ((cat spinetref14_Known.v r_).drop ((i_1 : Int).toNat * 5))⟩, ⟨25, [(21, true)], .ip (((cat spinetref14_Known.v r_).drop ((i_1 : Int).toNat * 5)).drop 1)⟩, ⟨26, [(21, true)], .s (.int .i64 (gt r_ i_1).Code)⟩, ⟨27, [(21, true)], .s (.int .i64 code_)⟩, ⟨28, [(21, true)], .s (.bool ((gt r_ i_1).Code == code_))⟩, ⟨29, [], .s (.bool (((gt r_ i_1).Page == page_) && ((gt r_ i_1).Code == code_)))⟩, ⟨30, [], .sl false r_.length (cat spinetref14_Known.v r_)⟩, ⟨31, [], .s (.int .i64 i_1)⟩, ⟨32, [], .ip ((cat spinetref14_Known.v r_).drop ((i_1 : Int).toNat * 5))⟩, ⟨33, [], .ip (((cat spinetref14_Known.v r_).drop ((i_1 : Int).toNat * 5)).drop 2)⟩]) (L' := [⟨0, .mem, 1, [.s (.int .i64 0), .s (.int .i64 0), .s (.int .i64 0)]⟩]) (by kernel_rfl) fun f13 hf13 => ?_
        refine mops_adv (dst := (some 34)) (op := (.load true 3 (.t 33))) (aft := [3]) (v := .agg [.s (.int .i64 ((gt r_ i_1).Entry).Op), .s (.int .i64 ((gt r_ i_1).Entry).Mode), .s (.int .i64 ((gt r_ i_1).Entry).Reg)]) (by kernel_rfl) hf13 (by kernel_rfl) (e_load_ip (g := spinetref14_Known.v) (l := r_) (iv := i_1) [2] (by kernel_rfl) c7 (by kernel_rfl) (by kernel_rfl)) fun f14 hf14 => ?_
        refine mops_end [0, 1, 4, 5, 6, 8, 9, 10, 11, 14, 15, 16, 17, 18, 19, 20, 21, 22, 23, 24, 25, 26, 27, 28, 29, 30, 31, 32, 33, 34] hf14 (l' := [⟨0, [], .s (.int .i64 page_)⟩, ⟨1, [], .s (.int .i64 code_)⟩, ⟨4, [], .ptr 0 0 0⟩, ⟨5, [], .sl false r_.length (cat spinetref14_Known.v r_)⟩, ⟨6, [], .s (.int .i64 i_1)⟩, ⟨8, [], .s (.int .i64 i_1)⟩, ⟨9, [], .sl false r_.length (cat spinetref14_Known.v r_)⟩, ⟨10, [], .s (.int .i64 (ln r_))⟩, ⟨11, [], .s (.bool (decide (i_1 < (ln r_))))⟩, ⟨14, [], .sl false r_.length (cat spinetref14_Known.v r_)⟩, ⟨15, [], .s (.int .i64 i_1)⟩, ⟨16, [], .ip ((cat spinetref14_Known.v r_).drop ((i_1 : Int).toNat * 5))⟩, ⟨17, [], .ip (((cat spinetref14_Known.v r_).drop ((i_1 : Int).toNat * 5)).drop 0)⟩, ⟨18, [], .s (.int .i64 (gt r_ i_1).Page)⟩, ⟨19, [], .s (.int .i64 page_)⟩, ⟨20, [], .s (.bool ((gt r_ i_1).Page == page_))⟩, ⟨21, [], .s (.bool ((gt r_ i_1).Page == page_))⟩, ⟨22, [(21, true)], .sl false r_.length (cat spinetref14_Known.v r_)⟩, ⟨23, [(21, true)], .s (.int .i64 i_1)⟩, ⟨24, [(21, true)], .ip ((cat spinetref14_Known.v r_).drop ((i_1 : Int).toNat * 5))⟩, ⟨25, [(21, true)], .ip (((cat spinetref14_Known.v r_).drop ((i_1 : Int).toNat * 5)).drop 1)⟩, ⟨26, [(21, true)], .s (.int .i64 (gt r_ i_1).Code)⟩, ⟨27, [(21, true)], .s (.int .i64 code_)⟩, ⟨28, [(21, true)], .s (.bool ((gt r_ i_1).Code == code_))⟩, ⟨29, [], .s (.bool (((gt r_ i_1).Page == page_) && ((gt r_ i_1).Code == code_)))⟩, ⟨30, [], .sl false r_.length (cat spinetref14_Known.v r_)⟩, ⟨31, [], .s (.int .i64 i_1)⟩, ⟨32, [], .ip ((cat spinetref14_Known.v r_).drop ((i_1 : Int).toNat * 5))⟩, ⟨33, [], .ip (((cat spinetref14_Known.v r_).drop ((i_1 : Int).toNat * 5)).drop 2)⟩, ⟨34, [], .agg [.s (.int .i64 ((gt r_ i_1).Entry).Op), .s (.int .i64 ((gt r_ i_1).Entry).Mode), .s (.int .i64 ((gt r_ i_1).Entry).Reg)]⟩]) (L' := [⟨0, .mem, 1, [.s (.int .i64 ((gt r_ i_1).Entry).Op), .s (.int .i64 ((gt r_ i_1).Entry).Mode), .s (.int .i64 ((gt r_ i_1).Entry).Reg)]⟩]) (by kernel_rfl) fun f15 hf15 => ?_
        refine k_c ?_
        refine k_ret ?_
        refine x_br ?_
        refine x_c nofun ?_
        refine x_l nofun ?_
        refine x_br ?_
        refine x_c nofun ?_
        obtain rfl := hret0 _ (Option.some.inj h)
        exact k_fin (fin_ret (.inl rfl) hf15 (vs := [.agg [.s (.int .i64 ((gt r_ i_1).Entry).Op), .s (.int .i64 ((gt r_ i_1).Entry).Mode), .s (.int .i64 ((gt r_ i_1).Entry).Reg)]]) (by kernel_rfl) (SettL.pure (FzL.stat rfl)))
      · have h := if_f h hc6
        refine k_skip ?_
        refine k_b ?_
        refine k_c ?_
        refine k_reg ?_
        refine mops_end [0, 1, 4, 5, 6, 8, 9, 10, 11, 12, 13, 14, 15, 16, 17, 18, 19, 20, 21, 22, 23, 24, 25, 26, 27, 28, 29] hf10 (l' := [⟨0, [], .s (.int .i64 page_)⟩, ⟨1, [], .s (.int .i64 code_)⟩, ⟨4, [], .ptr 0 0 0⟩, ⟨5, [], .sl false r_.length (cat spinetref14_Known.v r_)⟩, ⟨6, [], .s (.int .i64 (IntKind.wrap .i64 (i_1 + 1)))⟩, ⟨8, [], .s (.int .i64 i_1)⟩, ⟨9, [], .sl false r_.length (cat spinetref14_Known.v r_)⟩, ⟨10, [], .s (.int .i64 (ln r_))⟩, ⟨11, [], .s (.bool (decide (i_1 < (ln r_))))⟩, ⟨12, [], .s (.int .i64 i_1)⟩, ⟨13, [], .s (.int .i64 (IntKind.wrap .i64 (i_1 + 1)))⟩, ⟨14, [], .sl false r_.length (cat spinetref14_Known.v r_)⟩, ⟨15, [], .s (.int .i64 i_1)⟩, ⟨16, [], .ip ((cat spinetref14_Known.v r_).drop ((i_1 : Int).toNat * 5))⟩, ⟨17, [], .ip (((cat spinetref14_Known.v r_).drop ((i_1 : Int).toNat * 5)).drop 0)⟩, ⟨18, [], .s (.int .i64 (gt r_ i_1).Page)⟩, ⟨19, [], .s (.int .i64 page_)⟩, ⟨20, [], .s (.bool ((gt r_ i_1).Page == page_))⟩, ⟨21, [], .s (.bool ((gt r_ i_1).Page == page_))⟩, ⟨22, [(21, true)], .sl false r_.length (cat spinetref14_Known.v r_)⟩, ⟨23, [(21, true)], .s (.int .i64 i_1)⟩, ⟨24, [(21, true)], .ip ((cat spinetref14_Known.v r_).drop ((i_1 : Int).toNat * 5))⟩, ⟨25, [(21, true)], .ip (((cat spinetref14_Known.v r_).drop ((i_1 : Int).toNat * 5)).drop 1)⟩, ⟨26, [(21, true)], .s (.int .i64 (gt r_ i_1).Code)⟩, ⟨27, [(21, true)], .s (.int .i64 code_)⟩, ⟨28, [(21, true)], .s (.bool ((gt r_ i_1).Code == code_))⟩, ⟨29, [], .s (.bool (((gt r_ i_1).Page == page_) && ((gt r_ i_1).Code == code_)))⟩]) (L' := [⟨0, .mem, 1, [.s (.int .i64 0), .s (.int .i64 0), .s (.int .i64 0)]⟩]) (by kernel_rfl) fun f11 hf11 => ?_
        refine k_l ?_
        exact ih _ _ ⟨(IntKind.wrap .i64 (i_1 + 1)), h, FOk_of [0, 1, 4, 5, 6] hf11 (by kernel_rfl), rfl⟩
    · have h := if_f h hc1
      refine k_exit ?_
      refine x_c nofun ?_
      refine x_l nofun ?_
      refine x_b ?_
      exact hgo0  (Option.some.inj h) _ (FOk_of [4] hf1 (by kernel_rfl))
def flow_Next_i0 : List Op1 := [⟨(some 2), (.e (.box (.t 0))), none, []⟩, ⟨(some 4), (.e (.nilg 1)), none, []⟩, ⟨(some 5), (.e (.mv (.k (.bool false)))), none, [1]⟩]
def flow_Next_i1 : List Op1 := [⟨(some 10), (.e (.load true 8 (.t 2))), none, []⟩, ⟨(some 11), (.e (.mv (.t 1))), none, []⟩, ⟨(some 12), (.call 45 [(.t 10), (.t 11)]), none, [0, 1]⟩, ⟨(some 6), (.e (.mv (.t 12))), none, [2, 2, 0, 1, 2]⟩]
def flow_Next_i2 : List Op1 := [⟨(some 14), (.e (.load true 8 (.t 2))), none, []⟩, ⟨(some 15), (.e (.mv (.t 1))), none, []⟩, ⟨(some 16), (.call 46 [(.t 14), (.t 15)]), none, [0, 1]⟩, ⟨(some 13), (.e (.mv (.t 16))), none, [2]⟩, ⟨(some 17), (.e (.ext 0 (.t 13))), none, [3]⟩, ⟨(some 18), (.e (.ext 1 (.t 13))), none, [3]⟩, ⟨(some 7), (.e (.mv (.t 17))), none, [4, 2, 0, 1, 2, 3, 4]⟩, ⟨(some 8), (.e (.mv (.t 18))), none, [5, 6, 0, 1, 2, 3, 4, 5, 6]⟩]
def flow_Next_i3 : List Op1 := [⟨(some 19), (.e (.fld 2 (.t 2))), none, []⟩, ⟨(some 20), (.e (.load true 3 (.t 19))), none, [0]⟩, ⟨(some 9), (.e (.zero [(.int .i64 0), (.int .i64 0), (.int .i64 0)])), none, []⟩, ⟨none, (.e (.store 3 (.t 9) (.t 20))), none, [2, 1, 0, 1, 2]⟩]
def flow_Next_i4 : List Op1 := [⟨(some 22), (.e (.fld 0 (.t 9))), none, []⟩, ⟨(some 23), (.e (.load false 1 (.t 22))), none, [0]⟩, ⟨(some 24), (.e (.bin .eql (.t 23) (.k (.int .i64 36)))), none, [1]⟩, ⟨(some 25), (.e (.mv (.t 24))), none, [2]⟩, ⟨(some 26), (.e (.fld 0 (.t 9))), (some (25, false)), [3]⟩, ⟨(some 27), (.e (.load false 1 (.t 26))), (some (25, false)), [4, 3]⟩, ⟨(some 28), (.e (.bin .eql (.t 27) (.k (.int .i64 34)))), (some (25, false)), [5, 3]⟩, ⟨(some 29), (.e (.mv (.t 28))), (some (25, false)), [6, 3, 3]⟩, ⟨(some 30), (.e (.fld 2 (.t 9))), (some (29, true)), [7]⟩, ⟨(some 31), (.e (.load false 1 (.t 30))), (some (29, true)), [8, 7]⟩, ⟨(some 32), (.e (.bin .eql (.t 31) (.k (.int .i64 0)))), (some (29, true)), [9, 7]⟩, ⟨(some 33), (.e (.pick (.t 29) (.t 32) (.k (.bool false)))), (some (25, false)), [7, 10, 3]⟩, ⟨(some 34), (.e (.pick (.t 25) (.k (.bool true)) (.t 33))), none, [3, 11]⟩, ⟨(some 21), (.e (.mv (.t 34))), none, [12, 7]⟩]
def flow_Next_i5 : List Op1 := [⟨(some 35), (.e (.mv (.t 7))), none, []⟩, ⟨(some 36), (.e (.bslo 1 1 [(.int .u16 0)] [(0, (1, (.t 35)))])), none, [0]⟩, ⟨(some 4), (.e (.mv (.t 36))), none, [1, 0, 1]⟩, ⟨(some 5), (.e (.mv (.k (.bool true)))), none, [2, 0, 1, 2]⟩]
def flow_Next_i6 : IR := .ret
def flow_Next_i7 : List Op1 := [⟨(some 38), (.e (.fld 0 (.t 9))), none, []⟩, ⟨(some 39), (.e (.load false 1 (.t 38))), none, [0]⟩, ⟨(some 40), (.e (.bin .eql (.t 39) (.k (.int .i64 34)))), none, [1]⟩, ⟨(some 41), (.e (.mv (.t 40))), none, [2]⟩, ⟨(some 42), (.e (.fld 0 (.t 9))), (some (41, false)), [3]⟩, ⟨(some 43), (.e (.load false 1 (.t 42))), (some (41, false)), [4, 3]⟩, ⟨(some 44), (.e (.bin .eql (.t 43) (.k (.int .i64 35)))), (some (41, false)), [5, 3]⟩, ⟨(some 45), (.e (.pick (.t 41) (.k (.bool true)) (.t 44))), none, [3, 6]⟩, ⟨(some 46), (.e (.mv (.t 45))), none, [7, 3]⟩, ⟨(some 47), (.e (.fld 2 (.t 9))), (some (46, true)), [8]⟩, ⟨(some 48), (.e (.load false 1 (.t 47))), (some (46, true)), [9, 8]⟩, ⟨(some 49), (.e (.bin .eql (.t 48) (.k (.int .i64 1)))), (some (46, true)), [10, 8]⟩, ⟨(some 50), (.e (.pick (.t 46) (.t 49) (.k (.bool false)))), none, [8, 11]⟩, ⟨(some 37), (.e (.mv (.t 50))), none, [12, 8]⟩]
def flow_Next_i8 : List Op1 := [⟨(some 51), (.e (.mv (.t 6))), none, []⟩, ⟨(some 52), (.e (.bslo 1 1 [(.int .u16 0)] [(0, (1, (.t 51)))])), none, [0]⟩, ⟨(some 4), (.e (.mv (.t 52))), none, [1, 0, 1]⟩, ⟨(some 5), (.e (.mv (.k (.bool true)))), none, [2, 0, 1, 2]⟩]
def flow_Next_i9 : IR := .ret
def flow_Next_i10 : List Op1 := [⟨(some 54), (.e (.mv (.t 8))), none, []⟩, ⟨(some 53), (.e (.mv (.t 54))), none, [0]⟩]
def flow_Next_i11 : List Op1 := [⟨(some 55), (.e (.mv (.t 7))), none, []⟩, ⟨(some 56), (.e (.mv (.t 6))), none, []⟩, ⟨(some 57), (.e (.bslo 1 2 [(.int .u16 0), (.int .u16 0)] [(0, (1, (.t 55))), (1, (1, (.t 56)))])), none, [0, 1]⟩, ⟨(some 4), (.e (.mv (.t 57))), none, [2, 0, 1, 2]⟩, ⟨(some 5), (.e (.mv (.k (.bool true)))), none, [3, 0, 1, 2, 3]⟩]
def flow_Next_i12 : IR := .ret
def flow_Next_i13 : List Op1 := [⟨(some 59), (.e (.fld 0 (.t 9))), none, []⟩, ⟨(some 60), (.e (.load false 1 (.t 59))), none, [0]⟩, ⟨(some 61), (.e (.bin .eql (.t 60) (.k (.int .i64 32)))), none, [1]⟩, ⟨(some 62), (.e (.mv (.t 61))), none, [2]⟩, ⟨(some 63), (.e (.fld 1 (.t 9))), (some (62, true)), [3]⟩, ⟨(some 64), (.e (.load false 1 (.t 63))), (some (62, true)), [4, 3]⟩, ⟨(some 65), (.e (.bin .eql (.t 64) (.k (.int .i64 5)))), (some (62, true)), [5, 3]⟩, ⟨(some 66), (.e (.pick (.t 62) (.t 65) (.k (.bool false)))), none, [3, 6]⟩, ⟨(some 58), (.e (.mv (.t 66))), none, [7, 3]⟩]
def flow_Next_i14 : List Op1 := [⟨(some 67), (.e (.fld 6 (.t 2))), none, []⟩, ⟨(some 68), (.e (.load false 1 (.t 67))), none, [0]⟩, ⟨(some 69), (.e (.bslo 1 1 [(.int .u16 0)] [(0, (1, (.t 68)))])), none, [1]⟩, ⟨(some 4), (.e (.mv (.t 69))), none, [2, 0, 1, 2]⟩, ⟨(some 5), (.e (.mv (.k (.bool true)))), none, [3, 0, 1, 2, 3]⟩]
def flow_Next_i15 : IR := .ret
def flow_Next_i16 : List Op1 := [⟨(some 71), (.e (.fld 0 (.t 9))), none, []⟩, ⟨(some 72), (.e (.load false 1 (.t 71))), none, [0]⟩, ⟨(some 73), (.e (.bin .eql (.t 72) (.k (.int .i64 33)))), none, [1]⟩, ⟨(some 74), (.e (.mv (.t 73))), none, [2]⟩, ⟨(some 75), (.e (.fld 1 (.t 9))), (some (74, true)), [3]⟩, ⟨(some 76), (.e (.load false 1 (.t 75))), (some (74, true)), [4, 3]⟩, ⟨(some 77), (.e (.bin .eql (.t 76) (.k (.int .i64 5)))), (some (74, true)), [5, 3]⟩, ⟨(some 78), (.e (.pick (.t 74) (.t 77) (.k (.bool false)))), none, [3, 6]⟩, ⟨(some 70), (.e (.mv (.t 78))), none, [7, 3]⟩]
def flow_Next_i17 : List Op1 := [⟨(some 79), (.e (.fld 6 (.t 2))), none, []⟩, ⟨(some 80), (.e (.load false 1 (.t 79))), none, [0]⟩, ⟨(some 81), (.e (.mv (.t 6))), none, []⟩, ⟨(some 82), (.e (.bslo 1 2 [(.int .u16 0), (.int .u16 0)] [(0, (1, (.t 80))), (1, (1, (.t 81)))])), none, [1, 2]⟩, ⟨(some 4), (.e (.mv (.t 82))), none, [3, 0, 1, 2, 3]⟩, ⟨(some 5), (.e (.mv (.k (.bool true)))), none, [4, 0, 1, 2, 3, 4]⟩]
def flow_Next_i18 : IR := .ret
def flow_Next_i19 : List Op1 := [⟨(some 84), (.e (.fld 0 (.t 9))), none, []⟩, ⟨(some 85), (.e (.load false 1 (.t 84))), none, [0]⟩, ⟨(some 86), (.e (.bin .eql (.t 85) (.k (.int .i64 33)))), none, [1]⟩, ⟨(some 87), (.e (.mv (.t 86))), none, [2]⟩, ⟨(some 88), (.e (.fld 0 (.t 9))), (some (87, false)), [3]⟩, ⟨(some 89), (.e (.load false 1 (.t 88))), (some (87, false)), [4, 3]⟩, ⟨(some 90), (.e (.bin .eql (.t 89) (.k (.int .i64 51)))), (some (87, false)), [5, 3]⟩, ⟨(some 91), (.e (.pick (.t 87) (.k (.bool true)) (.t 90))), none, [3, 6]⟩, ⟨(some 83), (.e (.mv (.t 91))), none, [7, 3]⟩]
def flow_Next_i20 : List Op1 := [⟨(some 92), (.e (.mv (.t 6))), none, []⟩, ⟨(some 93), (.e (.bslo 1 1 [(.int .u16 0)] [(0, (1, (.t 92)))])), none, [0]⟩, ⟨(some 4), (.e (.mv (.t 93))), none, [1, 0, 1]⟩, ⟨(some 5), (.e (.mv (.k (.bool false)))), none, [2, 0, 1, 2]⟩]
def flow_Next_i21 : IR := .ret
def flow_Next_i22 : List Op1 := [⟨(some 95), (.e (.load true 8 (.t 2))), none, []⟩, ⟨(some 96), (.call 47 [(.t 95)]), none, [0]⟩, ⟨(some 94), (.e (.mv (.t 96))), none, [1, 1]⟩]
def flow_Next_i23 : List Op1 := [⟨(some 4), (.e (.nilg 1)), none, []⟩, ⟨(some 5), (.e (.mv (.k (.bool false)))), none, [0, 0]⟩]
def flow_Next_i24 : IR := .ret
def flow_Next_i25 : IR := (.cond (.t 94) (.seq (.reg false flow_Next_i23) flow_Next_i24) .skip)
def flow_Next_i26 : IR := (.cond (.t 83) (.seq (.reg false flow_Next_i20) flow_Next_i21) (.seq (.reg false flow_Next_i22) flow_Next_i25))
def flow_Next_i27 : IR := (.cond (.t 70) (.seq (.reg false flow_Next_i17) flow_Next_i18) (.seq (.reg false flow_Next_i19) flow_Next_i26))
def flow_Next_i28 : IR := (.cond (.t 58) (.seq (.reg false flow_Next_i14) flow_Next_i15) (.seq (.reg false flow_Next_i16) flow_Next_i27))
def flow_Next_i29 : IR := (.cond (.t 53) (.seq (.reg false flow_Next_i11) flow_Next_i12) (.seq (.reg false flow_Next_i13) flow_Next_i28))
def flow_Next_i30 : IR := (.cond (.t 37) (.seq (.reg false flow_Next_i8) flow_Next_i9) (.seq (.reg false flow_Next_i10) flow_Next_i29))
def flow_Next_i31 : IR := (.cond (.t 21) (.seq (.reg false flow_Next_i5) flow_Next_i6) (.seq (.reg false flow_Next_i7) flow_Next_i30))
def flow_Next_i32 : List Op1 := [⟨(some 97), (.e (.mv (.t 6))), none, []⟩, ⟨(some 98), (.e (.bslo 1 1 [(.int .u16 0)] [(0, (1, (.t 97)))])), none, [0]⟩, ⟨(some 4), (.e (.mv (.t 98))), none, [1, 0, 1]⟩, ⟨(some 5), (.e (.mv (.k (.bool true)))), none, [2, 0, 1, 2]⟩]
def flow_Next_i33 : IR := .ret
def flow_Next_i34 : IR := (.seq (.reg false flow_Next_i32) flow_Next_i33)
def flow_Next_i35 : IR := (.seq (.block 0 (.seq (.reg false flow_Next_i4) flow_Next_i31)) flow_Next_i34)
def flow_Next_i36 : IR := (.seq (.reg false flow_Next_i3) flow_Next_i35)
def flow_Next_i37 : IR := (.seq (.reg false flow_Next_i2) flow_Next_i36)
def flow_Next_i38 : IR := (.seq (.reg false flow_Next_i1) flow_Next_i37)
def flow_Next_ir : IR := (.seq (.reg false flow_Next_i0) flow_Next_i38)
theorem flow_Next_cfn : cFn Try.prog 16 = some (flow_Next_ir, [(.t 4), (.t 5)], 99) := by kernel_rfl
def flow_Next_V (r : ((List Int) × Bool)) : V := .tup [.sl false r.1.length (cat (nI .u16) r.1), .s (.bool r.2)]
def flow_Next_C (r : ((List Int) × Bool)) : X → Fr → Hp → Prop := FinL [(.t 4), (.t 5)] [] (flow_Next_V r) []
theorem flow_Next_ok (i_ : api_Inst) (at_ : Int) (r : ((List Int) × Bool)) (h : flow_Next i_ at_ = some r) : Pure Try.prog 16 [.agg [.s (.int .i64 i_.Page), .s (.int .u8 i_.Code), .s (.int .i64 i_.Entry.Op), .s (.int .i64 i_.Entry.Mode), .s (.int .i64 i_.Entry.Reg), .s (.int .u8 i_.Post), .s (.int .u16 i_.Value), .s (.int .i64 i_.Len)], .s (.int .u16 at_)] (flow_Next_V r) := by
  refine ConL.of flow_Next_cfn (Nat.le_of_ble_eq_true (by kernel_rfl)) (Nat.le_of_ble_eq_true (by kernel_rfl)) ?_
  refine k_start ?_
  show dwv Try.prog [] flow_Next_ir (kont Try.prog [] (flow_Next_C r) []) (fr0 [.agg [.s (.int .i64 i_.Page), .s (.int .u8 i_.Code), .s (.int .i64 i_.Entry.Op), .s (.int .i64 i_.Entry.Mode), .s (.int .i64 i_.Entry.Reg), .s (.int .u8 i_.Post), .s (.int .u16 i_.Value), .s (.int .i64 i_.Len)], .s (.int .u16 at_)]) []
  have hf : FOk (fr0 [.agg [.s (.int .i64 i_.Page), .s (.int .u8 i_.Code), .s (.int .i64 i_.Entry.Op), .s (.int .i64 i_.Entry.Mode), .s (.int .i64 i_.Entry.Reg), .s (.int .u8 i_.Post), .s (.int .u16 i_.Value), .s (.int .i64 i_.Len)], .s (.int .u16 at_)]) [⟨0, [], .agg [.s (.int .i64 i_.Page), .s (.int .u8 i_.Code), .s (.int .i64 i_.Entry.Op), .s (.int .i64 i_.Entry.Mode), .s (.int .i64 i_.Entry.Reg), .s (.int .u8 i_.Post), .s (.int .u16 i_.Value), .s (.int .i64 i_.Len)]⟩, ⟨1, [], .s (.int .u16 at_)⟩] := ⟨⟨fun _ => rfl, fun h => (h trivial).elim⟩, ⟨fun _ => rfl, fun h => (h trivial).elim⟩, trivial⟩
  generalize fr0 [.agg [.s (.int .i64 i_.Page), .s (.int .u8 i_.Code), .s (.int .i64 i_.Entry.Op), .s (.int .i64 i_.Entry.Mode), .s (.int .i64 i_.Entry.Reg), .s (.int .u8 i_.Post), .s (.int .u16 i_.Value), .s (.int .i64 i_.Len)], .s (.int .u16 at_)] = f at hf ⊢
  unfold flow_Next at h
  refine k_seq ?_
  refine k_reg ?_
  refine mops_end [1, 2, 4, 5] hf (l' := [⟨1, [], .s (.int .u16 at_)⟩, ⟨2, [], .ptr 0 0 0⟩, ⟨4, [], .ref 1 0 0 0⟩, ⟨5, [], .s (.bool false)⟩]) (L' := [⟨0, .mem, 1, [.s (.int .i64 i_.Page), .s (.int .u8 i_.Code), .s (.int .i64 i_.Entry.Op), .s (.int .i64 i_.Entry.Mode), .s (.int .i64 i_.Entry.Reg), .s (.int .u8 i_.Post), .s (.int .u16 i_.Value), .s (.int .i64 i_.Len)]⟩, ⟨0, .grow, 1, cat (nI .u16) ([] : List Int)⟩]) (by kernel_rfl) fun f1 hf1 => ?_
  refine k_c ?_
  refine k_seq ?_
  refine k_reg ?_
  refine mops_seg [1, 2, 4, 5, 10, 11] 2 hf1 (l' := [⟨1, [], .s (.int .u16 at_)⟩, ⟨2, [], .ptr 0 0 0⟩, ⟨4, [], .ref 1 0 0 0⟩, ⟨5, [], .s (.bool false)⟩, ⟨10, [], .agg [.s (.int .i64 i_.Page), .s (.int .u8 i_.Code), .s (.int .i64 i_.Entry.Op), .s (.int .i64 i_.Entry.Mode), .s (.int .i64 i_.Entry.Reg), .s (.int .u8 i_.Post), .s (.int .u16 i_.Value), .s (.int .i64 i_.Len)]⟩, ⟨11, [], .s (.int .u16 at_)⟩]) (L' := [⟨0, .mem, 1, [.s (.int .i64 i_.Page), .s (.int .u8 i_.Code), .s (.int .i64 i_.Entry.Op), .s (.int .i64 i_.Entry.Mode), .s (.int .i64 i_.Entry.Reg), .s (.int .u8 i_.Post), .s (.int .u16 i_.Value), .s (.int .i64 i_.Len)]⟩, ⟨0, .grow, 1, cat (nI .u16) ([] : List Int)⟩]) (by kernel_rfl) fun f2 hf2 => ?_
  obtain ⟨r_, hx_r_, h⟩ := Option.bind_eq_some_iff.1 h
  refine mops_call (dst := (some 12)) (m := 45) (args := [(.t 10), (.t 11)]) (aft := [0, 1]) (by kernel_rfl) hf2 (av := [.agg [.s (.int .i64 i_.Page), .s (.int .u8 i_.Code), .s (.int .i64 i_.Entry.Op), .s (.int .i64 i_.Entry.Mode), .s (.int .i64 i_.Entry.Reg), .s (.int .u8 i_.Post), .s (.int .u16 i_.Value), .s (.int .i64 i_.Len)], .s (.int .u16 at_)]) (by kernel_rfl) (v := .s (.int .u16 r_)) (L' := [⟨0, .mem, 1, [.s (.int .i64 i_.Page), .s (.int .u8 i_.Code), .s (.int .i64 i_.Entry.Op), .s (.int .i64 i_.Entry.Mode), .s (.int .i64 i_.Entry.Reg), .s (.int .u8 i_.Post), .s (.int .u16 i_.Value), .s (.int .i64 i_.Len)]⟩, ⟨0, .grow, 1, cat (nI .u16) ([] : List Int)⟩]) (CalL.pure (inst_Next_ok i_ at_ r_ hx_r_) rfl rfl (Nat.le_of_ble_eq_true (by kernel_rfl))) (fun _ => rfl) fun f3 hf3 => ?_
  refine mops_end [1, 2, 4, 5, 6] hf3 (l' := [⟨1, [], .s (.int .u16 at_)⟩, ⟨2, [], .ptr 0 0 0⟩, ⟨4, [], .ref 1 0 0 0⟩, ⟨5, [], .s (.bool false)⟩, ⟨6, [], .s (.int .u16 r_)⟩]) (L' := [⟨0, .mem, 1, [.s (.int .i64 i_.Page), .s (.int .u8 i_.Code), .s (.int .i64 i_.Entry.Op), .s (.int .i64 i_.Entry.Mode), .s (.int .i64 i_.Entry.Reg), .s (.int .u8 i_.Post), .s (.int .u16 i_.Value), .s (.int .i64 i_.Len)]⟩, ⟨0, .grow, 1, cat (nI .u16) ([] : List Int)⟩]) (by kernel_rfl) fun f4 hf4 => ?_
  refine k_c ?_
  refine k_seq ?_
  refine k_reg ?_
  refine mops_seg [2, 4, 5, 6, 14, 15] 2 hf4 (l' := [⟨2, [], .ptr 0 0 0⟩, ⟨4, [], .ref 1 0 0 0⟩, ⟨5, [], .s (.bool false)⟩, ⟨6, [], .s (.int .u16 r_)⟩, ⟨14, [], .agg [.s (.int .i64 i_.Page), .s (.int .u8 i_.Code), .s (.int .i64 i_.Entry.Op), .s (.int .i64 i_.Entry.Mode), .s (.int .i64 i_.Entry.Reg), .s (.int .u8 i_.Post), .s (.int .u16 i_.Value), .s (.int .i64 i_.Len)]⟩, ⟨15, [], .s (.int .u16 at_)⟩]) (L' := [⟨0, .mem, 1, [.s (.int .i64 i_.Page), .s (.int .u8 i_.Code), .s (.int .i64 i_.Entry.Op), .s (.int .i64 i_.Entry.Mode), .s (.int .i64 i_.Entry.Reg), .s (.int .u8 i_.Post), .s (.int .u16 i_.Value), .s (.int .i64 i_.Len)]⟩, ⟨0, .grow, 1, cat (nI .u16) ([] : List Int)⟩]) (by kernel_rfl) fun f5 hf5 => ?_
  obtain ⟨r_1, hx_r_1, h⟩ := Option.bind_eq_some_iff.1 h
  refine mops_call (dst := (some 16)) (m := 46) (args := [(.t 14), (.t 15)]) (aft := [0, 1]) (by kernel_rfl) hf5 (av := [.agg [.s (.int .i64 i_.Page), .s (.int .u8 i_.Code), .s (.int .i64 i_.Entry.Op), .s (.int .i64 i_.Entry.Mode), .s (.int .i64 i_.Entry.Reg), .s (.int .u8 i_.Post), .s (.int .u16 i_.Value), .s (.int .i64 i_.Len)], .s (.int .u16 at_)]) (by kernel_rfl) (v := .tup [.s (.int .u16 r_1.1), .s (.bool r_1.2)]) (L' := [⟨0, .mem, 1, [.s (.int .i64 i_.Page), .s (.int .u8 i_.Code), .s (.int .i64 i_.Entry.Op), .s (.int .i64 i_.Entry.Mode), .s (.int .i64 i_.Entry.Reg), .s (.int .u8 i_.Post), .s (.int .u16 i_.Value), .s (.int .i64 i_.Len)]⟩, ⟨0, .grow, 1, cat (nI .u16) ([] : List Int)⟩]) (CalL.pure (inst_Target_ok i_ at_ r_1 hx_r_1) rfl rfl (Nat.le_of_ble_eq_true (by kernel_rfl))) (fun _ => rfl) fun f6 hf6 => ?_
  refine mops_end [2, 4, 5, 6, 7, 8] hf6 (l' := [⟨2, [], .ptr 0 0 0⟩, ⟨4, [], .ref 1 0 0 0⟩, ⟨5, [], .s (.bool false)⟩, ⟨6, [], .s (.int .u16 r_)⟩, ⟨7, [], .s (.int .u16 r_1.1)⟩, ⟨8, [], .s (.bool r_1.2)⟩]) (L' := [⟨0, .mem, 1, [.s (.int .i64 i_.Page), .s (.int .u8 i_.Code), .s (.int .i64 i_.Entry.Op), .s (.int .i64 i_.Entry.Mode), .s (.int .i64 i_.Entry.Reg), .s (.int .u8 i_.Post), .s (.int .u16 i_.Value), .s (.int .i64 i_.Len)]⟩, ⟨0, .grow, 1, cat (nI .u16) ([] : List Int)⟩]) (by kernel_rfl) fun f7 hf7 => ?_
  refine k_c ?_
  refine k_seq ?_
  refine k_reg ?_
  refine mops_end [2, 4, 5, 6, 7, 8, 9] hf7 (l' := [⟨2, [], .ptr 0 0 0⟩, ⟨4, [], .ref 1 0 0 0⟩, ⟨5, [], .s (.bool false)⟩, ⟨6, [], .s (.int .u16 r_)⟩, ⟨7, [], .s (.int .u16 r_1.1)⟩, ⟨8, [], .s (.bool r_1.2)⟩, ⟨9, [], .ptr 2 0 0⟩]) (L' := [⟨0, .mem, 1, [.s (.int .i64 i_.Page), .s (.int .u8 i_.Code), .s (.int .i64 i_.Entry.Op), .s (.int .i64 i_.Entry.Mode), .s (.int .i64 i_.Entry.Reg), .s (.int .u8 i_.Post), .s (.int .u16 i_.Value), .s (.int .i64 i_.Len)]⟩, ⟨0, .grow, 1, cat (nI .u16) ([] : List Int)⟩, ⟨0, .mem, 1, [.s (.int .i64 i_.Entry.Op), .s (.int .i64 i_.Entry.Mode), .s (.int .i64 i_.Entry.Reg)]⟩]) (by kernel_rfl) fun f8 hf8 => ?_
  refine k_c ?_
  refine k_seq ?_
  refine k_block ?_
  refine k_seq ?_
  refine k_reg ?_
  refine mops_end [2, 4, 5, 6, 7, 8, 9, 21] hf8 (l' := [⟨2, [], .ptr 0 0 0⟩, ⟨4, [], .ref 1 0 0 0⟩, ⟨5, [], .s (.bool false)⟩, ⟨6, [], .s (.int .u16 r_)⟩, ⟨7, [], .s (.int .u16 r_1.1)⟩, ⟨8, [], .s (.bool r_1.2)⟩, ⟨9, [], .ptr 2 0 0⟩, ⟨21, [], .s (.bool ((i_.Entry.Op == 36) || ((i_.Entry.Op == 34) && (i_.Entry.Reg == 0))))⟩]) (L' := [⟨0, .mem, 1, [.s (.int .i64 i_.Page), .s (.int .u8 i_.Code), .s (.int .i64 i_.Entry.Op), .s (.int .i64 i_.Entry.Mode), .s (.int .i64 i_.Entry.Reg), .s (.int .u8 i_.Post), .s (.int .u16 i_.Value), .s (.int .i64 i_.Len)]⟩, ⟨0, .grow, 1, cat (nI .u16) ([] : List Int)⟩, ⟨0, .mem, 1, [.s (.int .i64 i_.Entry.Op), .s (.int .i64 i_.Entry.Mode), .s (.int .i64 i_.Entry.Reg)]⟩]) (by kernel_rfl) fun f9 hf9 => ?_
  refine k_c ?_
  refine k_cond hf9 (t := ((i_.Entry.Op == 36) || ((i_.Entry.Op == 34) && (i_.Entry.Reg == 0)))) (by kernel_rfl) (fun hc1 => ?_) (fun hc1 => ?_)
  · have h := if_t h hc1
    refine k_seq ?_
    refine k_reg ?_
    refine mops_end [4, 5, 6] hf9 (l' := [⟨4, [], .ref 3 0 0 1⟩, ⟨5, [], .s (.bool true)⟩, ⟨6, [], .s (.int .u16 r_)⟩]) (L' := [⟨0, .mem, 1, [.s (.int .i64 i_.Page), .s (.int .u8 i_.Code), .s (.int .i64 i_.Entry.Op), .s (.int .i64 i_.Entry.Mode), .s (.int .i64 i_.Entry.Reg), .s (.int .u8 i_.Post), .s (.int .u16 i_.Value), .s (.int .i64 i_.Len)]⟩, ⟨0, .grow, 1, cat (nI .u16) ([] : List Int)⟩, ⟨0, .mem, 1, [.s (.int .i64 i_.Entry.Op), .s (.int .i64 i_.Entry.Mode), .s (.int .i64 i_.Entry.Reg)]⟩, ⟨0, .grow, 1, cat (nI .u16) [r_1.1]⟩]) (by kernel_rfl) fun f10 hf10 => ?_
    refine k_c ?_
    refine k_ret ?_
    refine x_br ?_
    refine x_c nofun ?_
    obtain rfl := Option.some.inj h
    exact k_fin (fin_ret (.inl rfl) hf10 (vs := [.ref 3 0 0 1, .s (.bool true)]) (by kernel_rfl) (SettL.pure (FzL.tup (FzsL.cons (FzL.whole (g := (nI .u16)) (kd := .grow) (l := [r_1.1]) (by kernel_rfl) (by kernel_rfl) (live_grow (by kernel_rfl))) (FzsL.cons (FzL.stat rfl) FzsL.nil)))))
  · have h := if_f h hc1
    refine k_seq ?_
    refine k_reg ?_
    refine mops_end [2, 4, 5, 6, 7, 8, 9, 37] hf9 (l' := [⟨2, [], .ptr 0 0 0⟩, ⟨4, [], .ref 1 0 0 0⟩, ⟨5, [], .s (.bool false)⟩, ⟨6, [], .s (.int .u16 r_)⟩, ⟨7, [], .s (.int .u16 r_1.1)⟩, ⟨8, [], .s (.bool r_1.2)⟩, ⟨9, [], .ptr 2 0 0⟩, ⟨37, [], .s (.bool (((i_.Entry.Op == 34) || (i_.Entry.Op == 35)) && (i_.Entry.Reg == 1)))⟩]) (L' := [⟨0, .mem, 1, [.s (.int .i64 i_.Page), .s (.int .u8 i_.Code), .s (.int .i64 i_.Entry.Op), .s (.int .i64 i_.Entry.Mode), .s (.int .i64 i_.Entry.Reg), .s (.int .u8 i_.Post), .s (.int .u16 i_.Value), .s (.int .i64 i_.Len)]⟩, ⟨0, .grow, 1, cat (nI .u16) ([] : List Int)⟩, ⟨0, .mem, 1, [.s (.int .i64 i_.Entry.Op), .s (.int .i64 i_.Entry.Mode), .s (.int .i64 i_.Entry.Reg)]⟩]) (by kernel_rfl) fun f10 hf10 => ?_
    refine k_c ?_
    refine k_cond hf10 (t := (((i_.Entry.Op == 34) || (i_.Entry.Op == 35)) && (i_.Entry.Reg == 1))) (by kernel_rfl) (fun hc2 => ?_) (fun hc2 => ?_)
    · have h := if_t h hc2
      refine k_seq ?_
      refine k_reg ?_
      refine mops_end [4, 5, 6] hf10 (l' := [⟨4, [], .ref 3 0 0 1⟩, ⟨5, [], .s (.bool true)⟩, ⟨6, [], .s (.int .u16 r_)⟩]) (L' := [⟨0, .mem, 1, [.s (.int .i64 i_.Page), .s (.int .u8 i_.Code), .s (.int .i64 i_.Entry.Op), .s (.int .i64 i_.Entry.Mode), .s (.int .i64 i_.Entry.Reg), .s (.int .u8 i_.Post), .s (.int .u16 i_.Value), .s (.int .i64 i_.Len)]⟩, ⟨0, .grow, 1, cat (nI .u16) ([] : List Int)⟩, ⟨0, .mem, 1, [.s (.int .i64 i_.Entry.Op), .s (.int .i64 i_.Entry.Mode), .s (.int .i64 i_.Entry.Reg)]⟩, ⟨0, .grow, 1, cat (nI .u16) [r_]⟩]) (by kernel_rfl) fun f11 hf11 => ?_
      refine k_c ?_
      refine k_ret ?_
      refine x_br ?_
      refine x_c nofun ?_
      obtain rfl := Option.some.inj h
      exact k_fin (fin_ret (.inl rfl) hf11 (vs := [.ref 3 0 0 1, .s (.bool true)]) (by kernel_rfl) (SettL.pure (FzL.tup (FzsL.cons (FzL.whole (g := (nI .u16)) (kd := .grow) (l := [r_]) (by kernel_rfl) (by kernel_rfl) (live_grow (by kernel_rfl))) (FzsL.cons (FzL.stat rfl) FzsL.nil)))))
    · have h := if_f h hc2
      refine k_seq ?_
      refine k_reg ?_
      refine mops_end [2, 4, 5, 6, 7, 9, 53] hf10 (l' := [⟨2, [], .ptr 0 0 0⟩, ⟨4, [], .ref 1 0 0 0⟩, ⟨5, [], .s (.bool false)⟩, ⟨6, [], .s (.int .u16 r_)⟩, ⟨7, [], .s (.int .u16 r_1.1)⟩, ⟨9, [], .ptr 2 0 0⟩, ⟨53, [], .s (.bool r_1.2)⟩]) (L' := [⟨0, .mem, 1, [.s (.int .i64 i_.Page), .s (.int .u8 i_.Code), .s (.int .i64 i_.Entry.Op), .s (.int .i64 i_.Entry.Mode), .s (.int .i64 i_.Entry.Reg), .s (.int .u8 i_.Post), .s (.int .u16 i_.Value), .s (.int .i64 i_.Len)]⟩, ⟨0, .grow, 1, cat (nI .u16) ([] : List Int)⟩, ⟨0, .mem, 1, [.s (.int .i64 i_.Entry.Op), .s (.int .i64 i_.Entry.Mode), .s (.int .i64 i_.Entry.Reg)]⟩]) (by kernel_rfl) fun f11 hf11 => ?_
      refine k_c ?_
      refine k_cond hf11 (t := r_1.2) (by kernel_rfl) (fun hc3 => ?_) (fun hc3 => ?_)
      · have h := if_t h hc3
        refine k_seq ?_
        refine k_reg ?_
        refine mops_end [4, 5, 6] hf11 (l' := [⟨4, [], .ref 3 0 0 2⟩, ⟨5, [], .s (.bool true)⟩, ⟨6, [], .s (.int .u16 r_)⟩]) (L' := [⟨0, .mem, 1, [.s (.int .i64 i_.Page), .s (.int .u8 i_.Code), .s (.int .i64 i_.Entry.Op), .s (.int .i64 i_.Entry.Mode), .s (.int .i64 i_.Entry.Reg), .s (.int .u8 i_.Post), .s (.int .u16 i_.Value), .s (.int .i64 i_.Len)]⟩, ⟨0, .grow, 1, cat (nI .u16) ([] : List Int)⟩, ⟨0, .mem, 1, [.s (.int .i64 i_.Entry.Op), .s (.int .i64 i_.Entry.Mode), .s (.int .i64 i_.Entry.Reg)]⟩, ⟨0, .grow, 1, cat (nI .u16) [r_1.1, r_]⟩]) (by kernel_rfl) fun f12 hf12 => ?_
        refine k_c ?_
        refine k_ret ?_
        refine x_br ?_
        refine x_c nofun ?_
        obtain rfl := Option.some.inj h
        exact k_fin (fin_ret (.inl rfl) hf12 (vs := [.ref 3 0 0 2, .s (.bool true)]) (by kernel_rfl) (SettL.pure (FzL.tup (FzsL.cons (FzL.whole (g := (nI .u16)) (kd := .grow) (l := [r_1.1, r_]) (by kernel_rfl) (by kernel_rfl) (live_grow (by kernel_rfl))) (FzsL.cons (FzL.stat rfl) FzsL.nil)))))
      · have h := if_f h hc3
        refine k_seq ?_
        refine k_reg ?_
        refine mops_end [2, 4, 5, 6, 9, 58] hf11 (l' := [⟨2, [], .ptr 0 0 0⟩, ⟨4, [], .ref 1 0 0 0⟩, ⟨5, [], .s (.bool false)⟩, ⟨6, [], .s (.int .u16 r_)⟩, ⟨9, [], .ptr 2 0 0⟩, ⟨58, [], .s (.bool ((i_.Entry.Op == 32) && (i_.Entry.Mode == 5)))⟩]) (L' := [⟨0, .mem, 1, [.s (.int .i64 i_.Page), .s (.int .u8 i_.Code), .s (.int .i64 i_.Entry.Op), .s (.int .i64 i_.Entry.Mode), .s (.int .i64 i_.Entry.Reg), .s (.int .u8 i_.Post), .s (.int .u16 i_.Value), .s (.int .i64 i_.Len)]⟩, ⟨0, .grow, 1, cat (nI .u16) ([] : List Int)⟩, ⟨0, .mem, 1, [.s (.int .i64 i_.Entry.Op), .s (.int .i64 i_.Entry.Mode), .s (.int .i64 i_.Entry.Reg)]⟩]) (by kernel_rfl) fun f12 hf12 => ?_
        refine k_c ?_
        refine k_cond hf12 (t := ((i_.Entry.Op == 32) && (i_.Entry.Mode == 5))) (by kernel_rfl) (fun hc4 => ?_) (fun hc4 => ?_)
        · have h := if_t h hc4
          refine k_seq ?_
          refine k_reg ?_
          refine mops_end [4, 5, 6] hf12 (l' := [⟨4, [], .ref 3 0 0 1⟩, ⟨5, [], .s (.bool true)⟩, ⟨6, [], .s (.int .u16 r_)⟩]) (L' := [⟨0, .mem, 1, [.s (.int .i64 i_.Page), .s (.int .u8 i_.Code), .s (.int .i64 i_.Entry.Op), .s (.int .i64 i_.Entry.Mode), .s (.int .i64 i_.Entry.Reg), .s (.int .u8 i_.Post), .s (.int .u16 i_.Value), .s (.int .i64 i_.Len)]⟩, ⟨0, .grow, 1, cat (nI .u16) ([] : List Int)⟩, ⟨0, .mem, 1, [.s (.int .i64 i_.Entry.Op), .s (.int .i64 i_.Entry.Mode), .s (.int .i64 i_.Entry.Reg)]⟩, ⟨0, .grow, 1, cat (nI .u16) [i_.Value]⟩]) (by kernel_rfl) fun f13 hf13 => ?_
          refine k_c ?_
          refine k_ret ?_
          refine x_br ?_
          refine x_c nofun ?_
          obtain rfl := Option.some.inj h
          exact k_fin (fin_ret (.inl rfl) hf13 (vs := [.ref 3 0 0 1, .s (.bool true)]) (by kernel_rfl) (SettL.pure (FzL.tup (FzsL.cons (FzL.whole (g := (nI .u16)) (kd := .grow) (l := [i_.Value]) (by kernel_rfl) (by kernel_rfl) (live_grow (by kernel_rfl))) (FzsL.cons (FzL.stat rfl) FzsL.nil)))))
        · have h := if_f h hc4
          refine k_seq ?_
          refine k_reg ?_
          refine mops_end [2, 4, 5, 6, 9, 70] hf12 (l' := [⟨2, [], .ptr 0 0 0⟩, ⟨4, [], .ref 1 0 0 0⟩, ⟨5, [], .s (.bool false)⟩, ⟨6, [], .s (.int .u16 r_)⟩, ⟨9, [], .ptr 2 0 0⟩, ⟨70, [], .s (.bool ((i_.Entry.Op == 33) && (i_.Entry.Mode == 5)))⟩]) (L' := [⟨0, .mem, 1, [.s (.int .i64 i_.Page), .s (.int .u8 i_.Code), .s (.int .i64 i_.Entry.Op), .s (.int .i64 i_.Entry.Mode), .s (.int .i64 i_.Entry.Reg), .s (.int .u8 i_.Post), .s (.int .u16 i_.Value), .s (.int .i64 i_.Len)]⟩, ⟨0, .grow, 1, cat (nI .u16) ([] : List Int)⟩, ⟨0, .mem, 1, [.s (.int .i64 i_.Entry.Op), .s (.int .i64 i_.Entry.Mode), .s (.int .i64 i_.Entry.Reg)]⟩]) (by kernel_rfl) fun f13 hf13 => ?_
          refine k_c ?_
          refine k_cond hf13 (t := ((i_.Entry.Op == 33) && (i_.Entry.Mode == 5))) (by kernel_rfl) (fun hc5 => ?_) (fun hc5 => ?_)
          · have h := if_t h hc5
            refine k_seq ?_
            refine k_reg ?_
            refine mops_end [4, 5, 6] hf13 (l' := [⟨4, [], .ref 3 0 0 2⟩, ⟨5, [], .s (.bool true)⟩, ⟨6, [], .s (.int .u16 r_)⟩]) (L' := [⟨0, .mem, 1, [.s (.int .i64 i_.Page), .s (.int .u8 i_.Code), .s (.int .i64 i_.Entry.Op), .s (.int .i64 i_.Entry.Mode), .s (.int .i64 i_.Entry.Reg), .s (.int .u8 i_.Post), .s (.int .u16 i_.Value), .s (.int .i64 i_.Len)]⟩, ⟨0, .grow, 1, cat (nI .u16) ([] : List Int)⟩, ⟨0, .mem, 1, [.s (.int .i64 i_.Entry.Op), .s (.int .i64 i_.Entry.Mode), .s (.int .i64 i_.Entry.Reg)]⟩, ⟨0, .grow, 1, cat (nI .u16) [i_.Value, r_]⟩]) (by kernel_rfl) fun f14 hf14 => ?_
            refine k_c ?_
            refine k_ret ?_
            refine x_br ?_
            refine x_c nofun ?_
            obtain rfl := Option.some.inj h
            exact k_fin (fin_ret (.inl rfl) hf14 (vs := [.ref 3 0 0 2, .s (.bool true)]) (by kernel_rfl) (SettL.pure (FzL.tup (FzsL.cons (FzL.whole (g := (nI .u16)) (kd := .grow) (l := [i_.Value, r_]) (by kernel_rfl) (by kernel_rfl) (live_grow (by kernel_rfl))) (FzsL.cons (FzL.stat rfl) FzsL.nil)))))
          · have h := if_f h hc5
            refine k_seq ?_
            refine k_reg ?_
            refine mops_end [2, 4, 5, 6, 83] hf13 (l' := [⟨2, [], .ptr 0 0 0⟩, ⟨4, [], .ref 1 0 0 0⟩, ⟨5, [], .s (.bool false)⟩, ⟨6, [], .s (.int .u16 r_)⟩, ⟨83, [], .s (.bool ((i_.Entry.Op == 33) || (i_.Entry.Op == 51)))⟩]) (L' := [⟨0, .mem, 1, [.s (.int .i64 i_.Page), .s (.int .u8 i_.Code), .s (.int .i64 i_.Entry.Op), .s (.int .i64 i_.Entry.Mode), .s (.int .i64 i_.Entry.Reg), .s (.int .u8 i_.Post), .s (.int .u16 i_.Value), .s (.int .i64 i_.Len)]⟩, ⟨0, .grow, 1, cat (nI .u16) ([] : List Int)⟩, ⟨0, .mem, 1, [.s (.int .i64 i_.Entry.Op), .s (.int .i64 i_.Entry.Mode), .s (.int .i64 i_.Entry.Reg)]⟩]) (by kernel_rfl) fun f14 hf14 => ?_
            refine k_c ?_
            refine k_cond hf14 (t := ((i_.Entry.Op == 33) || (i_.Entry.Op == 51))) (by kernel_rfl) (fun hc6 => ?_) (fun hc6 => ?_)
            · have h := if_t h hc6
              refine k_seq ?_
              refine k_reg ?_
              refine mops_end [4, 5, 6] hf14 (l' := [⟨4, [], .ref 3 0 0 1⟩, ⟨5, [], .s (.bool false)⟩, ⟨6, [], .s (.int .u16 r_)⟩]) (L' := [⟨0, .mem, 1, [.s (.int .i64 i_.Page), .s (.int .u8 i_.Code), .s (.int .i64 i_.Entry.Op), .s (.int .i64 i_.Entry.Mode), .s (.int .i64 i_.Entry.Reg), .s (.int .u8 i_.Post), .s (.int .u16 i_.Value), .s (.int .i64 i_.Len)]⟩, ⟨0, .grow, 1, cat (nI .u16) ([] : List Int)⟩, ⟨0, .mem, 1, [.s (.int .i64 i_.Entry.Op), .s (.int .i64 i_.Entry.Mode), .s (.int .i64 i_.Entry.Reg)]⟩, ⟨0, .grow, 1, cat (nI .u16) [r_]⟩]) (by kernel_rfl) fun f15 hf15 => ?_
              refine k_c ?_
              refine k_ret ?_
              refine x_br ?_
              refine x_c nofun ?_
              obtain rfl := Option.some.inj h
              exact k_fin (fin_ret (.inl rfl) hf15 (vs := [.ref 3 0 0 1, .s (.bool false)]) (by kernel_rfl) (SettL.pure (FzL.tup (FzsL.cons (FzL.whole (g := (nI .u16)) (kd := .grow) (l := [r_]) (by kernel_rfl) (by kernel_rfl) (live_grow (by kernel_rfl))) (FzsL.cons (FzL.stat rfl) FzsL.nil)))))
            · have h := if_f h hc6
              refine k_seq ?_
              refine k_reg ?_
              refine mops_seg [4, 5, 6, 95] 1 hf14 (l' := [⟨4, [], .ref 1 0 0 0⟩, ⟨5, [], .s (.bool false)⟩, ⟨6, [], .s (.int .u16 r_)⟩, ⟨95, [], .agg [.s (.int .i64 i_.Page), .s (.int .u8 i_.Code), .s (.int .i64 i_.Entry.Op), .s (.int .i64 i_.Entry.Mode), .s (.int .i64 i_.Entry.Reg), .s (.int .u8 i_.Post), .s (.int .u16 i_.Value), .s (.int .i64 i_.Len)]⟩]) (L' := [⟨0, .mem, 1, [.s (.int .i64 i_.Page), .s (.int .u8 i_.Code), .s (.int .i64 i_.Entry.Op), .s (.int .i64 i_.Entry.Mode), .s (.int .i64 i_.Entry.Reg), .s (.int .u8 i_.Post), .s (.int .u16 i_.Value), .s (.int .i64 i_.Len)]⟩, ⟨0, .grow, 1, cat (nI .u16) ([] : List Int)⟩, ⟨0, .mem, 1, [.s (.int .i64 i_.Entry.Op), .s (.int .i64 i_.Entry.Mode), .s (.int .i64 i_.Entry.Reg)]⟩]) (by kernel_rfl) fun f15 hf15 => ?_
              obtain ⟨r_2, hx_r_2, h⟩ := Option.bind_eq_some_iff.1 h
              refine mops_call (dst := (some 96)) (m := 47) (args := [(.t 95)]) (aft := [0]) (by kernel_rfl) hf15 (av := [.agg [.s (.int .i64 i_.Page), .s (.int .u8 i_.Code), .s (.int .i64 i_.Entry.Op), .s (.int .i64 i_.Entry.Mode), .s (.int .i64 i_.Entry.Reg), .s (.int .u8 i_.Post), .s (.int .u16 i_.Value), .s (.int .i64 i_.Len)]]) (by kernel_rfl) (v := .s (.bool r_2)) (L' := [⟨0, .mem, 1, [.s (.int .i64 i_.Page), .s (.int .u8 i_.Code), .s (.int .i64 i_.Entry.Op), .s (.int .i64 i_.Entry.Mode), .s (.int .i64 i_.Entry.Reg), .s (.int .u8 i_.Post), .s (.int .u16 i_.Value), .s (.int .i64 i_.Len)]⟩, ⟨0, .grow, 1, cat (nI .u16) ([] : List Int)⟩, ⟨0, .mem, 1, [.s (.int .i64 i_.Entry.Op), .s (.int .i64 i_.Entry.Mode), .s (.int .i64 i_.Entry.Reg)]⟩]) (CalL.pure (flow_leaves_ok i_ r_2 hx_r_2) rfl rfl (Nat.le_of_ble_eq_true (by kernel_rfl))) (fun _ => rfl) fun f16 hf16 => ?_
              refine mops_end [4, 5, 6, 94] hf16 (l' := [⟨4, [], .ref 1 0 0 0⟩, ⟨5, [], .s (.bool false)⟩, ⟨6, [], .s (.int .u16 r_)⟩, ⟨94, [], .s (.bool r_2)⟩]) (L' := [⟨0, .mem, 1, [.s (.int .i64 i_.Page), .s (.int .u8 i_.Code), .s (.int .i64 i_.Entry.Op), .s (.int .i64 i_.Entry.Mode), .s (.int .i64 i_.Entry.Reg), .s (.int .u8 i_.Post), .s (.int .u16 i_.Value), .s (.int .i64 i_.Len)]⟩, ⟨0, .grow, 1, cat (nI .u16) ([] : List Int)⟩, ⟨0, .mem, 1, [.s (.int .i64 i_.Entry.Op), .s (.int .i64 i_.Entry.Mode), .s (.int .i64 i_.Entry.Reg)]⟩]) (by kernel_rfl) fun f17 hf17 => ?_
              refine k_c ?_
              refine k_cond hf17 (t := r_2) (by kernel_rfl) (fun hc7 => ?_) (fun hc7 => ?_)
              · have h := if_t h hc7
                refine k_seq ?_
                refine k_reg ?_
                refine mops_end [4, 5, 6] hf17 (l' := [⟨4, [], .ref 3 0 0 0⟩, ⟨5, [], .s (.bool false)⟩, ⟨6, [], .s (.int .u16 r_)⟩]) (L' := [⟨0, .mem, 1, [.s (.int .i64 i_.Page), .s (.int .u8 i_.Code), .s (.int .i64 i_.Entry.Op), .s (.int .i64 i_.Entry.Mode), .s (.int .i64 i_.Entry.Reg), .s (.int .u8 i_.Post), .s (.int .u16 i_.Value), .s (.int .i64 i_.Len)]⟩, ⟨0, .grow, 1, cat (nI .u16) ([] : List Int)⟩, ⟨0, .mem, 1, [.s (.int .i64 i_.Entry.Op), .s (.int .i64 i_.Entry.Mode), .s (.int .i64 i_.Entry.Reg)]⟩, ⟨0, .grow, 1, cat (nI .u16) ([] : List Int)⟩]) (by kernel_rfl) fun f18 hf18 => ?_
                refine k_c ?_
                refine k_ret ?_
                refine x_br ?_
                refine x_c nofun ?_
                obtain rfl := Option.some.inj h
                exact k_fin (fin_ret (.inl rfl) hf18 (vs := [.ref 3 0 0 0, .s (.bool false)]) (by kernel_rfl) (SettL.pure (FzL.tup (FzsL.cons (FzL.whole (g := (nI .u16)) (kd := .grow) (l := ([] : List Int)) (by kernel_rfl) rfl (live_grow (by kernel_rfl))) (FzsL.cons (FzL.stat rfl) FzsL.nil)))))
              · have h := if_f h hc7
                refine k_skip ?_
                refine k_b ?_
                refine k_c ?_
                refine k_seq ?_
                refine k_reg ?_
                refine mops_end [4, 5] hf17 (l' := [⟨4, [], .ref 3 0 0 1⟩, ⟨5, [], .s (.bool true)⟩]) (L' := [⟨0, .mem, 1, [.s (.int .i64 i_.Page), .s (.int .u8 i_.Code), .s (.int .i64 i_.Entry.Op), .s (.int .i64 i_.Entry.Mode), .s (.int .i64 i_.Entry.Reg), .s (.int .u8 i_.Post), .s (.int .u16 i_.Value), .s (.int .i64 i_.Len)]⟩, ⟨0, .grow, 1, cat (nI .u16) ([] : List Int)⟩, ⟨0, .mem, 1, [.s (.int .i64 i_.Entry.Op), .s (.int .i64 i_.Entry.Mode), .s (.int .i64 i_.Entry.Reg)]⟩, ⟨0, .grow, 1, cat (nI .u16) [r_]⟩]) (by kernel_rfl) fun f18 hf18 => ?_
                refine k_c ?_
                refine k_ret ?_
                obtain rfl := Option.some.inj h
                exact k_fin (fin_ret (.inl rfl) hf18 (vs := [.ref 3 0 0 1, .s (.bool true)]) (by kernel_rfl) (SettL.pure (FzL.tup (FzsL.cons (FzL.whole (g := (nI .u16)) (kd := .grow) (l := [r_]) (by kernel_rfl) (by kernel_rfl) (live_grow (by kernel_rfl))) (FzsL.cons (FzL.stat rfl) FzsL.nil)))))
end Go.Proofs.YtbgdkaahcfmaeaaK
