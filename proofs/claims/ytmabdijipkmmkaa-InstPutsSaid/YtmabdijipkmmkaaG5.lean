/- The Go functions come to the functions over typed data. Printed by a program of this work. -/
import Derived.Test.YtmabdijipkmmkaaF
import Derived.Test.YtmabdijipkmmkaaProg
import Derived.Test.YtmabdijipkmmkaaG2
namespace Go.Proofs.YtmabdijipkmmkaaK
set_option linter.unusedVariables false
set_option linter.unusedSimpArgs false
set_option maxHeartbeats 4000000
open Go.RowKit
attribute [local irreducible] dwv mops lops lqops lwops kont iter run runK rk okK ex E1 vals val chain chB sel resF
def spinetref18_Shape_i0 : List Op1 := [(oM 4 (.k (.bool false)) []), (oM 5 (.k (.int .i64 0)) [0]), (oM 6 (.k (.bool false)) [1])]
def spinetref18_Shape_i1 : List Op1 := [(oE 8 (.build [(.int .i64 0), (.int .i64 0), (.int .i64 0), (.int .i64 0), (.int .i64 0), (.int .i64 0), (.int .i64 0), (.int .i64 0), (.int .i64 0), (.int .i64 0)] [(0, (1, (.k (.int .i64 0)))), (1, (1, (.k (.int .i64 1)))), (2, (1, (.k (.int .i64 2)))), (3, (1, (.k (.int .i64 1)))), (4, (1, (.k (.int .i64 0)))), (5, (1, (.k (.int .i64 2)))), (6, (1, (.k (.int .i64 1)))), (7, (1, (.k (.int .i64 2)))), (8, (1, (.k (.int .i64 0)))), (9, (1, (.k (.int .i64 0))))]) []), (oE 7 (.zero [(.int .i64 0), (.int .i64 0), (.int .i64 0), (.int .i64 0), (.int .i64 0), (.int .i64 0), (.int .i64 0), (.int .i64 0), (.int .i64 0), (.int .i64 0)]) []), (oN (.store 10 (.t 7) (.t 8)) [1, 0, 0, 1])]
def spinetref18_Shape_i2 : List Op1 := [(oM 9 (.t 0) []), (oE 10 (.bin .eql (.t 9) (.k (.int .i64 4))) [0])]
def spinetref18_Shape_i3 : List Op1 := [(oM 11 (.t 1) []), (oC 12 33 [(.t 11)] [0]), (oE 13 (.part false 4 1 (.t 12)) [1]), (oM 4 (.k (.bool true)) [1]), (oM 5 (.t 13) [2, 3, 0, 1, 2, 3]), (oM 6 (.k (.bool true)) [4, 0, 1, 2, 3, 4])]
def spinetref18_Shape_i4 : IR := .ret
def spinetref18_Shape_i5 : IR := (.cond (.t 10) (.seq (.reg false spinetref18_Shape_i3) spinetref18_Shape_i4) .skip)
def spinetref18_Shape_i6 : List Op1 := [(oM 14 (.t 0) []), (oE 15 (.bin .eql (.t 14) (.k (.int .i64 8))) [0]), (oM 16 (.t 15) [1]), (oG 17 (.mv (.t 0)) 16 false [2]), (oG 18 (.bin .eql (.t 17) (.k (.int .i64 9))) 16 false [3, 2]), (oE 19 (.pick (.t 16) (.k (.bool true)) (.t 18)) [2, 4]), (oM 20 (.t 0) []), (oE 21 (.iaa 10 1 (.t 7) (.t 20)) [6]), (oE 22 (.load false 1 (.t 21)) [7]), (oM 23 (.t 0) []), (oE 24 (.bin .eql (.t 23) (.k (.int .i64 6))) [9]), (oM 4 (.t 19) [5, 2, 0, 1, 2, 3, 4, 5]), (oM 5 (.t 22) [8, 11, 0, 1, 2, 3, 4, 5, 6, 7, 8, 11]), (oM 6 (.t 24) [10, 12, 0, 1, 2, 3, 4, 5, 6, 7, 8, 9, 10, 11, 12])]
def spinetref18_Shape_i7 : IR := .ret
def spinetref18_Shape_i8 : IR := (.seq (.reg true spinetref18_Shape_i6) spinetref18_Shape_i7)
def spinetref18_Shape_i9 : IR := (.seq (.seq (.reg false spinetref18_Shape_i2) spinetref18_Shape_i5) spinetref18_Shape_i8)
def spinetref18_Shape_i10 : IR := (.seq (.reg false spinetref18_Shape_i1) spinetref18_Shape_i9)
def spinetref18_Shape_ir : IR := (.seq (.reg false spinetref18_Shape_i0) spinetref18_Shape_i10)
theorem spinetref18_Shape_cfn : cFn Try.prog 20 = some (spinetref18_Shape_ir, [(.t 4), (.t 5), (.t 6)], 25) := by kernel_rfl
def spinetref18_Shape_V (r : (Bool × Int × Bool)) : V := .tup [.s (.bool r.1), .s (.int .i64 r.2.1), .s (.bool r.2.2)]
def spinetref18_Shape_C (r : (Bool × Int × Bool)) : X → Fr → Hp → Prop := FinL [(.t 4), (.t 5), (.t 6)] [] (spinetref18_Shape_V r) []
theorem spinetref18_Shape_ok (mode_ : Int) (post_ : Int) (r : (Bool × Int × Bool)) (h : spinetref18_Shape mode_ post_ = some r) : Pure Try.prog 20 [.s (.int .i64 mode_), .s (.int .u8 post_)] (spinetref18_Shape_V r) := by
  refine ConL.of spinetref18_Shape_cfn (Nat.le_of_ble_eq_true (by kernel_rfl)) (Nat.le_of_ble_eq_true (by kernel_rfl)) ?_
  refine k_start ?_
  show dwv Try.prog [] spinetref18_Shape_ir (kont Try.prog [] (spinetref18_Shape_C r) []) (fr0 [.s (.int .i64 mode_), .s (.int .u8 post_)]) []
  have hf : FOk (fr0 [.s (.int .i64 mode_), .s (.int .u8 post_)]) [⟨0, [], .s (.int .i64 mode_)⟩, ⟨1, [], .s (.int .u8 post_)⟩] := ⟨⟨fun _ => rfl, fun h => (h trivial).elim⟩, ⟨fun _ => rfl, fun h => (h trivial).elim⟩, trivial⟩
  generalize fr0 [.s (.int .i64 mode_), .s (.int .u8 post_)] = f at hf ⊢
  unfold spinetref18_Shape at h
  refine k_seq ?_
  refine k_reg ?_
  refine mops_en hf (by kernel_rfl) fun f1 hf1 => ?_
  refine k_c ?_
  refine k_seq ?_
  refine k_reg ?_
  refine mops_en hf1 (by kernel_rfl) fun f2 hf2 => ?_
  refine k_c ?_
  refine k_seq ?_
  refine k_seq ?_
  refine k_reg ?_
  refine mops_en hf2 (by kernel_rfl) fun f3 hf3 => ?_
  refine k_c ?_
  refine k_cond hf3 (t := (mode_ == 4)) (by kernel_rfl) (fun hc1 => ?_) (fun hc1 => ?_)
  · have h := if_t h hc1
    refine k_seq ?_
    refine k_reg ?_
    refine mops_sg 1 hf3 (by kernel_rfl) fun f4 hf4 => ?_
    obtain ⟨r_, hx_r_, h⟩ := Option.bind_eq_some_iff.1 h
    refine mops_call rfl hf4 (av := [.s (.int .u8 post_)]) (by kernel_rfl) (v := .agg [.s (.int .i64 r_.Kind), .s (.int .i64 r_.Reg), .s (.int .i64 r_.Off), .s (.bool r_.Indirect), .s (.int .i64 r_.Bytes), .s (.int .i64 r_.Idle)]) (CalL.pure (spinetref15_Of_ok post_ r_ hx_r_) rfl rfl (Nat.le_of_ble_eq_true (by kernel_rfl))) (fun _ => rfl) fun f5 hf5 => ?_
    refine mops_en hf5 (by kernel_rfl) fun f6 hf6 => ?_
    refine k_c ?_
    refine k_ret ?_
    refine x_c nofun ?_
    obtain rfl := Option.some.inj h
    exact k_fin (fin_ret (.inl rfl) hf6 (vs := [.s (.bool true), .s (.int .i64 r_.Bytes), .s (.bool true)]) (by kernel_rfl) (SettL.pure (FzL.tup (FzsL.cons (FzL.stat rfl) (FzsL.cons (FzL.stat rfl) (FzsL.cons (FzL.stat rfl) FzsL.nil))))))
  · have h := if_f h hc1
    refine k_skip ?_
    refine k_c ?_
    refine k_seq ?_
    refine k_regq ?_
    refine mops_sg 7 hf3 (by kernel_rfl) fun f4 hf4 => ?_
    obtain ⟨c2, h⟩ := as_ok h
    refine mops_adv rfl (v := .ptr 0 0 (0 + (mode_ : Int).toNat * 1)) hf4 (by kernel_rfl) (e_iaa (n := 10) (xv := .ptr 0 0 0) (k := .i64) (iv := mode_) (p := .ptr 0 0 (0 + (mode_ : Int).toNat * 1)) (by kernel_rfl) (by kernel_rfl) (by kernel_rfl) (by kernel_rfl) c2) fun f5 hf5 => ?_
    refine mops_adv rfl (v := .s (.int .i64 (gt [0, 1, 2, 1, 0, 2, 1, 2, 0, 0] mode_))) hf5 (by kernel_rfl) (e_load_pe (g := (nI .i64)) (l := [0, 1, 2, 1, 0, 2, 1, 2, 0, 0]) (iv := mode_) (kd := .mem) (q := 1) (b := 0) (ver := 0) [] (by kernel_rfl) (live_mem (by kernel_rfl)) (arr_h (l := [0, 1, 2, 1, 0, 2, 1, 2, 0, 0]) c2 (by kernel_rfl)) (by kernel_rfl) (by kernel_rfl)) fun f6 hf6 => ?_
    refine mops_en hf6 (by kernel_rfl) fun f7 hf7 => ?_
    refine k_c ?_
    refine k_ret ?_
    obtain rfl := Option.some.inj h
    exact k_fin (fin_ret (.inl rfl) hf7 (vs := [.s (.bool ((mode_ == 8) || (mode_ == 9))), .s (.int .i64 (gt [0, 1, 2, 1, 0, 2, 1, 2, 0, 0] mode_)), .s (.bool (mode_ == 6))]) (by kernel_rfl) (SettL.pure (FzL.tup (FzsL.cons (FzL.stat rfl) (FzsL.cons (FzL.stat rfl) (FzsL.cons (FzL.stat rfl) FzsL.nil))))))
def inst_Target_i0 : List Op1 := [(oE 2 (.box (.t 0)) []), (oM 4 (.k (.int .u16 0)) []), (oM 5 (.k (.bool false)) [1])]
def inst_Target_i1 : List Op1 := [(oE 6 (.fld 2 (.t 2)) []), (oE 7 (.fld 1 (.t 6)) [0]), (oE 8 (.load false 1 (.t 7)) [1]), (oE 9 (.bin .neq (.t 8) (.k (.int .i64 6))) [2]), (oM 10 (.t 9) [3]), (oG 11 (.fld 2 (.t 2)) 10 true [4]), (oG 12 (.fld 1 (.t 11)) 10 true [5, 4]), (oG 13 (.load false 1 (.t 12)) 10 true [6, 4]), (oG 14 (.bin .neq (.t 13) (.k (.int .i64 7))) 10 true [7, 4]), (oE 15 (.pick (.t 10) (.t 14) (.k (.bool false))) [4, 8])]
def inst_Target_i2 : List Op1 := [(oM 4 (.k (.int .u16 0)) []), (oM 5 (.k (.bool false)) [0, 0])]
def inst_Target_i3 : IR := .ret
def inst_Target_i4 : IR := (.cond (.t 15) (.seq (.reg false inst_Target_i2) inst_Target_i3) .skip)
def inst_Target_i5 : List Op1 := [(oE 16 (.load true 8 (.t 2)) []), (oM 17 (.t 1) []), (oC 18 12 [(.t 16), (.t 17)] [0, 1]), (oE 19 (.fld 6 (.t 2)) []), (oE 20 (.load false 1 (.t 19)) [3]), (oE 21 (.bin .add (.t 18) (.t 20)) [2, 4]), (oM 4 (.t 21) [5, 2, 0, 1, 2, 3, 4, 5]), (oM 5 (.k (.bool true)) [6, 0, 1, 2, 3, 4, 5, 6])]
def inst_Target_i6 : IR := .ret
def inst_Target_i7 : IR := (.seq (.reg true inst_Target_i5) inst_Target_i6)
def inst_Target_i8 : IR := (.seq (.seq (.reg false inst_Target_i1) inst_Target_i4) inst_Target_i7)
def inst_Target_ir : IR := (.seq (.reg false inst_Target_i0) inst_Target_i8)
theorem inst_Target_cfn : cFn Try.prog 9 = some (inst_Target_ir, [(.t 4), (.t 5)], 22) := by kernel_rfl
def inst_Target_V (r : (Int × Bool)) : V := .tup [.s (.int .u16 r.1), .s (.bool r.2)]
def inst_Target_C (r : (Int × Bool)) : X → Fr → Hp → Prop := FinL [(.t 4), (.t 5)] [] (inst_Target_V r) []
theorem inst_Target_ok (i_ : api_Inst) (at_ : Int) (r : (Int × Bool)) (h : inst_Target i_ at_ = some r) : Pure Try.prog 9 [.agg [.s (.int .i64 i_.Page), .s (.int .u8 i_.Code), .s (.int .i64 i_.Entry.Op), .s (.int .i64 i_.Entry.Mode), .s (.int .i64 i_.Entry.Reg), .s (.int .u8 i_.Post), .s (.int .u16 i_.Value), .s (.int .i64 i_.Len)], .s (.int .u16 at_)] (inst_Target_V r) := by
  refine ConL.of inst_Target_cfn (Nat.le_of_ble_eq_true (by kernel_rfl)) (Nat.le_of_ble_eq_true (by kernel_rfl)) ?_
  refine k_start ?_
  show dwv Try.prog [] inst_Target_ir (kont Try.prog [] (inst_Target_C r) []) (fr0 [.agg [.s (.int .i64 i_.Page), .s (.int .u8 i_.Code), .s (.int .i64 i_.Entry.Op), .s (.int .i64 i_.Entry.Mode), .s (.int .i64 i_.Entry.Reg), .s (.int .u8 i_.Post), .s (.int .u16 i_.Value), .s (.int .i64 i_.Len)], .s (.int .u16 at_)]) []
  have hf : FOk (fr0 [.agg [.s (.int .i64 i_.Page), .s (.int .u8 i_.Code), .s (.int .i64 i_.Entry.Op), .s (.int .i64 i_.Entry.Mode), .s (.int .i64 i_.Entry.Reg), .s (.int .u8 i_.Post), .s (.int .u16 i_.Value), .s (.int .i64 i_.Len)], .s (.int .u16 at_)]) [⟨0, [], .agg [.s (.int .i64 i_.Page), .s (.int .u8 i_.Code), .s (.int .i64 i_.Entry.Op), .s (.int .i64 i_.Entry.Mode), .s (.int .i64 i_.Entry.Reg), .s (.int .u8 i_.Post), .s (.int .u16 i_.Value), .s (.int .i64 i_.Len)]⟩, ⟨1, [], .s (.int .u16 at_)⟩] := ⟨⟨fun _ => rfl, fun h => (h trivial).elim⟩, ⟨fun _ => rfl, fun h => (h trivial).elim⟩, trivial⟩
  generalize fr0 [.agg [.s (.int .i64 i_.Page), .s (.int .u8 i_.Code), .s (.int .i64 i_.Entry.Op), .s (.int .i64 i_.Entry.Mode), .s (.int .i64 i_.Entry.Reg), .s (.int .u8 i_.Post), .s (.int .u16 i_.Value), .s (.int .i64 i_.Len)], .s (.int .u16 at_)] = f at hf ⊢
  unfold inst_Target at h
  refine k_seq ?_
  refine k_reg ?_
  refine mops_en hf (by kernel_rfl) fun f1 hf1 => ?_
  refine k_c ?_
  refine k_seq ?_
  refine k_seq ?_
  refine k_reg ?_
  refine mops_en hf1 (by kernel_rfl) fun f2 hf2 => ?_
  refine k_c ?_
  refine k_cond hf2 (t := ((i_.Entry.Mode != 6) && (i_.Entry.Mode != 7))) (by kernel_rfl) (fun hc1 => ?_) (fun hc1 => ?_)
  · have h := if_t h hc1
    refine k_seq ?_
    refine k_reg ?_
    refine mops_en hf2 (by kernel_rfl) fun f3 hf3 => ?_
    refine k_c ?_
    refine k_ret ?_
    refine x_c nofun ?_
    obtain rfl := Option.some.inj h
    exact k_fin (fin_ret (.inl rfl) hf3 (vs := [.s (.int .u16 0), .s (.bool false)]) (by kernel_rfl) (SettL.pure (FzL.tup (FzsL.cons (FzL.stat rfl) (FzsL.cons (FzL.stat rfl) FzsL.nil)))))
  · have h := if_f h hc1
    refine k_skip ?_
    refine k_c ?_
    refine k_seq ?_
    refine k_regq ?_
    refine mops_sg 2 hf2 (by kernel_rfl) fun f3 hf3 => ?_
    obtain ⟨r_, hx_r_, h⟩ := Option.bind_eq_some_iff.1 h
    refine mops_call rfl hf3 (av := [.agg [.s (.int .i64 i_.Page), .s (.int .u8 i_.Code), .s (.int .i64 i_.Entry.Op), .s (.int .i64 i_.Entry.Mode), .s (.int .i64 i_.Entry.Reg), .s (.int .u8 i_.Post), .s (.int .u16 i_.Value), .s (.int .i64 i_.Len)], .s (.int .u16 at_)]) (by kernel_rfl) (v := .s (.int .u16 r_)) (CalL.pure (inst_Next_ok i_ at_ r_ hx_r_) rfl rfl (Nat.le_of_ble_eq_true (by kernel_rfl))) (fun _ => rfl) fun f4 hf4 => ?_
    refine mops_en hf4 (by kernel_rfl) fun f5 hf5 => ?_
    refine k_c ?_
    refine k_ret ?_
    obtain rfl := Option.some.inj h
    exact k_fin (fin_ret (.inl rfl) hf5 (vs := [.s (.int .u16 (IntKind.wrap .u16 (r_ + i_.Value))), .s (.bool true)]) (by kernel_rfl) (SettL.pure (FzL.tup (FzsL.cons (FzL.stat rfl) (FzsL.cons (FzL.stat rfl) FzsL.nil)))))
def octet_Bytes_i0 : List Op1 := [(oE 2 (.nilg 1) [])]
def octet_Bytes_i1 : List Op1 := [(oM 6 (.t 0) []), (oE 7 (.len (.t 6)) [0]), (oE 8 (.bin .mul (.k (.int .i64 2)) (.t 7)) [1]), (oE 9 (.mks [(.int .u8 0)] 1 (.k (.int .i64 0)) (.t 8)) [2]), (oM 3 (.t 9) [3, 0, 1, 2, 3])]
def octet_Bytes_i2 : List Op1 := [(oM 10 (.t 0) []), (oE 11 (.len (.t 10)) [0]), (oM 12 (.k (.int .i64 0)) [])]
def octet_Bytes_i3 : List Op1 := [(oE 13 (.bin .lss (.t 12) (.t 11)) [])]
def octet_Bytes_i4 : List Op1 := [(oE 14 (.ias 1 (.t 10) (.t 12)) []), (oE 15 (.load false 1 (.t 14)) [0]), (oM 5 (.t 15) [1, 0, 1])]
def octet_Bytes_i5 : List Op1 := [(oM 16 (.t 3) []), (oM 17 (.t 5) []), (oC 18 34 [(.t 17)] [1]), (oM 19 (.t 5) []), (oC 20 22 [(.t 19)] [3, 2]), (oE 21 (.bslo 1 2 [(.int .u8 0), (.int .u8 0)] [(0, (1, (.t 18))), (1, (1, (.t 20)))]) [2, 4]), (oE 22 (.app 1 1 (.t 16) (.t 21)) [0, 5, 4]), (oM 3 (.t 22) [6, 6, 0, 1, 2, 3, 4, 5, 6])]
def octet_Bytes_i6 : IR := (.reg false octet_Bytes_i5)
def octet_Bytes_i7 : List Op1 := [(oE 23 (.bin .add (.t 12) (.k (.int .i64 1))) []), (oM 12 (.t 23) [0])]
def octet_Bytes_i8 : IR := (.reg false octet_Bytes_i7)
def octet_Bytes_i9 : IR := (.seq (.block 1 (.seq (.reg false octet_Bytes_i4) octet_Bytes_i6)) octet_Bytes_i8)
def octet_Bytes_i10 : IR := (.seq (.cond (.t 13) .skip (.exit 0)) octet_Bytes_i9)
def octet_Bytes_i11 : IR := (.seq (.reg false octet_Bytes_i3) octet_Bytes_i10)
def octet_Bytes_i12 : IR := (.block 0 (.loop octet_Bytes_i11))
def octet_Bytes_i13 : List Op1 := [(oM 24 (.t 3) []), (oM 2 (.t 24) [0, 0])]
def octet_Bytes_i14 : IR := .ret
def octet_Bytes_i15 : IR := (.seq (.reg false octet_Bytes_i13) octet_Bytes_i14)
def octet_Bytes_i16 : IR := (.seq (.seq (.reg false octet_Bytes_i2) octet_Bytes_i12) octet_Bytes_i15)
def octet_Bytes_i17 : IR := (.seq (.reg false octet_Bytes_i1) octet_Bytes_i16)
def octet_Bytes_ir : IR := (.seq (.reg false octet_Bytes_i0) octet_Bytes_i17)
theorem octet_Bytes_cfn : cFn Try.prog 23 = some (octet_Bytes_ir, [(.t 2)], 25) := by kernel_rfl
def octet_Bytes_V (r : ((List Int))) : V := .sl false r.length (cat (nI .u8) r)
def octet_Bytes_C (r : ((List Int))) : X → Fr → Hp → Prop := FinL [(.t 2)] [] (octet_Bytes_V r) []
theorem octet_Bytes_ok (w_ : (List Int)) (r : ((List Int))) (h : octet_Bytes w_ = some r) : Pure Try.prog 23 [.sl false w_.length (cat (nI .u16) w_)] (octet_Bytes_V r) := by
  refine ConL.of octet_Bytes_cfn (Nat.le_of_ble_eq_true (by kernel_rfl)) (Nat.le_of_ble_eq_true (by kernel_rfl)) ?_
  refine k_start ?_
  show dwv Try.prog [] octet_Bytes_ir (kont Try.prog [] (octet_Bytes_C r) []) (fr0 [.sl false w_.length (cat (nI .u16) w_)]) []
  have hf : FOk (fr0 [.sl false w_.length (cat (nI .u16) w_)]) [⟨0, [], .sl false w_.length (cat (nI .u16) w_)⟩] := ⟨⟨fun _ => rfl, fun h => (h trivial).elim⟩, trivial⟩
  generalize fr0 [.sl false w_.length (cat (nI .u16) w_)] = f at hf ⊢
  unfold octet_Bytes at h
  refine k_seq ?_
  refine k_reg ?_
  refine mops_en hf (by kernel_rfl) fun f1 hf1 => ?_
  refine k_c ?_
  refine k_seq ?_
  refine k_reg ?_
  refine mops_sg 3 hf1 (by kernel_rfl) fun f2 hf2 => ?_
  obtain ⟨c1, h⟩ := as_ok h
  refine mops_adv rfl (v := .ref 1 0 0 (rp (0) (0 : Int)).length) hf2 (by kernel_rfl) (e_mks (g := (nI .u8)) (a := 0) (k := .i64) (k' := .i64) (iv := 0) (jv := (IntKind.wrap .i64 (2 * (ln w_)))) (by kernel_rfl) (by kernel_rfl) (by kernel_rfl) c1 (by kernel_rfl)) fun f3 hf3 => ?_
  refine mops_en hf3 (by kernel_rfl) fun f4 hf4 => ?_
  refine k_c ?_
  refine k_seq ?_
  refine k_seq ?_
  refine k_reg ?_
  refine mops_en hf4 (by kernel_rfl) fun f5 hf5 => ?_
  refine k_c ?_
  refine k_block ?_
  obtain ⟨o0, hx0, h⟩ := Option.bind_eq_some_iff.1 h
  have hgo0 : ∀ (l_2 : (List Int)) (v_2 : Nat), l_2 = o0 → ∀ f, FOk f [⟨2, [], .ref 0 0 0 0⟩, ⟨3, [], .ref 1 v_2 0 l_2.length⟩] → kont Try.prog [] (octet_Bytes_C r) ((.c octet_Bytes_i15) :: []) .normal f [⟨0, .grow, 1, cat (nI .u8) ([] : List Int)⟩, ⟨v_2, .grow, 1, cat (nI .u8) l_2⟩] := by
    intro l_2 v_2 e f hf
    subst e
    refine k_c ?_
    refine k_seq ?_
    refine k_reg ?_
    refine mops_en hf (by kernel_rfl) fun f1 hf1 => ?_
    refine k_c ?_
    refine k_ret ?_
    obtain rfl := Option.some.inj h
    exact k_fin (fin_ret (.inl rfl) hf1 (vs := [.ref 1 v_2 0 l_2.length]) (by kernel_rfl) (SettL.pure (FzL.whole (g := (nI .u8)) (kd := .grow) (l := l_2) (by kernel_rfl) rfl (live_grow (by kernel_rfl)))))
  refine k_loop BIG ?_
  refine loop_ind (fun n f L => ∃ (l_1 : (List Int)) (t_1 : Int) (v_1 : Nat), octet_Bytes_l0 w_ n l_1 t_1 = some o0 ∧ FOk f [⟨2, [], .ref 0 0 0 0⟩, ⟨3, [], .ref 1 v_1 0 l_1.length⟩, ⟨10, [], .sl false w_.length (cat (nI .u16) w_)⟩, ⟨11, [], .s (.int .i64 (ln w_))⟩, ⟨12, [], .s (.int .i64 t_1)⟩] ∧ L = [⟨0, .grow, 1, cat (nI .u8) ([] : List Int)⟩, ⟨v_1, .grow, 1, cat (nI .u8) l_1⟩]) ?_ ?_ BIG _ _ ⟨(rp (0) (0 : Int)), (0), (0), hx0, FOk_of [2, 3, 10, 11, 12] hf5 (by kernel_rfl), (by kernel_rfl)⟩
  · rintro f L ⟨l_1, t_1, v_1, h, _⟩
    cases (show (none : Option _) = some _ from h)
  · rintro n0 R0 ih f L ⟨l_1, t_1, v_1, h, hf, rfl⟩
    rw [octet_Bytes_l0] at h
    refine k_seq ?_
    refine k_reg ?_
    refine mops_en hf (by kernel_rfl) fun f1 hf1 => ?_
    refine k_c ?_
    refine k_seq ?_
    refine k_cond hf1 (t := (decide (t_1 < (ln w_)))) (by kernel_rfl) (fun hc2 => ?_) (fun hc2 => ?_)
    · have h := if_t h hc2
      refine k_skip ?_
      refine k_c ?_
      refine k_seq ?_
      refine k_block ?_
      refine k_seq ?_
      refine k_reg ?_
      obtain ⟨c3, h⟩ := as_ok h
      refine mops_adv rfl (v := .ip ((cat (nI .u16) w_).drop ((t_1 : Int).toNat * 1))) hf1 (by kernel_rfl) (e_ias (n := w_.length) (xv := .sl false w_.length (cat (nI .u16) w_)) (k := .i64) (iv := t_1) (p := .ip ((cat (nI .u16) w_).drop ((t_1 : Int).toNat * 1))) (by kernel_rfl) (by kernel_rfl) (by kernel_rfl) (by kernel_rfl) c3) fun f2 hf2 => ?_
      refine mops_adv rfl (v := .s (.int .u16 (gt w_ t_1))) hf2 (by kernel_rfl) (e_load_ip (g := (nI .u16)) (l := w_) (iv := t_1) [] (by kernel_rfl) c3 (by kernel_rfl) (by kernel_rfl)) fun f3 hf3 => ?_
      refine mops_en hf3 (by kernel_rfl) fun f4 hf4 => ?_
      refine k_c ?_
      refine k_reg ?_
      refine mops_sg 2 hf4 (by kernel_rfl) fun f5 hf5 => ?_
      obtain ⟨r_4, hx_r_4, h⟩ := Option.bind_eq_some_iff.1 h
      refine mops_call rfl hf5 (av := [.s (.int .u16 (gt w_ t_1))]) (by kernel_rfl) (v := .s (.int .u8 r_4)) (CalL.pure (octet_High_ok (gt w_ t_1) r_4 hx_r_4) rfl rfl (Nat.le_of_ble_eq_true (by kernel_rfl))) (fun _ => rfl) fun f6 hf6 => ?_
      refine mops_sg 1 hf6 (by kernel_rfl) fun f7 hf7 => ?_
      obtain ⟨r_5, hx_r_5, h⟩ := Option.bind_eq_some_iff.1 h
      refine mops_call rfl hf7 (av := [.s (.int .u16 (gt w_ t_1))]) (by kernel_rfl) (v := .s (.int .u8 r_5)) (CalL.pure (octet_Low_ok (gt w_ t_1) r_5 hx_r_5) rfl rfl (Nat.le_of_ble_eq_true (by kernel_rfl))) (fun _ => rfl) fun f8 hf8 => ?_
      refine mops_sg 1 hf8 (by kernel_rfl) fun f9 hf9 => ?_
      obtain ⟨c4, h⟩ := as_ok h
      refine mops_adv rfl (v := .ref 1 (v_1 + 1) 0 (l_1 ++ [r_4, r_5]).length) hf9 (by kernel_rfl) (e_app (g := (nI .u8)) (l := l_1) (l' := [r_4, r_5]) (b := 1) (ver := v_1) (n := l_1.length) (by kernel_rfl) rfl (live_grow (by kernel_rfl)) (sll_ev (v := .ref 2 0 0 2) (by kernel_rfl) (sll_ref (B := ⟨0, .grow, 1, cat (nI .u8) [r_4, r_5]⟩) (by kernel_rfl) (live_grow (by kernel_rfl)))) (slc_ev (v := .ref 2 0 0 2) (by kernel_rfl) (slc_ref (g := (nI .u8)) (l := [r_4, r_5]) (kd := .grow) (q := 1) (by kernel_rfl) (live_grow (by kernel_rfl)))) c4) fun f10 hf10 => ?_
      refine mops_en hf10 (by kernel_rfl) fun f11 hf11 => ?_
      refine k_b ?_
      refine k_c ?_
      refine k_reg ?_
      refine mops_en hf11 (by kernel_rfl) fun f12 hf12 => ?_
      refine k_l' (vs_cut (l := [⟨2, [], .ref 0 0 0 0⟩, ⟨3, [], .ref 1 (v_1 + 1) 0 (l_1 ++ [r_4, r_5]).length⟩, ⟨10, [], .sl false w_.length (cat (nI .u16) w_)⟩, ⟨11, [], .s (.int .i64 (ln w_))⟩, ⟨12, [], .s (.int .i64 (IntKind.wrap .i64 (t_1 + 1)))⟩]) 2 (by kernel_rfl) (by kernel_rfl) (L' := [⟨0, .grow, 1, cat (nI .u8) ([] : List Int)⟩, ⟨(v_1 + 1), .grow, 1, cat (nI .u8) (l_1 ++ [r_4, r_5])⟩]) (by kernel_rfl) ⟨⟨rfl, rfl⟩, ⟨rfl, rfl⟩, ⟨rfl, (static_under _ _ (by simp [V.static, statics, cat_stat]))⟩, ⟨rfl, rfl⟩, ⟨rfl, rfl⟩, trivial⟩ ⟨.inr (.inr (statics_unders _ _ (cat_stat _))), .inr (.inr (statics_unders _ _ (cat_stat _))), trivial⟩ (FOk_of [2, 3, 10, 11, 12] hf12 (by kernel_rfl)) fun f hf => ?_)
      exact ih _ _ ⟨(l_1 ++ [r_4, r_5]), (IntKind.wrap .i64 (t_1 + 1)), (v_1 + 1), h, hf, rfl⟩
    · have h := if_f h hc2
      refine k_exit ?_
      refine x_c nofun ?_
      refine x_l nofun ?_
      refine x_b ?_
      refine k_hp (L' := [⟨0, .grow, 1, cat (nI .u8) ([] : List Int)⟩, ⟨v_1, .grow, 1, cat (nI .u8) l_1⟩]) (by kernel_rfl) ?_
      exact hgo0 l_1 v_1 (Option.some.inj h) _ (FOk_of [2, 3] hf1 (by kernel_rfl))
def bytes_HasPrefix_i0 : List Op1 := [(oM 4 (.k (.bool false)) [])]
def bytes_HasPrefix_i1 : List Op1 := [(oM 5 (.t 0) []), (oE 6 (.len (.t 5)) [0]), (oM 7 (.t 1) []), (oE 8 (.len (.t 7)) [2]), (oE 9 (.bin .geq (.t 6) (.t 8)) [1, 3]), (oM 10 (.t 9) [4]), (oG 11 (.mv (.t 0)) 10 true [5]), (oG 12 (.mv (.t 1)) 10 true [5]), (oG 13 (.len (.t 12)) 10 true [7, 5]), (oG 14 (.slice 1 (.t 11) none (some (.t 13))) 10 true [6, 8, 5]), (oG 15 (.mv (.t 1)) 10 true [5]), ⟨(some 16), (.call 10 [(.t 14), (.t 15)]), (some (10, true)), [9, 10, 5, 5]⟩, (oE 17 (.pick (.t 10) (.t 16) (.k (.bool false))) [5, 11]), (oM 4 (.t 17) [12, 11, 0, 1, 2, 3, 4, 5, 6, 7, 8, 9, 10, 11, 12])]
def bytes_HasPrefix_i2 : IR := .ret
def bytes_HasPrefix_i3 : IR := (.seq (.reg false bytes_HasPrefix_i1) bytes_HasPrefix_i2)
def bytes_HasPrefix_ir : IR := (.seq (.reg false bytes_HasPrefix_i0) bytes_HasPrefix_i3)
theorem bytes_HasPrefix_cfn : cFn Try.prog 24 = some (bytes_HasPrefix_ir, [(.t 4)], 18) := by kernel_rfl
def bytes_HasPrefix_V (r : (Bool)) : V := .s (.bool r)
def bytes_HasPrefix_C (r : (Bool)) : X → Fr → Hp → Prop := FinL [(.t 4)] [] (bytes_HasPrefix_V r) []
theorem bytes_HasPrefix_ok (s_ : (List Int)) (prefix_ : (List Int)) (r : (Bool)) (h : bytes_HasPrefix s_ prefix_ = some r) : Pure Try.prog 24 [.sl false s_.length (cat (nI .u8) s_), .sl false prefix_.length (cat (nI .u8) prefix_)] (bytes_HasPrefix_V r) := by
  refine ConL.of bytes_HasPrefix_cfn (Nat.le_of_ble_eq_true (by kernel_rfl)) (Nat.le_of_ble_eq_true (by kernel_rfl)) ?_
  refine k_start ?_
  show dwv Try.prog [] bytes_HasPrefix_ir (kont Try.prog [] (bytes_HasPrefix_C r) []) (fr0 [.sl false s_.length (cat (nI .u8) s_), .sl false prefix_.length (cat (nI .u8) prefix_)]) []
  have hf : FOk (fr0 [.sl false s_.length (cat (nI .u8) s_), .sl false prefix_.length (cat (nI .u8) prefix_)]) [⟨0, [], .sl false s_.length (cat (nI .u8) s_)⟩, ⟨1, [], .sl false prefix_.length (cat (nI .u8) prefix_)⟩] := ⟨⟨fun _ => rfl, fun h => (h trivial).elim⟩, ⟨fun _ => rfl, fun h => (h trivial).elim⟩, trivial⟩
  generalize fr0 [.sl false s_.length (cat (nI .u8) s_), .sl false prefix_.length (cat (nI .u8) prefix_)] = f at hf ⊢
  unfold bytes_HasPrefix at h
  refine k_seq ?_
  refine k_reg ?_
  refine mops_en hf (by kernel_rfl) fun f1 hf1 => ?_
  refine k_c ?_
  refine k_seq ?_
  refine k_reg ?_
  refine mops_sg 9 hf1 (by kernel_rfl) fun f2 hf2 => ?_
  obtain ⟨c1, h⟩ := as_ok h
  refine mops_gadv (dst := (some 14)) (op := (.slice 1 (.t 11) none (some (.t 13)))) (aft := [6, 8, 5]) (t := 10) (w := true) (ch := [(10, true)]) (b := (decide ((ln prefix_) ≤ (ln s_)))) (v := .sl (false && ((ln prefix_) : Int).toNat == s_.length) (((ln prefix_) : Int).toNat - 0) (cat (nI .u8) (s_.drop 0))) (by kernel_rfl) hf2 (by kernel_rfl) (by kernel_rfl) (by kernel_rfl) (fun hb2 => e_slice_sl (g := (nI .u8)) (l := s_) (n := s_.length) (u := false) (by kernel_rfl) (b_ns (k := .i64) (iv := (ln prefix_)) (by kernel_rfl) (c1 hb2))) fun f3 hf3 => ?_
  refine mops_sg 1 hf3 (by kernel_rfl) fun f4 hf4 => ?_
  obtain ⟨r_, hx_r_, h⟩ := Option.bind_eq_some_iff.1 h
  refine mops_gcall (dst := (some 16)) (m := 10) (args := [(.t 14), (.t 15)]) (aft := [9, 10, 5, 5]) (t := 10) (w := true) (ch := [(10, true)]) (b := (decide ((ln prefix_) ≤ (ln s_)))) (by kernel_rfl) hf4 (by kernel_rfl) (by kernel_rfl) (av := [.sl (false && ((ln prefix_) : Int).toNat == s_.length) (((ln prefix_) : Int).toNat - 0) (cat (nI .u8) (s_.drop 0)), .sl false prefix_.length (cat (nI .u8) prefix_)]) (by kernel_rfl) (v := .s (.bool r_)) (by kernel_rfl) (fun hb3 => (CalL.purew (bytes_Equal_ok ((s_.drop 0).take (((ln prefix_) : Int).toNat - 0)) prefix_ r_ (if_t hx_r_ hb3)) (Wks.cons (Wk.part (g := (nI .u8)) (cut_le (l := s_) (a := 0) (b := ((ln prefix_) : Int).toNat) (cut_ns (n := s_.length) (c1 hb3)) rfl)) (Wks.cons Wk.refl Wks.nil)) (by simp [V.static, statics, cat_stat]) rfl (by kernel_rfl))) fun f5 hf5 => ?_
  refine mops_en hf5 (by kernel_rfl) fun f6 hf6 => ?_
  refine k_c ?_
  refine k_ret ?_
  obtain rfl := Option.some.inj h
  exact k_fin (fin_ret (.inl rfl) hf6 (vs := [.s (.bool ((decide ((ln prefix_) ≤ (ln s_))) && r_))]) (by kernel_rfl) (SettL.pure (FzL.stat rfl)))
end Go.Proofs.YtmabdijipkmmkaaK
