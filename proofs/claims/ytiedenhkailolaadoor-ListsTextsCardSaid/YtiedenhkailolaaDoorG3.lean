/- The Go functions come to the functions over typed data. Printed by a program of this work. -/
import Derived.Test.YtiedenhkailolaaDoorF
import Derived.Test.YtiedenhkailolaaDoorProg
import Derived.Test.YtiedenhkailolaaDoorG1
import Derived.Test.YtiedenhkailolaaDoorG2
namespace Go.Proofs.YtiedenhkailolaaDoorK
set_option linter.unusedVariables false
set_option linter.unusedSimpArgs false
set_option maxHeartbeats 4000000
open Go.RowKit
attribute [local irreducible] dwv mops lops lqops lwops kont iter run runK rk okK ex E1 vals val chain chB sel resF
def spinetlaw17_alive_i0 : List Op1 := [(oM 0 (.k (.bool false)) [])]
def spinetlaw17_alive_i1 : List Op1 := [(oC 4 12 [(.k (.int .u8 129)), (.k (.int .i64 4))] []), (oM 1 (.t 4) [0, 0, 0])]
def spinetlaw17_alive_i2 : List Op1 := [(oC 6 7 [(.k (.string ⟨#[68, 44, 88]⟩)), (.k (.int .i64 4))] []), (oM 5 (.t 6) [0]), (oE 7 (.ext 0 (.t 5)) [1]), (oE 8 (.ext 1 (.t 5)) [1]), (oM 2 (.t 7) [2, 0, 0, 1, 2]), (oM 3 (.t 8) [3, 4, 0, 1, 2, 3, 4])]
def spinetlaw17_alive_i3 : List Op1 := [(oM 9 (.t 1) []), (oE 10 (.len (.t 9)) [0]), (oE 11 (.bin .eql (.t 10) (.k (.int .i64 3))) [1]), (oM 12 (.t 11) [2]), (oG 13 (.mv (.t 1)) 12 true [3]), (oG 14 (.ias 2 (.t 13) (.k (.int .i64 0))) 12 true [4, 3]), (oG 15 (.fld 0 (.t 14)) 12 true [5, 3]), (oG 16 (.load false 1 (.t 15)) 12 true [6, 3]), (oG 17 (.bin .eql (.t 16) (.k (.int .i64 10))) 12 true [7, 3]), (oE 18 (.pick (.t 12) (.t 17) (.k (.bool false))) [3, 8]), (oM 19 (.t 18) [9, 3]), (oG 20 (.mv (.t 1)) 19 true [10]), (oG 21 (.ias 2 (.t 20) (.k (.int .i64 1))) 19 true [11, 10]), (oG 22 (.fld 1 (.t 21)) 19 true [12, 10]), (oG 23 (.load false 1 (.t 22)) 19 true [13, 10]), (oE 24 (.pick (.t 19) (.t 23) (.k (.bool false))) [10, 14]), (oM 25 (.t 24) [15, 10]), (oG 26 (.mv (.t 2)) 25 true [16]), (oG 27 (.bin .eql (.t 26) (.k (.int .u8 22))) 25 true [17, 16]), (oE 28 (.pick (.t 25) (.t 27) (.k (.bool false))) [16, 18]), (oM 29 (.t 28) [19, 16]), (oG 30 (.mv (.t 3)) 29 true [20]), (oG 31 (.bin .eql (.t 30) (.k (.int .i64 0))) 29 true [21, 20]), (oE 32 (.pick (.t 29) (.t 31) (.k (.bool false))) [20, 22]), (oM 0 (.t 32) [23, 20, 0, 1, 2, 3, 4, 5, 6, 7, 8, 9, 10, 11, 12, 13, 14, 15, 16, 17, 18, 19, 20, 21, 22, 23])]
def spinetlaw17_alive_i4 : IR := .ret
def spinetlaw17_alive_i5 : IR := (.seq (.reg false spinetlaw17_alive_i3) spinetlaw17_alive_i4)
def spinetlaw17_alive_i6 : IR := (.seq (.reg false spinetlaw17_alive_i2) spinetlaw17_alive_i5)
def spinetlaw17_alive_i7 : IR := (.seq (.reg false spinetlaw17_alive_i1) spinetlaw17_alive_i6)
def spinetlaw17_alive_ir : IR := (.seq (.reg false spinetlaw17_alive_i0) spinetlaw17_alive_i7)
theorem spinetlaw17_alive_cfn : cFn Tryd.prog 11 = some (spinetlaw17_alive_ir, [(.t 0)], 33) := by kernel_rfl
def spinetlaw17_alive_V (r : (Bool)) : V := .s (.bool r)
def spinetlaw17_alive_C (r : (Bool)) : X → Fr → Hp → Prop := FinL [(.t 0)] [] (spinetlaw17_alive_V r) []
theorem spinetlaw17_alive_ok (r : (Bool)) (h : spinetlaw17_alive = some r) : Pure Tryd.prog 11 [] (spinetlaw17_alive_V r) := by
  refine ConL.of spinetlaw17_alive_cfn (Nat.le_of_ble_eq_true (by kernel_rfl)) (Nat.le_of_ble_eq_true (by kernel_rfl)) ?_
  refine k_start ?_
  show dwv Tryd.prog [] spinetlaw17_alive_ir (kont Tryd.prog [] (spinetlaw17_alive_C r) []) (fr0 []) []
  have hf : FOk (fr0 []) [] := trivial
  generalize fr0 [] = f at hf ⊢
  unfold spinetlaw17_alive at h
  refine k_seq ?_
  refine k_reg ?_
  refine mops_en hf (by kernel_rfl) fun f1 hf1 => ?_
  refine k_c ?_
  refine k_seq ?_
  refine k_reg ?_
  obtain ⟨r_, hx_r_, h⟩ := Option.bind_eq_some_iff.1 h
  refine mops_call rfl hf1 (av := [.s (.int .u8 129), .s (.int .i64 4)]) (by kernel_rfl) (v := .sl false r_.length (cat lists_Part.v r_)) (CalL.pure (lists_Order_ok (129) (4) r_ hx_r_) rfl (by simp [V.static, statics, cat_stat, lists_Order_V]) (Nat.le_of_ble_eq_true (by kernel_rfl))) (fun _ => rfl) fun f2 hf2 => ?_
  refine mops_en hf2 (by kernel_rfl) fun f3 hf3 => ?_
  refine k_c ?_
  refine k_seq ?_
  refine k_reg ?_
  obtain ⟨r_1, hx_r_1, h⟩ := Option.bind_eq_some_iff.1 h
  refine mops_call rfl hf3 (av := [.s (.string (⟨#[68, 44, 88]⟩ : ByteArray)), .s (.int .i64 4)]) (by kernel_rfl) (v := .tup [.s (.int .u8 r_1.1), .s (.int .i64 r_1.2)]) (CalL.pure (lists_Read_ok (⟨#[68, 44, 88]⟩ : ByteArray) (4) r_1 hx_r_1) rfl rfl (Nat.le_of_ble_eq_true (by kernel_rfl))) (fun _ => rfl) fun f4 hf4 => ?_
  refine mops_en hf4 (by kernel_rfl) fun f5 hf5 => ?_
  refine k_c ?_
  refine k_seq ?_
  refine k_reg ?_
  refine mops_sg 5 hf5 (by kernel_rfl) fun f6 hf6 => ?_
  obtain ⟨c1, h⟩ := as_ok h
  refine mops_gadv (dst := (some 14)) (op := (.ias 2 (.t 13) (.k (.int .i64 0)))) (aft := [4, 3]) (t := 12) (w := true) (ch := [(12, true)]) (b := ((ln r_) == 3)) (v := .ip ((cat lists_Part.v r_).drop ((0 : Int).toNat * 2))) (by kernel_rfl) hf6 (by kernel_rfl) (by kernel_rfl) (by kernel_rfl) (fun hb2 => e_ias (n := r_.length) (xv := .sl false r_.length (cat lists_Part.v r_)) (k := .i64) (iv := 0) (p := .ip ((cat lists_Part.v r_).drop ((0 : Int).toNat * 2))) (by kernel_rfl) (by kernel_rfl) (by kernel_rfl) (by kernel_rfl) (c1 hb2)) fun f7 hf7 => ?_
  refine mops_sg 1 hf7 (by kernel_rfl) fun f8 hf8 => ?_
  refine mops_gadv (dst := (some 16)) (op := (.load false 1 (.t 15))) (aft := [6, 3]) (t := 12) (w := true) (ch := [(12, true)]) (b := ((ln r_) == 3)) (v := .s (.int .i64 (gt r_ (0)).Reg)) (by kernel_rfl) hf8 (by kernel_rfl) (by kernel_rfl) (by kernel_rfl) (fun hb3 => e_load_ip (g := lists_Part.v) (l := r_) (iv := 0) [0] (by kernel_rfl) (c1 hb3) (by kernel_rfl) (by kernel_rfl)) fun f9 hf9 => ?_
  refine mops_sg 4 hf9 (by kernel_rfl) fun f10 hf10 => ?_
  obtain ⟨c4, h⟩ := as_ok h
  refine mops_gadv (dst := (some 21)) (op := (.ias 2 (.t 20) (.k (.int .i64 1)))) (aft := [11, 10]) (t := 19) (w := true) (ch := [(19, true)]) (b := (((ln r_) == 3) && ((gt r_ (0)).Reg == 10))) (v := .ip ((cat lists_Part.v r_).drop ((1 : Int).toNat * 2))) (by kernel_rfl) hf10 (by kernel_rfl) (by kernel_rfl) (by kernel_rfl) (fun hb5 => e_ias (n := r_.length) (xv := .sl false r_.length (cat lists_Part.v r_)) (k := .i64) (iv := 1) (p := .ip ((cat lists_Part.v r_).drop ((1 : Int).toNat * 2))) (by kernel_rfl) (by kernel_rfl) (by kernel_rfl) (by kernel_rfl) (c4 hb5)) fun f11 hf11 => ?_
  refine mops_sg 1 hf11 (by kernel_rfl) fun f12 hf12 => ?_
  refine mops_gadv (dst := (some 23)) (op := (.load false 1 (.t 22))) (aft := [13, 10]) (t := 19) (w := true) (ch := [(19, true)]) (b := (((ln r_) == 3) && ((gt r_ (0)).Reg == 10))) (v := .s (.bool (gt r_ (1)).High)) (by kernel_rfl) hf12 (by kernel_rfl) (by kernel_rfl) (by kernel_rfl) (fun hb6 => e_load_ip (g := lists_Part.v) (l := r_) (iv := 1) [1] (by kernel_rfl) (c4 hb6) (by kernel_rfl) (by kernel_rfl)) fun f13 hf13 => ?_
  refine mops_end [0] hf13 (l' := [⟨0, [], .s (.bool ((((((ln r_) == 3) && ((gt r_ (0)).Reg == 10)) && (gt r_ (1)).High) && (r_1.1 == 22)) && (r_1.2 == 0)))⟩]) (L' := []) (by kernel_rfl) fun f14 hf14 => ?_
  refine k_c ?_
  refine k_ret ?_
  obtain rfl := Option.some.inj h
  exact k_fin (fin_ret (.inl rfl) hf14 (vs := [.s (.bool ((((((ln r_) == 3) && ((gt r_ (0)).Reg == 10)) && (gt r_ (1)).High) && (r_1.1 == 22)) && (r_1.2 == 0)))]) (by kernel_rfl) (SettL.pure (FzL.stat rfl)))
def spinetlaw17_ListsTexts_i0 : List Op1 := [(oM 4 (.k (.bool false)) [])]
def spinetlaw17_ListsTexts_i1 : List Op1 := [(oM 8 (.t 0) []), (oM 9 (.t 1) []), (oC 10 19 [(.t 8), (.t 9)] [0, 1]), (oM 5 (.t 10) [2, 2, 0, 1, 2])]
def spinetlaw17_ListsTexts_i2 : List Op1 := [(oM 12 (.t 5) []), (oM 13 (.t 1) []), (oC 14 7 [(.t 12), (.t 13)] [0, 1]), (oM 11 (.t 14) [2]), (oE 15 (.ext 0 (.t 11)) [3]), (oE 16 (.ext 1 (.t 11)) [3]), (oM 6 (.t 15) [4, 2, 0, 1, 2, 3, 4]), (oM 7 (.t 16) [5, 6, 0, 1, 2, 3, 4, 5, 6])]
def spinetlaw17_ListsTexts_i3 : List Op1 := [(oM 17 (.t 5) []), (oM 18 (.t 0) []), (oM 19 (.t 1) []), (oE 20 (.bin .eql (.t 19) (.k (.int .i64 3))) [2]), (oC 21 20 [(.t 18), (.t 20)] [1, 3]), (oE 22 (.bin .eql (.t 17) (.t 21)) [0, 4]), (oM 23 (.t 22) [5, 4]), (oG 24 (.mv (.t 6)) 23 true [6]), (oG 25 (.mv (.t 0)) 23 true [6]), (oG 26 (.bin .eql (.t 24) (.t 25)) 23 true [7, 8, 6]), (oE 27 (.pick (.t 23) (.t 26) (.k (.bool false))) [6, 9]), (oM 28 (.t 27) [10, 6]), (oG 29 (.mv (.t 7)) 28 true [11]), (oG 30 (.bin .eql (.t 29) (.k (.int .i64 0))) 28 true [12, 11]), (oE 31 (.pick (.t 28) (.t 30) (.k (.bool false))) [11, 13]), (oM 32 (.t 31) [14, 11]), ⟨(some 33), (.call 11 []), (some (32, true)), [15, 15]⟩, (oE 34 (.pick (.t 32) (.t 33) (.k (.bool false))) [15, 16]), (oM 4 (.t 34) [17, 16, 0, 1, 2, 3, 4, 5, 6, 7, 8, 9, 10, 11, 12, 13, 14, 15, 16, 17])]
def spinetlaw17_ListsTexts_i4 : IR := .ret
def spinetlaw17_ListsTexts_i5 : IR := (.seq (.reg false spinetlaw17_ListsTexts_i3) spinetlaw17_ListsTexts_i4)
def spinetlaw17_ListsTexts_i6 : IR := (.seq (.reg false spinetlaw17_ListsTexts_i2) spinetlaw17_ListsTexts_i5)
def spinetlaw17_ListsTexts_i7 : IR := (.seq (.reg false spinetlaw17_ListsTexts_i1) spinetlaw17_ListsTexts_i6)
def spinetlaw17_ListsTexts_ir : IR := (.seq (.reg false spinetlaw17_ListsTexts_i0) spinetlaw17_ListsTexts_i7)
theorem spinetlaw17_ListsTexts_cfn : cFn Tryd.prog 6 = some (spinetlaw17_ListsTexts_ir, [(.t 4)], 35) := by kernel_rfl
def spinetlaw17_ListsTexts_V (r : (Bool)) : V := .s (.bool r)
def spinetlaw17_ListsTexts_C (r : (Bool)) : X → Fr → Hp → Prop := FinL [(.t 4)] [] (spinetlaw17_ListsTexts_V r) []
theorem spinetlaw17_ListsTexts_ok (post_ : Int) (stack_ : Int) (r : (Bool)) (h : spinetlaw17_ListsTexts post_ stack_ = some r) : Pure Tryd.prog 6 [.s (.int .u8 post_), .s (.int .i64 stack_)] (spinetlaw17_ListsTexts_V r) := by
  refine ConL.of spinetlaw17_ListsTexts_cfn (Nat.le_of_ble_eq_true (by kernel_rfl)) (Nat.le_of_ble_eq_true (by kernel_rfl)) ?_
  refine k_start ?_
  show dwv Tryd.prog [] spinetlaw17_ListsTexts_ir (kont Tryd.prog [] (spinetlaw17_ListsTexts_C r) []) (fr0 [.s (.int .u8 post_), .s (.int .i64 stack_)]) []
  have hf : FOk (fr0 [.s (.int .u8 post_), .s (.int .i64 stack_)]) [⟨0, [], .s (.int .u8 post_)⟩, ⟨1, [], .s (.int .i64 stack_)⟩] := ⟨⟨fun _ => rfl, fun h => (h trivial).elim⟩, ⟨fun _ => rfl, fun h => (h trivial).elim⟩, trivial⟩
  generalize fr0 [.s (.int .u8 post_), .s (.int .i64 stack_)] = f at hf ⊢
  unfold spinetlaw17_ListsTexts at h
  refine k_seq ?_
  refine k_reg ?_
  refine mops_en hf (by kernel_rfl) fun f1 hf1 => ?_
  refine k_c ?_
  refine k_seq ?_
  refine k_reg ?_
  refine mops_sg 2 hf1 (by kernel_rfl) fun f2 hf2 => ?_
  obtain ⟨r_, hx_r_, h⟩ := Option.bind_eq_some_iff.1 h
  refine mops_call rfl hf2 (av := [.s (.int .u8 post_), .s (.int .i64 stack_)]) (by kernel_rfl) (v := .s (.string r_)) (CalL.pure (lists_Text_ok post_ stack_ r_ hx_r_) rfl rfl (Nat.le_of_ble_eq_true (by kernel_rfl))) (fun _ => rfl) fun f3 hf3 => ?_
  refine mops_en hf3 (by kernel_rfl) fun f4 hf4 => ?_
  refine k_c ?_
  refine k_seq ?_
  refine k_reg ?_
  refine mops_sg 2 hf4 (by kernel_rfl) fun f5 hf5 => ?_
  obtain ⟨r_1, hx_r_1, h⟩ := Option.bind_eq_some_iff.1 h
  refine mops_call rfl hf5 (av := [.s (.string r_), .s (.int .i64 stack_)]) (by kernel_rfl) (v := .tup [.s (.int .u8 r_1.1), .s (.int .i64 r_1.2)]) (CalL.pure (lists_Read_ok r_ stack_ r_1 hx_r_1) rfl rfl (Nat.le_of_ble_eq_true (by kernel_rfl))) (fun _ => rfl) fun f6 hf6 => ?_
  refine mops_en hf6 (by kernel_rfl) fun f7 hf7 => ?_
  refine k_c ?_
  refine k_seq ?_
  refine k_reg ?_
  refine mops_sg 4 hf7 (by kernel_rfl) fun f8 hf8 => ?_
  obtain ⟨r_2, hx_r_2, h⟩ := Option.bind_eq_some_iff.1 h
  refine mops_call rfl hf8 (av := [.s (.int .u8 post_), .s (.bool (stack_ == 3))]) (by kernel_rfl) (v := .s (.string r_2)) (CalL.pure (spinetlaw17_text_ok post_ (stack_ == 3) r_2 hx_r_2) rfl rfl (Nat.le_of_ble_eq_true (by kernel_rfl))) (fun _ => rfl) fun f9 hf9 => ?_
  refine mops_sg 11 hf9 (by kernel_rfl) fun f10 hf10 => ?_
  obtain ⟨r_3, hx_r_3, h⟩ := Option.bind_eq_some_iff.1 h
  refine mops_gcall (dst := (some 33)) (m := 11) (args := []) (aft := [15, 15]) (t := 32) (w := true) (ch := [(32, true)]) (b := (((r_.toList == r_2.toList) && (r_1.1 == post_)) && (r_1.2 == 0))) (by kernel_rfl) hf10 (by kernel_rfl) (by kernel_rfl) (av := []) (by kernel_rfl) (v := .s (.bool r_3)) (by kernel_rfl) (fun hb1 => (CalL.pure (spinetlaw17_alive_ok  r_3 (if_t hx_r_3 hb1)) rfl rfl (Nat.le_of_ble_eq_true (by kernel_rfl)))) fun f11 hf11 => ?_
  refine mops_en hf11 (by kernel_rfl) fun f12 hf12 => ?_
  refine k_c ?_
  refine k_ret ?_
  obtain rfl := Option.some.inj h
  exact k_fin (fin_ret (.inl rfl) hf12 (vs := [.s (.bool ((((r_.toList == r_2.toList) && (r_1.1 == post_)) && (r_1.2 == 0)) && r_3))]) (by kernel_rfl) (SettL.pure (FzL.stat rfl)))
end Go.Proofs.YtiedenhkailolaaDoorK
