/- The Go functions come to the functions over typed data. Printed by a program of this work. -/
import Derived.Test.YtiedenhkailolaaDoorF
import Derived.Test.YtiedenhkailolaaDoorProg
import Derived.Test.YtiedenhkailolaaDoorG1
import Derived.Test.YtiedenhkailolaaDoorG2
namespace Go.Proofs.YtiedenhkailolaaDoorK
set_option linter.unusedVariables false
set_option linter.unusedSimpArgs false
set_option maxHeartbeats 4000000
open Go.RowKit
attribute [local irreducible] dwv mops lops lqops lwops kont iter run runK rk okK ex E1 vals val chain chB sel resF
def spinetlaw17_alive_i0 : List Op1 := [(oM 0 (.k (.bool false)) [])]
def spinetlaw17_alive_i1 : List Op1 := [(oC 4 12 [(.k (.int .u8 129)), (.k (.int .i64 4))] []), (oM 1 (.t 4) [0, 0, 0])]
def spinetlaw17_alive_i2 : List Op1 := [(oC 6 7 [(.k (.string ⟨#[68, 44, 88]⟩)), (.k (.int .i64 4))] []), (oM 5 (.t 6) [0]), (oE 7 (.ext 0 (.t 5)) [1]), (oE 8 (.ext 1 (.t 5)) [1]), (oM 2 (.t 7) [2, 0, 0, 1, 2]), (oM 3 (.t 8) [3, 4, 0, 1, 2, 3, 4])]
def spinetlaw17_alive_i3 : List Op1 := [(oM 9 (.t 1) []), (oE 10 (.len (.t 9)) [0]), (oE 11 (.bin .eql (.t 10) (.k (.int .i64 3))) [1]), (oM 12 (.t 11) [2]), (oG 13 (.mv (.t 1)) 12 true [3]), (oG 14 (.ias 2 (.t 13) (.k (.int .i64 0))) 12 true [4, 3]), (oG 15 (.fld 0 (.t 14)) 12 true [5, 3]), (oG 16 (.load false 1 (.t 15)) 12 true [6, 3]), (oG 17 (.bin .eql (.t 16) (.k (.int .i64 10))) 12 true [7, 3]), (oE 18 (.pick (.t 12) (.t 17) (.k (.bool false))) [3, 8]), (oM 19 (.t 18) [9, 3]), (oG 20 (.mv (.t 1)) 19 true [10]), (oG 21 (.ias 2 (.t 20) (.k (.int .i64 1))) 19 true [11, 10]), (oG 22 (.fld 1 (.t 21)) 19 true [12, 10]), (oG 23 (.load false 1 (.t 22)) 19 true [13, 10]), (oE 24 (.pick (.t 19) (.t 23) (.k (.bool false))) [10, 14]), (oM 25 (.t 24) [15, 10]), (oG 26 (.mv (.t 2)) 25 true [16]), (oG 27 (.bin .eql (.t 26) (.k (.int .u8 22))) 25 true [17, 16]), (oE 28 (.pick (.t 25) (.t 27) (.k (.bool false))) [16, 18]), (oM 29 (.t 28) [19, 16]), (oG 30 (.mv (.t 3)) 29 true [20]), (oG 31 (.bin .eql (.t 30) (.k (.int .i64 0))) 29 true [21, 20]), (oE 32 (.pick (.t 29) (.t 31) (.k (.bool false))) [20, 22]), (oM 0 (.t 32) [23, 20, 0, 1, 2, 3, 4, 5, 6, 7, 8, 9, 10, 11, 12, 13, 14, 15, 16, 17, 18, 19, 20, 21, 22, 23])]
def spinetlaw17_alive_i4 : IR := .ret
def spinetlaw17_alive_i5 : IR := (.seq (.reg false spinetlaw17_alive_i3) spinetlaw17_alive_i4)
def spinetlaw17_alive_i6 : IR := (.seq (.reg false spinetlaw17_alive_i2) spinetlaw17_alive_i5)
def spinetlaw17_alive_i7 : IR := (.seq (.reg false spinetlaw17_alive_i1) spinetlaw17_alive_i6)
def spinetlaw17_alive_ir : IR := (.seq (.reg false spinetlaw17_alive_i0) spinetlaw17_alive_i7)
theorem spinetlaw17_alive_cfn : cFn Tryd.prog 11 = some (spinetlaw17_alive_ir, [(.t 0)], 33) := by kernel_rfl
def spinetlaw17_alive_V (r : (Bool)) : V := .s (.bool r)
def spinetlaw17_alive_C (r : (Bool)) : X → Fr → Hp → Prop := FinL [(.t 0)] [] (spinetlaw17_alive_V r) []
theorem spinetlaw17_alive_ok (r : (Bool)) (h : spinetlaw17_alive = some r) : Pure Tryd.prog 11 [] (spinetlaw17_alive_V r) := by
  refine ConL.of spinetlaw17_alive_cfn (Nat.le_of_ble_eq_true (by kernel_rfl)) (Nat.le_of_ble_eq_true (by kernel_rfl)) ?_
  refine k_start ?_
  show dwv Tryd.prog [] spinetlaw17_alive_ir (kont Tryd.prog [] (spinetlaw17_alive_C r) []) (fr0 []) []
  have hf : FOk (fr0 []) [] := trivial
  generalize fr0 [] = f at hf ⊢
  unfold spinetlaw17_alive at h
  refine k_seq ?_
  refine k_reg ?_
  refine mops_en hf (by kernel_rfl) fun f1 hf1 => ?_
  refine k_c ?_
  refine k_seq ?_
  refine k_reg ?_
  obtain ⟨r_, hx_r_, h⟩ := Option.bind_eq_some_iff.1 h
  refine mops_call rfl hf1 (av := [.s (.int .u8 129), .s (.int .i64 4)]) (by kernel_rfl) (v := .sl false r_.length (cat lists_Part.v r_)) (CalL.pure (lists_Order_ok (129) (4) r_ hx_r_) rfl (by simp [V.static, statics, cat_stat, lists_Order_V]) (Nat.le_of_ble_eq_true (by kernel_rfl))) (fun _ => rfl) fun f2 hf2 => ?_
  refine mops_en hf2 (by kernel_rfl) fun f3 hf3 => ?_
  refine k_c ?_
  refine k_seq ?_
  refine k_reg ?_
  obtain ⟨r_1, hx_r_1, h⟩ := Option.bind_eq_some_iff.1 h
  refine mops_call rfl hf3 (av := [.s (.string (⟨#[68, 44, 88]⟩ : ByteArray)), .s (.int .i64 4)]) (by kernel_rfl) (v := .tup [.s (.int .u8 r_1.1), .s (.int .i64 r_1.2)]) (CalL.pure (lists_Read_ok (⟨#[68, 44, 88]⟩ : ByteArray) (4) r_1 hx_r_1) rfl rfl (Nat.le_of_ble_eq_true (by kernel_rfl))) (fun _ => rfl) fun f4 hf4 => ?_
  refine mops_en hf4 (by kernel_rfl) fun f5 hf5 => ?_
  refine k_c ?_
  refine k_seq ?_
  refine k_reg ?_
  refine mops_sg 5 hf5 (by kernel_rfl) fun f6 hf6 => ?_
  obtain ⟨c1, h⟩ := as_ok h
  refine mops_gadv (dst := (some 14)) (op := (.ias 2 (.t 13) (.k (.int .i64 0)))) (aft := [4, 3]) (t := 12) (w := true) (ch := [(12, true)]) (b := ((ln r_) == 3)) (v := .ip ((cat lists_Part.v r_).drop ((0 : Int).toNat * 2))) (by kernel_rfl) hf6 (by kernel_rfl) (by kernel_rfl) (by kernel_rfl) (fun hb2 => e_ias (n := r_.length) (xv := .sl false r_.length (cat lists_Part.v r_)) (k := .i64) (iv := 0) (p := .ip ((cat lists_Part.v r_).drop ((0 : Int).toNat * 2))) (by kernel_rfl) (by kernel_rfl) (by kernel_rfl) (by kernel_rfl) (c1 hb2)) fun f7 hf7 => ?_
  refine mops_sg 1 hf7 (by kernel_rfl) fun f8 hf8 => ?_
  refine mops_gadv (dst := (some 16)) (op := (.load false 1 (.t 15))) (aft := [6, 3]) (t := 12) (w := true) (ch := [(12, true)]) (b := ((ln r_) == 3)) (v := .s (.int .i64 (gt r_ (0)).Reg)) (by kernel_rfl) hf8 (by kernel_rfl) (by kernel_rfl) (by kernel_rfl) (fun hb3 => e_load_ip (g := lists_Part.v) (l := r_) (iv := 0) [0] (by kernel_rfl) (c1 hb3) (by kernel_rfl) (by kernel_rfl)) fun f9 hf9 => ?_
  refine mops_sg 4 hf9 (by kernel_rfl) fun f10 hf10 => ?_
  obtain ⟨c4, h⟩ := as_ok h
  refine mops_gadv (dst := (some 21)) (op := (.ias 2 (.t 20) (.k (.int .i64 1)))) (aft := [11, 10]) (t := 19) (w := true) (ch := [(19, true)]) (b := (((ln r_) == 3) && ((gt r_ (0)).Reg == 10))) (v := .ip ((cat lists_Part.v r_).drop ((1 : Int).toNat * 2))) (by kernel_rfl) hf10 (by kernel_rfl) (by kernel_rfl) (by kernel_rfl) (fun hb5 => e_ias (n := r_.length) (xv := .sl false r_.length (cat lists_Part.v r_)) (k := .i64) (iv := 1) (p := .ip ((cat lists_Part.v r_).drop ((1 : Int).toNat * 2))) (by kernel_rfl) (by kernel_rfl) (by kernel_rfl) (by kernel_rfl) (c4 hb5)) fun f11 hf11 => ?_
  refine mops_sg 1 hf11 (by kernel_rfl) fun f12 hf12 => ?_
  refine mops_gadv (dst := (some 23)) (op := (.load false 1 (.t 22))) (aft := [13, 10]) (t := 19) (w := true) (ch := [(19, true)]) (b := (((ln r_) == 3) && ((gt r_ (0)).Reg == 10))) (v := .s (.bool (gt r_ (1)).High)) (by kernel_rfl) hf12 (by kernel_rfl) (by kernel_rfl) (by kernel_rfl) (fun hb6 => e_load_ip (g := lists_Part.v) (l := r_) (iv := 1) [1] (by kernel_rfl) (c4 hb6) (by kernel_rfl) (by kernel_rfl)) fun f13 hf13 => ?_
  refine mops_end [0] hf13 (l' := [⟨0, [], .s (.bool ((((((ln r_) == 3) && ((gt r_ (0)).Reg == 10)) && (gt r_ (1)).High) && (r_1.1 == 22)) && (r_1.2 == 0)))⟩]) (L' := []) (by kernel_rfl) fun f14 hf14 => ?_
  refine k_c ?_
  refine k_ret ?_
  obtain rfl := Option.some.inj h
  exact k_fin (fin_ret (.inl rfl) hf14 (vs := [.s (.bool ((((((ln r_) == 3) && ((gt r_ (0)).Reg == 10)) && (gt r_ (1)).High) && (r_1.1 == 22)) && (r_1.2 == 0)))]) (by kernel_rfl) (SettL.pure (FzL.stat rfl)))
def spinetlaw17_ListsOrders_i0 : List Op1 := [(oM 4 (.k (.bool false)) [])]
def spinetlaw17_ListsOrders_i1 : List Op1 := [(oM 8 (.t 0) []), (oM 9 (.t 1) []), (oC 10 12 [(.t 8), (.t 9)] [0, 1]), (oM 11 (.t 0) []), (oM 12 (.t 1) []), (oE 13 (.bin .eql (.t 12) (.k (.int .i64 3))) [4]), (oC 14 13 [(.t 11), (.t 13)] [3, 5, 2]), (oM 5 (.t 10) [2, 6, 0, 1, 2]), (oM 6 (.t 14) [6, 7, 0, 1, 2, 3, 4, 5, 6, 7])]
def spinetlaw17_ListsOrders_i2 : List Op1 := [(oM 15 (.t 5) []), (oE 16 (.len (.t 15)) [0]), (oM 17 (.t 6) []), (oE 18 (.len (.t 17)) [2]), (oE 19 (.bin .neq (.t 16) (.t 18)) [1, 3]), (oM 20 (.t 19) [4]), (oG 21 (.mv (.t 0)) 20 false [5]), ⟨(some 22), (.call 14 [(.t 21)]), (some (20, false)), [6, 5, 5]⟩, (oG 23 (.mv (.t 6)) 20 false [5]), (oG 24 (.len (.t 23)) 20 false [8, 5]), (oG 25 (.bin .neq (.t 22) (.t 24)) 20 false [7, 9, 5]), (oE 26 (.pick (.t 20) (.k (.bool true)) (.t 25)) [5, 10])]
def spinetlaw17_ListsOrders_i3 : List Op1 := [(oM 4 (.k (.bool false)) [])]
def spinetlaw17_ListsOrders_i4 : IR := .ret
def spinetlaw17_ListsOrders_i5 : IR := (.cond (.t 26) (.seq (.reg false spinetlaw17_ListsOrders_i3) spinetlaw17_ListsOrders_i4) .skip)
def spinetlaw17_ListsOrders_i6 : List Op1 := [(oM 7 (.k (.int .i64 0)) [])]
def spinetlaw17_ListsOrders_i7 : List Op1 := [(oM 27 (.t 7) []), (oM 28 (.t 5) []), (oE 29 (.len (.t 28)) [1]), (oE 30 (.bin .lss (.t 27) (.t 29)) [0, 2])]
def spinetlaw17_ListsOrders_i8 : IR := (.cond (.t 30) .skip (.exit 0))
def spinetlaw17_ListsOrders_i9 : List Op1 := [(oM 33 (.t 5) []), (oM 34 (.t 7) []), (oE 35 (.ias 2 (.t 33) (.t 34)) [0, 1]), (oE 36 (.fld 0 (.t 35)) [2]), (oE 37 (.load false 1 (.t 36)) [3]), (oM 38 (.t 6) []), (oM 39 (.t 7) []), (oE 40 (.ias 2 (.t 38) (.t 39)) [5, 6]), (oE 41 (.fld 0 (.t 40)) [7]), (oE 42 (.load false 1 (.t 41)) [8]), (oE 43 (.bin .neq (.t 37) (.t 42)) [4, 9]), (oM 44 (.t 43) [10]), (oG 45 (.mv (.t 5)) 44 false [11]), (oG 46 (.mv (.t 7)) 44 false [11]), (oG 47 (.ias 2 (.t 45) (.t 46)) 44 false [12, 13, 11]), (oG 48 (.fld 1 (.t 47)) 44 false [14, 11]), (oG 49 (.load false 1 (.t 48)) 44 false [15, 11]), (oG 50 (.mv (.t 6)) 44 false [11]), (oG 51 (.mv (.t 7)) 44 false [11]), (oG 52 (.ias 2 (.t 50) (.t 51)) 44 false [17, 18, 11]), (oG 53 (.fld 1 (.t 52)) 44 false [19, 11]), (oG 54 (.load false 1 (.t 53)) 44 false [20, 11]), (oG 55 (.bbin true (.t 49) (.t 54)) 44 false [16, 21, 11]), (oE 56 (.pick (.t 44) (.k (.bool true)) (.t 55)) [11, 22])]
def spinetlaw17_ListsOrders_i10 : List Op1 := [(oM 4 (.k (.bool false)) [])]
def spinetlaw17_ListsOrders_i11 : IR := .ret
def spinetlaw17_ListsOrders_i12 : IR := (.cond (.t 56) (.seq (.reg false spinetlaw17_ListsOrders_i10) spinetlaw17_ListsOrders_i11) .skip)
def spinetlaw17_ListsOrders_i13 : List Op1 := [(oM 31 (.t 7) []), (oE 32 (.bin .add (.t 31) (.k (.int .i64 1))) [0]), (oM 7 (.t 32) [1, 0, 1])]
def spinetlaw17_ListsOrders_i14 : IR := (.reg false spinetlaw17_ListsOrders_i13)
def spinetlaw17_ListsOrders_i15 : IR := (.seq (.block 1 (.seq (.reg true spinetlaw17_ListsOrders_i9) spinetlaw17_ListsOrders_i12)) spinetlaw17_ListsOrders_i14)
def spinetlaw17_ListsOrders_i16 : IR := (.seq (.seq (.reg false spinetlaw17_ListsOrders_i7) spinetlaw17_ListsOrders_i8) spinetlaw17_ListsOrders_i15)
def spinetlaw17_ListsOrders_i17 : IR := (.block 0 (.loop spinetlaw17_ListsOrders_i16))
def spinetlaw17_ListsOrders_i18 : List Op1 := [(oC 57 11 [] []), (oM 4 (.t 57) [0, 0, 0])]
def spinetlaw17_ListsOrders_i19 : IR := .ret
def spinetlaw17_ListsOrders_i20 : IR := (.seq (.reg false spinetlaw17_ListsOrders_i18) spinetlaw17_ListsOrders_i19)
def spinetlaw17_ListsOrders_i21 : IR := (.seq (.seq (.reg false spinetlaw17_ListsOrders_i6) spinetlaw17_ListsOrders_i17) spinetlaw17_ListsOrders_i20)
def spinetlaw17_ListsOrders_i22 : IR := (.seq (.seq (.reg false spinetlaw17_ListsOrders_i2) spinetlaw17_ListsOrders_i5) spinetlaw17_ListsOrders_i21)
def spinetlaw17_ListsOrders_i23 : IR := (.seq (.reg false spinetlaw17_ListsOrders_i1) spinetlaw17_ListsOrders_i22)
def spinetlaw17_ListsOrders_ir : IR := (.seq (.reg false spinetlaw17_ListsOrders_i0) spinetlaw17_ListsOrders_i23)
theorem spinetlaw17_ListsOrders_cfn : cFn Tryd.prog 4 = some (spinetlaw17_ListsOrders_ir, [(.t 4)], 58) := by kernel_rfl
def spinetlaw17_ListsOrders_V (r : (Bool)) : V := .s (.bool r)
def spinetlaw17_ListsOrders_C (r : (Bool)) : X → Fr → Hp → Prop := FinL [(.t 4)] [] (spinetlaw17_ListsOrders_V r) []
theorem spinetlaw17_ListsOrders_ok (post_ : Int) (stack_ : Int) (r : (Bool)) (h : spinetlaw17_ListsOrders post_ stack_ = some r) : Pure Tryd.prog 4 [.s (.int .u8 post_), .s (.int .i64 stack_)] (spinetlaw17_ListsOrders_V r) := by
  refine ConL.of spinetlaw17_ListsOrders_cfn (Nat.le_of_ble_eq_true (by kernel_rfl)) (Nat.le_of_ble_eq_true (by kernel_rfl)) ?_
  refine k_start ?_
  show dwv Tryd.prog [] spinetlaw17_ListsOrders_ir (kont Tryd.prog [] (spinetlaw17_ListsOrders_C r) []) (fr0 [.s (.int .u8 post_), .s (.int .i64 stack_)]) []
  have hf : FOk (fr0 [.s (.int .u8 post_), .s (.int .i64 stack_)]) [⟨0, [], .s (.int .u8 post_)⟩, ⟨1, [], .s (.int .i64 stack_)⟩] := ⟨⟨fun _ => rfl, fun h => (h trivial).elim⟩, ⟨fun _ => rfl, fun h => (h trivial).elim⟩, trivial⟩
  generalize fr0 [.s (.int .u8 post_), .s (.int .i64 stack_)] = f at hf ⊢
  unfold spinetlaw17_ListsOrders at h
  refine k_seq ?_
  refine k_reg ?_
  refine mops_en hf (by kernel_rfl) fun f1 hf1 => ?_
  refine k_c ?_
  refine k_seq ?_
  refine k_reg ?_
  refine mops_sg 2 hf1 (by kernel_rfl) fun f2 hf2 => ?_
  obtain ⟨r_, hx_r_, h⟩ := Option.bind_eq_some_iff.1 h
  refine mops_call rfl hf2 (av := [.s (.int .u8 post_), .s (.int .i64 stack_)]) (by kernel_rfl) (v := .sl false r_.length (cat lists_Part.v r_)) (CalL.pure (lists_Order_ok post_ stack_ r_ hx_r_) rfl (by simp [V.static, statics, cat_stat, lists_Order_V]) (Nat.le_of_ble_eq_true (by kernel_rfl))) (fun _ => rfl) fun f3 hf3 => ?_
  refine mops_sg 3 hf3 (by kernel_rfl) fun f4 hf4 => ?_
  obtain ⟨r_1, hx_r_1, h⟩ := Option.bind_eq_some_iff.1 h
  refine mops_call rfl hf4 (av := [.s (.int .u8 post_), .s (.bool (stack_ == 3))]) (by kernel_rfl) (v := .sl false r_1.length (cat spinetref17_Part.v r_1)) (CalL.pure (spinetref17_Order_ok post_ (stack_ == 3) r_1 hx_r_1) rfl (by simp [V.static, statics, cat_stat, spinetref17_Order_V]) (Nat.le_of_ble_eq_true (by kernel_rfl))) (fun _ => rfl) fun f5 hf5 => ?_
  refine mops_en hf5 (by kernel_rfl) fun f6 hf6 => ?_
  refine k_c ?_
  refine k_seq ?_
  refine k_seq ?_
  refine k_reg ?_
  refine mops_sg 7 hf6 (by kernel_rfl) fun f7 hf7 => ?_
  obtain ⟨r_2, hx_r_2, h⟩ := Option.bind_eq_some_iff.1 h
  refine mops_gcall (dst := (some 22)) (m := 14) (args := [(.t 21)]) (aft := [6, 5, 5]) (t := 20) (w := false) (ch := [(20, false)]) (b := (!((ln r_) != (ln r_1)))) (by kernel_rfl) hf7 (by kernel_rfl) (by kernel_rfl) (av := [.s (.int .u8 post_)]) (by kernel_rfl) (v := .s (.int .i64 r_2)) (by kernel_rfl) (fun hb1 => (CalL.pure (lists_Count_ok post_ r_2 (if_t hx_r_2 hb1)) rfl rfl (Nat.le_of_ble_eq_true (by kernel_rfl)))) fun f8 hf8 => ?_
  refine mops_en hf8 (by kernel_rfl) fun f9 hf9 => ?_
  refine k_c ?_
  refine k_cond hf9 (t := (((ln r_) != (ln r_1)) || (r_2 != (ln r_1)))) (by kernel_rfl) (fun hc2 => ?_) (fun hc2 => ?_)
  · have h := if_t h hc2
    refine k_seq ?_
    refine k_reg ?_
    refine mops_en hf9 (by kernel_rfl) fun f10 hf10 => ?_
    refine k_c ?_
    refine k_ret ?_
    refine x_c nofun ?_
    obtain rfl := Option.some.inj h
    exact k_fin (fin_ret (.inl rfl) hf10 (vs := [.s (.bool false)]) (by kernel_rfl) (SettL.pure (FzL.stat rfl)))
  · have h := if_f h hc2
    refine k_skip ?_
    refine k_c ?_
    refine k_seq ?_
    refine k_seq ?_
    refine k_reg ?_
    refine mops_en hf9 (by kernel_rfl) fun f10 hf10 => ?_
    refine k_c ?_
    refine k_block ?_
    obtain ⟨o0, hx0, h⟩ := Option.bind_eq_some_iff.1 h
    have hret0 : ∀ r0, .ret r0 = o0 → r0 = r := fun r0 e => by subst e; exact Option.some.inj h
    have hgo0 : .go () = o0 → ∀ f, FOk f [⟨4, [], .s (.bool false)⟩] → kont Tryd.prog [] (spinetlaw17_ListsOrders_C r) ((.c spinetlaw17_ListsOrders_i20) :: []) .normal f [] := by
      intro  e f hf
      subst e
      refine k_c ?_
      refine k_seq ?_
      refine k_reg ?_
      obtain ⟨r_3, hx_r_3, h⟩ := Option.bind_eq_some_iff.1 h
      refine mops_call rfl hf (av := []) (by kernel_rfl) (v := .s (.bool r_3)) (CalL.pure (spinetlaw17_alive_ok  r_3 hx_r_3) rfl rfl (Nat.le_of_ble_eq_true (by kernel_rfl))) (fun _ => rfl) fun f1 hf1 => ?_
      refine mops_en hf1 (by kernel_rfl) fun f2 hf2 => ?_
      refine k_c ?_
      refine k_ret ?_
      obtain rfl := Option.some.inj h
      exact k_fin (fin_ret (.inl rfl) hf2 (vs := [.s (.bool r_3)]) (by kernel_rfl) (SettL.pure (FzL.stat rfl)))
    refine k_loop BIG ?_
    refine loop_ind (fun n f L => ∃ (i_1 : Int), spinetlaw17_ListsOrders_l0 r_ r_1 n i_1 = some o0 ∧ FOk f [⟨4, [], .s (.bool false)⟩, ⟨5, [], .sl false r_.length (cat lists_Part.v r_)⟩, ⟨6, [], .sl false r_1.length (cat spinetref17_Part.v r_1)⟩, ⟨7, [], .s (.int .i64 i_1)⟩] ∧ L = []) ?_ ?_ BIG _ _ ⟨(0), hx0, FOk_of [4, 5, 6, 7] hf10 (by kernel_rfl), (by kernel_rfl)⟩
    · rintro f L ⟨i_1, h, _⟩
      cases (show (none : Option _) = some _ from h)
    · rintro n0 R0 ih f L ⟨i_1, h, hf, rfl⟩
      rw [spinetlaw17_ListsOrders_l0] at h
      refine k_seq ?_
      refine k_seq ?_
      refine k_reg ?_
      refine mops_en hf (by kernel_rfl) fun f1 hf1 => ?_
      refine k_c ?_
      refine k_cond hf1 (t := (decide (i_1 < (ln r_)))) (by kernel_rfl) (fun hc3 => ?_) (fun hc3 => ?_)
      · have h := if_t h hc3
        refine k_skip ?_
        refine k_c ?_
        refine k_seq ?_
        refine k_block ?_
        refine k_seq ?_
        refine k_regq ?_
        refine mops_sg 2 hf1 (by kernel_rfl) fun f2 hf2 => ?_
        obtain ⟨c4, h⟩ := as_ok h
        refine mops_adv rfl (v := .ip ((cat lists_Part.v r_).drop ((i_1 : Int).toNat * 2))) hf2 (by kernel_rfl) (e_ias (n := r_.length) (xv := .sl false r_.length (cat lists_Part.v r_)) (k := .i64) (iv := i_1) (p := .ip ((cat lists_Part.v r_).drop ((i_1 : Int).toNat * 2))) (by kernel_rfl) (by kernel_rfl) (by kernel_rfl) (by kernel_rfl) c4) fun f3 hf3 => ?_
        refine mops_sg 1 hf3 (by kernel_rfl) fun f4 hf4 => ?_
        refine mops_adv rfl (v := .s (.int .i64 (gt r_ i_1).Reg)) hf4 (by kernel_rfl) (e_load_ip (g := lists_Part.v) (l := r_) (iv := i_1) [0] (by kernel_rfl) c4 (by kernel_rfl) (by kernel_rfl)) fun f5 hf5 => ?_
        refine mops_sg 2 hf5 (by kernel_rfl) fun f6 hf6 => ?_
        obtain ⟨c5, h⟩ := as_ok h
        refine mops_adv rfl (v := .ip ((cat spinetref17_Part.v r_1).drop ((i_1 : Int).toNat * 2))) hf6 (by kernel_rfl) (e_ias (n := r_1.length) (xv := .sl false r_1.length (cat spinetref17_Part.v r_1)) (k := .i64) (iv := i_1) (p := .ip ((cat spinetref17_Part.v r_1).drop ((i_1 : Int).toNat * 2))) (by kernel_rfl) (by kernel_rfl) (by kernel_rfl) (by kernel_rfl) c5) fun f7 hf7 => ?_
        refine mops_sg 1 hf7 (by kernel_rfl) fun f8 hf8 => ?_
        refine mops_adv rfl (v := .s (.int .i64 (gt r_1 i_1).Reg)) hf8 (by kernel_rfl) (e_load_ip (g := spinetref17_Part.v) (l := r_1) (iv := i_1) [0] (by kernel_rfl) c5 (by kernel_rfl) (by kernel_rfl)) fun f9 hf9 => ?_
        refine mops_sg 4 hf9 (by kernel_rfl) fun f10 hf10 => ?_
        obtain ⟨c6, h⟩ := as_ok h
        refine mops_gadv (dst := (some 47)) (op := (.ias 2 (.t 45) (.t 46))) (aft := [12, 13, 11]) (t := 44) (w := false) (ch := [(44, false)]) (b := (!((gt r_ i_1).Reg != (gt r_1 i_1).Reg))) (v := .ip ((cat lists_Part.v r_).drop ((i_1 : Int).toNat * 2))) (by kernel_rfl) hf10 (by kernel_rfl) (by kernel_rfl) (by kernel_rfl) (fun hb7 => e_ias (n := r_.length) (xv := .sl false r_.length (cat lists_Part.v r_)) (k := .i64) (iv := i_1) (p := .ip ((cat lists_Part.v r_).drop ((i_1 : Int).toNat * 2))) (by kernel_rfl) (by kernel_rfl) (by kernel_rfl) (by kernel_rfl) (c6 hb7)) fun f11 hf11 => ?_
        refine mops_sg 1 hf11 (by kernel_rfl) fun f12 hf12 => ?_
        refine mops_gadv (dst := (some 49)) (op := (.load false 1 (.t 48))) (aft := [15, 11]) (t := 44) (w := false) (ch := [(44, false)]) (b := (!((gt r_ i_1).Reg != (gt r_1 i_1).Reg))) (v := .s (.bool (gt r_ i_1).High)) (by kernel_rfl) hf12 (by kernel_rfl) (by kernel_rfl) (by kernel_rfl) (fun hb8 => e_load_ip (g := lists_Part.v) (l := r_) (iv := i_1) [1] (by kernel_rfl) (c6 hb8) (by kernel_rfl) (by kernel_rfl)) fun f13 hf13 => ?_
        refine mops_sg 2 hf13 (by kernel_rfl) fun f14 hf14 => ?_
        obtain ⟨c9, h⟩ := as_ok h
        refine mops_gadv (dst := (some 52)) (op := (.ias 2 (.t 50) (.t 51))) (aft := [17, 18, 11]) (t := 44) (w := false) (ch := [(44, false)]) (b := (!((gt r_ i_1).Reg != (gt r_1 i_1).Reg))) (v := .ip ((cat spinetref17_Part.v r_1).drop ((i_1 : Int).toNat * 2))) (by kernel_rfl) hf14 (by kernel_rfl) (by kernel_rfl) (by kernel_rfl) (fun hb10 => e_ias (n := r_1.length) (xv := .sl false r_1.length (cat spinetref17_Part.v r_1)) (k := .i64) (iv := i_1) (p := .ip ((cat spinetref17_Part.v r_1).drop ((i_1 : Int).toNat * 2))) (by kernel_rfl) (by kernel_rfl) (by kernel_rfl) (by kernel_rfl) (c9 hb10)) fun f15 hf15 => ?_
        refine mops_sg 1 hf15 (by kernel_rfl) fun f16 hf16 => ?_
        refine mops_gadv (dst := (some 54)) (op := (.load false 1 (.t 53))) (aft := [20, 11]) (t := 44) (w := false) (ch := [(44, false)]) (b := (!((gt r_ i_1).Reg != (gt r_1 i_1).Reg))) (v := .s (.bool (gt r_1 i_1).High)) (by kernel_rfl) hf16 (by kernel_rfl) (by kernel_rfl) (by kernel_rfl) (fun hb11 => e_load_ip (g := spinetref17_Part.v) (l := r_1) (iv := i_1) [1] (by kernel_rfl) (c9 hb11) (by kernel_rfl) (by kernel_rfl)) fun f17 hf17 => ?_
        refine mops_en hf17 (by kernel_rfl) fun f18 hf18 => ?_
        refine k_c ?_
        refine k_cond hf18 (t := (((gt r_ i_1).Reg != (gt r_1 i_1).Reg) || (!((gt r_ i_1).High == (gt r_1 i_1).High)))) (by kernel_rfl) (fun hc12 => ?_) (fun hc12 => ?_)
        · have h := if_t h hc12
          refine k_seq ?_
          refine k_reg ?_
          refine mops_en hf18 (by kernel_rfl) fun f19 hf19 => ?_
          refine k_c ?_
          refine k_ret ?_
          refine x_br ?_
          refine x_c nofun ?_
          refine x_l nofun ?_
          refine x_br ?_
          refine x_c nofun ?_
          obtain rfl := hret0 _ (Option.some.inj h)
          exact k_fin (fin_ret (.inl rfl) hf19 (vs := [.s (.bool false)]) (by kernel_rfl) (SettL.pure (FzL.stat rfl)))
        · have h := if_f h hc12
          refine k_skip ?_
          refine k_b ?_
          refine k_c ?_
          refine k_reg ?_
          refine mops_end [4, 5, 6, 7, 27, 28, 29, 30, 31, 32, 33, 34, 35, 36, 37, 38, 39, 40, 41, 42, 43, 44, 45, 46, 47, 48, 49, 50, 51, 52, 53, 54, 55, 56] hf18 (l' := [⟨4, [], .s (.bool false)⟩, ⟨5, [], .sl false r_.length (cat lists_Part.v r_)⟩, ⟨6, [], .sl false r_1.length (cat spinetref17_Part.v r_1)⟩, ⟨7, [], .s (.int .i64 (IntKind.wrap .i64 (i_1 + 1)))⟩, ⟨27, [], .s (.int .i64 i_1)⟩, ⟨28, [], .sl false r_.length (cat lists_Part.v r_)⟩, ⟨29, [], .s (.int .i64 (ln r_))⟩, ⟨30, [], .s (.bool (decide (i_1 < (ln r_))))⟩, ⟨31, [], .s (.int .i64 i_1)⟩, ⟨32, [], .s (.int .i64 (IntKind.wrap .i64 (i_1 + 1)))⟩, ⟨33, [], .sl false r_.length (cat lists_Part.v r_)⟩, ⟨34, [], .s (.int .i64 i_1)⟩, ⟨35, [], .ip ((cat lists_Part.v r_).drop ((i_1 : Int).toNat * 2))⟩, ⟨36, [], .ip (((cat lists_Part.v r_).drop ((i_1 : Int).toNat * 2)).drop 0)⟩, ⟨37, [], .s (.int .i64 (gt r_ i_1).Reg)⟩, ⟨38, [], .sl false r_1.length (cat spinetref17_Part.v r_1)⟩, ⟨39, [], .s (.int .i64 i_1)⟩, ⟨40, [], .ip ((cat spinetref17_Part.v r_1).drop ((i_1 : Int).toNat * 2))⟩, ⟨41, [], .ip (((cat spinetref17_Part.v r_1).drop ((i_1 : Int).toNat * 2)).drop 0)⟩, ⟨42, [], .s (.int .i64 (gt r_1 i_1).Reg)⟩, ⟨43, [], .s (.bool ((gt r_ i_1).Reg != (gt r_1 i_1).Reg))⟩, ⟨44, [], .s (.bool ((gt r_ i_1).Reg != (gt r_1 i_1).Reg))⟩, ⟨45, [(44, false)], .sl false r_.length (cat lists_Part.v r_)⟩, ⟨46, [(44, false)], .s (.int .i64 i_1)⟩, ⟨47, [(44, false)], .ip ((cat lists_Part.v r_).drop ((i_1 : Int).toNat * 2))⟩, ⟨48, [(44, false)], .ip (((cat lists_Part.v r_).drop ((i_1 : Int).toNat * 2)).drop 1)⟩, ⟨49, [(44, false)], .s (.bool (gt r_ i_1).High)⟩, ⟨50, [(44, false)], .sl false r_1.length (cat spinetref17_Part.v r_1)⟩, ⟨51, [(44, false)], .s (.int .i64 i_1)⟩, ⟨52, [(44, false)], .ip ((cat spinetref17_Part.v r_1).drop ((i_1 : Int).toNat * 2))⟩, ⟨53, [(44, false)], .ip (((cat spinetref17_Part.v r_1).drop ((i_1 : Int).toNat * 2)).drop 1)⟩, ⟨54, [(44, false)], .s (.bool (gt r_1 i_1).High)⟩, ⟨55, [(44, false)], .s (.bool (!((gt r_ i_1).High == (gt r_1 i_1).High)))⟩, ⟨56, [], .s (.bool (((gt r_ i_1).Reg != (gt r_1 i_1).Reg) || (!((gt r_ i_1).High == (gt r_1 i_1).High))))⟩]) (L' := []) (by kernel_rfl) fun f19 hf19 => ?_
          refine k_l ?_
          exact ih _ _ ⟨(IntKind.wrap .i64 (i_1 + 1)), h, FOk_of [4, 5, 6, 7] hf19 (by kernel_rfl), rfl⟩
      · have h := if_f h hc3
        refine k_exit ?_
        refine x_c nofun ?_
        refine x_l nofun ?_
        refine x_b ?_
        refine k_hp (L' := []) (by kernel_rfl) ?_
        exact hgo0  (Option.some.inj h) _ (FOk_of [4] hf1 (by kernel_rfl))
end Go.Proofs.YtiedenhkailolaaDoorK
