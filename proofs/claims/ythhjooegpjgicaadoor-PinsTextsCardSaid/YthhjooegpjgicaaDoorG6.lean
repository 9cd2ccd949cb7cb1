/- The Go functions come to the functions over typed data. Printed by a program of this work. -/
import Derived.Test.YthhjooegpjgicaaDoorF
import Derived.Test.YthhjooegpjgicaaDoorProg
import Derived.Test.YthhjooegpjgicaaDoorG0
import Derived.Test.YthhjooegpjgicaaDoorG2
import Derived.Test.YthhjooegpjgicaaDoorG3
import Derived.Test.YthhjooegpjgicaaDoorG4
import Derived.Test.YthhjooegpjgicaaDoorG5
namespace Go.Proofs.YthhjooegpjgicaaDoorK
set_option linter.unusedVariables false
set_option linter.unusedSimpArgs false
set_option maxHeartbeats 4000000
open Go.RowKit
attribute [local irreducible] dwv mops lops lqops lwops kont iter run runK rk okK ex E1 vals val chain chB sel resF
def spinetlaw31_alive_i0 : List Op1 := [(oM 0 (.k (.bool false)) [])]
def spinetlaw31_alive_i1 : List Op1 := [(oC 4 5 [(.k (.string ⟨#[82, 42, 50, 32, 46, 32, 78, 70]⟩))] []), (oM 3 (.t 4) [0]), (oE 5 (.ext 0 (.t 3)) [1]), (oE 6 (.ext 1 (.t 3)) [1]), (oM 1 (.t 5) [2, 0, 0, 1, 2]), (oM 2 (.t 6) [3, 4, 0, 1, 2, 3, 4])]
def spinetlaw31_alive_i2 : List Op1 := [(oM 7 (.t 1) []), (oE 8 (.len (.t 7)) [0]), (oE 9 (.bin .eql (.t 8) (.k (.int .i64 4))) [1]), (oM 10 (.t 9) [2]), (oG 11 (.mv (.t 1)) 10 true [3]), (oG 12 (.ias 6 (.t 11) (.k (.int .i64 1))) 10 true [4, 3]), (oG 13 (.fld 0 (.t 12)) 10 true [5, 3]), (oG 14 (.load false 1 (.t 13)) 10 true [6, 3]), (oE 15 (.pick (.t 10) (.t 14) (.k (.bool false))) [3, 7]), (oM 16 (.t 15) [8, 3]), (oG 17 (.mv (.t 1)) 16 true [9]), (oG 18 (.ias 6 (.t 17) (.k (.int .i64 3))) 16 true [10, 9]), (oG 19 (.fld 1 (.t 18)) 16 true [11, 9]), (oG 20 (.load false 1 (.t 19)) 16 true [12, 9]), (oE 21 (.pick (.t 16) (.t 20) (.k (.bool false))) [9, 13]), (oM 22 (.t 21) [14, 9]), (oG 23 (.mv (.t 2)) 22 true [15]), (oG 24 (.bin .eql (.t 23) (.k (.int .i64 0))) 22 true [16, 15]), (oE 25 (.pick (.t 22) (.t 24) (.k (.bool false))) [15, 17]), (oM 26 (.t 25) [18, 15]), (oE 27 (.pick (.t 26) (.k (.bool true)) (.k (.bool false))) [19]), (oM 0 (.t 27) [20, 19, 0, 1, 2, 3, 4, 5, 6, 7, 8, 9, 10, 11, 12, 13, 14, 15, 16, 17, 18, 19, 20])]
def spinetlaw31_alive_i3 : IR := .ret
def spinetlaw31_alive_i4 : IR := (.seq (.reg false spinetlaw31_alive_i2) spinetlaw31_alive_i3)
def spinetlaw31_alive_i5 : IR := (.seq (.reg false spinetlaw31_alive_i1) spinetlaw31_alive_i4)
def spinetlaw31_alive_ir : IR := (.seq (.reg false spinetlaw31_alive_i0) spinetlaw31_alive_i5)
theorem spinetlaw31_alive_cfn : cFn Tryd.prog 10 = some (spinetlaw31_alive_ir, [(.t 0)], 28) := by kernel_rfl
def spinetlaw31_alive_V (r : (Bool)) : V := .s (.bool r)
def spinetlaw31_alive_C (r : (Bool)) : X → Fr → Hp → Prop := FinL [(.t 0)] [] (spinetlaw31_alive_V r) []
theorem spinetlaw31_alive_ok (r : (Bool)) (h : spinetlaw31_alive = some r) : Pure Tryd.prog 10 [] (spinetlaw31_alive_V r) := by
  refine ConL.of spinetlaw31_alive_cfn (Nat.le_of_ble_eq_true (by kernel_rfl)) (Nat.le_of_ble_eq_true (by kernel_rfl)) ?_
  refine k_start ?_
  show dwv Tryd.prog [] spinetlaw31_alive_ir (kont Tryd.prog [] (spinetlaw31_alive_C r) []) (fr0 []) []
  have hf : FOk (fr0 []) [] := trivial
  generalize fr0 [] = f at hf ⊢
  unfold spinetlaw31_alive at h
  refine k_seq ?_
  refine k_reg ?_
  refine mops_en hf (by kernel_rfl) fun f1 hf1 => ?_
  refine k_c ?_
  refine k_seq ?_
  refine k_reg ?_
  obtain ⟨r_, hx_r_, h⟩ := Option.bind_eq_some_iff.1 h
  refine mops_call rfl hf1 (av := [.s (.string (⟨#[82, 42, 50, 32, 46, 32, 78, 70]⟩ : ByteArray))]) (by kernel_rfl) (v := .tup [.sl false r_.1.length (cat api_Pins.v r_.1), .s (.int .i64 r_.2)]) (CalL.pure (pins_Parse_ok (⟨#[82, 42, 50, 32, 46, 32, 78, 70]⟩ : ByteArray) r_ hx_r_) rfl (by simp [V.static, statics, cat_stat, pins_Parse_V]) (Nat.le_of_ble_eq_true (by kernel_rfl))) (fun _ => rfl) fun f2 hf2 => ?_
  refine mops_en hf2 (by kernel_rfl) fun f3 hf3 => ?_
  refine k_c ?_
  refine k_seq ?_
  refine k_reg ?_
  refine mops_sg 5 hf3 (by kernel_rfl) fun f4 hf4 => ?_
  obtain ⟨c1, h⟩ := as_ok h
  refine mops_gadv (dst := (some 12)) (op := (.ias 6 (.t 11) (.k (.int .i64 1)))) (aft := [4, 3]) (t := 10) (w := true) (ch := [(10, true)]) (b := ((ln r_.1) == 4)) (v := .ip ((cat api_Pins.v r_.1).drop ((1 : Int).toNat * 6))) (by kernel_rfl) hf4 (by kernel_rfl) (by kernel_rfl) (by kernel_rfl) (fun hb2 => e_ias (n := r_.1.length) (xv := .sl false r_.1.length (cat api_Pins.v r_.1)) (k := .i64) (iv := 1) (p := .ip ((cat api_Pins.v r_.1).drop ((1 : Int).toNat * 6))) (by kernel_rfl) (by kernel_rfl) (by kernel_rfl) (by kernel_rfl) (c1 hb2)) fun f5 hf5 => ?_
  refine mops_sg 1 hf5 (by kernel_rfl) fun f6 hf6 => ?_
  refine mops_gadv (dst := (some 14)) (op := (.load false 1 (.t 13))) (aft := [6, 3]) (t := 10) (w := true) (ch := [(10, true)]) (b := ((ln r_.1) == 4)) (v := .s (.bool (gt r_.1 (1)).Reset)) (by kernel_rfl) hf6 (by kernel_rfl) (by kernel_rfl) (by kernel_rfl) (fun hb3 => e_load_ip (g := api_Pins.v) (l := r_.1) (iv := 1) [0] (by kernel_rfl) (c1 hb3) (by kernel_rfl) (by kernel_rfl)) fun f7 hf7 => ?_
  refine mops_sg 3 hf7 (by kernel_rfl) fun f8 hf8 => ?_
  obtain ⟨c4, h⟩ := as_ok h
  refine mops_gadv (dst := (some 18)) (op := (.ias 6 (.t 17) (.k (.int .i64 3)))) (aft := [10, 9]) (t := 16) (w := true) (ch := [(16, true)]) (b := (((ln r_.1) == 4) && (gt r_.1 (1)).Reset)) (v := .ip ((cat api_Pins.v r_.1).drop ((3 : Int).toNat * 6))) (by kernel_rfl) hf8 (by kernel_rfl) (by kernel_rfl) (by kernel_rfl) (fun hb5 => e_ias (n := r_.1.length) (xv := .sl false r_.1.length (cat api_Pins.v r_.1)) (k := .i64) (iv := 3) (p := .ip ((cat api_Pins.v r_.1).drop ((3 : Int).toNat * 6))) (by kernel_rfl) (by kernel_rfl) (by kernel_rfl) (by kernel_rfl) (c4 hb5)) fun f9 hf9 => ?_
  refine mops_sg 1 hf9 (by kernel_rfl) fun f10 hf10 => ?_
  refine mops_gadv (dst := (some 20)) (op := (.load false 1 (.t 19))) (aft := [12, 9]) (t := 16) (w := true) (ch := [(16, true)]) (b := (((ln r_.1) == 4) && (gt r_.1 (1)).Reset)) (v := .s (.bool (gt r_.1 (3)).Nmi)) (by kernel_rfl) hf10 (by kernel_rfl) (by kernel_rfl) (by kernel_rfl) (fun hb6 => e_load_ip (g := api_Pins.v) (l := r_.1) (iv := 3) [1] (by kernel_rfl) (c4 hb6) (by kernel_rfl) (by kernel_rfl)) fun f11 hf11 => ?_
  refine mops_en hf11 (by kernel_rfl) fun f12 hf12 => ?_
  refine k_c ?_
  refine k_ret ?_
  obtain rfl := Option.some.inj h
  exact k_fin (fin_ret (.inl rfl) hf12 (vs := [.s (.bool ((((((ln r_.1) == 4) && (gt r_.1 (1)).Reset) && (gt r_.1 (3)).Nmi) && (r_.2 == 0)) || false))]) (by kernel_rfl) (SettL.pure (FzL.stat rfl)))
def spinetlaw31_PinsReads_i0 : List Op1 := [(oM 2 (.k (.bool false)) [])]
def spinetlaw31_PinsReads_i1 : List Op1 := [(oM 11 (.t 0) []), (oE 12 (.lens (.t 11)) [0]), (oE 13 (.bin .gtr (.t 12) (.k (.int .i64 200))) [1])]
def spinetlaw31_PinsReads_i2 : List Op1 := [(oM 2 (.k (.bool true)) [])]
def spinetlaw31_PinsReads_i3 : IR := .ret
def spinetlaw31_PinsReads_i4 : IR := (.cond (.t 13) (.seq (.reg false spinetlaw31_PinsReads_i2) spinetlaw31_PinsReads_i3) .skip)
def spinetlaw31_PinsReads_i5 : List Op1 := [(oM 15 (.t 0) []), (oC 16 5 [(.t 15)] [0]), (oM 14 (.t 16) [1]), (oE 17 (.ext 0 (.t 14)) [2]), (oE 18 (.ext 1 (.t 14)) [2]), (oM 3 (.t 17) [3, 1, 0, 1, 2, 3]), (oM 4 (.t 18) [4, 5, 0, 1, 2, 3, 4, 5])]
def spinetlaw31_PinsReads_i6 : List Op1 := [(oM 20 (.t 0) []), (oC 21 6 [(.t 20)] [0]), (oM 19 (.t 21) [1]), (oE 22 (.ext 0 (.t 19)) [2]), (oE 23 (.ext 1 (.t 19)) [2]), (oM 5 (.t 22) [3, 1, 0, 1, 2, 3]), (oM 6 (.t 23) [4, 5, 0, 1, 2, 3, 4, 5])]
def spinetlaw31_PinsReads_i7 : List Op1 := [(oM 25 (.t 0) []), (oC 26 7 [(.t 25)] [0]), (oM 24 (.t 26) [1]), (oE 27 (.ext 0 (.t 24)) [2]), (oE 28 (.ext 1 (.t 24)) [2]), (oE 7 (.zero [(.bool false), (.bool false), (.bool false), (.bool false), (.bool false), (.bool false)]) []), (oN (.store 6 (.t 7) (.t 27)) [5, 3, 1, 0, 1, 2, 3, 5]), (oM 8 (.t 28) [4, 6, 0, 1, 2, 3, 4, 5, 6])]
def spinetlaw31_PinsReads_i8 : List Op1 := [(oM 30 (.t 0) []), (oC 31 8 [(.t 30)] [0]), (oM 29 (.t 31) [1]), (oE 32 (.ext 0 (.t 29)) [2]), (oE 33 (.ext 1 (.t 29)) [2]), (oE 9 (.zero [(.bool false), (.bool false), (.bool false), (.bool false), (.bool false), (.bool false)]) []), (oN (.store 6 (.t 9) (.t 32)) [5, 3, 1, 0, 1, 2, 3, 5]), (oM 10 (.t 33) [4, 6, 0, 1, 2, 3, 4, 5, 6])]
def spinetlaw31_PinsReads_i9 : List Op1 := [(oM 34 (.t 3) []), (oM 35 (.t 5) []), (oC 36 9 [(.t 34), (.t 35)] [0, 1]), (oM 37 (.t 36) [2, 2]), (oG 38 (.mv (.t 4)) 37 true [3]), (oG 39 (.mv (.t 6)) 37 true [3]), (oG 40 (.bin .eql (.t 38) (.t 39)) 37 true [4, 5, 3]), (oE 41 (.pick (.t 37) (.t 40) (.k (.bool false))) [3, 6]), (oM 42 (.t 41) [7, 3]), (oG 43 (.load true 6 (.t 7)) 42 true [8]), (oG 44 (.load true 6 (.t 9)) 42 true [8]), (oG 45 (.eqa false [.bool, .bool, .bool, .bool, .bool, .bool] (.t 43) (.t 44)) 42 true [9, 10, 8]), (oE 46 (.pick (.t 42) (.t 45) (.k (.bool false))) [8, 11]), (oM 47 (.t 46) [12, 8]), (oG 48 (.mv (.t 8)) 47 true [13]), (oG 49 (.mv (.t 10)) 47 true [13]), (oG 50 (.bbin false (.t 48) (.t 49)) 47 true [14, 15, 13]), (oE 51 (.pick (.t 47) (.t 50) (.k (.bool false))) [13, 16]), (oM 52 (.t 51) [17, 13]), ⟨(some 53), (.call 10 []), (some (52, true)), [18, 18]⟩, (oE 54 (.pick (.t 52) (.t 53) (.k (.bool false))) [18, 19]), (oM 2 (.t 54) [20, 19, 0, 1, 2, 3, 4, 5, 6, 7, 8, 9, 10, 11, 12, 13, 14, 15, 16, 17, 18, 19, 20])]
def spinetlaw31_PinsReads_i10 : IR := .ret
def spinetlaw31_PinsReads_i11 : IR := (.seq (.reg false spinetlaw31_PinsReads_i9) spinetlaw31_PinsReads_i10)
def spinetlaw31_PinsReads_i12 : IR := (.seq (.reg false spinetlaw31_PinsReads_i8) spinetlaw31_PinsReads_i11)
def spinetlaw31_PinsReads_i13 : IR := (.seq (.reg false spinetlaw31_PinsReads_i7) spinetlaw31_PinsReads_i12)
def spinetlaw31_PinsReads_i14 : IR := (.seq (.reg false spinetlaw31_PinsReads_i6) spinetlaw31_PinsReads_i13)
def spinetlaw31_PinsReads_i15 : IR := (.seq (.reg false spinetlaw31_PinsReads_i5) spinetlaw31_PinsReads_i14)
def spinetlaw31_PinsReads_i16 : IR := (.seq (.seq (.reg false spinetlaw31_PinsReads_i1) spinetlaw31_PinsReads_i4) spinetlaw31_PinsReads_i15)
def spinetlaw31_PinsReads_ir : IR := (.seq (.reg false spinetlaw31_PinsReads_i0) spinetlaw31_PinsReads_i16)
theorem spinetlaw31_PinsReads_cfn : cFn Tryd.prog 3 = some (spinetlaw31_PinsReads_ir, [(.t 2)], 55) := by kernel_rfl
def spinetlaw31_PinsReads_V (r : (Bool)) : V := .s (.bool r)
def spinetlaw31_PinsReads_C (r : (Bool)) : X → Fr → Hp → Prop := FinL [(.t 2)] [] (spinetlaw31_PinsReads_V r) []
theorem spinetlaw31_PinsReads_ok (s_ : ByteArray) (r : (Bool)) (h : spinetlaw31_PinsReads s_ = some r) : Pure Tryd.prog 3 [.s (.string s_)] (spinetlaw31_PinsReads_V r) := by
  refine ConL.of spinetlaw31_PinsReads_cfn (Nat.le_of_ble_eq_true (by kernel_rfl)) (Nat.le_of_ble_eq_true (by kernel_rfl)) ?_
  refine k_start ?_
  show dwv Tryd.prog [] spinetlaw31_PinsReads_ir (kont Tryd.prog [] (spinetlaw31_PinsReads_C r) []) (fr0 [.s (.string s_)]) []
  have hf : FOk (fr0 [.s (.string s_)]) [⟨0, [], .s (.string s_)⟩] := ⟨⟨fun _ => rfl, fun h => (h trivial).elim⟩, trivial⟩
  generalize fr0 [.s (.string s_)] = f at hf ⊢
  unfold spinetlaw31_PinsReads at h
  refine k_seq ?_
  refine k_reg ?_
  refine mops_en hf (by kernel_rfl) fun f1 hf1 => ?_
  refine k_c ?_
  refine k_seq ?_
  refine k_seq ?_
  refine k_reg ?_
  refine mops_en hf1 (by kernel_rfl) fun f2 hf2 => ?_
  refine k_c ?_
  refine k_cond hf2 (t := (decide (200 < (sln s_)))) (by kernel_rfl) (fun hc1 => ?_) (fun hc1 => ?_)
  · have h := if_t h hc1
    refine k_seq ?_
    refine k_reg ?_
    refine mops_en hf2 (by kernel_rfl) fun f3 hf3 => ?_
    refine k_c ?_
    refine k_ret ?_
    refine x_c nofun ?_
    obtain rfl := Option.some.inj h
    exact k_fin (fin_ret (.inl rfl) hf3 (vs := [.s (.bool true)]) (by kernel_rfl) (SettL.pure (FzL.stat rfl)))
  · have h := if_f h hc1
    refine k_skip ?_
    refine k_c ?_
    refine k_seq ?_
    refine k_reg ?_
    refine mops_sg 1 hf2 (by kernel_rfl) fun f3 hf3 => ?_
    obtain ⟨r_, hx_r_, h⟩ := Option.bind_eq_some_iff.1 h
    refine mops_call rfl hf3 (av := [.s (.string s_)]) (by kernel_rfl) (v := .tup [.sl false r_.1.length (cat api_Pins.v r_.1), .s (.int .i64 r_.2)]) (CalL.pure (pins_Parse_ok s_ r_ hx_r_) rfl (by simp [V.static, statics, cat_stat, pins_Parse_V]) (Nat.le_of_ble_eq_true (by kernel_rfl))) (fun _ => rfl) fun f4 hf4 => ?_
    refine mops_en hf4 (by kernel_rfl) fun f5 hf5 => ?_
    refine k_c ?_
    refine k_seq ?_
    refine k_reg ?_
    refine mops_sg 1 hf5 (by kernel_rfl) fun f6 hf6 => ?_
    obtain ⟨r_1, hx_r_1, h⟩ := Option.bind_eq_some_iff.1 h
    refine mops_call rfl hf6 (av := [.s (.string s_)]) (by kernel_rfl) (v := .tup [.sl false r_1.1.length (cat api_Pins.v r_1.1), .s (.int .i64 r_1.2)]) (CalL.pure (spinetref31_Parse_ok s_ r_1 hx_r_1) rfl (by simp [V.static, statics, cat_stat, spinetref31_Parse_V]) (Nat.le_of_ble_eq_true (by kernel_rfl))) (fun _ => rfl) fun f7 hf7 => ?_
    refine mops_en hf7 (by kernel_rfl) fun f8 hf8 => ?_
    refine k_c ?_
    refine k_seq ?_
    refine k_reg ?_
    refine mops_sg 1 hf8 (by kernel_rfl) fun f9 hf9 => ?_
    obtain ⟨r_2, hx_r_2, h⟩ := Option.bind_eq_some_iff.1 h
    refine mops_call rfl hf9 (av := [.s (.string s_)]) (by kernel_rfl) (v := .tup [.agg [.s (.bool r_2.1.Reset), .s (.bool r_2.1.Nmi), .s (.bool r_2.1.Firq), .s (.bool r_2.1.Irq), .s (.bool r_2.1.Halt), .s (.bool r_2.1.Req)], .s (.bool r_2.2)]) (CalL.pure (pins_One_ok s_ r_2 hx_r_2) rfl rfl (Nat.le_of_ble_eq_true (by kernel_rfl))) (fun _ => rfl) fun f10 hf10 => ?_
    refine mops_en hf10 (by kernel_rfl) fun f11 hf11 => ?_
    refine k_c ?_
    refine k_seq ?_
    refine k_reg ?_
    refine mops_sg 1 hf11 (by kernel_rfl) fun f12 hf12 => ?_
    obtain ⟨r_3, hx_r_3, h⟩ := Option.bind_eq_some_iff.1 h
    refine mops_call rfl hf12 (av := [.s (.string s_)]) (by kernel_rfl) (v := .tup [.agg [.s (.bool r_3.1.Reset), .s (.bool r_3.1.Nmi), .s (.bool r_3.1.Firq), .s (.bool r_3.1.Irq), .s (.bool r_3.1.Halt), .s (.bool r_3.1.Req)], .s (.bool r_3.2)]) (CalL.pure (spinetref31_One_ok s_ r_3 hx_r_3) rfl rfl (Nat.le_of_ble_eq_true (by kernel_rfl))) (fun _ => rfl) fun f13 hf13 => ?_
    refine mops_end [2, 3, 4, 5, 6, 7, 8, 9, 10] hf13 (l' := [⟨2, [], .s (.bool false)⟩, ⟨3, [], .sl false r_.1.length (cat api_Pins.v r_.1)⟩, ⟨4, [], .s (.int .i64 r_.2)⟩, ⟨5, [], .sl false r_1.1.length (cat api_Pins.v r_1.1)⟩, ⟨6, [], .s (.int .i64 r_1.2)⟩, ⟨7, [], .ptr 0 0 0⟩, ⟨8, [], .s (.bool r_2.2)⟩, ⟨9, [], .ptr 1 0 0⟩, ⟨10, [], .s (.bool r_3.2)⟩]) (L' := [⟨0, .mem, 1, [.s (.bool r_2.1.Reset), .s (.bool r_2.1.Nmi), .s (.bool r_2.1.Firq), .s (.bool r_2.1.Irq), .s (.bool r_2.1.Halt), .s (.bool r_2.1.Req)]⟩, ⟨0, .mem, 1, [.s (.bool r_3.1.Reset), .s (.bool r_3.1.Nmi), .s (.bool r_3.1.Firq), .s (.bool r_3.1.Irq), .s (.bool r_3.1.Halt), .s (.bool r_3.1.Req)]⟩]) (by kernel_rfl) fun f14 hf14 => ?_
    refine k_c ?_
    refine k_seq ?_
    refine k_reg ?_
    refine mops_sg 2 hf14 (by kernel_rfl) fun f15 hf15 => ?_
    obtain ⟨r_4, hx_r_4, h⟩ := Option.bind_eq_some_iff.1 h
    refine mops_call rfl hf15 (av := [.sl false r_.1.length (cat api_Pins.v r_.1), .sl false r_1.1.length (cat api_Pins.v r_1.1)]) (by kernel_rfl) (v := .s (.bool r_4)) (CalL.pure (slices_Equal_sl_api_Pins_api_Pins_ok r_.1 r_1.1 r_4 hx_r_4) (by simp [V.static, statics, cat_stat]) rfl (Nat.le_of_ble_eq_true (by kernel_rfl))) (fun _ => rfl) fun f16 hf16 => ?_
    refine mops_sg 16 hf16 (by kernel_rfl) fun f17 hf17 => ?_
    obtain ⟨r_5, hx_r_5, h⟩ := Option.bind_eq_some_iff.1 h
    refine mops_gcall (dst := (some 53)) (m := 10) (args := []) (aft := [18, 18]) (t := 52) (w := true) (ch := [(52, true)]) (b := (((r_4 && (r_.2 == r_1.2)) && ((r_2.1.Reset == r_3.1.Reset) && ((r_2.1.Nmi == r_3.1.Nmi) && ((r_2.1.Firq == r_3.1.Firq) && ((r_2.1.Irq == r_3.1.Irq) && ((r_2.1.Halt == r_3.1.Halt) && ((r_2.1.Req == r_3.1.Req) && true))))))) && (r_2.2 == r_3.2))) (by kernel_rfl) hf17 (by kernel_rfl) (by kernel_rfl) (av := []) (by kernel_rfl) (v := .s (.bool r_5)) (by kernel_rfl) (fun hb2 => (CalL.pure (spinetlaw31_alive_ok  r_5 (if_t hx_r_5 hb2)) rfl rfl (Nat.le_of_ble_eq_true (by kernel_rfl)))) fun f18 hf18 => ?_
    refine mops_en hf18 (by kernel_rfl) fun f19 hf19 => ?_
    refine k_c ?_
    refine k_ret ?_
    obtain rfl := Option.some.inj h
    exact k_fin (fin_ret (.inl rfl) hf19 (vs := [.s (.bool ((((r_4 && (r_.2 == r_1.2)) && ((r_2.1.Reset == r_3.1.Reset) && ((r_2.1.Nmi == r_3.1.Nmi) && ((r_2.1.Firq == r_3.1.Firq) && ((r_2.1.Irq == r_3.1.Irq) && ((r_2.1.Halt == r_3.1.Halt) && ((r_2.1.Req == r_3.1.Req) && true))))))) && (r_2.2 == r_3.2)) && r_5))]) (by kernel_rfl) (SettL.pure (FzL.stat rfl)))
def spinetlaw31_PinsTexts_i0 : List Op1 := [(oM 2 (.k (.bool false)) [])]
def spinetlaw31_PinsTexts_i1 : List Op1 := [(oM 9 (.t 0) []), (oE 10 (.len (.t 9)) [0]), (oE 11 (.bin .gtr (.t 10) (.k (.int .i64 300))) [1])]
def spinetlaw31_PinsTexts_i2 : List Op1 := [(oM 2 (.k (.bool true)) [])]
def spinetlaw31_PinsTexts_i3 : IR := .ret
def spinetlaw31_PinsTexts_i4 : IR := (.cond (.t 11) (.seq (.reg false spinetlaw31_PinsTexts_i2) spinetlaw31_PinsTexts_i3) .skip)
def spinetlaw31_PinsTexts_i5 : List Op1 := [(oM 3 (.k (.int .i64 0)) [])]
def spinetlaw31_PinsTexts_i6 : List Op1 := [(oM 12 (.t 3) []), (oM 13 (.t 0) []), (oE 14 (.len (.t 13)) [1]), (oE 15 (.bin .lss (.t 12) (.t 14)) [0, 2])]
def spinetlaw31_PinsTexts_i7 : IR := (.cond (.t 15) .skip (.exit 0))
def spinetlaw31_PinsTexts_i8 : List Op1 := [(oM 19 (.t 0) []), (oM 20 (.t 3) []), (oE 21 (.ias 6 (.t 19) (.t 20)) [0, 1]), (oE 22 (.load true 6 (.t 21)) [2]), (oC 23 11 [(.t 22)] [3]), (oC 24 7 [(.t 23)] [4, 4]), (oM 18 (.t 24) [5]), (oE 25 (.ext 0 (.t 18)) [6]), (oE 26 (.ext 1 (.t 18)) [6]), (oE 4 (.zero [(.bool false), (.bool false), (.bool false), (.bool false), (.bool false), (.bool false)]) []), (oN (.store 6 (.t 4) (.t 25)) [9, 7, 5, 0, 1, 2, 3, 4, 5, 6, 7, 9]), (oM 5 (.t 26) [8, 10, 0, 1, 2, 3, 4, 5, 6, 7, 8, 9, 10])]
def spinetlaw31_PinsTexts_i9 : List Op1 := [(oM 27 (.t 0) []), (oM 28 (.t 3) []), (oE 29 (.ias 6 (.t 27) (.t 28)) [0, 1]), (oE 30 (.load true 6 (.t 29)) [2]), (oC 31 11 [(.t 30)] [3]), (oM 32 (.t 0) []), (oM 33 (.t 3) []), (oE 34 (.ias 6 (.t 32) (.t 33)) [5, 6]), (oE 35 (.load true 6 (.t 34)) [7]), (oC 36 12 [(.t 35)] [8, 4]), (oE 37 (.bin .neq (.t 31) (.t 36)) [4, 9]), (oM 38 (.t 37) [10, 9]), (oG 39 (.load true 6 (.t 4)) 38 false [11]), (oG 40 (.mv (.t 0)) 38 false [11]), (oG 41 (.mv (.t 3)) 38 false [11]), (oG 42 (.ias 6 (.t 40) (.t 41)) 38 false [13, 14, 11]), (oG 43 (.load true 6 (.t 42)) 38 false [15, 11]), (oG 44 (.eqa true [.bool, .bool, .bool, .bool, .bool, .bool] (.t 39) (.t 43)) 38 false [12, 16, 11]), (oE 45 (.pick (.t 38) (.k (.bool true)) (.t 44)) [11, 17]), (oM 46 (.t 45) [18, 11]), (oG 47 (.mv (.t 5)) 46 false [19]), (oG 48 (.un .not (.t 47)) 46 false [20, 19]), (oE 49 (.pick (.t 46) (.k (.bool true)) (.t 48)) [19, 21])]
def spinetlaw31_PinsTexts_i10 : List Op1 := [(oM 2 (.k (.bool false)) [])]
def spinetlaw31_PinsTexts_i11 : IR := .ret
def spinetlaw31_PinsTexts_i12 : IR := (.cond (.t 49) (.seq (.reg false spinetlaw31_PinsTexts_i10) spinetlaw31_PinsTexts_i11) .skip)
def spinetlaw31_PinsTexts_i13 : IR := (.seq (.reg true spinetlaw31_PinsTexts_i9) spinetlaw31_PinsTexts_i12)
def spinetlaw31_PinsTexts_i14 : List Op1 := [(oM 16 (.t 3) []), (oE 17 (.bin .add (.t 16) (.k (.int .i64 1))) [0]), (oM 3 (.t 17) [1, 0, 1])]
def spinetlaw31_PinsTexts_i15 : IR := (.reg false spinetlaw31_PinsTexts_i14)
def spinetlaw31_PinsTexts_i16 : IR := (.seq (.block 1 (.seq (.reg false spinetlaw31_PinsTexts_i8) spinetlaw31_PinsTexts_i13)) spinetlaw31_PinsTexts_i15)
def spinetlaw31_PinsTexts_i17 : IR := (.seq (.seq (.reg false spinetlaw31_PinsTexts_i6) spinetlaw31_PinsTexts_i7) spinetlaw31_PinsTexts_i16)
def spinetlaw31_PinsTexts_i18 : IR := (.block 0 (.loop spinetlaw31_PinsTexts_i17))
def spinetlaw31_PinsTexts_i19 : List Op1 := [(oM 50 (.t 0) []), (oC 51 13 [(.t 50)] [0]), (oM 6 (.t 51) [1, 1, 0, 1])]
def spinetlaw31_PinsTexts_i20 : List Op1 := [(oM 53 (.t 6) []), (oC 54 5 [(.t 53)] [0]), (oM 52 (.t 54) [1]), (oE 55 (.ext 0 (.t 52)) [2]), (oE 56 (.ext 1 (.t 52)) [2]), (oM 7 (.t 55) [3, 1, 0, 1, 2, 3]), (oM 8 (.t 56) [4, 5, 0, 1, 2, 3, 4, 5])]
def spinetlaw31_PinsTexts_i21 : List Op1 := [(oM 57 (.t 6) []), (oM 58 (.t 0) []), (oC 59 14 [(.t 58)] [1]), (oE 60 (.bin .eql (.t 57) (.t 59)) [0, 2]), (oM 61 (.t 60) [3, 2]), (oG 62 (.mv (.t 7)) 61 true [4]), (oG 63 (.mv (.t 0)) 61 true [4]), ⟨(some 64), (.call 9 [(.t 62), (.t 63)]), (some (61, true)), [5, 6, 4, 4]⟩, (oE 65 (.pick (.t 61) (.t 64) (.k (.bool false))) [4, 7]), (oM 66 (.t 65) [8, 7]), (oG 67 (.mv (.t 8)) 66 true [9]), (oG 68 (.bin .eql (.t 67) (.k (.int .i64 0))) 66 true [10, 9]), (oE 69 (.pick (.t 66) (.t 68) (.k (.bool false))) [9, 11]), (oM 70 (.t 69) [12, 9]), ⟨(some 71), (.call 10 []), (some (70, true)), [13, 13]⟩, (oE 72 (.pick (.t 70) (.t 71) (.k (.bool false))) [13, 14]), (oM 2 (.t 72) [15, 14, 0, 1, 2, 3, 4, 5, 6, 7, 8, 9, 10, 11, 12, 13, 14, 15])]
def spinetlaw31_PinsTexts_i22 : IR := .ret
def spinetlaw31_PinsTexts_i23 : IR := (.seq (.reg false spinetlaw31_PinsTexts_i21) spinetlaw31_PinsTexts_i22)
def spinetlaw31_PinsTexts_i24 : IR := (.seq (.reg false spinetlaw31_PinsTexts_i20) spinetlaw31_PinsTexts_i23)
def spinetlaw31_PinsTexts_i25 : IR := (.seq (.reg false spinetlaw31_PinsTexts_i19) spinetlaw31_PinsTexts_i24)
def spinetlaw31_PinsTexts_i26 : IR := (.seq (.seq (.reg false spinetlaw31_PinsTexts_i5) spinetlaw31_PinsTexts_i18) spinetlaw31_PinsTexts_i25)
def spinetlaw31_PinsTexts_i27 : IR := (.seq (.seq (.reg false spinetlaw31_PinsTexts_i1) spinetlaw31_PinsTexts_i4) spinetlaw31_PinsTexts_i26)
def spinetlaw31_PinsTexts_ir : IR := (.seq (.reg false spinetlaw31_PinsTexts_i0) spinetlaw31_PinsTexts_i27)
theorem spinetlaw31_PinsTexts_cfn : cFn Tryd.prog 4 = some (spinetlaw31_PinsTexts_ir, [(.t 2)], 73) := by kernel_rfl
def spinetlaw31_PinsTexts_V (r : (Bool)) : V := .s (.bool r)
def spinetlaw31_PinsTexts_C (r : (Bool)) : X → Fr → Hp → Prop := FinL [(.t 2)] [] (spinetlaw31_PinsTexts_V r) []
theorem spinetlaw31_PinsTexts_ok (l_ : (List api_Pins)) (r : (Bool)) (h : spinetlaw31_PinsTexts l_ = some r) : Pure Tryd.prog 4 [.sl false l_.length (cat api_Pins.v l_)] (spinetlaw31_PinsTexts_V r) := by
  refine ConL.of spinetlaw31_PinsTexts_cfn (Nat.le_of_ble_eq_true (by kernel_rfl)) (Nat.le_of_ble_eq_true (by kernel_rfl)) ?_
  refine k_start ?_
  show dwv Tryd.prog [] spinetlaw31_PinsTexts_ir (kont Tryd.prog [] (spinetlaw31_PinsTexts_C r) []) (fr0 [.sl false l_.length (cat api_Pins.v l_)]) []
  have hf : FOk (fr0 [.sl false l_.length (cat api_Pins.v l_)]) [⟨0, [], .sl false l_.length (cat api_Pins.v l_)⟩] := ⟨⟨fun _ => rfl, fun h => (h trivial).elim⟩, trivial⟩
  generalize fr0 [.sl false l_.length (cat api_Pins.v l_)] = f at hf ⊢
  unfold spinetlaw31_PinsTexts at h
  refine k_seq ?_
  refine k_reg ?_
  refine mops_en hf (by kernel_rfl) fun f1 hf1 => ?_
  refine k_c ?_
  refine k_seq ?_
  refine k_seq ?_
  refine k_reg ?_
  refine mops_en hf1 (by kernel_rfl) fun f2 hf2 => ?_
  refine k_c ?_
  refine k_cond hf2 (t := (decide (300 < (ln l_)))) (by kernel_rfl) (fun hc1 => ?_) (fun hc1 => ?_)
  · have h := if_t h hc1
    refine k_seq ?_
    refine k_reg ?_
    refine mops_en hf2 (by kernel_rfl) fun f3 hf3 => ?_
    refine k_c ?_
    refine k_ret ?_
    refine x_c nofun ?_
    obtain rfl := Option.some.inj h
    exact k_fin (fin_ret (.inl rfl) hf3 (vs := [.s (.bool true)]) (by kernel_rfl) (SettL.pure (FzL.stat rfl)))
  · have h := if_f h hc1
    refine k_skip ?_
    refine k_c ?_
    refine k_seq ?_
    refine k_seq ?_
    refine k_reg ?_
    refine mops_en hf2 (by kernel_rfl) fun f3 hf3 => ?_
    refine k_c ?_
    refine k_block ?_
    obtain ⟨o0, hx0, h⟩ := Option.bind_eq_some_iff.1 h
    have hret0 : ∀ r0, .ret r0 = o0 → r0 = r := fun r0 e => by subst e; exact Option.some.inj h
    have hgo0 : .go () = o0 → ∀ f, FOk f [⟨0, [], .sl false l_.length (cat api_Pins.v l_)⟩, ⟨2, [], .s (.bool false)⟩] → kont Tryd.prog [] (spinetlaw31_PinsTexts_C r) ((.c spinetlaw31_PinsTexts_i25) :: []) .normal f [] := by
      intro  e f hf
      subst e
      refine k_c ?_
      refine k_seq ?_
      refine k_reg ?_
      refine mops_sg 1 hf (by kernel_rfl) fun f1 hf1 => ?_
      obtain ⟨r_12, hx_r_12, h⟩ := Option.bind_eq_some_iff.1 h
      refine mops_call rfl hf1 (av := [.sl false l_.length (cat api_Pins.v l_)]) (by kernel_rfl) (v := .s (.string r_12)) (CalL.pure (pins_Text_ok l_ r_12 hx_r_12) (by simp [V.static, statics, cat_stat]) rfl (Nat.le_of_ble_eq_true (by kernel_rfl))) (fun _ => rfl) fun f2 hf2 => ?_
      refine mops_en hf2 (by kernel_rfl) fun f3 hf3 => ?_
      refine k_c ?_
      refine k_seq ?_
      refine k_reg ?_
      refine mops_sg 1 hf3 (by kernel_rfl) fun f4 hf4 => ?_
      obtain ⟨r_13, hx_r_13, h⟩ := Option.bind_eq_some_iff.1 h
      refine mops_call rfl hf4 (av := [.s (.string r_12)]) (by kernel_rfl) (v := .tup [.sl false r_13.1.length (cat api_Pins.v r_13.1), .s (.int .i64 r_13.2)]) (CalL.pure (pins_Parse_ok r_12 r_13 hx_r_13) rfl (by simp [V.static, statics, cat_stat, pins_Parse_V]) (Nat.le_of_ble_eq_true (by kernel_rfl))) (fun _ => rfl) fun f5 hf5 => ?_
      refine mops_en hf5 (by kernel_rfl) fun f6 hf6 => ?_
      refine k_c ?_
      refine k_seq ?_
      refine k_reg ?_
      refine mops_sg 2 hf6 (by kernel_rfl) fun f7 hf7 => ?_
      obtain ⟨r_14, hx_r_14, h⟩ := Option.bind_eq_some_iff.1 h
      refine mops_call rfl hf7 (av := [.sl false l_.length (cat api_Pins.v l_)]) (by kernel_rfl) (v := .s (.string r_14)) (CalL.pure (spinetref31_Text_ok l_ r_14 hx_r_14) (by simp [V.static, statics, cat_stat]) rfl (Nat.le_of_ble_eq_true (by kernel_rfl))) (fun _ => rfl) fun f8 hf8 => ?_
      refine mops_sg 4 hf8 (by kernel_rfl) fun f9 hf9 => ?_
      obtain ⟨r_15, hx_r_15, h⟩ := Option.bind_eq_some_iff.1 h
      refine mops_gcall (dst := (some 64)) (m := 9) (args := [(.t 62), (.t 63)]) (aft := [5, 6, 4, 4]) (t := 61) (w := true) (ch := [(61, true)]) (b := (r_12.toList == r_14.toList)) (by kernel_rfl) hf9 (by kernel_rfl) (by kernel_rfl) (av := [.sl false r_13.1.length (cat api_Pins.v r_13.1), .sl false l_.length (cat api_Pins.v l_)]) (by kernel_rfl) (v := .s (.bool r_15)) (by kernel_rfl) (fun hb10 => (CalL.pure (slices_Equal_sl_api_Pins_api_Pins_ok r_13.1 l_ r_15 (if_t hx_r_15 hb10)) (by simp [V.static, statics, cat_stat]) rfl (Nat.le_of_ble_eq_true (by kernel_rfl)))) fun f10 hf10 => ?_
      refine mops_sg 6 hf10 (by kernel_rfl) fun f11 hf11 => ?_
      obtain ⟨r_16, hx_r_16, h⟩ := Option.bind_eq_some_iff.1 h
      refine mops_gcall (dst := (some 71)) (m := 10) (args := []) (aft := [13, 13]) (t := 70) (w := true) (ch := [(70, true)]) (b := (((r_12.toList == r_14.toList) && r_15) && (r_13.2 == 0))) (by kernel_rfl) hf11 (by kernel_rfl) (by kernel_rfl) (av := []) (by kernel_rfl) (v := .s (.bool r_16)) (by kernel_rfl) (fun hb11 => (CalL.pure (spinetlaw31_alive_ok  r_16 (if_t hx_r_16 hb11)) rfl rfl (Nat.le_of_ble_eq_true (by kernel_rfl)))) fun f12 hf12 => ?_
      refine mops_en hf12 (by kernel_rfl) fun f13 hf13 => ?_
      refine k_c ?_
      refine k_ret ?_
      obtain rfl := Option.some.inj h
      exact k_fin (fin_ret (.inl rfl) hf13 (vs := [.s (.bool ((((r_12.toList == r_14.toList) && r_15) && (r_13.2 == 0)) && r_16))]) (by kernel_rfl) (SettL.pure (FzL.stat rfl)))
    refine k_loop BIG ?_
    refine loop_ind (fun n f L => ∃ (i_1 : Int), spinetlaw31_PinsTexts_l0 l_ n i_1 = some o0 ∧ FOk f [⟨0, [], .sl false l_.length (cat api_Pins.v l_)⟩, ⟨2, [], .s (.bool false)⟩, ⟨3, [], .s (.int .i64 i_1)⟩] ∧ L = []) ?_ ?_ BIG _ _ ⟨(0), hx0, FOk_of [0, 2, 3] hf3 (by kernel_rfl), (by kernel_rfl)⟩
    · rintro f L ⟨i_1, h, _⟩
      cases (show (none : Option _) = some _ from h)
    · rintro n0 R0 ih f L ⟨i_1, h, hf, rfl⟩
      rw [spinetlaw31_PinsTexts_l0] at h
      refine k_seq ?_
      refine k_seq ?_
      refine k_reg ?_
      refine mops_en hf (by kernel_rfl) fun f1 hf1 => ?_
      refine k_c ?_
      refine k_cond hf1 (t := (decide (i_1 < (ln l_)))) (by kernel_rfl) (fun hc2 => ?_) (fun hc2 => ?_)
      · have h := if_t h hc2
        refine k_skip ?_
        refine k_c ?_
        refine k_seq ?_
        refine k_block ?_
        refine k_seq ?_
        refine k_reg ?_
        refine mops_sg 2 hf1 (by kernel_rfl) fun f2 hf2 => ?_
        obtain ⟨c3, h⟩ := as_ok h
        refine mops_adv rfl (v := .ip ((cat api_Pins.v l_).drop ((i_1 : Int).toNat * 6))) hf2 (by kernel_rfl) (e_ias (n := l_.length) (xv := .sl false l_.length (cat api_Pins.v l_)) (k := .i64) (iv := i_1) (p := .ip ((cat api_Pins.v l_).drop ((i_1 : Int).toNat * 6))) (by kernel_rfl) (by kernel_rfl) (by kernel_rfl) (by kernel_rfl) c3) fun f3 hf3 => ?_
        refine mops_adv rfl (v := .agg [.s (.bool (gt l_ i_1).Reset), .s (.bool (gt l_ i_1).Nmi), .s (.bool (gt l_ i_1).Firq), .s (.bool (gt l_ i_1).Irq), .s (.bool (gt l_ i_1).Halt), .s (.bool (gt l_ i_1).Req)]) hf3 (by kernel_rfl) (e_load_ip (g := api_Pins.v) (l := l_) (iv := i_1) [] (by kernel_rfl) c3 (by kernel_rfl) (by kernel_rfl)) fun f4 hf4 => ?_
        obtain ⟨r_8, hx_r_8, h⟩ := Option.bind_eq_some_iff.1 h
        refine mops_call rfl hf4 (av := [.agg [.s (.bool (gt l_ i_1).Reset), .s (.bool (gt l_ i_1).Nmi), .s (.bool (gt l_ i_1).Firq), .s (.bool (gt l_ i_1).Irq), .s (.bool (gt l_ i_1).Halt), .s (.bool (gt l_ i_1).Req)]]) (by kernel_rfl) (v := .s (.string r_8)) (CalL.pure (pins_Word_ok (gt l_ i_1) r_8 hx_r_8) rfl rfl (Nat.le_of_ble_eq_true (by kernel_rfl))) (fun _ => rfl) fun f5 hf5 => ?_
        obtain ⟨r_9, hx_r_9, h⟩ := Option.bind_eq_some_iff.1 h
        refine mops_call rfl hf5 (av := [.s (.string r_8)]) (by kernel_rfl) (v := .tup [.agg [.s (.bool r_9.1.Reset), .s (.bool r_9.1.Nmi), .s (.bool r_9.1.Firq), .s (.bool r_9.1.Irq), .s (.bool r_9.1.Halt), .s (.bool r_9.1.Req)], .s (.bool r_9.2)]) (CalL.pure (pins_One_ok r_8 r_9 hx_r_9) rfl rfl (Nat.le_of_ble_eq_true (by kernel_rfl))) (fun _ => rfl) fun f6 hf6 => ?_
        refine mops_en hf6 (by kernel_rfl) fun f7 hf7 => ?_
        refine k_c ?_
        refine k_seq ?_
        refine k_regq ?_
        refine mops_sg 2 hf7 (by kernel_rfl) fun f8 hf8 => ?_
        obtain ⟨c4, h⟩ := as_ok h
        refine mops_adv rfl (v := .ip ((cat api_Pins.v l_).drop ((i_1 : Int).toNat * 6))) hf8 (by kernel_rfl) (e_ias (n := l_.length) (xv := .sl false l_.length (cat api_Pins.v l_)) (k := .i64) (iv := i_1) (p := .ip ((cat api_Pins.v l_).drop ((i_1 : Int).toNat * 6))) (by kernel_rfl) (by kernel_rfl) (by kernel_rfl) (by kernel_rfl) c4) fun f9 hf9 => ?_
        refine mops_adv rfl (v := .agg [.s (.bool (gt l_ i_1).Reset), .s (.bool (gt l_ i_1).Nmi), .s (.bool (gt l_ i_1).Firq), .s (.bool (gt l_ i_1).Irq), .s (.bool (gt l_ i_1).Halt), .s (.bool (gt l_ i_1).Req)]) hf9 (by kernel_rfl) (e_load_ip (g := api_Pins.v) (l := l_) (iv := i_1) [] (by kernel_rfl) c4 (by kernel_rfl) (by kernel_rfl)) fun f10 hf10 => ?_
        obtain ⟨r_10, hx_r_10, h⟩ := Option.bind_eq_some_iff.1 h
        refine mops_call rfl hf10 (av := [.agg [.s (.bool (gt l_ i_1).Reset), .s (.bool (gt l_ i_1).Nmi), .s (.bool (gt l_ i_1).Firq), .s (.bool (gt l_ i_1).Irq), .s (.bool (gt l_ i_1).Halt), .s (.bool (gt l_ i_1).Req)]]) (by kernel_rfl) (v := .s (.string r_10)) (CalL.pure (pins_Word_ok (gt l_ i_1) r_10 hx_r_10) rfl rfl (Nat.le_of_ble_eq_true (by kernel_rfl))) (fun _ => rfl) fun f11 hf11 => ?_
        refine mops_sg 2 hf11 (by kernel_rfl) fun f12 hf12 => ?_
        obtain ⟨c5, h⟩ := as_ok h
        refine mops_adv rfl (v := .ip ((cat api_Pins.v l_).drop ((i_1 : Int).toNat * 6))) hf12 (by kernel_rfl) (e_ias (n := l_.length) (xv := .sl false l_.length (cat api_Pins.v l_)) (k := .i64) (iv := i_1) (p := .ip ((cat api_Pins.v l_).drop ((i_1 : Int).toNat * 6))) (by kernel_rfl) (by kernel_rfl) (by kernel_rfl) (by kernel_rfl) c5) fun f13 hf13 => ?_
        refine mops_adv rfl (v := .agg [.s (.bool (gt l_ i_1).Reset), .s (.bool (gt l_ i_1).Nmi), .s (.bool (gt l_ i_1).Firq), .s (.bool (gt l_ i_1).Irq), .s (.bool (gt l_ i_1).Halt), .s (.bool (gt l_ i_1).Req)]) hf13 (by kernel_rfl) (e_load_ip (g := api_Pins.v) (l := l_) (iv := i_1) [] (by kernel_rfl) c5 (by kernel_rfl) (by kernel_rfl)) fun f14 hf14 => ?_
        obtain ⟨r_11, hx_r_11, h⟩ := Option.bind_eq_some_iff.1 h
        refine mops_call rfl hf14 (av := [.agg [.s (.bool (gt l_ i_1).Reset), .s (.bool (gt l_ i_1).Nmi), .s (.bool (gt l_ i_1).Firq), .s (.bool (gt l_ i_1).Irq), .s (.bool (gt l_ i_1).Halt), .s (.bool (gt l_ i_1).Req)]]) (by kernel_rfl) (v := .s (.string r_11)) (CalL.pure (spinetref31_Word_ok (gt l_ i_1) r_11 hx_r_11) rfl rfl (Nat.le_of_ble_eq_true (by kernel_rfl))) (fun _ => rfl) fun f15 hf15 => ?_
        refine mops_sg 5 hf15 (by kernel_rfl) fun f16 hf16 => ?_
        obtain ⟨c6, h⟩ := as_ok h
        refine mops_gadv (dst := (some 42)) (op := (.ias 6 (.t 40) (.t 41))) (aft := [13, 14, 11]) (t := 38) (w := false) (ch := [(38, false)]) (b := (!(!(r_10.toList == r_11.toList)))) (v := .ip ((cat api_Pins.v l_).drop ((i_1 : Int).toNat * 6))) (by kernel_rfl) hf16 (by kernel_rfl) (by kernel_rfl) (by kernel_rfl) (fun hb7 => e_ias (n := l_.length) (xv := .sl false l_.length (cat api_Pins.v l_)) (k := .i64) (iv := i_1) (p := .ip ((cat api_Pins.v l_).drop ((i_1 : Int).toNat * 6))) (by kernel_rfl) (by kernel_rfl) (by kernel_rfl) (by kernel_rfl) (c6 hb7)) fun f17 hf17 => ?_
        refine mops_gadv (dst := (some 43)) (op := (.load true 6 (.t 42))) (aft := [15, 11]) (t := 38) (w := false) (ch := [(38, false)]) (b := (!(!(r_10.toList == r_11.toList)))) (v := .agg [.s (.bool (gt l_ i_1).Reset), .s (.bool (gt l_ i_1).Nmi), .s (.bool (gt l_ i_1).Firq), .s (.bool (gt l_ i_1).Irq), .s (.bool (gt l_ i_1).Halt), .s (.bool (gt l_ i_1).Req)]) (by kernel_rfl) hf17 (by kernel_rfl) (by kernel_rfl) (by kernel_rfl) (fun hb8 => e_load_ip (g := api_Pins.v) (l := l_) (iv := i_1) [] (by kernel_rfl) (c6 hb8) (by kernel_rfl) (by kernel_rfl)) fun f18 hf18 => ?_
        refine mops_end [0, 2, 3, 4, 5, 12, 13, 14, 15, 18, 19, 20, 21, 22, 23, 24, 25, 26, 27, 28, 29, 30, 31, 32, 33, 34, 35, 36, 37, 38, 39, 40, 41, 42, 43, 44, 45, 46, 47, 48, 49] hf18 (l' := [⟨0, [], .sl false l_.length (cat api_Pins.v l_)⟩, ⟨2, [], .s (.bool false)⟩, ⟨3, [], .s (.int .i64 i_1)⟩, ⟨4, [], .ptr 0 0 0⟩, ⟨5, [], .s (.bool r_9.2)⟩, ⟨12, [], .s (.int .i64 i_1)⟩, ⟨13, [], .sl false l_.length (cat api_Pins.v l_)⟩, ⟨14, [], .s (.int .i64 (ln l_))⟩, ⟨15, [], .s (.bool (decide (i_1 < (ln l_))))⟩, ⟨18, [], .tup [.agg [.s (.bool r_9.1.Reset), .s (.bool r_9.1.Nmi), .s (.bool r_9.1.Firq), .s (.bool r_9.1.Irq), .s (.bool r_9.1.Halt), .s (.bool r_9.1.Req)], .s (.bool r_9.2)]⟩, ⟨19, [], .sl false l_.length (cat api_Pins.v l_)⟩, ⟨20, [], .s (.int .i64 i_1)⟩, ⟨21, [], .ip ((cat api_Pins.v l_).drop ((i_1 : Int).toNat * 6))⟩, ⟨22, [], .agg [.s (.bool (gt l_ i_1).Reset), .s (.bool (gt l_ i_1).Nmi), .s (.bool (gt l_ i_1).Firq), .s (.bool (gt l_ i_1).Irq), .s (.bool (gt l_ i_1).Halt), .s (.bool (gt l_ i_1).Req)]⟩, ⟨23, [], .s (.string r_8)⟩, ⟨24, [], .tup [.agg [.s (.bool r_9.1.Reset), .s (.bool r_9.1.Nmi), .s (.bool r_9.1.Firq), .s (.bool r_9.1.Irq), .s (.bool r_9.1.Halt), .s (.bool r_9.1.Req)], .s (.bool r_9.2)]⟩, ⟨25, [], .agg [.s (.bool r_9.1.Reset), .s (.bool r_9.1.Nmi), .s (.bool r_9.1.Firq), .s (.bool r_9.1.Irq), .s (.bool r_9.1.Halt), .s (.bool r_9.1.Req)]⟩, ⟨26, [], .s (.bool r_9.2)⟩, ⟨27, [], .sl false l_.length (cat api_Pins.v l_)⟩, ⟨28, [], .s (.int .i64 i_1)⟩, ⟨29, [], .ip ((cat api_Pins.v l_).drop ((i_1 : Int).toNat * 6))⟩, ⟨30, [], .agg [.s (.bool (gt l_ i_1).Reset), .s (.bool (gt l_ i_1).Nmi), .s (.bool (gt l_ i_1).Firq), .s (.bool (gt l_ i_1).Irq), .s (.bool (gt l_ i_1).Halt), .s (.bool (gt l_ i_1).Req)]⟩, ⟨31, [], .s (.string r_10)⟩, ⟨32, [], .sl false l_.length (cat api_Pins.v l_)⟩, ⟨33, [], .s (.int .i64 i_1)⟩, ⟨34, [], .ip ((cat api_Pins.v l_).drop ((i_1 : Int).toNat * 6))⟩, ⟨35, [], .agg [.s (.bool (gt l_ i_1).Reset), .s (.bool (gt l_ i_1).Nmi), .s (.bool (gt l_ i_1).Firq), .s (.bool (gt l_ i_1).Irq), .s (.bool (gt l_ i_1).Halt), .s (.bool (gt l_ i_1).Req)]⟩, ⟨36, [], .s (.string r_11)⟩, ⟨37, [], .s (.bool (!(r_10.toList == r_11.toList)))⟩, ⟨38, [], .s (.bool (!(r_10.toList == r_11.toList)))⟩, ⟨39, [(38, false)], .agg [.s (.bool r_9.1.Reset), .s (.bool r_9.1.Nmi), .s (.bool r_9.1.Firq), .s (.bool r_9.1.Irq), .s (.bool r_9.1.Halt), .s (.bool r_9.1.Req)]⟩, ⟨40, [(38, false)], .sl false l_.length (cat api_Pins.v l_)⟩, ⟨41, [(38, false)], .s (.int .i64 i_1)⟩, ⟨42, [(38, false)], .ip ((cat api_Pins.v l_).drop ((i_1 : Int).toNat * 6))⟩, ⟨43, [(38, false)], .agg [.s (.bool (gt l_ i_1).Reset), .s (.bool (gt l_ i_1).Nmi), .s (.bool (gt l_ i_1).Firq), .s (.bool (gt l_ i_1).Irq), .s (.bool (gt l_ i_1).Halt), .s (.bool (gt l_ i_1).Req)]⟩, ⟨44, [(38, false)], .s (.bool (!((r_9.1.Reset == (gt l_ i_1).Reset) && ((r_9.1.Nmi == (gt l_ i_1).Nmi) && ((r_9.1.Firq == (gt l_ i_1).Firq) && ((r_9.1.Irq == (gt l_ i_1).Irq) && ((r_9.1.Halt == (gt l_ i_1).Halt) && ((r_9.1.Req == (gt l_ i_1).Req) && true))))))))⟩, ⟨45, [], .s (.bool ((!(r_10.toList == r_11.toList)) || (!((r_9.1.Reset == (gt l_ i_1).Reset) && ((r_9.1.Nmi == (gt l_ i_1).Nmi) && ((r_9.1.Firq == (gt l_ i_1).Firq) && ((r_9.1.Irq == (gt l_ i_1).Irq) && ((r_9.1.Halt == (gt l_ i_1).Halt) && ((r_9.1.Req == (gt l_ i_1).Req) && true)))))))))⟩, ⟨46, [], .s (.bool ((!(r_10.toList == r_11.toList)) || (!((r_9.1.Reset == (gt l_ i_1).Reset) && ((r_9.1.Nmi == (gt l_ i_1).Nmi) && ((r_9.1.Firq == (gt l_ i_1).Firq) && ((r_9.1.Irq == (gt l_ i_1).Irq) && ((r_9.1.Halt == (gt l_ i_1).Halt) && ((r_9.1.Req == (gt l_ i_1).Req) && true)))))))))⟩, ⟨47, [(46, false)], .s (.bool r_9.2)⟩, ⟨48, [(46, false)], .s (.bool (!r_9.2))⟩, ⟨49, [], .s (.bool (((!(r_10.toList == r_11.toList)) || (!((r_9.1.Reset == (gt l_ i_1).Reset) && ((r_9.1.Nmi == (gt l_ i_1).Nmi) && ((r_9.1.Firq == (gt l_ i_1).Firq) && ((r_9.1.Irq == (gt l_ i_1).Irq) && ((r_9.1.Halt == (gt l_ i_1).Halt) && ((r_9.1.Req == (gt l_ i_1).Req) && true)))))))) || (!r_9.2)))⟩]) (L' := [⟨0, .mem, 1, [.s (.bool r_9.1.Reset), .s (.bool r_9.1.Nmi), .s (.bool r_9.1.Firq), .s (.bool r_9.1.Irq), .s (.bool r_9.1.Halt), .s (.bool r_9.1.Req)]⟩]) (by kernel_rfl) fun f19 hf19 => ?_
        refine k_c ?_
        refine k_cond hf19 (t := (((!(r_10.toList == r_11.toList)) || (!((r_9.1.Reset == (gt l_ i_1).Reset) && ((r_9.1.Nmi == (gt l_ i_1).Nmi) && ((r_9.1.Firq == (gt l_ i_1).Firq) && ((r_9.1.Irq == (gt l_ i_1).Irq) && ((r_9.1.Halt == (gt l_ i_1).Halt) && ((r_9.1.Req == (gt l_ i_1).Req) && true)))))))) || (!r_9.2))) (by kernel_rfl) (fun hc9 => ?_) (fun hc9 => ?_)
        · have h := if_t h hc9
          refine k_seq ?_
          refine k_reg ?_
          refine mops_en hf19 (by kernel_rfl) fun f20 hf20 => ?_
          refine k_c ?_
          refine k_ret ?_
          refine x_br ?_
          refine x_c nofun ?_
          refine x_l nofun ?_
          refine x_br ?_
          refine x_c nofun ?_
          obtain rfl := hret0 _ (Option.some.inj h)
          exact k_fin (fin_ret (.inl rfl) hf20 (vs := [.s (.bool false)]) (by kernel_rfl) (SettL.pure (FzL.stat rfl)))
        · have h := if_f h hc9
          refine k_skip ?_
          refine k_b ?_
          refine k_c ?_
          refine k_reg ?_
          refine mops_en hf19 (by kernel_rfl) fun f20 hf20 => ?_
          refine k_l' (vs_cut (l := [⟨0, [], .sl false l_.length (cat api_Pins.v l_)⟩, ⟨2, [], .s (.bool false)⟩, ⟨3, [], .s (.int .i64 (IntKind.wrap .i64 (i_1 + 1)))⟩]) 0 (by kernel_rfl) (by kernel_rfl) (L' := []) (by kernel_rfl) ⟨⟨rfl, (static_under _ _ (by simp [V.static, statics, cat_stat, dropcat_stat]))⟩, ⟨rfl, rfl⟩, ⟨rfl, rfl⟩, trivial⟩ trivial (FOk_of [0, 2, 3] hf20 (by kernel_rfl)) fun f hf => ?_)
          exact ih _ _ ⟨(IntKind.wrap .i64 (i_1 + 1)), h, hf, rfl⟩
      · have h := if_f h hc2
        refine k_exit ?_
        refine x_c nofun ?_
        refine x_l nofun ?_
        refine x_b ?_
        refine k_hp (L' := []) (by kernel_rfl) ?_
        exact hgo0  (Option.some.inj h) _ (FOk_of [0, 2] hf1 (by kernel_rfl))
end Go.Proofs.YthhjooegpjgicaaDoorK
