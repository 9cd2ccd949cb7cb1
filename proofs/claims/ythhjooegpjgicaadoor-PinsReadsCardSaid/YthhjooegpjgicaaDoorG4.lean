/- The Go functions come to the functions over typed data. Printed by a program of this work. -/
import Derived.Test.YthhjooegpjgicaaDoorF
import Derived.Test.YthhjooegpjgicaaDoorProg
import Derived.Test.YthhjooegpjgicaaDoorG0
import Derived.Test.YthhjooegpjgicaaDoorG1
import Derived.Test.YthhjooegpjgicaaDoorG2
import Derived.Test.YthhjooegpjgicaaDoorG3
namespace Go.Proofs.YthhjooegpjgicaaDoorK
set_option linter.unusedVariables false
set_option linter.unusedSimpArgs false
set_option maxHeartbeats 4000000
open Go.RowKit
attribute [local irreducible] dwv mops lops lqops lwops kont iter run runK rk okK ex E1 vals val chain chB sel resF
def spinetlaw31_alive_i0 : List Op1 := [(oM 0 (.k (.bool false)) [])]
def spinetlaw31_alive_i1 : List Op1 := [(oC 4 5 [(.k (.string ⟨#[82, 42, 50, 32, 46, 32, 78, 70]⟩))] []), (oM 3 (.t 4) [0]), (oE 5 (.ext 0 (.t 3)) [1]), (oE 6 (.ext 1 (.t 3)) [1]), (oM 1 (.t 5) [2, 0, 0, 1, 2]), (oM 2 (.t 6) [3, 4, 0, 1, 2, 3, 4])]
def spinetlaw31_alive_i2 : List Op1 := [(oM 7 (.t 1) []), (oE 8 (.len (.t 7)) [0]), (oE 9 (.bin .eql (.t 8) (.k (.int .i64 4))) [1]), (oM 10 (.t 9) [2]), (oG 11 (.mv (.t 1)) 10 true [3]), (oG 12 (.ias 6 (.t 11) (.k (.int .i64 1))) 10 true [4, 3]), (oG 13 (.fld 0 (.t 12)) 10 true [5, 3]), (oG 14 (.load false 1 (.t 13)) 10 true [6, 3]), (oE 15 (.pick (.t 10) (.t 14) (.k (.bool false))) [3, 7]), (oM 16 (.t 15) [8, 3]), (oG 17 (.mv (.t 1)) 16 true [9]), (oG 18 (.ias 6 (.t 17) (.k (.int .i64 3))) 16 true [10, 9]), (oG 19 (.fld 1 (.t 18)) 16 true [11, 9]), (oG 20 (.load false 1 (.t 19)) 16 true [12, 9]), (oE 21 (.pick (.t 16) (.t 20) (.k (.bool false))) [9, 13]), (oM 22 (.t 21) [14, 9]), (oG 23 (.mv (.t 2)) 22 true [15]), (oG 24 (.bin .eql (.t 23) (.k (.int .i64 0))) 22 true [16, 15]), (oE 25 (.pick (.t 22) (.t 24) (.k (.bool false))) [15, 17]), (oM 26 (.t 25) [18, 15]), (oE 27 (.pick (.t 26) (.k (.bool true)) (.k (.bool false))) [19]), (oM 0 (.t 27) [20, 19, 0, 1, 2, 3, 4, 5, 6, 7, 8, 9, 10, 11, 12, 13, 14, 15, 16, 17, 18, 19, 20])]
def spinetlaw31_alive_i3 : IR := .ret
def spinetlaw31_alive_i4 : IR := (.seq (.reg false spinetlaw31_alive_i2) spinetlaw31_alive_i3)
def spinetlaw31_alive_i5 : IR := (.seq (.reg false spinetlaw31_alive_i1) spinetlaw31_alive_i4)
def spinetlaw31_alive_ir : IR := (.seq (.reg false spinetlaw31_alive_i0) spinetlaw31_alive_i5)
theorem spinetlaw31_alive_cfn : cFn Tryd.prog 10 = some (spinetlaw31_alive_ir, [(.t 0)], 28) := by kernel_rfl
def spinetlaw31_alive_V (r : (Bool)) : V := .s (.bool r)
def spinetlaw31_alive_C (r : (Bool)) : X → Fr → Hp → Prop := FinL [(.t 0)] [] (spinetlaw31_alive_V r) []
theorem spinetlaw31_alive_ok (r : (Bool)) (h : spinetlaw31_alive = some r) : Pure Tryd.prog 10 [] (spinetlaw31_alive_V r) := by
  refine ConL.of spinetlaw31_alive_cfn (Nat.le_of_ble_eq_true (by kernel_rfl)) (Nat.le_of_ble_eq_true (by kernel_rfl)) ?_
  refine k_start ?_
  show dwv Tryd.prog [] spinetlaw31_alive_ir (kont Tryd.prog [] (spinetlaw31_alive_C r) []) (fr0 []) []
  have hf : FOk (fr0 []) [] := trivial
  generalize fr0 [] = f at hf ⊢
  unfold spinetlaw31_alive at h
  refine k_seq ?_
  refine k_reg ?_
  refine mops_en hf (by kernel_rfl) fun f1 hf1 => ?_
  refine k_c ?_
  refine k_seq ?_
  refine k_reg ?_
  obtain ⟨r_, hx_r_, h⟩ := Option.bind_eq_some_iff.1 h
  refine mops_call rfl hf1 (av := [.s (.string (⟨#[82, 42, 50, 32, 46, 32, 78, 70]⟩ : ByteArray))]) (by kernel_rfl) (v := .tup [.sl false r_.1.length (cat api_Pins.v r_.1), .s (.int .i64 r_.2)]) (CalL.pure (pins_Parse_ok (⟨#[82, 42, 50, 32, 46, 32, 78, 70]⟩ : ByteArray) r_ hx_r_) rfl (by simp [V.static, statics, cat_stat, pins_Parse_V]) (Nat.le_of_ble_eq_true (by kernel_rfl))) (fun _ => rfl) fun f2 hf2 => ?_
  refine mops_en hf2 (by kernel_rfl) fun f3 hf3 => ?_
  refine k_c ?_
  refine k_seq ?_
  refine k_reg ?_
  refine mops_sg 5 hf3 (by kernel_rfl) fun f4 hf4 => ?_
  obtain ⟨c1, h⟩ := as_ok h
  refine mops_gadv (dst := (some 12)) (op := (.ias 6 (.t 11) (.k (.int .i64 1)))) (aft := [4, 3]) (t := 10) (w := true) (ch := [(10, true)]) (b := ((ln r_.1) == 4)) (v := .ip ((cat api_Pins.v r_.1).drop ((1 : Int).toNat * 6))) (by kernel_rfl) hf4 (by kernel_rfl) (by kernel_rfl) (by kernel_rfl) (fun hb2 => e_ias (n := r_.1.length) (xv := .sl false r_.1.length (cat api_Pins.v r_.1)) (k := .i64) (iv := 1) (p := .ip ((cat api_Pins.v r_.1).drop ((1 : Int).toNat * 6))) (by kernel_rfl) (by kernel_rfl) (by kernel_rfl) (by kernel_rfl) (c1 hb2)) fun f5 hf5 => ?_
  refine mops_sg 1 hf5 (by kernel_rfl) fun f6 hf6 => ?_
  refine mops_gadv (dst := (some 14)) (op := (.load false 1 (.t 13))) (aft := [6, 3]) (t := 10) (w := true) (ch := [(10, true)]) (b := ((ln r_.1) == 4)) (v := .s (.bool (gt r_.1 (1)).Reset)) (by kernel_rfl) hf6 (by kernel_rfl) (by kernel_rfl) (by kernel_rfl) (fun hb3 => e_load_ip (g := api_Pins.v) (l := r_.1) (iv := 1) [0] (by kernel_rfl) (c1 hb3) (by kernel_rfl) (by kernel_rfl)) fun f7 hf7 => ?_
  refine mops_sg 3 hf7 (by kernel_rfl) fun f8 hf8 => ?_
  obtain ⟨c4, h⟩ := as_ok h
  refine mops_gadv (dst := (some 18)) (op := (.ias 6 (.t 17) (.k (.int .i64 3)))) (aft := [10, 9]) (t := 16) (w := true) (ch := [(16, true)]) (b := (((ln r_.1) == 4) && (gt r_.1 (1)).Reset)) (v := .ip ((cat api_Pins.v r_.1).drop ((3 : Int).toNat * 6))) (by kernel_rfl) hf8 (by kernel_rfl) (by kernel_rfl) (by kernel_rfl) (fun hb5 => e_ias (n := r_.1.length) (xv := .sl false r_.1.length (cat api_Pins.v r_.1)) (k := .i64) (iv := 3) (p := .ip ((cat api_Pins.v r_.1).drop ((3 : Int).toNat * 6))) (by kernel_rfl) (by kernel_rfl) (by kernel_rfl) (by kernel_rfl) (c4 hb5)) fun f9 hf9 => ?_
  refine mops_sg 1 hf9 (by kernel_rfl) fun f10 hf10 => ?_
  refine mops_gadv (dst := (some 20)) (op := (.load false 1 (.t 19))) (aft := [12, 9]) (t := 16) (w := true) (ch := [(16, true)]) (b := (((ln r_.1) == 4) && (gt r_.1 (1)).Reset)) (v := .s (.bool (gt r_.1 (3)).Nmi)) (by kernel_rfl) hf10 (by kernel_rfl) (by kernel_rfl) (by kernel_rfl) (fun hb6 => e_load_ip (g := api_Pins.v) (l := r_.1) (iv := 3) [1] (by kernel_rfl) (c4 hb6) (by kernel_rfl) (by kernel_rfl)) fun f11 hf11 => ?_
  refine mops_en hf11 (by kernel_rfl) fun f12 hf12 => ?_
  refine k_c ?_
  refine k_ret ?_
  obtain rfl := Option.some.inj h
  exact k_fin (fin_ret (.inl rfl) hf12 (vs := [.s (.bool ((((((ln r_.1) == 4) && (gt r_.1 (1)).Reset) && (gt r_.1 (3)).Nmi) && (r_.2 == 0)) || false))]) (by kernel_rfl) (SettL.pure (FzL.stat rfl)))
def spinetlaw31_PinsReads_i0 : List Op1 := [(oM 2 (.k (.bool false)) [])]
def spinetlaw31_PinsReads_i1 : List Op1 := [(oM 11 (.t 0) []), (oE 12 (.lens (.t 11)) [0]), (oE 13 (.bin .gtr (.t 12) (.k (.int .i64 200))) [1])]
def spinetlaw31_PinsReads_i2 : List Op1 := [(oM 2 (.k (.bool true)) [])]
def spinetlaw31_PinsReads_i3 : IR := .ret
def spinetlaw31_PinsReads_i4 : IR := (.cond (.t 13) (.seq (.reg false spinetlaw31_PinsReads_i2) spinetlaw31_PinsReads_i3) .skip)
def spinetlaw31_PinsReads_i5 : List Op1 := [(oM 15 (.t 0) []), (oC 16 5 [(.t 15)] [0]), (oM 14 (.t 16) [1]), (oE 17 (.ext 0 (.t 14)) [2]), (oE 18 (.ext 1 (.t 14)) [2]), (oM 3 (.t 17) [3, 1, 0, 1, 2, 3]), (oM 4 (.t 18) [4, 5, 0, 1, 2, 3, 4, 5])]
def spinetlaw31_PinsReads_i6 : List Op1 := [(oM 20 (.t 0) []), (oC 21 6 [(.t 20)] [0]), (oM 19 (.t 21) [1]), (oE 22 (.ext 0 (.t 19)) [2]), (oE 23 (.ext 1 (.t 19)) [2]), (oM 5 (.t 22) [3, 1, 0, 1, 2, 3]), (oM 6 (.t 23) [4, 5, 0, 1, 2, 3, 4, 5])]
def spinetlaw31_PinsReads_i7 : List Op1 := [(oM 25 (.t 0) []), (oC 26 7 [(.t 25)] [0]), (oM 24 (.t 26) [1]), (oE 27 (.ext 0 (.t 24)) [2]), (oE 28 (.ext 1 (.t 24)) [2]), (oE 7 (.zero [(.bool false), (.bool false), (.bool false), (.bool false), (.bool false), (.bool false)]) []), (oN (.store 6 (.t 7) (.t 27)) [5, 3, 1, 0, 1, 2, 3, 5]), (oM 8 (.t 28) [4, 6, 0, 1, 2, 3, 4, 5, 6])]
def spinetlaw31_PinsReads_i8 : List Op1 := [(oM 30 (.t 0) []), (oC 31 8 [(.t 30)] [0]), (oM 29 (.t 31) [1]), (oE 32 (.ext 0 (.t 29)) [2]), (oE 33 (.ext 1 (.t 29)) [2]), (oE 9 (.zero [(.bool false), (.bool false), (.bool false), (.bool false), (.bool false), (.bool false)]) []), (oN (.store 6 (.t 9) (.t 32)) [5, 3, 1, 0, 1, 2, 3, 5]), (oM 10 (.t 33) [4, 6, 0, 1, 2, 3, 4, 5, 6])]
def spinetlaw31_PinsReads_i9 : List Op1 := [(oM 34 (.t 3) []), (oM 35 (.t 5) []), (oC 36 9 [(.t 34), (.t 35)] [0, 1]), (oM 37 (.t 36) [2, 2]), (oG 38 (.mv (.t 4)) 37 true [3]), (oG 39 (.mv (.t 6)) 37 true [3]), (oG 40 (.bin .eql (.t 38) (.t 39)) 37 true [4, 5, 3]), (oE 41 (.pick (.t 37) (.t 40) (.k (.bool false))) [3, 6]), (oM 42 (.t 41) [7, 3]), (oG 43 (.load true 6 (.t 7)) 42 true [8]), (oG 44 (.load true 6 (.t 9)) 42 true [8]), (oG 45 (.eqa false [.bool, .bool, .bool, .bool, .bool, .bool] (.t 43) (.t 44)) 42 true [9, 10, 8]), (oE 46 (.pick (.t 42) (.t 45) (.k (.bool false))) [8, 11]), (oM 47 (.t 46) [12, 8]), (oG 48 (.mv (.t 8)) 47 true [13]), (oG 49 (.mv (.t 10)) 47 true [13]), (oG 50 (.bbin false (.t 48) (.t 49)) 47 true [14, 15, 13]), (oE 51 (.pick (.t 47) (.t 50) (.k (.bool false))) [13, 16]), (oM 52 (.t 51) [17, 13]), ⟨(some 53), (.call 10 []), (some (52, true)), [18, 18]⟩, (oE 54 (.pick (.t 52) (.t 53) (.k (.bool false))) [18, 19]), (oM 2 (.t 54) [20, 19, 0, 1, 2, 3, 4, 5, 6, 7, 8, 9, 10, 11, 12, 13, 14, 15, 16, 17, 18, 19, 20])]
def spinetlaw31_PinsReads_i10 : IR := .ret
def spinetlaw31_PinsReads_i11 : IR := (.seq (.reg false spinetlaw31_PinsReads_i9) spinetlaw31_PinsReads_i10)
def spinetlaw31_PinsReads_i12 : IR := (.seq (.reg false spinetlaw31_PinsReads_i8) spinetlaw31_PinsReads_i11)
def spinetlaw31_PinsReads_i13 : IR := (.seq (.reg false spinetlaw31_PinsReads_i7) spinetlaw31_PinsReads_i12)
def spinetlaw31_PinsReads_i14 : IR := (.seq (.reg false spinetlaw31_PinsReads_i6) spinetlaw31_PinsReads_i13)
def spinetlaw31_PinsReads_i15 : IR := (.seq (.reg false spinetlaw31_PinsReads_i5) spinetlaw31_PinsReads_i14)
def spinetlaw31_PinsReads_i16 : IR := (.seq (.seq (.reg false spinetlaw31_PinsReads_i1) spinetlaw31_PinsReads_i4) spinetlaw31_PinsReads_i15)
def spinetlaw31_PinsReads_ir : IR := (.seq (.reg false spinetlaw31_PinsReads_i0) spinetlaw31_PinsReads_i16)
theorem spinetlaw31_PinsReads_cfn : cFn Tryd.prog 3 = some (spinetlaw31_PinsReads_ir, [(.t 2)], 55) := by kernel_rfl
def spinetlaw31_PinsReads_V (r : (Bool)) : V := .s (.bool r)
def spinetlaw31_PinsReads_C (r : (Bool)) : X → Fr → Hp → Prop := FinL [(.t 2)] [] (spinetlaw31_PinsReads_V r) []
theorem spinetlaw31_PinsReads_ok (s_ : ByteArray) (r : (Bool)) (h : spinetlaw31_PinsReads s_ = some r) : Pure Tryd.prog 3 [.s (.string s_)] (spinetlaw31_PinsReads_V r) := by
  refine ConL.of spinetlaw31_PinsReads_cfn (Nat.le_of_ble_eq_true (by kernel_rfl)) (Nat.le_of_ble_eq_true (by kernel_rfl)) ?_
  refine k_start ?_
  show dwv Tryd.prog [] spinetlaw31_PinsReads_ir (kont Tryd.prog [] (spinetlaw31_PinsReads_C r) []) (fr0 [.s (.string s_)]) []
  have hf : FOk (fr0 [.s (.string s_)]) [⟨0, [], .s (.string s_)⟩] := ⟨⟨fun _ => rfl, fun h => (h trivial).elim⟩, trivial⟩
  generalize fr0 [.s (.string s_)] = f at hf ⊢
  unfold spinetlaw31_PinsReads at h
  refine k_seq ?_
  refine k_reg ?_
  refine mops_en hf (by kernel_rfl) fun f1 hf1 => ?_
  refine k_c ?_
  refine k_seq ?_
  refine k_seq ?_
  refine k_reg ?_
  refine mops_en hf1 (by kernel_rfl) fun f2 hf2 => ?_
  refine k_c ?_
  refine k_cond hf2 (t := (decide (200 < (sln s_)))) (by kernel_rfl) (fun hc1 => ?_) (fun hc1 => ?_)
  · have h := if_t h hc1
    refine k_seq ?_
    refine k_reg ?_
    refine mops_en hf2 (by kernel_rfl) fun f3 hf3 => ?_
    refine k_c ?_
    refine k_ret ?_
    refine x_c nofun ?_
    obtain rfl := Option.some.inj h
    exact k_fin (fin_ret (.inl rfl) hf3 (vs := [.s (.bool true)]) (by kernel_rfl) (SettL.pure (FzL.stat rfl)))
  · have h := if_f h hc1
    refine k_skip ?_
    refine k_c ?_
    refine k_seq ?_
    refine k_reg ?_
    refine mops_sg 1 hf2 (by kernel_rfl) fun f3 hf3 => ?_
    obtain ⟨r_, hx_r_, h⟩ := Option.bind_eq_some_iff.1 h
    refine mops_call rfl hf3 (av := [.s (.string s_)]) (by kernel_rfl) (v := .tup [.sl false r_.1.length (cat api_Pins.v r_.1), .s (.int .i64 r_.2)]) (CalL.pure (pins_Parse_ok s_ r_ hx_r_) rfl (by simp [V.static, statics, cat_stat, pins_Parse_V]) (Nat.le_of_ble_eq_true (by kernel_rfl))) (fun _ => rfl) fun f4 hf4 => ?_
    refine mops_en hf4 (by kernel_rfl) fun f5 hf5 => ?_
    refine k_c ?_
    refine k_seq ?_
    refine k_reg ?_
    refine mops_sg 1 hf5 (by kernel_rfl) fun f6 hf6 => ?_
    obtain ⟨r_1, hx_r_1, h⟩ := Option.bind_eq_some_iff.1 h
    refine mops_call rfl hf6 (av := [.s (.string s_)]) (by kernel_rfl) (v := .tup [.sl false r_1.1.length (cat api_Pins.v r_1.1), .s (.int .i64 r_1.2)]) (CalL.pure (spinetref31_Parse_ok s_ r_1 hx_r_1) rfl (by simp [V.static, statics, cat_stat, spinetref31_Parse_V]) (Nat.le_of_ble_eq_true (by kernel_rfl))) (fun _ => rfl) fun f7 hf7 => ?_
    refine mops_en hf7 (by kernel_rfl) fun f8 hf8 => ?_
    refine k_c ?_
    refine k_seq ?_
    refine k_reg ?_
    refine mops_sg 1 hf8 (by kernel_rfl) fun f9 hf9 => ?_
    obtain ⟨r_2, hx_r_2, h⟩ := Option.bind_eq_some_iff.1 h
    refine mops_call rfl hf9 (av := [.s (.string s_)]) (by kernel_rfl) (v := .tup [.agg [.s (.bool r_2.1.Reset), .s (.bool r_2.1.Nmi), .s (.bool r_2.1.Firq), .s (.bool r_2.1.Irq), .s (.bool r_2.1.Halt), .s (.bool r_2.1.Req)], .s (.bool r_2.2)]) (CalL.pure (pins_One_ok s_ r_2 hx_r_2) rfl rfl (Nat.le_of_ble_eq_true (by kernel_rfl))) (fun _ => rfl) fun f10 hf10 => ?_
    refine mops_en hf10 (by kernel_rfl) fun f11 hf11 => ?_
    refine k_c ?_
    refine k_seq ?_
    refine k_reg ?_
    refine mops_sg 1 hf11 (by kernel_rfl) fun f12 hf12 => ?_
    obtain ⟨r_3, hx_r_3, h⟩ := Option.bind_eq_some_iff.1 h
    refine mops_call rfl hf12 (av := [.s (.string s_)]) (by kernel_rfl) (v := .tup [.agg [.s (.bool r_3.1.Reset), .s (.bool r_3.1.Nmi), .s (.bool r_3.1.Firq), .s (.bool r_3.1.Irq), .s (.bool r_3.1.Halt), .s (.bool r_3.1.Req)], .s (.bool r_3.2)]) (CalL.pure (spinetref31_One_ok s_ r_3 hx_r_3) rfl rfl (Nat.le_of_ble_eq_true (by kernel_rfl))) (fun _ => rfl) fun f13 hf13 => ?_
    refine mops_end [2, 3, 4, 5, 6, 7, 8, 9, 10] hf13 (l' := [⟨2, [], .s (.bool false)⟩, ⟨3, [], .sl false r_.1.length (cat api_Pins.v r_.1)⟩, ⟨4, [], .s (.int .i64 r_.2)⟩, ⟨5, [], .sl false r_1.1.length (cat api_Pins.v r_1.1)⟩, ⟨6, [], .s (.int .i64 r_1.2)⟩, ⟨7, [], .ptr 0 0 0⟩, ⟨8, [], .s (.bool r_2.2)⟩, ⟨9, [], .ptr 1 0 0⟩, ⟨10, [], .s (.bool r_3.2)⟩]) (L' := [⟨0, .mem, 1, [.s (.bool r_2.1.Reset), .s (.bool r_2.1.Nmi), .s (.bool r_2.1.Firq), .s (.bool r_2.1.Irq), .s (.bool r_2.1.Halt), .s (.bool r_2.1.Req)]⟩, ⟨0, .mem, 1, [.s (.bool r_3.1.Reset), .s (.bool r_3.1.Nmi), .s (.bool r_3.1.Firq), .s (.bool r_3.1.Irq), .s (.bool r_3.1.Halt), .s (.bool r_3.1.Req)]⟩]) (by kernel_rfl) fun f14 hf14 => ?_
    refine k_c ?_
    refine k_seq ?_
    refine k_reg ?_
    refine mops_sg 2 hf14 (by kernel_rfl) fun f15 hf15 => ?_
    obtain ⟨r_4, hx_r_4, h⟩ := Option.bind_eq_some_iff.1 h
    refine mops_call rfl hf15 (av := [.sl false r_.1.length (cat api_Pins.v r_.1), .sl false r_1.1.length (cat api_Pins.v r_1.1)]) (by kernel_rfl) (v := .s (.bool r_4)) (CalL.pure (slices_Equal_sl_api_Pins_api_Pins_ok r_.1 r_1.1 r_4 hx_r_4) (by simp [V.static, statics, cat_stat]) rfl (Nat.le_of_ble_eq_true (by kernel_rfl))) (fun _ => rfl) fun f16 hf16 => ?_
    refine mops_sg 16 hf16 (by kernel_rfl) fun f17 hf17 => ?_
    obtain ⟨r_5, hx_r_5, h⟩ := Option.bind_eq_some_iff.1 h
    refine mops_gcall (dst := (some 53)) (m := 10) (args := []) (aft := [18, 18]) (t := 52) (w := true) (ch := [(52, true)]) (b := (((r_4 && (r_.2 == r_1.2)) && ((r_2.1.Reset == r_3.1.Reset) && ((r_2.1.Nmi == r_3.1.Nmi) && ((r_2.1.Firq == r_3.1.Firq) && ((r_2.1.Irq == r_3.1.Irq) && ((r_2.1.Halt == r_3.1.Halt) && ((r_2.1.Req == r_3.1.Req) && true))))))) && (r_2.2 == r_3.2))) (by kernel_rfl) hf17 (by kernel_rfl) (by kernel_rfl) (av := []) (by kernel_rfl) (v := .s (.bool r_5)) (by kernel_rfl) (fun hb2 => (CalL.pure (spinetlaw31_alive_ok  r_5 (if_t hx_r_5 hb2)) rfl rfl (Nat.le_of_ble_eq_true (by kernel_rfl)))) fun f18 hf18 => ?_
    refine mops_en hf18 (by kernel_rfl) fun f19 hf19 => ?_
    refine k_c ?_
    refine k_ret ?_
    obtain rfl := Option.some.inj h
    exact k_fin (fin_ret (.inl rfl) hf19 (vs := [.s (.bool ((((r_4 && (r_.2 == r_1.2)) && ((r_2.1.Reset == r_3.1.Reset) && ((r_2.1.Nmi == r_3.1.Nmi) && ((r_2.1.Firq == r_3.1.Firq) && ((r_2.1.Irq == r_3.1.Irq) && ((r_2.1.Halt == r_3.1.Halt) && ((r_2.1.Req == r_3.1.Req) && true))))))) && (r_2.2 == r_3.2)) && r_5))]) (by kernel_rfl) (SettL.pure (FzL.stat rfl)))
end Go.Proofs.YthhjooegpjgicaaDoorK
