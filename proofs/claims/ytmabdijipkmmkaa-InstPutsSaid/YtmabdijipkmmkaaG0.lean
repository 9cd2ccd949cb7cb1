/- The Go functions come to the functions over typed data. Printed by a program of this work. -/
import Derived.Test.YtmabdijipkmmkaaF
import Derived.Test.YtmabdijipkmmkaaProg
namespace Go.Proofs.YtmabdijipkmmkaaK
set_option linter.unusedVariables false
set_option linter.unusedSimpArgs false
set_option maxHeartbeats 4000000
open Go.RowKit
attribute [local irreducible] dwv mops lops lqops lwops kont iter run runK rk okK ex E1 vals val chain chB sel resF
def inst_reader_next_i0 : List Op1 := [(oM 2 (.k (.int .u8 0)) [])]
def inst_reader_next_i1 : List Op1 := [(oM 3 (.t 0) []), (oE 4 (.nilc (.t 3)) [0]), (oE 5 (.fld 1 (.t 4)) [1]), (oE 6 (.load false 1 (.t 5)) [2]), (oM 7 (.t 0) []), (oE 8 (.nilc (.t 7)) [4]), (oE 9 (.fld 0 (.t 8)) [5]), (oE 10 (.load false 1 (.t 9)) [6]), (oE 11 (.len (.t 10)) [7]), (oE 12 (.bin .geq (.t 6) (.t 11)) [3, 8])]
def inst_reader_next_i2 : List Op1 := [(oM 13 (.t 0) []), (oE 14 (.nilc (.t 13)) [0, 0]), (oE 15 (.fld 2 (.t 14)) [1, 0]), (oN (.store 1 (.t 15) (.k (.bool true))) [2, 0])]
def inst_reader_next_i3 : List Op1 := [(oM 2 (.k (.int .u8 0)) [])]
def inst_reader_next_i4 : IR := .ret
def inst_reader_next_i5 : IR := (.seq (.reg false inst_reader_next_i3) inst_reader_next_i4)
def inst_reader_next_i6 : IR := (.cond (.t 12) (.seq (.reg false inst_reader_next_i2) inst_reader_next_i5) .skip)
def inst_reader_next_i7 : List Op1 := [(oM 16 (.t 0) []), (oE 17 (.nilc (.t 16)) [0]), (oE 18 (.fld 1 (.t 17)) [1]), (oE 19 (.load false 1 (.t 18)) [2]), (oE 20 (.bin .add (.t 19) (.k (.int .i64 1))) [3]), (oE 21 (.nilc (.t 16)) [0, 0, 1, 2, 3, 4]), (oE 22 (.fld 1 (.t 21)) [5, 0, 1, 2, 3, 4]), (oN (.store 1 (.t 22) (.t 20)) [6, 4, 0, 1, 2, 3, 4])]
def inst_reader_next_i8 : List Op1 := [(oM 23 (.t 0) []), (oE 24 (.nilc (.t 23)) [0]), (oE 25 (.fld 0 (.t 24)) [1]), (oE 26 (.load false 1 (.t 25)) [2]), (oM 27 (.t 0) []), (oE 28 (.nilc (.t 27)) [4]), (oE 29 (.fld 1 (.t 28)) [5]), (oE 30 (.load false 1 (.t 29)) [6]), (oE 31 (.bin .sub (.t 30) (.k (.int .i64 1))) [7]), (oE 32 (.ias 1 (.t 26) (.t 31)) [3, 8]), (oE 33 (.load false 1 (.t 32)) [9]), (oM 2 (.t 33) [10, 0, 1, 2, 3, 4, 5, 6, 7, 8, 9, 10])]
def inst_reader_next_i9 : IR := .ret
def inst_reader_next_i10 : IR := (.seq (.reg true inst_reader_next_i8) inst_reader_next_i9)
def inst_reader_next_i11 : IR := (.seq (.reg false inst_reader_next_i7) inst_reader_next_i10)
def inst_reader_next_i12 : IR := (.seq (.seq (.reg true inst_reader_next_i1) inst_reader_next_i6) inst_reader_next_i11)
def inst_reader_next_ir : IR := (.seq (.reg false inst_reader_next_i0) inst_reader_next_i12)
theorem inst_reader_next_cfn : cFn Try.prog 13 = some (inst_reader_next_ir, [(.t 2)], 34) := by kernel_rfl
def inst_reader_next_V (r : (Int × inst_reader)) : V := .s (.int .u8 r.1)
def inst_reader_next_L (r_ : inst_reader) : Hp := [⟨0, .mem, 1, [.sl false r_.b.length (cat (nI .u8) r_.b), .s (.int .i64 r_.n), .s (.bool r_.short)]⟩]
def inst_reader_next_C (r_ : inst_reader) (r : (Int × inst_reader)) : X → Fr → Hp → Prop := FinL [(.t 2)] (inst_reader_next_L r_) (inst_reader_next_V r) [⟨0, .mem, 1, [.sl false r.2.b.length (cat (nI .u8) r.2.b), .s (.int .i64 r.2.n), .s (.bool r.2.short)]⟩]
theorem inst_reader_next_ok (r_ : inst_reader) (r : (Int × inst_reader)) (h : inst_reader_next r_ = some r) : ConL Try.prog 13 [.ptr 0 0 0] [⟨0, .mem, 1, [.sl false r_.b.length (cat (nI .u8) r_.b), .s (.int .i64 r_.n), .s (.bool r_.short)]⟩] (inst_reader_next_V r) [⟨0, .mem, 1, [.sl false r.2.b.length (cat (nI .u8) r.2.b), .s (.int .i64 r.2.n), .s (.bool r.2.short)]⟩] := by
  refine ConL.of inst_reader_next_cfn (Nat.le_of_ble_eq_true (by kernel_rfl)) (Nat.le_of_ble_eq_true (by kernel_rfl)) ?_
  refine k_start ?_
  show dwv Try.prog (inst_reader_next_L r_) inst_reader_next_ir (kont Try.prog (inst_reader_next_L r_) (inst_reader_next_C r_ r) []) (fr0 [.ptr 0 0 0]) [⟨0, .mem, 1, [.sl false r_.b.length (cat (nI .u8) r_.b), .s (.int .i64 r_.n), .s (.bool r_.short)]⟩]
  have hf : FOk (fr0 [.ptr 0 0 0]) [⟨0, [], .ptr 0 0 0⟩] := ⟨⟨fun _ => rfl, fun h => (h trivial).elim⟩, trivial⟩
  generalize fr0 [.ptr 0 0 0] = f at hf ⊢
  unfold inst_reader_next at h
  refine k_seq ?_
  refine k_reg ?_
  refine mops_en hf (by kernel_rfl) fun f1 hf1 => ?_
  refine k_c ?_
  refine k_seq ?_
  refine k_seq ?_
  refine k_regq ?_
  refine mops_en hf1 (by kernel_rfl) fun f2 hf2 => ?_
  refine k_c ?_
  refine k_cond hf2 (t := (decide ((ln r_.b) ≤ r_.n))) (by kernel_rfl) (fun hc1 => ?_) (fun hc1 => ?_)
  · have h := if_t h hc1
    refine k_seq ?_
    refine k_reg ?_
    refine mops_en hf2 (by kernel_rfl) fun f3 hf3 => ?_
    refine k_c ?_
    refine k_seq ?_
    refine k_reg ?_
    refine mops_en hf3 (by kernel_rfl) fun f4 hf4 => ?_
    refine k_c ?_
    refine k_ret ?_
    refine x_c nofun ?_
    obtain rfl := Option.some.inj h
    exact k_fin (fin_ret (.inl rfl) hf4 (vs := [.s (.int .u8 0)]) (by kernel_rfl) (SettL.cutb (L' := [⟨0, .mem, 1, [.sl false r_.b.length (cat (nI .u8) r_.b), .s (.int .i64 r_.n), .s (.bool true)]⟩]) 1 (by kernel_rfl) (by kernel_rfl) (by kernel_rfl) ⟨.inr (.inr (statics_unders _ _ (by simp [V.static, statics, cat_stat]))), trivial⟩ (FzL.stat rfl)))
  · have h := if_f h hc1
    refine k_skip ?_
    refine k_c ?_
    refine k_seq ?_
    refine k_reg ?_
    refine mops_en hf2 (by kernel_rfl) fun f3 hf3 => ?_
    refine k_c ?_
    refine k_seq ?_
    refine k_regq ?_
    refine mops_sg 9 hf3 (by kernel_rfl) fun f4 hf4 => ?_
    obtain ⟨c2, h⟩ := as_ok h
    refine mops_adv rfl (v := .ip ((cat (nI .u8) r_.b).drop (((IntKind.wrap .i64 ((IntKind.wrap .i64 (r_.n + 1)) - 1)) : Int).toNat * 1))) hf4 (by kernel_rfl) (e_ias (n := r_.b.length) (xv := .sl false r_.b.length (cat (nI .u8) r_.b)) (k := .i64) (iv := (IntKind.wrap .i64 ((IntKind.wrap .i64 (r_.n + 1)) - 1))) (p := .ip ((cat (nI .u8) r_.b).drop (((IntKind.wrap .i64 ((IntKind.wrap .i64 (r_.n + 1)) - 1)) : Int).toNat * 1))) (by kernel_rfl) (by kernel_rfl) (by kernel_rfl) (by kernel_rfl) c2) fun f5 hf5 => ?_
    refine mops_adv rfl (v := .s (.int .u8 (gt r_.b (IntKind.wrap .i64 ((IntKind.wrap .i64 (r_.n + 1)) - 1))))) hf5 (by kernel_rfl) (e_load_ip (g := (nI .u8)) (l := r_.b) (iv := (IntKind.wrap .i64 ((IntKind.wrap .i64 (r_.n + 1)) - 1))) [] (by kernel_rfl) c2 (by kernel_rfl) (by kernel_rfl)) fun f6 hf6 => ?_
    refine mops_en hf6 (by kernel_rfl) fun f7 hf7 => ?_
    refine k_c ?_
    refine k_ret ?_
    obtain rfl := Option.some.inj h
    exact k_fin (fin_ret (.inl rfl) hf7 (vs := [.s (.int .u8 (gt r_.b (IntKind.wrap .i64 ((IntKind.wrap .i64 (r_.n + 1)) - 1))))]) (by kernel_rfl) (SettL.cutb (L' := [⟨0, .mem, 1, [.sl false r_.b.length (cat (nI .u8) r_.b), .s (.int .i64 (IntKind.wrap .i64 (r_.n + 1))), .s (.bool r_.short)]⟩]) 1 (by kernel_rfl) (by kernel_rfl) (by kernel_rfl) ⟨.inr (.inr (statics_unders _ _ (by simp [V.static, statics, cat_stat]))), trivial⟩ (FzL.stat rfl)))
def page_Prefix_i0 : List Op1 := [(oM 2 (.k (.int .i64 0)) [])]
def page_Prefix_i1 : List Op1 := [(oM 3 (.t 0) [])]
def page_Prefix_i2 : List Op1 := [(oE 5 (.bin .eql (.t 3) (.k (.int .u8 16))) []), (oM 4 (.t 5) [0])]
def page_Prefix_i3 : List Op1 := [(oM 2 (.k (.int .i64 2)) [])]
def page_Prefix_i4 : IR := .ret
def page_Prefix_i5 : List Op1 := [(oE 7 (.bin .eql (.t 3) (.k (.int .u8 17))) []), (oM 6 (.t 7) [0])]
def page_Prefix_i6 : List Op1 := [(oM 2 (.k (.int .i64 3)) [])]
def page_Prefix_i7 : IR := .ret
def page_Prefix_i8 : IR := (.cond (.t 6) (.seq (.reg false page_Prefix_i6) page_Prefix_i7) .skip)
def page_Prefix_i9 : IR := (.cond (.t 4) (.seq (.reg false page_Prefix_i3) page_Prefix_i4) (.seq (.reg false page_Prefix_i5) page_Prefix_i8))
def page_Prefix_i10 : IR := (.block 0 (.seq (.reg false page_Prefix_i2) page_Prefix_i9))
def page_Prefix_i11 : List Op1 := [(oM 2 (.k (.int .i64 0)) [])]
def page_Prefix_i12 : IR := .ret
def page_Prefix_i13 : IR := (.seq (.reg false page_Prefix_i11) page_Prefix_i12)
def page_Prefix_i14 : IR := (.seq (.seq (.reg false page_Prefix_i1) page_Prefix_i10) page_Prefix_i13)
def page_Prefix_ir : IR := (.seq (.reg false page_Prefix_i0) page_Prefix_i14)
theorem page_Prefix_cfn : cFn Try.prog 14 = some (page_Prefix_ir, [(.t 2)], 8) := by kernel_rfl
def page_Prefix_V (r : (Int)) : V := .s (.int .i64 r)
def page_Prefix_C (r : (Int)) : X → Fr → Hp → Prop := FinL [(.t 2)] [] (page_Prefix_V r) []
theorem page_Prefix_ok (code_ : Int) (r : (Int)) (h : page_Prefix code_ = some r) : Pure Try.prog 14 [.s (.int .u8 code_)] (page_Prefix_V r) := by
  refine ConL.of page_Prefix_cfn (Nat.le_of_ble_eq_true (by kernel_rfl)) (Nat.le_of_ble_eq_true (by kernel_rfl)) ?_
  refine k_start ?_
  show dwv Try.prog [] page_Prefix_ir (kont Try.prog [] (page_Prefix_C r) []) (fr0 [.s (.int .u8 code_)]) []
  have hf : FOk (fr0 [.s (.int .u8 code_)]) [⟨0, [], .s (.int .u8 code_)⟩] := ⟨⟨fun _ => rfl, fun h => (h trivial).elim⟩, trivial⟩
  generalize fr0 [.s (.int .u8 code_)] = f at hf ⊢
  unfold page_Prefix at h
  refine k_seq ?_
  refine k_reg ?_
  refine mops_en hf (by kernel_rfl) fun f1 hf1 => ?_
  refine k_c ?_
  refine k_seq ?_
  refine k_seq ?_
  refine k_reg ?_
  refine mops_en hf1 (by kernel_rfl) fun f2 hf2 => ?_
  refine k_c ?_
  refine k_block ?_
  refine k_seq ?_
  refine k_reg ?_
  refine mops_en hf2 (by kernel_rfl) fun f3 hf3 => ?_
  refine k_c ?_
  refine k_cond hf3 (t := (code_ == 16)) (by kernel_rfl) (fun hc1 => ?_) (fun hc1 => ?_)
  · have h := if_t h hc1
    refine k_seq ?_
    refine k_reg ?_
    refine mops_en hf3 (by kernel_rfl) fun f4 hf4 => ?_
    refine k_c ?_
    refine k_ret ?_
    refine x_br ?_
    refine x_c nofun ?_
    obtain rfl := Option.some.inj h
    exact k_fin (fin_ret (.inl rfl) hf4 (vs := [.s (.int .i64 2)]) (by kernel_rfl) (SettL.pure (FzL.stat rfl)))
  · have h := if_f h hc1
    refine k_seq ?_
    refine k_reg ?_
    refine mops_en hf3 (by kernel_rfl) fun f4 hf4 => ?_
    refine k_c ?_
    refine k_cond hf4 (t := (code_ == 17)) (by kernel_rfl) (fun hc2 => ?_) (fun hc2 => ?_)
    · have h := if_t h hc2
      refine k_seq ?_
      refine k_reg ?_
      refine mops_en hf4 (by kernel_rfl) fun f5 hf5 => ?_
      refine k_c ?_
      refine k_ret ?_
      refine x_br ?_
      refine x_c nofun ?_
      obtain rfl := Option.some.inj h
      exact k_fin (fin_ret (.inl rfl) hf5 (vs := [.s (.int .i64 3)]) (by kernel_rfl) (SettL.pure (FzL.stat rfl)))
    · have h := if_f h hc2
      refine k_skip ?_
      refine k_b ?_
      refine k_c ?_
      refine k_seq ?_
      refine k_reg ?_
      refine mops_en hf4 (by kernel_rfl) fun f5 hf5 => ?_
      refine k_c ?_
      refine k_ret ?_
      obtain rfl := Option.some.inj h
      exact k_fin (fin_ret (.inl rfl) hf5 (vs := [.s (.int .i64 0)]) (by kernel_rfl) (SettL.pure (FzL.stat rfl)))
def page_change_i0 : List Op1 := [(oM 2 (.k (.int .i64 0)) [])]
def page_change_i1 : List Op1 := [(oM 3 (.t 0) [])]
def page_change_i2 : List Op1 := [(oE 5 (.bin .eql (.t 3) (.k (.int .u8 0))) []), (oM 4 (.t 5) [0])]
def page_change_i3 : List Op1 := [(oM 2 (.k (.int .i64 13)) [])]
def page_change_i4 : IR := .ret
def page_change_i5 : List Op1 := [(oE 7 (.bin .eql (.t 3) (.k (.int .u8 3))) []), (oM 6 (.t 7) [0])]
def page_change_i6 : List Op1 := [(oM 2 (.k (.int .i64 14)) [])]
def page_change_i7 : IR := .ret
def page_change_i8 : List Op1 := [(oE 9 (.bin .eql (.t 3) (.k (.int .u8 4))) []), (oM 8 (.t 9) [0])]
def page_change_i9 : List Op1 := [(oM 2 (.k (.int .i64 15)) [])]
def page_change_i10 : IR := .ret
def page_change_i11 : List Op1 := [(oE 11 (.bin .eql (.t 3) (.k (.int .u8 6))) []), (oM 10 (.t 11) [0])]
def page_change_i12 : List Op1 := [(oM 2 (.k (.int .i64 16)) [])]
def page_change_i13 : IR := .ret
def page_change_i14 : List Op1 := [(oE 13 (.bin .eql (.t 3) (.k (.int .u8 7))) []), (oM 12 (.t 13) [0])]
def page_change_i15 : List Op1 := [(oM 2 (.k (.int .i64 17)) [])]
def page_change_i16 : IR := .ret
def page_change_i17 : List Op1 := [(oE 15 (.bin .eql (.t 3) (.k (.int .u8 8))) []), (oM 14 (.t 15) [0])]
def page_change_i18 : List Op1 := [(oM 2 (.k (.int .i64 18)) [])]
def page_change_i19 : IR := .ret
def page_change_i20 : List Op1 := [(oE 17 (.bin .eql (.t 3) (.k (.int .u8 9))) []), (oM 16 (.t 17) [0])]
def page_change_i21 : List Op1 := [(oM 2 (.k (.int .i64 19)) [])]
def page_change_i22 : IR := .ret
def page_change_i23 : List Op1 := [(oE 19 (.bin .eql (.t 3) (.k (.int .u8 10))) []), (oM 18 (.t 19) [0])]
def page_change_i24 : List Op1 := [(oM 2 (.k (.int .i64 20)) [])]
def page_change_i25 : IR := .ret
def page_change_i26 : List Op1 := [(oE 21 (.bin .eql (.t 3) (.k (.int .u8 12))) []), (oM 20 (.t 21) [0])]
def page_change_i27 : List Op1 := [(oM 2 (.k (.int .i64 21)) [])]
def page_change_i28 : IR := .ret
def page_change_i29 : List Op1 := [(oE 23 (.bin .eql (.t 3) (.k (.int .u8 13))) []), (oM 22 (.t 23) [0])]
def page_change_i30 : List Op1 := [(oM 2 (.k (.int .i64 22)) [])]
def page_change_i31 : IR := .ret
def page_change_i32 : List Op1 := [(oE 25 (.bin .eql (.t 3) (.k (.int .u8 15))) []), (oM 24 (.t 25) [0])]
def page_change_i33 : List Op1 := [(oM 2 (.k (.int .i64 23)) [])]
def page_change_i34 : IR := .ret
def page_change_i35 : IR := (.cond (.t 24) (.seq (.reg false page_change_i33) page_change_i34) .skip)
def page_change_i36 : IR := (.cond (.t 22) (.seq (.reg false page_change_i30) page_change_i31) (.seq (.reg false page_change_i32) page_change_i35))
def page_change_i37 : IR := (.cond (.t 20) (.seq (.reg false page_change_i27) page_change_i28) (.seq (.reg false page_change_i29) page_change_i36))
def page_change_i38 : IR := (.cond (.t 18) (.seq (.reg false page_change_i24) page_change_i25) (.seq (.reg false page_change_i26) page_change_i37))
def page_change_i39 : IR := (.cond (.t 16) (.seq (.reg false page_change_i21) page_change_i22) (.seq (.reg false page_change_i23) page_change_i38))
def page_change_i40 : IR := (.cond (.t 14) (.seq (.reg false page_change_i18) page_change_i19) (.seq (.reg false page_change_i20) page_change_i39))
def page_change_i41 : IR := (.cond (.t 12) (.seq (.reg false page_change_i15) page_change_i16) (.seq (.reg false page_change_i17) page_change_i40))
def page_change_i42 : IR := (.cond (.t 10) (.seq (.reg false page_change_i12) page_change_i13) (.seq (.reg false page_change_i14) page_change_i41))
def page_change_i43 : IR := (.cond (.t 8) (.seq (.reg false page_change_i9) page_change_i10) (.seq (.reg false page_change_i11) page_change_i42))
def page_change_i44 : IR := (.cond (.t 6) (.seq (.reg false page_change_i6) page_change_i7) (.seq (.reg false page_change_i8) page_change_i43))
def page_change_i45 : IR := (.cond (.t 4) (.seq (.reg false page_change_i3) page_change_i4) (.seq (.reg false page_change_i5) page_change_i44))
def page_change_i46 : IR := (.block 0 (.seq (.reg false page_change_i2) page_change_i45))
def page_change_i47 : List Op1 := [(oM 2 (.k (.int .i64 0)) [])]
def page_change_i48 : IR := .ret
def page_change_i49 : IR := (.seq (.reg false page_change_i47) page_change_i48)
def page_change_i50 : IR := (.seq (.seq (.reg false page_change_i1) page_change_i46) page_change_i49)
def page_change_ir : IR := (.seq (.reg false page_change_i0) page_change_i50)
theorem page_change_cfn : cFn Try.prog 47 = some (page_change_ir, [(.t 2)], 26) := by kernel_rfl
def page_change_V (r : (Int)) : V := .s (.int .i64 r)
def page_change_C (r : (Int)) : X → Fr → Hp → Prop := FinL [(.t 2)] [] (page_change_V r) []
theorem page_change_ok (low_ : Int) (r : (Int)) (h : page_change low_ = some r) : Pure Try.prog 47 [.s (.int .u8 low_)] (page_change_V r) := by
  refine ConL.of page_change_cfn (Nat.le_of_ble_eq_true (by kernel_rfl)) (Nat.le_of_ble_eq_true (by kernel_rfl)) ?_
  refine k_start ?_
  show dwv Try.prog [] page_change_ir (kont Try.prog [] (page_change_C r) []) (fr0 [.s (.int .u8 low_)]) []
  have hf : FOk (fr0 [.s (.int .u8 low_)]) [⟨0, [], .s (.int .u8 low_)⟩] := ⟨⟨fun _ => rfl, fun h => (h trivial).elim⟩, trivial⟩
  generalize fr0 [.s (.int .u8 low_)] = f at hf ⊢
  unfold page_change at h
  refine k_seq ?_
  refine k_reg ?_
  refine mops_en hf (by kernel_rfl) fun f1 hf1 => ?_
  refine k_c ?_
  refine k_seq ?_
  refine k_seq ?_
  refine k_reg ?_
  refine mops_en hf1 (by kernel_rfl) fun f2 hf2 => ?_
  refine k_c ?_
  refine k_block ?_
  refine k_seq ?_
  refine k_reg ?_
  refine mops_en hf2 (by kernel_rfl) fun f3 hf3 => ?_
  refine k_c ?_
  refine k_cond hf3 (t := (low_ == 0)) (by kernel_rfl) (fun hc1 => ?_) (fun hc1 => ?_)
  · have h := if_t h hc1
    refine k_seq ?_
    refine k_reg ?_
    refine mops_en hf3 (by kernel_rfl) fun f4 hf4 => ?_
    refine k_c ?_
    refine k_ret ?_
    refine x_br ?_
    refine x_c nofun ?_
    obtain rfl := Option.some.inj h
    exact k_fin (fin_ret (.inl rfl) hf4 (vs := [.s (.int .i64 13)]) (by kernel_rfl) (SettL.pure (FzL.stat rfl)))
  · have h := if_f h hc1
    refine k_seq ?_
    refine k_reg ?_
    refine mops_en hf3 (by kernel_rfl) fun f4 hf4 => ?_
    refine k_c ?_
    refine k_cond hf4 (t := (low_ == 3)) (by kernel_rfl) (fun hc2 => ?_) (fun hc2 => ?_)
    · have h := if_t h hc2
      refine k_seq ?_
      refine k_reg ?_
      refine mops_en hf4 (by kernel_rfl) fun f5 hf5 => ?_
      refine k_c ?_
      refine k_ret ?_
      refine x_br ?_
      refine x_c nofun ?_
      obtain rfl := Option.some.inj h
      exact k_fin (fin_ret (.inl rfl) hf5 (vs := [.s (.int .i64 14)]) (by kernel_rfl) (SettL.pure (FzL.stat rfl)))
    · have h := if_f h hc2
      refine k_seq ?_
      refine k_reg ?_
      refine mops_en hf4 (by kernel_rfl) fun f5 hf5 => ?_
      refine k_c ?_
      refine k_cond hf5 (t := (low_ == 4)) (by kernel_rfl) (fun hc3 => ?_) (fun hc3 => ?_)
      · have h := if_t h hc3
        refine k_seq ?_
        refine k_reg ?_
        refine mops_en hf5 (by kernel_rfl) fun f6 hf6 => ?_
        refine k_c ?_
        refine k_ret ?_
        refine x_br ?_
        refine x_c nofun ?_
        obtain rfl := Option.some.inj h
        exact k_fin (fin_ret (.inl rfl) hf6 (vs := [.s (.int .i64 15)]) (by kernel_rfl) (SettL.pure (FzL.stat rfl)))
      · have h := if_f h hc3
        refine k_seq ?_
        refine k_reg ?_
        refine mops_en hf5 (by kernel_rfl) fun f6 hf6 => ?_
        refine k_c ?_
        refine k_cond hf6 (t := (low_ == 6)) (by kernel_rfl) (fun hc4 => ?_) (fun hc4 => ?_)
        · have h := if_t h hc4
          refine k_seq ?_
          refine k_reg ?_
          refine mops_en hf6 (by kernel_rfl) fun f7 hf7 => ?_
          refine k_c ?_
          refine k_ret ?_
          refine x_br ?_
          refine x_c nofun ?_
          obtain rfl := Option.some.inj h
          exact k_fin (fin_ret (.inl rfl) hf7 (vs := [.s (.int .i64 16)]) (by kernel_rfl) (SettL.pure (FzL.stat rfl)))
        · have h := if_f h hc4
          refine k_seq ?_
          refine k_reg ?_
          refine mops_en hf6 (by kernel_rfl) fun f7 hf7 => ?_
          refine k_c ?_
          refine k_cond hf7 (t := (low_ == 7)) (by kernel_rfl) (fun hc5 => ?_) (fun hc5 => ?_)
          · have h := if_t h hc5
            refine k_seq ?_
            refine k_reg ?_
            refine mops_en hf7 (by kernel_rfl) fun f8 hf8 => ?_
            refine k_c ?_
            refine k_ret ?_
            refine x_br ?_
            refine x_c nofun ?_
            obtain rfl := Option.some.inj h
            exact k_fin (fin_ret (.inl rfl) hf8 (vs := [.s (.int .i64 17)]) (by kernel_rfl) (SettL.pure (FzL.stat rfl)))
          · have h := if_f h hc5
            refine k_seq ?_
            refine k_reg ?_
            refine mops_en hf7 (by kernel_rfl) fun f8 hf8 => ?_
            refine k_c ?_
            refine k_cond hf8 (t := (low_ == 8)) (by kernel_rfl) (fun hc6 => ?_) (fun hc6 => ?_)
            · have h := if_t h hc6
              refine k_seq ?_
              refine k_reg ?_
              refine mops_en hf8 (by kernel_rfl) fun f9 hf9 => ?_
              refine k_c ?_
              refine k_ret ?_
              refine x_br ?_
              refine x_c nofun ?_
              obtain rfl := Option.some.inj h
              exact k_fin (fin_ret (.inl rfl) hf9 (vs := [.s (.int .i64 18)]) (by kernel_rfl) (SettL.pure (FzL.stat rfl)))
            · have h := if_f h hc6
              refine k_seq ?_
              refine k_reg ?_
              refine mops_en hf8 (by kernel_rfl) fun f9 hf9 => ?_
              refine k_c ?_
              refine k_cond hf9 (t := (low_ == 9)) (by kernel_rfl) (fun hc7 => ?_) (fun hc7 => ?_)
              · have h := if_t h hc7
                refine k_seq ?_
                refine k_reg ?_
                refine mops_en hf9 (by kernel_rfl) fun f10 hf10 => ?_
                refine k_c ?_
                refine k_ret ?_
                refine x_br ?_
                refine x_c nofun ?_
                obtain rfl := Option.some.inj h
                exact k_fin (fin_ret (.inl rfl) hf10 (vs := [.s (.int .i64 19)]) (by kernel_rfl) (SettL.pure (FzL.stat rfl)))
              · have h := if_f h hc7
                refine k_seq ?_
                refine k_reg ?_
                refine mops_en hf9 (by kernel_rfl) fun f10 hf10 => ?_
                refine k_c ?_
                refine k_cond hf10 (t := (low_ == 10)) (by kernel_rfl) (fun hc8 => ?_) (fun hc8 => ?_)
                · have h := if_t h hc8
                  refine k_seq ?_
                  refine k_reg ?_
                  refine mops_en hf10 (by kernel_rfl) fun f11 hf11 => ?_
                  refine k_c ?_
                  refine k_ret ?_
                  refine x_br ?_
                  refine x_c nofun ?_
                  obtain rfl := Option.some.inj h
                  exact k_fin (fin_ret (.inl rfl) hf11 (vs := [.s (.int .i64 20)]) (by kernel_rfl) (SettL.pure (FzL.stat rfl)))
                · have h := if_f h hc8
                  refine k_seq ?_
                  refine k_reg ?_
                  refine mops_en hf10 (by kernel_rfl) fun f11 hf11 => ?_
                  refine k_c ?_
                  refine k_cond hf11 (t := (low_ == 12)) (by kernel_rfl) (fun hc9 => ?_) (fun hc9 => ?_)
                  · have h := if_t h hc9
                    refine k_seq ?_
                    refine k_reg ?_
                    refine mops_en hf11 (by kernel_rfl) fun f12 hf12 => ?_
                    refine k_c ?_
                    refine k_ret ?_
                    refine x_br ?_
                    refine x_c nofun ?_
                    obtain rfl := Option.some.inj h
                    exact k_fin (fin_ret (.inl rfl) hf12 (vs := [.s (.int .i64 21)]) (by kernel_rfl) (SettL.pure (FzL.stat rfl)))
                  · have h := if_f h hc9
                    refine k_seq ?_
                    refine k_reg ?_
                    refine mops_en hf11 (by kernel_rfl) fun f12 hf12 => ?_
                    refine k_c ?_
                    refine k_cond hf12 (t := (low_ == 13)) (by kernel_rfl) (fun hc10 => ?_) (fun hc10 => ?_)
                    · have h := if_t h hc10
                      refine k_seq ?_
                      refine k_reg ?_
                      refine mops_en hf12 (by kernel_rfl) fun f13 hf13 => ?_
                      refine k_c ?_
                      refine k_ret ?_
                      refine x_br ?_
                      refine x_c nofun ?_
                      obtain rfl := Option.some.inj h
                      exact k_fin (fin_ret (.inl rfl) hf13 (vs := [.s (.int .i64 22)]) (by kernel_rfl) (SettL.pure (FzL.stat rfl)))
                    · have h := if_f h hc10
                      refine k_seq ?_
                      refine k_reg ?_
                      refine mops_en hf12 (by kernel_rfl) fun f13 hf13 => ?_
                      refine k_c ?_
                      refine k_cond hf13 (t := (low_ == 15)) (by kernel_rfl) (fun hc11 => ?_) (fun hc11 => ?_)
                      · have h := if_t h hc11
                        refine k_seq ?_
                        refine k_reg ?_
                        refine mops_en hf13 (by kernel_rfl) fun f14 hf14 => ?_
                        refine k_c ?_
                        refine k_ret ?_
                        refine x_br ?_
                        refine x_c nofun ?_
                        obtain rfl := Option.some.inj h
                        exact k_fin (fin_ret (.inl rfl) hf14 (vs := [.s (.int .i64 23)]) (by kernel_rfl) (SettL.pure (FzL.stat rfl)))
                      · have h := if_f h hc11
                        refine k_skip ?_
                        refine k_b ?_
                        refine k_c ?_
                        refine k_seq ?_
                        refine k_reg ?_
                        refine mops_en hf13 (by kernel_rfl) fun f14 hf14 => ?_
                        refine k_c ?_
                        refine k_ret ?_
                        obtain rfl := Option.some.inj h
                        exact k_fin (fin_ret (.inl rfl) hf14 (vs := [.s (.int .i64 0)]) (by kernel_rfl) (SettL.pure (FzL.stat rfl)))
def page_tens_i0 : List Op1 := [(oE 2 (.zero [(.int .i64 0), (.int .i64 0), (.int .i64 0)]) [])]
def page_tens_i1 : List Op1 := [(oM 3 (.t 0) [])]
def page_tens_i2 : List Op1 := [(oE 5 (.bin .eql (.t 3) (.k (.int .u8 2))) []), (oM 4 (.t 5) [0])]
def page_tens_i3 : List Op1 := [(oE 6 (.build [(.int .i64 0), (.int .i64 0), (.int .i64 0)] [(0, (1, (.k (.int .i64 39))))]) []), (oN (.store 3 (.t 2) (.t 6)) [0, 0])]
def page_tens_i4 : IR := .ret
def page_tens_i5 : List Op1 := [(oE 8 (.bin .eql (.t 3) (.k (.int .u8 3))) []), (oM 7 (.t 8) [0])]
def page_tens_i6 : List Op1 := [(oE 9 (.build [(.int .i64 0), (.int .i64 0), (.int .i64 0)] [(0, (1, (.k (.int .i64 40))))]) []), (oN (.store 3 (.t 2) (.t 9)) [0, 0])]
def page_tens_i7 : IR := .ret
def page_tens_i8 : List Op1 := [(oE 11 (.bin .eql (.t 3) (.k (.int .u8 6))) []), (oM 10 (.t 11) [0])]
def page_tens_i9 : List Op1 := [(oE 12 (.build [(.int .i64 0), (.int .i64 0), (.int .i64 0)] [(0, (1, (.k (.int .i64 36)))), (1, (1, (.k (.int .i64 7))))]) []), (oN (.store 3 (.t 2) (.t 12)) [0, 0])]
def page_tens_i10 : IR := .ret
def page_tens_i11 : List Op1 := [(oE 14 (.bin .eql (.t 3) (.k (.int .u8 7))) []), (oM 13 (.t 14) [0])]
def page_tens_i12 : List Op1 := [(oE 15 (.build [(.int .i64 0), (.int .i64 0), (.int .i64 0)] [(0, (1, (.k (.int .i64 38)))), (1, (1, (.k (.int .i64 7))))]) []), (oN (.store 3 (.t 2) (.t 15)) [0, 0])]
def page_tens_i13 : IR := .ret
def page_tens_i14 : List Op1 := [(oE 17 (.bin .eql (.t 3) (.k (.int .u8 9))) []), (oM 16 (.t 17) [0])]
def page_tens_i15 : List Op1 := [(oE 18 (.build [(.int .i64 0), (.int .i64 0), (.int .i64 0)] [(0, (1, (.k (.int .i64 42))))]) []), (oN (.store 3 (.t 2) (.t 18)) [0, 0])]
def page_tens_i16 : IR := .ret
def page_tens_i17 : List Op1 := [(oE 20 (.bin .eql (.t 3) (.k (.int .u8 10))) []), (oM 19 (.t 20) [0])]
def page_tens_i18 : List Op1 := [(oE 21 (.build [(.int .i64 0), (.int .i64 0), (.int .i64 0)] [(0, (1, (.k (.int .i64 43)))), (1, (1, (.k (.int .i64 1))))]) []), (oN (.store 3 (.t 2) (.t 21)) [0, 0])]
def page_tens_i19 : IR := .ret
def page_tens_i20 : List Op1 := [(oE 23 (.bin .eql (.t 3) (.k (.int .u8 12))) []), (oM 22 (.t 23) [0])]
def page_tens_i21 : List Op1 := [(oE 24 (.build [(.int .i64 0), (.int .i64 0), (.int .i64 0)] [(0, (1, (.k (.int .i64 44)))), (1, (1, (.k (.int .i64 1))))]) []), (oN (.store 3 (.t 2) (.t 24)) [0, 0])]
def page_tens_i22 : IR := .ret
def page_tens_i23 : List Op1 := [(oE 26 (.bin .eql (.t 3) (.k (.int .u8 13))) []), (oM 25 (.t 26) [0])]
def page_tens_i24 : List Op1 := [(oE 27 (.build [(.int .i64 0), (.int .i64 0), (.int .i64 0)] [(0, (1, (.k (.int .i64 45))))]) []), (oN (.store 3 (.t 2) (.t 27)) [0, 0])]
def page_tens_i25 : IR := .ret
def page_tens_i26 : List Op1 := [(oE 29 (.bin .eql (.t 3) (.k (.int .u8 14))) []), (oM 28 (.t 29) [0])]
def page_tens_i27 : List Op1 := [(oE 30 (.build [(.int .i64 0), (.int .i64 0), (.int .i64 0)] [(0, (1, (.k (.int .i64 46)))), (1, (1, (.k (.int .i64 8))))]) []), (oN (.store 3 (.t 2) (.t 30)) [0, 0])]
def page_tens_i28 : IR := .ret
def page_tens_i29 : List Op1 := [(oE 32 (.bin .eql (.t 3) (.k (.int .u8 15))) []), (oM 31 (.t 32) [0])]
def page_tens_i30 : List Op1 := [(oE 33 (.build [(.int .i64 0), (.int .i64 0), (.int .i64 0)] [(0, (1, (.k (.int .i64 47)))), (1, (1, (.k (.int .i64 8))))]) []), (oN (.store 3 (.t 2) (.t 33)) [0, 0])]
def page_tens_i31 : IR := .ret
def page_tens_i32 : IR := (.cond (.t 31) (.seq (.reg false page_tens_i30) page_tens_i31) .skip)
def page_tens_i33 : IR := (.cond (.t 28) (.seq (.reg false page_tens_i27) page_tens_i28) (.seq (.reg false page_tens_i29) page_tens_i32))
def page_tens_i34 : IR := (.cond (.t 25) (.seq (.reg false page_tens_i24) page_tens_i25) (.seq (.reg false page_tens_i26) page_tens_i33))
def page_tens_i35 : IR := (.cond (.t 22) (.seq (.reg false page_tens_i21) page_tens_i22) (.seq (.reg false page_tens_i23) page_tens_i34))
def page_tens_i36 : IR := (.cond (.t 19) (.seq (.reg false page_tens_i18) page_tens_i19) (.seq (.reg false page_tens_i20) page_tens_i35))
def page_tens_i37 : IR := (.cond (.t 16) (.seq (.reg false page_tens_i15) page_tens_i16) (.seq (.reg false page_tens_i17) page_tens_i36))
def page_tens_i38 : IR := (.cond (.t 13) (.seq (.reg false page_tens_i12) page_tens_i13) (.seq (.reg false page_tens_i14) page_tens_i37))
def page_tens_i39 : IR := (.cond (.t 10) (.seq (.reg false page_tens_i9) page_tens_i10) (.seq (.reg false page_tens_i11) page_tens_i38))
def page_tens_i40 : IR := (.cond (.t 7) (.seq (.reg false page_tens_i6) page_tens_i7) (.seq (.reg false page_tens_i8) page_tens_i39))
def page_tens_i41 : IR := (.cond (.t 4) (.seq (.reg false page_tens_i3) page_tens_i4) (.seq (.reg false page_tens_i5) page_tens_i40))
def page_tens_i42 : IR := (.block 0 (.seq (.reg false page_tens_i2) page_tens_i41))
def page_tens_i43 : List Op1 := [(oE 34 (.build [(.int .i64 0), (.int .i64 0), (.int .i64 0)] []) []), (oN (.store 3 (.t 2) (.t 34)) [0, 0])]
def page_tens_i44 : IR := .ret
def page_tens_i45 : IR := (.seq (.reg false page_tens_i43) page_tens_i44)
def page_tens_i46 : IR := (.seq (.seq (.reg false page_tens_i1) page_tens_i42) page_tens_i45)
def page_tens_ir : IR := (.seq (.reg false page_tens_i0) page_tens_i46)
theorem page_tens_cfn : cFn Try.prog 36 = some (page_tens_ir, [(.c 2 true 3)], 35) := by kernel_rfl
def page_tens_V (r : (api_Entry)) : V := .agg [.s (.int .i64 r.Op), .s (.int .i64 r.Mode), .s (.int .i64 r.Reg)]
def page_tens_C (r : (api_Entry)) : X → Fr → Hp → Prop := FinL [(.c 2 true 3)] [] (page_tens_V r) []
theorem page_tens_ok (low_ : Int) (r : (api_Entry)) (h : page_tens low_ = some r) : Pure Try.prog 36 [.s (.int .u8 low_)] (page_tens_V r) := by
  refine ConL.of page_tens_cfn (Nat.le_of_ble_eq_true (by kernel_rfl)) (Nat.le_of_ble_eq_true (by kernel_rfl)) ?_
  refine k_start ?_
  show dwv Try.prog [] page_tens_ir (kont Try.prog [] (page_tens_C r) []) (fr0 [.s (.int .u8 low_)]) []
  have hf : FOk (fr0 [.s (.int .u8 low_)]) [⟨0, [], .s (.int .u8 low_)⟩] := ⟨⟨fun _ => rfl, fun h => (h trivial).elim⟩, trivial⟩
  generalize fr0 [.s (.int .u8 low_)] = f at hf ⊢
  unfold page_tens at h
  refine k_seq ?_
  refine k_reg ?_
  refine mops_en hf (by kernel_rfl) fun f1 hf1 => ?_
  refine k_c ?_
  refine k_seq ?_
  refine k_seq ?_
  refine k_reg ?_
  refine mops_en hf1 (by kernel_rfl) fun f2 hf2 => ?_
  refine k_c ?_
  refine k_block ?_
  refine k_seq ?_
  refine k_reg ?_
  refine mops_en hf2 (by kernel_rfl) fun f3 hf3 => ?_
  refine k_c ?_
  refine k_cond hf3 (t := (low_ == 2)) (by kernel_rfl) (fun hc1 => ?_) (fun hc1 => ?_)
  · have h := if_t h hc1
    refine k_seq ?_
    refine k_reg ?_
    refine mops_en hf3 (by kernel_rfl) fun f4 hf4 => ?_
    refine k_c ?_
    refine k_ret ?_
    refine x_br ?_
    refine x_c nofun ?_
    obtain rfl := Option.some.inj h
    exact k_fin (fin_ret (.inl rfl) hf4 (vs := [.agg [.s (.int .i64 39), .s (.int .i64 0), .s (.int .i64 0)]]) (by kernel_rfl) (SettL.pure (FzL.stat rfl)))
  · have h := if_f h hc1
    refine k_seq ?_
    refine k_reg ?_
    refine mops_en hf3 (by kernel_rfl) fun f4 hf4 => ?_
    refine k_c ?_
    refine k_cond hf4 (t := (low_ == 3)) (by kernel_rfl) (fun hc2 => ?_) (fun hc2 => ?_)
    · have h := if_t h hc2
      refine k_seq ?_
      refine k_reg ?_
      refine mops_en hf4 (by kernel_rfl) fun f5 hf5 => ?_
      refine k_c ?_
      refine k_ret ?_
      refine x_br ?_
      refine x_c nofun ?_
      obtain rfl := Option.some.inj h
      exact k_fin (fin_ret (.inl rfl) hf5 (vs := [.agg [.s (.int .i64 40), .s (.int .i64 0), .s (.int .i64 0)]]) (by kernel_rfl) (SettL.pure (FzL.stat rfl)))
    · have h := if_f h hc2
      refine k_seq ?_
      refine k_reg ?_
      refine mops_en hf4 (by kernel_rfl) fun f5 hf5 => ?_
      refine k_c ?_
      refine k_cond hf5 (t := (low_ == 6)) (by kernel_rfl) (fun hc3 => ?_) (fun hc3 => ?_)
      · have h := if_t h hc3
        refine k_seq ?_
        refine k_reg ?_
        refine mops_en hf5 (by kernel_rfl) fun f6 hf6 => ?_
        refine k_c ?_
        refine k_ret ?_
        refine x_br ?_
        refine x_c nofun ?_
        obtain rfl := Option.some.inj h
        exact k_fin (fin_ret (.inl rfl) hf6 (vs := [.agg [.s (.int .i64 36), .s (.int .i64 7), .s (.int .i64 0)]]) (by kernel_rfl) (SettL.pure (FzL.stat rfl)))
      · have h := if_f h hc3
        refine k_seq ?_
        refine k_reg ?_
        refine mops_en hf5 (by kernel_rfl) fun f6 hf6 => ?_
        refine k_c ?_
        refine k_cond hf6 (t := (low_ == 7)) (by kernel_rfl) (fun hc4 => ?_) (fun hc4 => ?_)
        · have h := if_t h hc4
          refine k_seq ?_
          refine k_reg ?_
          refine mops_en hf6 (by kernel_rfl) fun f7 hf7 => ?_
          refine k_c ?_
          refine k_ret ?_
          refine x_br ?_
          refine x_c nofun ?_
          obtain rfl := Option.some.inj h
          exact k_fin (fin_ret (.inl rfl) hf7 (vs := [.agg [.s (.int .i64 38), .s (.int .i64 7), .s (.int .i64 0)]]) (by kernel_rfl) (SettL.pure (FzL.stat rfl)))
        · have h := if_f h hc4
          refine k_seq ?_
          refine k_reg ?_
          refine mops_en hf6 (by kernel_rfl) fun f7 hf7 => ?_
          refine k_c ?_
          refine k_cond hf7 (t := (low_ == 9)) (by kernel_rfl) (fun hc5 => ?_) (fun hc5 => ?_)
          · have h := if_t h hc5
            refine k_seq ?_
            refine k_reg ?_
            refine mops_en hf7 (by kernel_rfl) fun f8 hf8 => ?_
            refine k_c ?_
            refine k_ret ?_
            refine x_br ?_
            refine x_c nofun ?_
            obtain rfl := Option.some.inj h
            exact k_fin (fin_ret (.inl rfl) hf8 (vs := [.agg [.s (.int .i64 42), .s (.int .i64 0), .s (.int .i64 0)]]) (by kernel_rfl) (SettL.pure (FzL.stat rfl)))
          · have h := if_f h hc5
            refine k_seq ?_
            refine k_reg ?_
            refine mops_en hf7 (by kernel_rfl) fun f8 hf8 => ?_
            refine k_c ?_
            refine k_cond hf8 (t := (low_ == 10)) (by kernel_rfl) (fun hc6 => ?_) (fun hc6 => ?_)
            · have h := if_t h hc6
              refine k_seq ?_
              refine k_reg ?_
              refine mops_en hf8 (by kernel_rfl) fun f9 hf9 => ?_
              refine k_c ?_
              refine k_ret ?_
              refine x_br ?_
              refine x_c nofun ?_
              obtain rfl := Option.some.inj h
              exact k_fin (fin_ret (.inl rfl) hf9 (vs := [.agg [.s (.int .i64 43), .s (.int .i64 1), .s (.int .i64 0)]]) (by kernel_rfl) (SettL.pure (FzL.stat rfl)))
            · have h := if_f h hc6
              refine k_seq ?_
              refine k_reg ?_
              refine mops_en hf8 (by kernel_rfl) fun f9 hf9 => ?_
              refine k_c ?_
              refine k_cond hf9 (t := (low_ == 12)) (by kernel_rfl) (fun hc7 => ?_) (fun hc7 => ?_)
              · have h := if_t h hc7
                refine k_seq ?_
                refine k_reg ?_
                refine mops_en hf9 (by kernel_rfl) fun f10 hf10 => ?_
                refine k_c ?_
                refine k_ret ?_
                refine x_br ?_
                refine x_c nofun ?_
                obtain rfl := Option.some.inj h
                exact k_fin (fin_ret (.inl rfl) hf10 (vs := [.agg [.s (.int .i64 44), .s (.int .i64 1), .s (.int .i64 0)]]) (by kernel_rfl) (SettL.pure (FzL.stat rfl)))
              · have h := if_f h hc7
                refine k_seq ?_
                refine k_reg ?_
                refine mops_en hf9 (by kernel_rfl) fun f10 hf10 => ?_
                refine k_c ?_
                refine k_cond hf10 (t := (low_ == 13)) (by kernel_rfl) (fun hc8 => ?_) (fun hc8 => ?_)
                · have h := if_t h hc8
                  refine k_seq ?_
                  refine k_reg ?_
                  refine mops_en hf10 (by kernel_rfl) fun f11 hf11 => ?_
                  refine k_c ?_
                  refine k_ret ?_
                  refine x_br ?_
                  refine x_c nofun ?_
                  obtain rfl := Option.some.inj h
                  exact k_fin (fin_ret (.inl rfl) hf11 (vs := [.agg [.s (.int .i64 45), .s (.int .i64 0), .s (.int .i64 0)]]) (by kernel_rfl) (SettL.pure (FzL.stat rfl)))
                · have h := if_f h hc8
                  refine k_seq ?_
                  refine k_reg ?_
                  refine mops_en hf10 (by kernel_rfl) fun f11 hf11 => ?_
                  refine k_c ?_
                  refine k_cond hf11 (t := (low_ == 14)) (by kernel_rfl) (fun hc9 => ?_) (fun hc9 => ?_)
                  · have h := if_t h hc9
                    refine k_seq ?_
                    refine k_reg ?_
                    refine mops_en hf11 (by kernel_rfl) fun f12 hf12 => ?_
                    refine k_c ?_
                    refine k_ret ?_
                    refine x_br ?_
                    refine x_c nofun ?_
                    obtain rfl := Option.some.inj h
                    exact k_fin (fin_ret (.inl rfl) hf12 (vs := [.agg [.s (.int .i64 46), .s (.int .i64 8), .s (.int .i64 0)]]) (by kernel_rfl) (SettL.pure (FzL.stat rfl)))
                  · have h := if_f h hc9
                    refine k_seq ?_
                    refine k_reg ?_
                    refine mops_en hf11 (by kernel_rfl) fun f12 hf12 => ?_
                    refine k_c ?_
                    refine k_cond hf12 (t := (low_ == 15)) (by kernel_rfl) (fun hc10 => ?_) (fun hc10 => ?_)
                    · have h := if_t h hc10
                      refine k_seq ?_
                      refine k_reg ?_
                      refine mops_en hf12 (by kernel_rfl) fun f13 hf13 => ?_
                      refine k_c ?_
                      refine k_ret ?_
                      refine x_br ?_
                      refine x_c nofun ?_
                      obtain rfl := Option.some.inj h
                      exact k_fin (fin_ret (.inl rfl) hf13 (vs := [.agg [.s (.int .i64 47), .s (.int .i64 8), .s (.int .i64 0)]]) (by kernel_rfl) (SettL.pure (FzL.stat rfl)))
                    · have h := if_f h hc10
                      refine k_skip ?_
                      refine k_b ?_
                      refine k_c ?_
                      refine k_seq ?_
                      refine k_reg ?_
                      refine mops_en hf12 (by kernel_rfl) fun f13 hf13 => ?_
                      refine k_c ?_
                      refine k_ret ?_
                      obtain rfl := Option.some.inj h
                      exact k_fin (fin_ret (.inl rfl) hf13 (vs := [.agg [.s (.int .i64 0), .s (.int .i64 0), .s (.int .i64 0)]]) (by kernel_rfl) (SettL.pure (FzL.stat rfl)))
def page_thirties_i0 : List Op1 := [(oE 2 (.zero [(.int .i64 0), (.int .i64 0), (.int .i64 0)]) [])]
def page_thirties_i1 : List Op1 := [(oM 3 (.t 0) [])]
def page_thirties_i2 : List Op1 := [(oE 5 (.bin .eql (.t 3) (.k (.int .u8 0))) []), (oM 4 (.t 5) [0])]
def page_thirties_i3 : List Op1 := [(oE 6 (.bin .eql (.t 3) (.k (.int .u8 1))) []), (oM 4 (.t 6) [0])]
def page_thirties_i4 : List Op1 := [(oE 7 (.bin .eql (.t 3) (.k (.int .u8 2))) []), (oM 4 (.t 7) [0])]
def page_thirties_i5 : List Op1 := [(oE 8 (.bin .eql (.t 3) (.k (.int .u8 3))) []), (oM 4 (.t 8) [0])]
def page_thirties_i6 : IR := (.cond (.t 4) .skip (.reg false page_thirties_i5))
def page_thirties_i7 : IR := (.cond (.t 4) .skip (.seq (.reg false page_thirties_i4) page_thirties_i6))
def page_thirties_i8 : IR := (.cond (.t 4) .skip (.seq (.reg false page_thirties_i3) page_thirties_i7))
def page_thirties_i9 : List Op1 := [(oE 9 (.build [(.int .i64 0), (.int .i64 0), (.int .i64 0), (.int .i64 0)] [(0, (1, (.k (.int .i64 1)))), (1, (1, (.k (.int .i64 2)))), (2, (1, (.k (.int .i64 4)))), (3, (1, (.k (.int .i64 3))))]) []), (oM 10 (.t 0) []), (oE 11 (.ixa false 4 1 (.t 9) (.t 10)) [0, 1]), (oE 12 (.build [(.int .i64 0), (.int .i64 0), (.int .i64 0)] [(0, (1, (.k (.int .i64 29)))), (1, (1, (.k (.int .i64 4)))), (2, (1, (.t 11)))]) [2]), (oN (.store 3 (.t 2) (.t 12)) [3, 0, 1, 2, 3])]
def page_thirties_i10 : IR := .ret
def page_thirties_i11 : List Op1 := [(oE 14 (.bin .eql (.t 3) (.k (.int .u8 4))) []), (oM 13 (.t 14) [0])]
def page_thirties_i12 : List Op1 := [(oE 15 (.bin .eql (.t 3) (.k (.int .u8 6))) []), (oM 13 (.t 15) [0])]
def page_thirties_i13 : IR := (.cond (.t 13) .skip (.reg false page_thirties_i12))
def page_thirties_i14 : List Op1 := [(oM 16 (.t 0) []), (oE 17 (.bin .sub (.t 16) (.k (.int .u8 4))) [0]), (oE 18 (.cint .i64 (.t 17)) [1]), (oE 19 (.bin .quo (.t 18) (.k (.int .i64 2))) [2]), (oE 20 (.bin .sub (.k (.int .i64 4)) (.t 19)) [3]), (oE 21 (.build [(.int .i64 0), (.int .i64 0), (.int .i64 0)] [(0, (1, (.k (.int .i64 30)))), (1, (1, (.k (.int .i64 9)))), (2, (1, (.t 20)))]) [4]), (oN (.store 3 (.t 2) (.t 21)) [5, 0, 1, 2, 3, 4, 5])]
def page_thirties_i15 : IR := .ret
def page_thirties_i16 : List Op1 := [(oE 23 (.bin .eql (.t 3) (.k (.int .u8 5))) []), (oM 22 (.t 23) [0])]
def page_thirties_i17 : List Op1 := [(oE 24 (.bin .eql (.t 3) (.k (.int .u8 7))) []), (oM 22 (.t 24) [0])]
def page_thirties_i18 : IR := (.cond (.t 22) .skip (.reg false page_thirties_i17))
def page_thirties_i19 : List Op1 := [(oM 25 (.t 0) []), (oE 26 (.bin .sub (.t 25) (.k (.int .u8 5))) [0]), (oE 27 (.cint .i64 (.t 26)) [1]), (oE 28 (.bin .quo (.t 27) (.k (.int .i64 2))) [2]), (oE 29 (.bin .sub (.k (.int .i64 4)) (.t 28)) [3]), (oE 30 (.build [(.int .i64 0), (.int .i64 0), (.int .i64 0)] [(0, (1, (.k (.int .i64 31)))), (1, (1, (.k (.int .i64 9)))), (2, (1, (.t 29)))]) [4]), (oN (.store 3 (.t 2) (.t 30)) [5, 0, 1, 2, 3, 4, 5])]
def page_thirties_i20 : IR := .ret
def page_thirties_i21 : List Op1 := [(oE 32 (.bin .eql (.t 3) (.k (.int .u8 9))) []), (oM 31 (.t 32) [0])]
def page_thirties_i22 : List Op1 := [(oE 33 (.build [(.int .i64 0), (.int .i64 0), (.int .i64 0)] [(0, (1, (.k (.int .i64 48))))]) []), (oN (.store 3 (.t 2) (.t 33)) [0, 0])]
def page_thirties_i23 : IR := .ret
def page_thirties_i24 : List Op1 := [(oE 35 (.bin .eql (.t 3) (.k (.int .u8 10))) []), (oM 34 (.t 35) [0])]
def page_thirties_i25 : List Op1 := [(oE 36 (.build [(.int .i64 0), (.int .i64 0), (.int .i64 0)] [(0, (1, (.k (.int .i64 1))))]) []), (oN (.store 3 (.t 2) (.t 36)) [0, 0])]
def page_thirties_i26 : IR := .ret
def page_thirties_i27 : List Op1 := [(oE 38 (.bin .eql (.t 3) (.k (.int .u8 11))) []), (oM 37 (.t 38) [0])]
def page_thirties_i28 : List Op1 := [(oE 39 (.build [(.int .i64 0), (.int .i64 0), (.int .i64 0)] [(0, (1, (.k (.int .i64 49))))]) []), (oN (.store 3 (.t 2) (.t 39)) [0, 0])]
def page_thirties_i29 : IR := .ret
def page_thirties_i30 : List Op1 := [(oE 41 (.bin .eql (.t 3) (.k (.int .u8 12))) []), (oM 40 (.t 41) [0])]
def page_thirties_i31 : List Op1 := [(oE 42 (.build [(.int .i64 0), (.int .i64 0), (.int .i64 0)] [(0, (1, (.k (.int .i64 41)))), (1, (1, (.k (.int .i64 1))))]) []), (oN (.store 3 (.t 2) (.t 42)) [0, 0])]
def page_thirties_i32 : IR := .ret
def page_thirties_i33 : List Op1 := [(oE 44 (.bin .eql (.t 3) (.k (.int .u8 13))) []), (oM 43 (.t 44) [0])]
def page_thirties_i34 : List Op1 := [(oE 45 (.build [(.int .i64 0), (.int .i64 0), (.int .i64 0)] [(0, (1, (.k (.int .i64 50))))]) []), (oN (.store 3 (.t 2) (.t 45)) [0, 0])]
def page_thirties_i35 : IR := .ret
def page_thirties_i36 : List Op1 := [(oE 47 (.bin .eql (.t 3) (.k (.int .u8 15))) []), (oM 46 (.t 47) [0])]
def page_thirties_i37 : List Op1 := [(oE 48 (.build [(.int .i64 0), (.int .i64 0), (.int .i64 0)] [(0, (1, (.k (.int .i64 51)))), (2, (1, (.k (.int .i64 1))))]) []), (oN (.store 3 (.t 2) (.t 48)) [0, 0])]
def page_thirties_i38 : IR := .ret
def page_thirties_i39 : IR := (.cond (.t 46) (.seq (.reg false page_thirties_i37) page_thirties_i38) .skip)
def page_thirties_i40 : IR := (.cond (.t 43) (.seq (.reg false page_thirties_i34) page_thirties_i35) (.seq (.reg false page_thirties_i36) page_thirties_i39))
def page_thirties_i41 : IR := (.cond (.t 40) (.seq (.reg false page_thirties_i31) page_thirties_i32) (.seq (.reg false page_thirties_i33) page_thirties_i40))
def page_thirties_i42 : IR := (.cond (.t 37) (.seq (.reg false page_thirties_i28) page_thirties_i29) (.seq (.reg false page_thirties_i30) page_thirties_i41))
def page_thirties_i43 : IR := (.cond (.t 34) (.seq (.reg false page_thirties_i25) page_thirties_i26) (.seq (.reg false page_thirties_i27) page_thirties_i42))
def page_thirties_i44 : IR := (.cond (.t 31) (.seq (.reg false page_thirties_i22) page_thirties_i23) (.seq (.reg false page_thirties_i24) page_thirties_i43))
def page_thirties_i45 : IR := (.cond (.t 22) (.seq (.reg false page_thirties_i19) page_thirties_i20) (.seq (.reg false page_thirties_i21) page_thirties_i44))
def page_thirties_i46 : IR := (.cond (.t 13) (.seq (.reg false page_thirties_i14) page_thirties_i15) (.seq (.seq (.reg false page_thirties_i16) page_thirties_i18) page_thirties_i45))
def page_thirties_i47 : IR := (.cond (.t 4) (.seq (.reg false page_thirties_i9) page_thirties_i10) (.seq (.seq (.reg false page_thirties_i11) page_thirties_i13) page_thirties_i46))
def page_thirties_i48 : IR := (.block 0 (.seq (.seq (.reg false page_thirties_i2) page_thirties_i8) page_thirties_i47))
def page_thirties_i49 : List Op1 := [(oE 49 (.build [(.int .i64 0), (.int .i64 0), (.int .i64 0)] []) []), (oN (.store 3 (.t 2) (.t 49)) [0, 0])]
def page_thirties_i50 : IR := .ret
def page_thirties_i51 : IR := (.seq (.reg false page_thirties_i49) page_thirties_i50)
def page_thirties_i52 : IR := (.seq (.seq (.reg false page_thirties_i1) page_thirties_i48) page_thirties_i51)
def page_thirties_ir : IR := (.seq (.reg false page_thirties_i0) page_thirties_i52)
theorem page_thirties_cfn : cFn Try.prog 37 = some (page_thirties_ir, [(.c 2 true 3)], 50) := by kernel_rfl
def page_thirties_V (r : (api_Entry)) : V := .agg [.s (.int .i64 r.Op), .s (.int .i64 r.Mode), .s (.int .i64 r.Reg)]
def page_thirties_C (r : (api_Entry)) : X → Fr → Hp → Prop := FinL [(.c 2 true 3)] [] (page_thirties_V r) []
theorem page_thirties_ok (low_ : Int) (r : (api_Entry)) (h : page_thirties low_ = some r) : Pure Try.prog 37 [.s (.int .u8 low_)] (page_thirties_V r) := by
  refine ConL.of page_thirties_cfn (Nat.le_of_ble_eq_true (by kernel_rfl)) (Nat.le_of_ble_eq_true (by kernel_rfl)) ?_
  refine k_start ?_
  show dwv Try.prog [] page_thirties_ir (kont Try.prog [] (page_thirties_C r) []) (fr0 [.s (.int .u8 low_)]) []
  have hf : FOk (fr0 [.s (.int .u8 low_)]) [⟨0, [], .s (.int .u8 low_)⟩] := ⟨⟨fun _ => rfl, fun h => (h trivial).elim⟩, trivial⟩
  generalize fr0 [.s (.int .u8 low_)] = f at hf ⊢
  unfold page_thirties at h
  refine k_seq ?_
  refine k_reg ?_
  refine mops_en hf (by kernel_rfl) fun f1 hf1 => ?_
  refine k_c ?_
  refine k_seq ?_
  refine k_seq ?_
  refine k_reg ?_
  refine mops_en hf1 (by kernel_rfl) fun f2 hf2 => ?_
  refine k_c ?_
  refine k_block ?_
  refine k_seq ?_
  refine k_seq ?_
  refine k_reg ?_
  refine mops_en hf2 (by kernel_rfl) fun f3 hf3 => ?_
  refine k_c ?_
  have hj1 : ∀ (t_ : Bool), page_thirties_j2 low_ t_ = some r → ∀ f, FOk f [⟨0, [], .s (.int .u8 low_)⟩, ⟨2, [], .ptr 0 0 0⟩, ⟨3, [], .s (.int .u8 low_)⟩, ⟨4, [], .s (.bool t_)⟩] → kont Try.prog [] (page_thirties_C r) ((.c page_thirties_i47) :: (.b 0) :: (.c page_thirties_i51) :: []) .normal f [⟨0, .mem, 1, [.s (.int .i64 0), .s (.int .i64 0), .s (.int .i64 0)]⟩] := by
    intro t_ h f hf
    unfold page_thirties_j2 at h
    refine k_c ?_
    refine k_cond hf (t := t_) (by kernel_rfl) (fun hc4 => ?_) (fun hc4 => ?_)
    · have h := if_t h hc4
      refine k_seq ?_
      refine k_reg ?_
      refine mops_sg 2 hf (by kernel_rfl) fun f1 hf1 => ?_
      obtain ⟨c5, h⟩ := as_ok h
      refine mops_adv rfl (v := .s (.int .i64 (gt [1, 2, 4, 3] low_))) hf1 (by kernel_rfl) (e_ixa (g := (nI .i64)) (l := [1, 2, 4, 3]) (n := 4) (k := .u8) (iv := low_) (by kernel_rfl) (by kernel_rfl) c5 (by kernel_rfl) (by kernel_rfl)) fun f2 hf2 => ?_
      refine mops_en hf2 (by kernel_rfl) fun f3 hf3 => ?_
      refine k_c ?_
      refine k_ret ?_
      refine x_br ?_
      refine x_c nofun ?_
      obtain rfl := Option.some.inj h
      exact k_fin (fin_ret (.inl rfl) hf3 (vs := [.agg [.s (.int .i64 29), .s (.int .i64 4), .s (.int .i64 (gt [1, 2, 4, 3] low_))]]) (by kernel_rfl) (SettL.pure (FzL.stat rfl)))
    · have h := if_f h hc4
      refine k_seq ?_
      refine k_seq ?_
      refine k_reg ?_
      refine mops_en hf (by kernel_rfl) fun f1 hf1 => ?_
      refine k_c ?_
      have hj2 : ∀ (t_1 : Bool), page_thirties_j1 low_ t_1 = some r → ∀ f, FOk f [⟨0, [], .s (.int .u8 low_)⟩, ⟨2, [], .ptr 0 0 0⟩, ⟨3, [], .s (.int .u8 low_)⟩, ⟨13, [], .s (.bool t_1)⟩] → kont Try.prog [] (page_thirties_C r) ((.c page_thirties_i46) :: (.b 0) :: (.c page_thirties_i51) :: []) .normal f [⟨0, .mem, 1, [.s (.int .i64 0), .s (.int .i64 0), .s (.int .i64 0)]⟩] := by
        intro t_1 h f hf
        unfold page_thirties_j1 at h
        refine k_c ?_
        refine k_cond hf (t := t_1) (by kernel_rfl) (fun hc7 => ?_) (fun hc7 => ?_)
        · have h := if_t h hc7
          refine k_seq ?_
          refine k_reg ?_
          refine mops_en hf (by kernel_rfl) fun f1 hf1 => ?_
          refine k_c ?_
          refine k_ret ?_
          refine x_br ?_
          refine x_c nofun ?_
          obtain rfl := Option.some.inj h
          exact k_fin (fin_ret (.inl rfl) hf1 (vs := [.agg [.s (.int .i64 30), .s (.int .i64 9), .s (.int .i64 (IntKind.wrap .i64 (4 - (IntKind.wrap .i64 (Int.tdiv (IntKind.wrap .i64 (IntKind.wrap .u8 (low_ - 4))) 2)))))]]) (by kernel_rfl) (SettL.pure (FzL.stat rfl)))
        · have h := if_f h hc7
          refine k_seq ?_
          refine k_seq ?_
          refine k_reg ?_
          refine mops_en hf (by kernel_rfl) fun f1 hf1 => ?_
          refine k_c ?_
          have hj3 : ∀ (t_2 : Bool), page_thirties_j0 low_ t_2 = some r → ∀ f, FOk f [⟨0, [], .s (.int .u8 low_)⟩, ⟨2, [], .ptr 0 0 0⟩, ⟨3, [], .s (.int .u8 low_)⟩, ⟨22, [], .s (.bool t_2)⟩] → kont Try.prog [] (page_thirties_C r) ((.c page_thirties_i45) :: (.b 0) :: (.c page_thirties_i51) :: []) .normal f [⟨0, .mem, 1, [.s (.int .i64 0), .s (.int .i64 0), .s (.int .i64 0)]⟩] := by
            intro t_2 h f hf
            unfold page_thirties_j0 at h
            refine k_c ?_
            refine k_cond hf (t := t_2) (by kernel_rfl) (fun hc9 => ?_) (fun hc9 => ?_)
            · have h := if_t h hc9
              refine k_seq ?_
              refine k_reg ?_
              refine mops_en hf (by kernel_rfl) fun f1 hf1 => ?_
              refine k_c ?_
              refine k_ret ?_
              refine x_br ?_
              refine x_c nofun ?_
              obtain rfl := Option.some.inj h
              exact k_fin (fin_ret (.inl rfl) hf1 (vs := [.agg [.s (.int .i64 31), .s (.int .i64 9), .s (.int .i64 (IntKind.wrap .i64 (4 - (IntKind.wrap .i64 (Int.tdiv (IntKind.wrap .i64 (IntKind.wrap .u8 (low_ - 5))) 2)))))]]) (by kernel_rfl) (SettL.pure (FzL.stat rfl)))
            · have h := if_f h hc9
              refine k_seq ?_
              refine k_reg ?_
              refine mops_en hf (by kernel_rfl) fun f1 hf1 => ?_
              refine k_c ?_
              refine k_cond hf1 (t := (low_ == 9)) (by kernel_rfl) (fun hc10 => ?_) (fun hc10 => ?_)
              · have h := if_t h hc10
                refine k_seq ?_
                refine k_reg ?_
                refine mops_en hf1 (by kernel_rfl) fun f2 hf2 => ?_
                refine k_c ?_
                refine k_ret ?_
                refine x_br ?_
                refine x_c nofun ?_
                obtain rfl := Option.some.inj h
                exact k_fin (fin_ret (.inl rfl) hf2 (vs := [.agg [.s (.int .i64 48), .s (.int .i64 0), .s (.int .i64 0)]]) (by kernel_rfl) (SettL.pure (FzL.stat rfl)))
              · have h := if_f h hc10
                refine k_seq ?_
                refine k_reg ?_
                refine mops_en hf1 (by kernel_rfl) fun f2 hf2 => ?_
                refine k_c ?_
                refine k_cond hf2 (t := (low_ == 10)) (by kernel_rfl) (fun hc11 => ?_) (fun hc11 => ?_)
                · have h := if_t h hc11
                  refine k_seq ?_
                  refine k_reg ?_
                  refine mops_en hf2 (by kernel_rfl) fun f3 hf3 => ?_
                  refine k_c ?_
                  refine k_ret ?_
                  refine x_br ?_
                  refine x_c nofun ?_
                  obtain rfl := Option.some.inj h
                  exact k_fin (fin_ret (.inl rfl) hf3 (vs := [.agg [.s (.int .i64 1), .s (.int .i64 0), .s (.int .i64 0)]]) (by kernel_rfl) (SettL.pure (FzL.stat rfl)))
                · have h := if_f h hc11
                  refine k_seq ?_
                  refine k_reg ?_
                  refine mops_en hf2 (by kernel_rfl) fun f3 hf3 => ?_
                  refine k_c ?_
                  refine k_cond hf3 (t := (low_ == 11)) (by kernel_rfl) (fun hc12 => ?_) (fun hc12 => ?_)
                  · have h := if_t h hc12
                    refine k_seq ?_
                    refine k_reg ?_
                    refine mops_en hf3 (by kernel_rfl) fun f4 hf4 => ?_
                    refine k_c ?_
                    refine k_ret ?_
                    refine x_br ?_
                    refine x_c nofun ?_
                    obtain rfl := Option.some.inj h
                    exact k_fin (fin_ret (.inl rfl) hf4 (vs := [.agg [.s (.int .i64 49), .s (.int .i64 0), .s (.int .i64 0)]]) (by kernel_rfl) (SettL.pure (FzL.stat rfl)))
                  · have h := if_f h hc12
                    refine k_seq ?_
                    refine k_reg ?_
                    refine mops_en hf3 (by kernel_rfl) fun f4 hf4 => ?_
                    refine k_c ?_
                    refine k_cond hf4 (t := (low_ == 12)) (by kernel_rfl) (fun hc13 => ?_) (fun hc13 => ?_)
                    · have h := if_t h hc13
                      refine k_seq ?_
                      refine k_reg ?_
                      refine mops_en hf4 (by kernel_rfl) fun f5 hf5 => ?_
                      refine k_c ?_
                      refine k_ret ?_
                      refine x_br ?_
                      refine x_c nofun ?_
                      obtain rfl := Option.some.inj h
                      exact k_fin (fin_ret (.inl rfl) hf5 (vs := [.agg [.s (.int .i64 41), .s (.int .i64 1), .s (.int .i64 0)]]) (by kernel_rfl) (SettL.pure (FzL.stat rfl)))
                    · have h := if_f h hc13
                      refine k_seq ?_
                      refine k_reg ?_
                      refine mops_en hf4 (by kernel_rfl) fun f5 hf5 => ?_
                      refine k_c ?_
                      refine k_cond hf5 (t := (low_ == 13)) (by kernel_rfl) (fun hc14 => ?_) (fun hc14 => ?_)
                      · have h := if_t h hc14
                        refine k_seq ?_
                        refine k_reg ?_
                        refine mops_en hf5 (by kernel_rfl) fun f6 hf6 => ?_
                        refine k_c ?_
                        refine k_ret ?_
                        refine x_br ?_
                        refine x_c nofun ?_
                        obtain rfl := Option.some.inj h
                        exact k_fin (fin_ret (.inl rfl) hf6 (vs := [.agg [.s (.int .i64 50), .s (.int .i64 0), .s (.int .i64 0)]]) (by kernel_rfl) (SettL.pure (FzL.stat rfl)))
                      · have h := if_f h hc14
                        refine k_seq ?_
                        refine k_reg ?_
                        refine mops_en hf5 (by kernel_rfl) fun f6 hf6 => ?_
                        refine k_c ?_
                        refine k_cond hf6 (t := (low_ == 15)) (by kernel_rfl) (fun hc15 => ?_) (fun hc15 => ?_)
                        · have h := if_t h hc15
                          refine k_seq ?_
                          refine k_reg ?_
                          refine mops_en hf6 (by kernel_rfl) fun f7 hf7 => ?_
                          refine k_c ?_
                          refine k_ret ?_
                          refine x_br ?_
                          refine x_c nofun ?_
                          obtain rfl := Option.some.inj h
                          exact k_fin (fin_ret (.inl rfl) hf7 (vs := [.agg [.s (.int .i64 51), .s (.int .i64 0), .s (.int .i64 1)]]) (by kernel_rfl) (SettL.pure (FzL.stat rfl)))
                        · have h := if_f h hc15
                          refine k_skip ?_
                          refine k_b ?_
                          refine k_c ?_
                          refine k_seq ?_
                          refine k_reg ?_
                          refine mops_en hf6 (by kernel_rfl) fun f7 hf7 => ?_
                          refine k_c ?_
                          refine k_ret ?_
                          obtain rfl := Option.some.inj h
                          exact k_fin (fin_ret (.inl rfl) hf7 (vs := [.agg [.s (.int .i64 0), .s (.int .i64 0), .s (.int .i64 0)]]) (by kernel_rfl) (SettL.pure (FzL.stat rfl)))
          refine k_cond hf1 (t := (low_ == 5)) (by kernel_rfl) (fun hc8 => ?_) (fun hc8 => ?_)
          · have h := if_t h hc8
            refine k_skip ?_
            refine k_hp (L' := [⟨0, .mem, 1, [.s (.int .i64 0), .s (.int .i64 0), .s (.int .i64 0)]⟩]) (by kernel_rfl) ?_
            exact hj3 (low_ == 5) h _ (FOk_of [0, 2, 3, 22] hf1 (by kernel_rfl))
          · have h := if_f h hc8
            refine k_reg ?_
            refine mops_en hf1 (by kernel_rfl) fun f2 hf2 => ?_
            refine k_hp (L' := [⟨0, .mem, 1, [.s (.int .i64 0), .s (.int .i64 0), .s (.int .i64 0)]⟩]) (by kernel_rfl) ?_
            exact hj3 (low_ == 7) h _ (FOk_of [0, 2, 3, 22] hf2 (by kernel_rfl))
      refine k_cond hf1 (t := (low_ == 4)) (by kernel_rfl) (fun hc6 => ?_) (fun hc6 => ?_)
      · have h := if_t h hc6
        refine k_skip ?_
        refine k_hp (L' := [⟨0, .mem, 1, [.s (.int .i64 0), .s (.int .i64 0), .s (.int .i64 0)]⟩]) (by kernel_rfl) ?_
        exact hj2 (low_ == 4) h _ (FOk_of [0, 2, 3, 13] hf1 (by kernel_rfl))
      · have h := if_f h hc6
        refine k_reg ?_
        refine mops_en hf1 (by kernel_rfl) fun f2 hf2 => ?_
        refine k_hp (L' := [⟨0, .mem, 1, [.s (.int .i64 0), .s (.int .i64 0), .s (.int .i64 0)]⟩]) (by kernel_rfl) ?_
        exact hj2 (low_ == 6) h _ (FOk_of [0, 2, 3, 13] hf2 (by kernel_rfl))
  refine k_cond hf3 (t := (low_ == 0)) (by kernel_rfl) (fun hc1 => ?_) (fun hc1 => ?_)
  · have h := if_t h hc1
    refine k_skip ?_
    refine k_hp (L' := [⟨0, .mem, 1, [.s (.int .i64 0), .s (.int .i64 0), .s (.int .i64 0)]⟩]) (by kernel_rfl) ?_
    exact hj1 (low_ == 0) h _ (FOk_of [0, 2, 3, 4] hf3 (by kernel_rfl))
  · have h := if_f h hc1
    refine k_seq ?_
    refine k_reg ?_
    refine mops_en hf3 (by kernel_rfl) fun f4 hf4 => ?_
    refine k_c ?_
    refine k_cond hf4 (t := (low_ == 1)) (by kernel_rfl) (fun hc2 => ?_) (fun hc2 => ?_)
    · have h := if_t h hc2
      refine k_skip ?_
      refine k_hp (L' := [⟨0, .mem, 1, [.s (.int .i64 0), .s (.int .i64 0), .s (.int .i64 0)]⟩]) (by kernel_rfl) ?_
      exact hj1 (low_ == 1) h _ (FOk_of [0, 2, 3, 4] hf4 (by kernel_rfl))
    · have h := if_f h hc2
      refine k_seq ?_
      refine k_reg ?_
      refine mops_en hf4 (by kernel_rfl) fun f5 hf5 => ?_
      refine k_c ?_
      refine k_cond hf5 (t := (low_ == 2)) (by kernel_rfl) (fun hc3 => ?_) (fun hc3 => ?_)
      · have h := if_t h hc3
        refine k_skip ?_
        refine k_hp (L' := [⟨0, .mem, 1, [.s (.int .i64 0), .s (.int .i64 0), .s (.int .i64 0)]⟩]) (by kernel_rfl) ?_
        exact hj1 (low_ == 2) h _ (FOk_of [0, 2, 3, 4] hf5 (by kernel_rfl))
      · have h := if_f h hc3
        refine k_reg ?_
        refine mops_en hf5 (by kernel_rfl) fun f6 hf6 => ?_
        refine k_hp (L' := [⟨0, .mem, 1, [.s (.int .i64 0), .s (.int .i64 0), .s (.int .i64 0)]⟩]) (by kernel_rfl) ?_
        exact hj1 (low_ == 3) h _ (FOk_of [0, 2, 3, 4] hf6 (by kernel_rfl))
end Go.Proofs.YtmabdijipkmmkaaK
