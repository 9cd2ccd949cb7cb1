/- The Go functions come to the functions over typed data. Printed by a program of this work. -/
import Derived.Test.YthhjooegpjgicaaDoorF
import Derived.Test.YthhjooegpjgicaaDoorProg
import Derived.Test.YthhjooegpjgicaaDoorG0
import Derived.Test.YthhjooegpjgicaaDoorG2
import Derived.Test.YthhjooegpjgicaaDoorG3
namespace Go.Proofs.YthhjooegpjgicaaDoorK
set_option linter.unusedVariables false
set_option linter.unusedSimpArgs false
set_option maxHeartbeats 4000000
open Go.RowKit
attribute [local irreducible] dwv mops lops lqops lwops kont iter run runK rk okK ex E1 vals val chain chB sel resF
def pins_piece_i0 : List Op1 := [(oE 2 (.zero [(.bool false), (.bool false), (.bool false), (.bool false), (.bool false), (.bool false)]) []), (oM 3 (.k (.int .i64 0)) []), (oM 4 (.k (.int .i64 0)) [1])]
def pins_piece_i1 : List Op1 := [(oM 13 (.t 0) []), (oC 14 24 [(.t 13), (.k (.string ⟨#[42]⟩))] [0]), (oM 12 (.t 14) [1]), (oE 15 (.ext 0 (.t 12)) [2]), (oE 16 (.ext 1 (.t 12)) [2]), (oE 17 (.ext 2 (.t 12)) [2]), (oM 5 (.t 15) [3, 1, 0, 1, 2, 3]), (oM 6 (.t 16) [4, 6, 0, 1, 2, 3, 4, 6]), (oM 7 (.t 17) [5, 7, 0, 1, 2, 3, 4, 5, 6, 7])]
def pins_piece_i2 : List Op1 := [(oM 19 (.t 5) []), (oC 20 7 [(.t 19)] [0]), (oM 18 (.t 20) [1]), (oE 21 (.ext 0 (.t 18)) [2]), (oE 22 (.ext 1 (.t 18)) [2]), (oE 8 (.zero [(.bool false), (.bool false), (.bool false), (.bool false), (.bool false), (.bool false)]) []), (oN (.store 6 (.t 8) (.t 21)) [5, 3, 1, 0, 1, 2, 3, 5]), (oM 9 (.t 22) [4, 6, 0, 1, 2, 3, 4, 5, 6])]
def pins_piece_i3 : List Op1 := [(oM 23 (.t 9) []), (oE 24 (.un .not (.t 23)) [0])]
def pins_piece_i4 : List Op1 := [(oE 25 (.build [(.bool false), (.bool false), (.bool false), (.bool false), (.bool false), (.bool false)] []) []), (oN (.store 6 (.t 2) (.t 25)) [0, 0]), (oM 3 (.k (.int .i64 0)) [1, 0, 1]), (oM 4 (.k (.int .i64 21)) [2, 0, 1, 2])]
def pins_piece_i5 : IR := .ret
def pins_piece_i6 : IR := (.cond (.t 24) (.seq (.reg false pins_piece_i4) pins_piece_i5) .skip)
def pins_piece_i7 : List Op1 := [(oM 26 (.t 7) []), (oE 27 (.un .not (.t 26)) [0])]
def pins_piece_i8 : List Op1 := [(oE 28 (.load true 6 (.t 8)) []), (oN (.store 6 (.t 2) (.t 28)) [0, 0]), (oM 3 (.k (.int .i64 1)) [1, 0, 1]), (oM 4 (.k (.int .i64 0)) [2, 0, 1, 2])]
def pins_piece_i9 : IR := .ret
def pins_piece_i10 : IR := (.cond (.t 27) (.seq (.reg false pins_piece_i8) pins_piece_i9) .skip)
def pins_piece_i11 : List Op1 := [(oM 30 (.t 6) []), (oC 31 25 [(.t 30)] [0]), (oM 29 (.t 31) [1]), (oE 32 (.ext 0 (.t 29)) [2]), (oE 33 (.ext 1 (.t 29)) [2]), (oM 10 (.t 32) [3, 1, 0, 1, 2, 3]), (oM 11 (.t 33) [4, 5, 0, 1, 2, 3, 4, 5])]
def pins_piece_i12 : List Op1 := [(oM 35 (.t 11) []), (oE 36 (.un .not (.t 35)) [0]), (oM 34 (.t 36) [1])]
def pins_piece_i13 : List Op1 := [(oE 37 (.build [(.bool false), (.bool false), (.bool false), (.bool false), (.bool false), (.bool false)] []) []), (oN (.store 6 (.t 2) (.t 37)) [0, 0]), (oM 3 (.k (.int .i64 0)) [1, 0, 1]), (oM 4 (.k (.int .i64 21)) [2, 0, 1, 2])]
def pins_piece_i14 : IR := .ret
def pins_piece_i15 : List Op1 := [(oM 39 (.t 10) []), (oE 40 (.bin .eql (.t 39) (.k (.int .i64 0))) [0]), (oM 38 (.t 40) [1])]
def pins_piece_i16 : List Op1 := [(oE 41 (.build [(.bool false), (.bool false), (.bool false), (.bool false), (.bool false), (.bool false)] []) []), (oN (.store 6 (.t 2) (.t 41)) [0, 0]), (oM 3 (.k (.int .i64 0)) [1, 0, 1]), (oM 4 (.k (.int .i64 10)) [2, 0, 1, 2])]
def pins_piece_i17 : IR := .ret
def pins_piece_i18 : IR := (.cond (.t 38) (.seq (.reg false pins_piece_i16) pins_piece_i17) .skip)
def pins_piece_i19 : IR := (.cond (.t 34) (.seq (.reg false pins_piece_i13) pins_piece_i14) (.seq (.reg false pins_piece_i15) pins_piece_i18))
def pins_piece_i20 : List Op1 := [(oE 42 (.load true 6 (.t 8)) []), (oM 43 (.t 10) []), (oN (.store 6 (.t 2) (.t 42)) [0, 0]), (oM 3 (.t 43) [1, 2, 0, 1, 2]), (oM 4 (.k (.int .i64 0)) [3, 0, 1, 2, 3])]
def pins_piece_i21 : IR := .ret
def pins_piece_i22 : IR := (.seq (.reg false pins_piece_i20) pins_piece_i21)
def pins_piece_i23 : IR := (.seq (.block 0 (.seq (.reg false pins_piece_i12) pins_piece_i19)) pins_piece_i22)
def pins_piece_i24 : IR := (.seq (.reg false pins_piece_i11) pins_piece_i23)
def pins_piece_i25 : IR := (.seq (.seq (.reg false pins_piece_i7) pins_piece_i10) pins_piece_i24)
def pins_piece_i26 : IR := (.seq (.seq (.reg false pins_piece_i3) pins_piece_i6) pins_piece_i25)
def pins_piece_i27 : IR := (.seq (.reg false pins_piece_i2) pins_piece_i26)
def pins_piece_i28 : IR := (.seq (.reg false pins_piece_i1) pins_piece_i27)
def pins_piece_ir : IR := (.seq (.reg false pins_piece_i0) pins_piece_i28)
theorem pins_piece_cfn : cFn Tryd.prog 16 = some (pins_piece_ir, [(.c 2 true 6), (.t 3), (.t 4)], 44) := by kernel_rfl
def pins_piece_V (r : (api_Pins × Int × Int)) : V := .tup [.agg [.s (.bool r.1.Reset), .s (.bool r.1.Nmi), .s (.bool r.1.Firq), .s (.bool r.1.Irq), .s (.bool r.1.Halt), .s (.bool r.1.Req)], .s (.int .i64 r.2.1), .s (.int .i64 r.2.2)]
def pins_piece_C (r : (api_Pins × Int × Int)) : X → Fr → Hp → Prop := FinL [(.c 2 true 6), (.t 3), (.t 4)] [] (pins_piece_V r) []
theorem pins_piece_ok (s_ : ByteArray) (r : (api_Pins × Int × Int)) (h : pins_piece s_ = some r) : Pure Tryd.prog 16 [.s (.string s_)] (pins_piece_V r) := by
  refine ConL.of pins_piece_cfn (Nat.le_of_ble_eq_true (by kernel_rfl)) (Nat.le_of_ble_eq_true (by kernel_rfl)) ?_
  refine k_start ?_
  show dwv Tryd.prog [] pins_piece_ir (kont Tryd.prog [] (pins_piece_C r) []) (fr0 [.s (.string s_)]) []
  have hf : FOk (fr0 [.s (.string s_)]) [⟨0, [], .s (.string s_)⟩] := ⟨⟨fun _ => rfl, fun h => (h trivial).elim⟩, trivial⟩
  generalize fr0 [.s (.string s_)] = f at hf ⊢
  unfold pins_piece at h
  refine k_seq ?_
  refine k_reg ?_
  refine mops_en hf (by kernel_rfl) fun f1 hf1 => ?_
  refine k_c ?_
  refine k_seq ?_
  refine k_reg ?_
  refine mops_sg 1 hf1 (by kernel_rfl) fun f2 hf2 => ?_
  obtain ⟨r_, hx_r_, h⟩ := Option.bind_eq_some_iff.1 h
  refine mops_call rfl hf2 (av := [.s (.string s_), .s (.string (⟨#[42]⟩ : ByteArray))]) (by kernel_rfl) (v := .tup [.s (.string r_.1), .s (.string r_.2.1), .s (.bool r_.2.2)]) (CalL.pure (strings_Cut_ok s_ (⟨#[42]⟩ : ByteArray) r_ hx_r_) rfl rfl (Nat.le_of_ble_eq_true (by kernel_rfl))) (fun _ => rfl) fun f3 hf3 => ?_
  refine mops_en hf3 (by kernel_rfl) fun f4 hf4 => ?_
  refine k_c ?_
  refine k_seq ?_
  refine k_reg ?_
  refine mops_sg 1 hf4 (by kernel_rfl) fun f5 hf5 => ?_
  obtain ⟨r_1, hx_r_1, h⟩ := Option.bind_eq_some_iff.1 h
  refine mops_call rfl hf5 (av := [.s (.string r_.1)]) (by kernel_rfl) (v := .tup [.agg [.s (.bool r_1.1.Reset), .s (.bool r_1.1.Nmi), .s (.bool r_1.1.Firq), .s (.bool r_1.1.Irq), .s (.bool r_1.1.Halt), .s (.bool r_1.1.Req)], .s (.bool r_1.2)]) (CalL.pure (pins_One_ok r_.1 r_1 hx_r_1) rfl rfl (Nat.le_of_ble_eq_true (by kernel_rfl))) (fun _ => rfl) fun f6 hf6 => ?_
  refine mops_en hf6 (by kernel_rfl) fun f7 hf7 => ?_
  refine k_c ?_
  refine k_seq ?_
  refine k_seq ?_
  refine k_reg ?_
  refine mops_en hf7 (by kernel_rfl) fun f8 hf8 => ?_
  refine k_c ?_
  refine k_cond hf8 (t := (!r_1.2)) (by kernel_rfl) (fun hc1 => ?_) (fun hc1 => ?_)
  · have h := if_t h hc1
    refine k_seq ?_
    refine k_reg ?_
    refine mops_en hf8 (by kernel_rfl) fun f9 hf9 => ?_
    refine k_c ?_
    refine k_ret ?_
    refine x_c nofun ?_
    obtain rfl := Option.some.inj h
    exact k_fin (fin_ret (.inl rfl) hf9 (vs := [.agg [.s (.bool false), .s (.bool false), .s (.bool false), .s (.bool false), .s (.bool false), .s (.bool false)], .s (.int .i64 0), .s (.int .i64 21)]) (by kernel_rfl) (SettL.pure (FzL.tup (FzsL.cons (FzL.stat rfl) (FzsL.cons (FzL.stat rfl) (FzsL.cons (FzL.stat rfl) FzsL.nil))))))
  · have h := if_f h hc1
    refine k_skip ?_
    refine k_c ?_
    refine k_seq ?_
    refine k_seq ?_
    refine k_reg ?_
    refine mops_en hf8 (by kernel_rfl) fun f9 hf9 => ?_
    refine k_c ?_
    refine k_cond hf9 (t := (!r_.2.2)) (by kernel_rfl) (fun hc2 => ?_) (fun hc2 => ?_)
    · have h := if_t h hc2
      refine k_seq ?_
      refine k_reg ?_
      refine mops_en hf9 (by kernel_rfl) fun f10 hf10 => ?_
      refine k_c ?_
      refine k_ret ?_
      refine x_c nofun ?_
      obtain rfl := Option.some.inj h
      exact k_fin (fin_ret (.inl rfl) hf10 (vs := [.agg [.s (.bool r_1.1.Reset), .s (.bool r_1.1.Nmi), .s (.bool r_1.1.Firq), .s (.bool r_1.1.Irq), .s (.bool r_1.1.Halt), .s (.bool r_1.1.Req)], .s (.int .i64 1), .s (.int .i64 0)]) (by kernel_rfl) (SettL.pure (FzL.tup (FzsL.cons (FzL.stat rfl) (FzsL.cons (FzL.stat rfl) (FzsL.cons (FzL.stat rfl) FzsL.nil))))))
    · have h := if_f h hc2
      refine k_skip ?_
      refine k_c ?_
      refine k_seq ?_
      refine k_reg ?_
      refine mops_sg 1 hf9 (by kernel_rfl) fun f10 hf10 => ?_
      obtain ⟨r_2, hx_r_2, h⟩ := Option.bind_eq_some_iff.1 h
      refine mops_call rfl hf10 (av := [.s (.string r_.2.1)]) (by kernel_rfl) (v := .tup [.s (.int .i64 r_2.1), .s (.bool r_2.2)]) (CalL.pure (pins_count_ok r_.2.1 r_2 hx_r_2) rfl rfl (Nat.le_of_ble_eq_true (by kernel_rfl))) (fun _ => rfl) fun f11 hf11 => ?_
      refine mops_en hf11 (by kernel_rfl) fun f12 hf12 => ?_
      refine k_c ?_
      refine k_seq ?_
      refine k_block ?_
      refine k_seq ?_
      refine k_reg ?_
      refine mops_end [2, 3, 4, 8, 10, 34] hf12 (l' := [⟨2, [], .ptr 0 0 0⟩, ⟨3, [], .s (.int .i64 0)⟩, ⟨4, [], .s (.int .i64 0)⟩, ⟨8, [], .ptr 1 0 0⟩, ⟨10, [], .s (.int .i64 r_2.1)⟩, ⟨34, [], .s (.bool (!r_2.2))⟩]) (L' := [⟨0, .mem, 1, [.s (.bool false), .s (.bool false), .s (.bool false), .s (.bool false), .s (.bool false), .s (.bool false)]⟩, ⟨0, .mem, 1, [.s (.bool r_1.1.Reset), .s (.bool r_1.1.Nmi), .s (.bool r_1.1.Firq), .s (.bool r_1.1.Irq), .s (.bool r_1.1.Halt), .s (.bool r_1.1.Req)]⟩]) (by kernel_rfl) fun f13 hf13 => ?_
      refine k_c ?_
      refine k_cond hf13 (t := (!r_2.2)) (by kernel_rfl) (fun hc3 => ?_) (fun hc3 => ?_)
      · have h := if_t h hc3
        refine k_seq ?_
        refine k_reg ?_
        refine mops_en hf13 (by kernel_rfl) fun f14 hf14 => ?_
        refine k_c ?_
        refine k_ret ?_
        refine x_br ?_
        refine x_c nofun ?_
        obtain rfl := Option.some.inj h
        exact k_fin (fin_ret (.inl rfl) hf14 (vs := [.agg [.s (.bool false), .s (.bool false), .s (.bool false), .s (.bool false), .s (.bool false), .s (.bool false)], .s (.int .i64 0), .s (.int .i64 21)]) (by kernel_rfl) (SettL.pure (FzL.tup (FzsL.cons (FzL.stat rfl) (FzsL.cons (FzL.stat rfl) (FzsL.cons (FzL.stat rfl) FzsL.nil))))))
      · have h := if_f h hc3
        refine k_seq ?_
        refine k_reg ?_
        refine mops_en hf13 (by kernel_rfl) fun f14 hf14 => ?_
        refine k_c ?_
        refine k_cond hf14 (t := (r_2.1 == 0)) (by kernel_rfl) (fun hc4 => ?_) (fun hc4 => ?_)
        · have h := if_t h hc4
          refine k_seq ?_
          refine k_reg ?_
          refine mops_en hf14 (by kernel_rfl) fun f15 hf15 => ?_
          refine k_c ?_
          refine k_ret ?_
          refine x_br ?_
          refine x_c nofun ?_
          obtain rfl := Option.some.inj h
          exact k_fin (fin_ret (.inl rfl) hf15 (vs := [.agg [.s (.bool false), .s (.bool false), .s (.bool false), .s (.bool false), .s (.bool false), .s (.bool false)], .s (.int .i64 0), .s (.int .i64 10)]) (by kernel_rfl) (SettL.pure (FzL.tup (FzsL.cons (FzL.stat rfl) (FzsL.cons (FzL.stat rfl) (FzsL.cons (FzL.stat rfl) FzsL.nil))))))
        · have h := if_f h hc4
          refine k_skip ?_
          refine k_b ?_
          refine k_c ?_
          refine k_seq ?_
          refine k_reg ?_
          refine mops_en hf14 (by kernel_rfl) fun f15 hf15 => ?_
          refine k_c ?_
          refine k_ret ?_
          obtain rfl := Option.some.inj h
          exact k_fin (fin_ret (.inl rfl) hf15 (vs := [.agg [.s (.bool r_1.1.Reset), .s (.bool r_1.1.Nmi), .s (.bool r_1.1.Firq), .s (.bool r_1.1.Irq), .s (.bool r_1.1.Halt), .s (.bool r_1.1.Req)], .s (.int .i64 r_2.1), .s (.int .i64 0)]) (by kernel_rfl) (SettL.pure (FzL.tup (FzsL.cons (FzL.stat rfl) (FzsL.cons (FzL.stat rfl) (FzsL.cons (FzL.stat rfl) FzsL.nil))))))
def pins_Parse_i0 : List Op1 := [(oE 2 (.nilg 6) []), (oM 3 (.k (.int .i64 0)) [0])]
def pins_Parse_i1 : List Op1 := [(oE 4 (.nilg 6) [])]
def pins_Parse_i2 : List Op1 := [(oM 10 (.t 0) []), (oC 11 15 [(.t 10), (.k (.string ⟨#[32]⟩))] [0]), (oE 12 (.len (.t 11)) [1]), (oM 13 (.k (.int .i64 0)) [])]
def pins_Parse_i3 : List Op1 := [(oE 14 (.bin .lss (.t 13) (.t 12)) [])]
def pins_Parse_i4 : List Op1 := [(oE 15 (.ias 1 (.t 11) (.t 13)) []), (oE 16 (.load false 1 (.t 15)) [0]), (oM 6 (.t 16) [1, 0, 1])]
def pins_Parse_i5 : List Op1 := [(oM 17 (.t 6) []), (oE 18 (.bin .eql (.t 17) (.k (.string ⟨#[]⟩))) [0])]
def pins_Parse_i6 : IR := (.cond (.t 18) (.exit 1) .skip)
def pins_Parse_i7 : List Op1 := [(oM 20 (.t 6) []), (oC 21 16 [(.t 20)] [0]), (oM 19 (.t 21) [1]), (oE 22 (.ext 0 (.t 19)) [2]), (oE 23 (.ext 1 (.t 19)) [2]), (oE 24 (.ext 2 (.t 19)) [2]), (oE 7 (.zero [(.bool false), (.bool false), (.bool false), (.bool false), (.bool false), (.bool false)]) []), (oN (.store 6 (.t 7) (.t 22)) [6, 3, 1, 0, 1, 2, 3, 6]), (oM 8 (.t 23) [4, 7, 0, 1, 2, 3, 4, 6, 7]), (oM 9 (.t 24) [5, 8, 0, 1, 2, 3, 4, 5, 6, 7, 8])]
def pins_Parse_i8 : List Op1 := [(oM 25 (.t 9) []), (oE 26 (.bin .neq (.t 25) (.k (.int .i64 0))) [0])]
def pins_Parse_i9 : List Op1 := [(oM 27 (.t 9) []), (oE 2 (.nilg 6) []), (oM 3 (.t 27) [0, 1, 0, 1])]
def pins_Parse_i10 : IR := .ret
def pins_Parse_i11 : IR := (.cond (.t 26) (.seq (.reg false pins_Parse_i9) pins_Parse_i10) .skip)
def pins_Parse_i12 : List Op1 := [(oM 28 (.t 8) []), (oM 29 (.t 4) []), (oE 30 (.len (.t 29)) [1]), (oE 31 (.bin .sub (.k (.int .i64 4096)) (.t 30)) [2]), (oE 32 (.bin .gtr (.t 28) (.t 31)) [0, 3])]
def pins_Parse_i13 : List Op1 := [(oE 2 (.nilg 6) []), (oM 3 (.k (.int .i64 12)) [0, 0])]
def pins_Parse_i14 : IR := .ret
def pins_Parse_i15 : IR := (.cond (.t 32) (.seq (.reg false pins_Parse_i13) pins_Parse_i14) .skip)
def pins_Parse_i16 : List Op1 := [(oM 33 (.t 8) []), (oM 34 (.k (.int .i64 0)) [])]
def pins_Parse_i17 : List Op1 := [(oE 35 (.bin .lss (.t 34) (.t 33)) [])]
def pins_Parse_i18 : List Op1 := [(oM 36 (.t 4) []), (oE 37 (.load true 6 (.t 7)) []), (oE 38 (.bslo 6 1 [(.bool false), (.bool false), (.bool false), (.bool false), (.bool false), (.bool false)] [(0, (6, (.t 37)))]) [1]), (oE 39 (.app 29 6 6 (.t 36) (.t 38)) [0, 2]), (oM 4 (.t 39) [3, 3, 0, 1, 2, 3])]
def pins_Parse_i19 : List Op1 := [(oE 40 (.bin .add (.t 34) (.k (.int .i64 1))) []), (oM 34 (.t 40) [0])]
def pins_Parse_i20 : IR := (.reg false pins_Parse_i19)
def pins_Parse_i21 : IR := (.seq (.block 3 (.reg false pins_Parse_i18)) pins_Parse_i20)
def pins_Parse_i22 : IR := (.seq (.cond (.t 35) .skip (.exit 2)) pins_Parse_i21)
def pins_Parse_i23 : IR := (.seq (.reg false pins_Parse_i17) pins_Parse_i22)
def pins_Parse_i24 : IR := (.block 2 (.loop pins_Parse_i23))
def pins_Parse_i25 : IR := (.seq (.reg false pins_Parse_i16) pins_Parse_i24)
def pins_Parse_i26 : IR := (.seq (.seq (.reg false pins_Parse_i12) pins_Parse_i15) pins_Parse_i25)
def pins_Parse_i27 : IR := (.seq (.seq (.reg false pins_Parse_i8) pins_Parse_i11) pins_Parse_i26)
def pins_Parse_i28 : IR := (.seq (.reg false pins_Parse_i7) pins_Parse_i27)
def pins_Parse_i29 : IR := (.seq (.seq (.reg false pins_Parse_i5) pins_Parse_i6) pins_Parse_i28)
def pins_Parse_i30 : List Op1 := [(oE 41 (.bin .add (.t 13) (.k (.int .i64 1))) []), (oM 13 (.t 41) [0])]
def pins_Parse_i31 : IR := (.reg false pins_Parse_i30)
def pins_Parse_i32 : IR := (.seq (.block 1 (.seq (.reg false pins_Parse_i4) pins_Parse_i29)) pins_Parse_i31)
def pins_Parse_i33 : IR := (.seq (.cond (.t 14) .skip (.exit 0)) pins_Parse_i32)
def pins_Parse_i34 : IR := (.seq (.reg false pins_Parse_i3) pins_Parse_i33)
def pins_Parse_i35 : IR := (.block 0 (.loop pins_Parse_i34))
def pins_Parse_i36 : List Op1 := [(oM 42 (.t 4) []), (oM 2 (.t 42) [0, 0]), (oM 3 (.k (.int .i64 0)) [1, 0, 1])]
def pins_Parse_i37 : IR := .ret
def pins_Parse_i38 : IR := (.seq (.reg false pins_Parse_i36) pins_Parse_i37)
def pins_Parse_i39 : IR := (.seq (.seq (.reg false pins_Parse_i2) pins_Parse_i35) pins_Parse_i38)
def pins_Parse_i40 : IR := (.seq (.reg false pins_Parse_i1) pins_Parse_i39)
def pins_Parse_ir : IR := (.seq (.reg false pins_Parse_i0) pins_Parse_i40)
theorem pins_Parse_cfn : cFn Tryd.prog 5 = some (pins_Parse_ir, [(.t 2), (.t 3)], 43) := by kernel_rfl
def pins_Parse_V (r : ((List api_Pins) × Int)) : V := .tup [.sl false r.1.length (cat api_Pins.v r.1), .s (.int .i64 r.2)]
def pins_Parse_C (r : ((List api_Pins) × Int)) : X → Fr → Hp → Prop := FinL [(.t 2), (.t 3)] [] (pins_Parse_V r) []
theorem pins_Parse_ok (s_ : ByteArray) (r : ((List api_Pins) × Int)) (h : pins_Parse s_ = some r) : Pure Tryd.prog 5 [.s (.string s_)] (pins_Parse_V r) := by
  refine ConL.of pins_Parse_cfn (Nat.le_of_ble_eq_true (by kernel_rfl)) (Nat.le_of_ble_eq_true (by kernel_rfl)) ?_
  refine k_start ?_
  show dwv Tryd.prog [] pins_Parse_ir (kont Tryd.prog [] (pins_Parse_C r) []) (fr0 [.s (.string s_)]) []
  have hf : FOk (fr0 [.s (.string s_)]) [⟨0, [], .s (.string s_)⟩] := ⟨⟨fun _ => rfl, fun h => (h trivial).elim⟩, trivial⟩
  generalize fr0 [.s (.string s_)] = f at hf ⊢
  unfold pins_Parse at h
  refine k_seq ?_
  refine k_reg ?_
  refine mops_en hf (by kernel_rfl) fun f1 hf1 => ?_
  refine k_c ?_
  refine k_seq ?_
  refine k_reg ?_
  refine mops_en hf1 (by kernel_rfl) fun f2 hf2 => ?_
  refine k_c ?_
  refine k_seq ?_
  refine k_seq ?_
  refine k_reg ?_
  refine mops_sg 1 hf2 (by kernel_rfl) fun f3 hf3 => ?_
  obtain ⟨r_, hx_r_, h⟩ := Option.bind_eq_some_iff.1 h
  refine mops_call rfl hf3 (av := [.s (.string s_), .s (.string (⟨#[32]⟩ : ByteArray))]) (by kernel_rfl) (v := .sl false r_.length (cat nS r_)) (CalL.pure (strings_Split_ok s_ (⟨#[32]⟩ : ByteArray) r_ hx_r_) rfl (by simp [V.static, statics, cat_stat, strings_Split_V]) (Nat.le_of_ble_eq_true (by kernel_rfl))) (fun _ => rfl) fun f4 hf4 => ?_
  refine mops_en hf4 (by kernel_rfl) fun f5 hf5 => ?_
  refine k_c ?_
  refine k_block ?_
  obtain ⟨o0, hx0, h⟩ := Option.bind_eq_some_iff.1 h
  have hret0 : ∀ r0, .ret r0 = o0 → r0 = r := fun r0 e => by subst e; exact Option.some.inj h
  have hgo0 : ∀ (l_8 : (List api_Pins)) (v_8 : Nat), .go l_8 = o0 → ∀ f, FOk f [⟨2, [], .ref 0 0 0 0⟩, ⟨3, [], .s (.int .i64 0)⟩, ⟨4, [], .ref 1 v_8 0 l_8.length⟩] → kont Tryd.prog [] (pins_Parse_C r) ((.c pins_Parse_i38) :: []) .normal f [⟨0, .grow, 6, cat api_Pins.v ([] : List api_Pins)⟩, ⟨v_8, .grow, 6, cat api_Pins.v l_8⟩] := by
    intro l_8 v_8 e f hf
    subst e
    refine k_c ?_
    refine k_seq ?_
    refine k_reg ?_
    refine mops_en hf (by kernel_rfl) fun f1 hf1 => ?_
    refine k_c ?_
    refine k_ret ?_
    obtain rfl := Option.some.inj h
    exact k_fin (fin_ret (.inl rfl) hf1 (vs := [.ref 1 v_8 0 l_8.length, .s (.int .i64 0)]) (by kernel_rfl) (SettL.pure (FzL.tup (FzsL.cons (FzL.whole (g := api_Pins.v) (kd := .grow) (l := l_8) (by kernel_rfl) rfl (live_grow (by kernel_rfl))) (FzsL.cons (FzL.stat rfl) FzsL.nil)))))
  refine k_loop BIG ?_
  refine loop_ind (fun n f L => ∃ (l_7 : (List api_Pins)) (t_9 : Int) (v_7 : Nat), pins_Parse_l2 r_ n l_7 t_9 = some o0 ∧ FOk f [⟨2, [], .ref 0 0 0 0⟩, ⟨3, [], .s (.int .i64 0)⟩, ⟨4, [], .ref 1 v_7 0 l_7.length⟩, ⟨11, [], .sl false r_.length (cat nS r_)⟩, ⟨12, [], .s (.int .i64 (ln r_))⟩, ⟨13, [], .s (.int .i64 t_9)⟩] ∧ L = [⟨0, .grow, 6, cat api_Pins.v ([] : List api_Pins)⟩, ⟨v_7, .grow, 6, cat api_Pins.v l_7⟩]) ?_ ?_ BIG _ _ ⟨([] : List api_Pins), (0), (0), hx0, FOk_of [2, 3, 4, 11, 12, 13] hf5 (by kernel_rfl), (by kernel_rfl)⟩
  · rintro f L ⟨l_7, t_9, v_7, h, _⟩
    cases (show (none : Option _) = some _ from h)
  · rintro n0 R0 ih f L ⟨l_7, t_9, v_7, h, hf, rfl⟩
    rw [pins_Parse_l2] at h
    refine k_seq ?_
    refine k_reg ?_
    refine mops_en hf (by kernel_rfl) fun f1 hf1 => ?_
    refine k_c ?_
    refine k_seq ?_
    refine k_cond hf1 (t := (decide (t_9 < (ln r_)))) (by kernel_rfl) (fun hc1 => ?_) (fun hc1 => ?_)
    · have h := if_t h hc1
      refine k_skip ?_
      refine k_c ?_
      refine k_seq ?_
      refine k_block ?_
      refine k_seq ?_
      refine k_reg ?_
      obtain ⟨c2, h⟩ := as_ok h
      refine mops_adv rfl (v := .ip ((cat nS r_).drop ((t_9 : Int).toNat * 1))) hf1 (by kernel_rfl) (e_ias (n := r_.length) (xv := .sl false r_.length (cat nS r_)) (k := .i64) (iv := t_9) (p := .ip ((cat nS r_).drop ((t_9 : Int).toNat * 1))) (by kernel_rfl) (by kernel_rfl) (by kernel_rfl) (by kernel_rfl) c2) fun f2 hf2 => ?_
      refine mops_adv rfl (v := .s (.string (gt r_ t_9))) hf2 (by kernel_rfl) (e_load_ip (g := nS) (l := r_) (iv := t_9) [] (by kernel_rfl) c2 (by kernel_rfl) (by kernel_rfl)) fun f3 hf3 => ?_
      refine mops_en hf3 (by kernel_rfl) fun f4 hf4 => ?_
      refine k_c ?_
      refine k_seq ?_
      refine k_seq ?_
      refine k_reg ?_
      refine mops_en hf4 (by kernel_rfl) fun f5 hf5 => ?_
      refine k_c ?_
      refine k_cond hf5 (t := ((gt r_ t_9).toList == (⟨#[]⟩ : ByteArray).toList)) (by kernel_rfl) (fun hc3 => ?_) (fun hc3 => ?_)
      · have h := if_t h hc3
        refine k_exit ?_
        refine x_c nofun ?_
        refine x_b ?_
        refine k_c ?_
        refine k_reg ?_
        refine mops_en hf5 (by kernel_rfl) fun f6 hf6 => ?_
        refine k_l ?_
        exact ih _ _ ⟨l_7, (IntKind.wrap .i64 (t_9 + 1)), v_7, h, FOk_of [2, 3, 4, 11, 12, 13] hf6 (by kernel_rfl), (by kernel_rfl)⟩
      · have h := if_f h hc3
        refine k_skip ?_
        refine k_c ?_
        refine k_seq ?_
        refine k_reg ?_
        refine mops_sg 1 hf5 (by kernel_rfl) fun f6 hf6 => ?_
        obtain ⟨r_3, hx_r_3, h⟩ := Option.bind_eq_some_iff.1 h
        refine mops_call rfl hf6 (av := [.s (.string (gt r_ t_9))]) (by kernel_rfl) (v := .tup [.agg [.s (.bool r_3.1.Reset), .s (.bool r_3.1.Nmi), .s (.bool r_3.1.Firq), .s (.bool r_3.1.Irq), .s (.bool r_3.1.Halt), .s (.bool r_3.1.Req)], .s (.int .i64 r_3.2.1), .s (.int .i64 r_3.2.2)]) (CalL.pure (pins_piece_ok (gt r_ t_9) r_3 hx_r_3) rfl rfl (Nat.le_of_ble_eq_true (by kernel_rfl))) (fun _ => rfl) fun f7 hf7 => ?_
        refine mops_en hf7 (by kernel_rfl) fun f8 hf8 => ?_
        refine k_c ?_
        refine k_seq ?_
        refine k_seq ?_
        refine k_reg ?_
        refine mops_en hf8 (by kernel_rfl) fun f9 hf9 => ?_
        refine k_c ?_
        refine k_cond hf9 (t := (r_3.2.2 != 0)) (by kernel_rfl) (fun hc4 => ?_) (fun hc4 => ?_)
        · have h := if_t h hc4
          refine k_seq ?_
          refine k_reg ?_
          refine mops_en hf9 (by kernel_rfl) fun f10 hf10 => ?_
          refine k_c ?_
          refine k_ret ?_
          refine x_c nofun ?_
          refine x_br ?_
          refine x_c nofun ?_
          refine x_l nofun ?_
          refine x_br ?_
          refine x_c nofun ?_
          obtain rfl := hret0 _ (Option.some.inj h)
          exact k_fin (fin_ret (.inl rfl) hf10 (vs := [.ref 3 0 0 0, .s (.int .i64 r_3.2.2)]) (by kernel_rfl) (SettL.pure (FzL.tup (FzsL.cons (FzL.whole (g := api_Pins.v) (kd := .grow) (l := ([] : List api_Pins)) (by kernel_rfl) rfl (live_grow (by kernel_rfl))) (FzsL.cons (FzL.stat rfl) FzsL.nil)))))
        · have h := if_f h hc4
          refine k_skip ?_
          refine k_c ?_
          refine k_seq ?_
          refine k_seq ?_
          refine k_reg ?_
          refine mops_sg 2 hf9 (by kernel_rfl) fun f10 hf10 => ?_
          refine mops_adv rfl (v := .s (.int .i64 (ln l_7))) hf10 (by kernel_rfl) (e_len_ref (l := l_7) (B := ⟨v_7, .grow, 6, cat api_Pins.v l_7⟩) (b := 1) (ver := v_7) (n := l_7.length) (by kernel_rfl) rfl (live_grow (by kernel_rfl))) fun f11 hf11 => ?_
          refine mops_en hf11 (by kernel_rfl) fun f12 hf12 => ?_
          refine k_c ?_
          refine k_cond hf12 (t := (decide ((IntKind.wrap .i64 (4096 - (ln l_7))) < r_3.2.1))) (by kernel_rfl) (fun hc5 => ?_) (fun hc5 => ?_)
          · have h := if_t h hc5
            refine k_seq ?_
            refine k_reg ?_
            refine mops_en hf12 (by kernel_rfl) fun f13 hf13 => ?_
            refine k_c ?_
            refine k_ret ?_
            refine x_c nofun ?_
            refine x_br ?_
            refine x_c nofun ?_
            refine x_l nofun ?_
            refine x_br ?_
            refine x_c nofun ?_
            obtain rfl := hret0 _ (Option.some.inj h)
            exact k_fin (fin_ret (.inl rfl) hf13 (vs := [.ref 3 0 0 0, .s (.int .i64 12)]) (by kernel_rfl) (SettL.pure (FzL.tup (FzsL.cons (FzL.whole (g := api_Pins.v) (kd := .grow) (l := ([] : List api_Pins)) (by kernel_rfl) rfl (live_grow (by kernel_rfl))) (FzsL.cons (FzL.stat rfl) FzsL.nil)))))
          · have h := if_f h hc5
            refine k_skip ?_
            refine k_c ?_
            refine k_seq ?_
            refine k_reg ?_
            refine mops_en hf12 (by kernel_rfl) fun f13 hf13 => ?_
            refine k_c ?_
            refine k_block ?_
            obtain ⟨o1, hx1, h⟩ := Option.bind_eq_some_iff.1 h
            have hgo1 : ∀ (l_11 : (List api_Pins)) (t_12 : Int) (t_13 : Bool) (v_11 : Nat), (l_11, t_12, t_13) = o1 → ∀ f, FOk f [⟨2, [], .ref 0 0 0 0⟩, ⟨3, [], .s (.int .i64 0)⟩, ⟨4, [], .ref 1 v_11 0 l_11.length⟩, ⟨6, [], .s (.string (gt r_ t_9))⟩, ⟨7, [], .ptr 2 0 0⟩, ⟨8, [], .s (.int .i64 r_3.2.1)⟩, ⟨9, [], .s (.int .i64 r_3.2.2)⟩, ⟨11, [], .sl false r_.length (cat nS r_)⟩, ⟨12, [], .s (.int .i64 (ln r_))⟩, ⟨13, [], .s (.int .i64 t_9)⟩, ⟨14, [], .s (.bool (decide (t_9 < (ln r_))))⟩, ⟨15, [], .ip ((cat nS r_).drop ((t_9 : Int).toNat * 1))⟩, ⟨16, [], .s (.string (gt r_ t_9))⟩, ⟨17, [], .s (.string (gt r_ t_9))⟩, ⟨18, [], .s (.bool ((gt r_ t_9).toList == (⟨#[]⟩ : ByteArray).toList))⟩, ⟨19, [], .tup [.agg [.s (.bool r_3.1.Reset), .s (.bool r_3.1.Nmi), .s (.bool r_3.1.Firq), .s (.bool r_3.1.Irq), .s (.bool r_3.1.Halt), .s (.bool r_3.1.Req)], .s (.int .i64 r_3.2.1), .s (.int .i64 r_3.2.2)]⟩, ⟨20, [], .s (.string (gt r_ t_9))⟩, ⟨21, [], .tup [.agg [.s (.bool r_3.1.Reset), .s (.bool r_3.1.Nmi), .s (.bool r_3.1.Firq), .s (.bool r_3.1.Irq), .s (.bool r_3.1.Halt), .s (.bool r_3.1.Req)], .s (.int .i64 r_3.2.1), .s (.int .i64 r_3.2.2)]⟩, ⟨22, [], .agg [.s (.bool r_3.1.Reset), .s (.bool r_3.1.Nmi), .s (.bool r_3.1.Firq), .s (.bool r_3.1.Irq), .s (.bool r_3.1.Halt), .s (.bool r_3.1.Req)]⟩, ⟨23, [], .s (.int .i64 r_3.2.1)⟩, ⟨24, [], .s (.int .i64 r_3.2.2)⟩, ⟨25, [], .s (.int .i64 r_3.2.2)⟩, ⟨26, [], .s (.bool (r_3.2.2 != 0))⟩, ⟨28, [], .s (.int .i64 r_3.2.1)⟩, ⟨30, [], .s (.int .i64 (ln l_7))⟩, ⟨31, [], .s (.int .i64 (IntKind.wrap .i64 (4096 - (ln l_7))))⟩, ⟨32, [], .s (.bool (decide ((IntKind.wrap .i64 (4096 - (ln l_7))) < r_3.2.1)))⟩, ⟨33, [], .s (.int .i64 r_3.2.1)⟩, ⟨34, [], .s (.int .i64 t_12)⟩, ⟨35, [], .s (.bool t_13)⟩] → kont Tryd.prog [] (pins_Parse_C r) ((.c pins_Parse_i31) :: (.l R0) :: (.b 0) :: (.c pins_Parse_i38) :: []) .normal f [⟨0, .grow, 6, cat api_Pins.v ([] : List api_Pins)⟩, ⟨v_11, .grow, 6, cat api_Pins.v l_11⟩, ⟨0, .mem, 1, [.s (.bool r_3.1.Reset), .s (.bool r_3.1.Nmi), .s (.bool r_3.1.Firq), .s (.bool r_3.1.Irq), .s (.bool r_3.1.Halt), .s (.bool r_3.1.Req)]⟩] := by
              intro l_11 t_12 t_13 v_11 e f hf
              subst e
              refine k_c ?_
              refine k_reg ?_
              refine mops_en hf (by kernel_rfl) fun f1 hf1 => ?_
              refine k_l' (vs_cut (l := [⟨2, [], .ref 0 0 0 0⟩, ⟨3, [], .s (.int .i64 0)⟩, ⟨4, [], .ref 1 v_11 0 l_11.length⟩, ⟨11, [], .sl false r_.length (cat nS r_)⟩, ⟨12, [], .s (.int .i64 (ln r_))⟩, ⟨13, [], .s (.int .i64 (IntKind.wrap .i64 (t_9 + 1)))⟩]) 2 (by kernel_rfl) (by kernel_rfl) (L' := [⟨0, .grow, 6, cat api_Pins.v ([] : List api_Pins)⟩, ⟨v_11, .grow, 6, cat api_Pins.v l_11⟩]) (by kernel_rfl) ⟨⟨rfl, rfl⟩, ⟨rfl, rfl⟩, ⟨rfl, rfl⟩, ⟨rfl, (static_under _ _ (by simp [V.static, statics, cat_stat, dropcat_stat]))⟩, ⟨rfl, rfl⟩, ⟨rfl, rfl⟩, trivial⟩ ⟨.inr (.inr (statics_unders _ _ (cat_stat _))), .inr (.inr (statics_unders _ _ (cat_stat _))), trivial⟩ (FOk_of [2, 3, 4, 11, 12, 13] hf1 (by kernel_rfl)) fun f hf => ?_)
              exact ih _ _ ⟨l_11, (IntKind.wrap .i64 (t_9 + 1)), v_11, h, hf, rfl⟩
            refine k_loop BIG ?_
            refine loop_ind (fun n f L => ∃ (l_10 : (List api_Pins)) (t_11 : Int) (v_10 : Nat), pins_Parse_l3 r_3 n l_10 t_11 = some o1 ∧ FOk f [⟨2, [], .ref 0 0 0 0⟩, ⟨3, [], .s (.int .i64 0)⟩, ⟨4, [], .ref 1 v_10 0 l_10.length⟩, ⟨6, [], .s (.string (gt r_ t_9))⟩, ⟨7, [], .ptr 2 0 0⟩, ⟨8, [], .s (.int .i64 r_3.2.1)⟩, ⟨9, [], .s (.int .i64 r_3.2.2)⟩, ⟨11, [], .sl false r_.length (cat nS r_)⟩, ⟨12, [], .s (.int .i64 (ln r_))⟩, ⟨13, [], .s (.int .i64 t_9)⟩, ⟨14, [], .s (.bool (decide (t_9 < (ln r_))))⟩, ⟨15, [], .ip ((cat nS r_).drop ((t_9 : Int).toNat * 1))⟩, ⟨16, [], .s (.string (gt r_ t_9))⟩, ⟨17, [], .s (.string (gt r_ t_9))⟩, ⟨18, [], .s (.bool ((gt r_ t_9).toList == (⟨#[]⟩ : ByteArray).toList))⟩, ⟨19, [], .tup [.agg [.s (.bool r_3.1.Reset), .s (.bool r_3.1.Nmi), .s (.bool r_3.1.Firq), .s (.bool r_3.1.Irq), .s (.bool r_3.1.Halt), .s (.bool r_3.1.Req)], .s (.int .i64 r_3.2.1), .s (.int .i64 r_3.2.2)]⟩, ⟨20, [], .s (.string (gt r_ t_9))⟩, ⟨21, [], .tup [.agg [.s (.bool r_3.1.Reset), .s (.bool r_3.1.Nmi), .s (.bool r_3.1.Firq), .s (.bool r_3.1.Irq), .s (.bool r_3.1.Halt), .s (.bool r_3.1.Req)], .s (.int .i64 r_3.2.1), .s (.int .i64 r_3.2.2)]⟩, ⟨22, [], .agg [.s (.bool r_3.1.Reset), .s (.bool r_3.1.Nmi), .s (.bool r_3.1.Firq), .s (.bool r_3.1.Irq), .s (.bool r_3.1.Halt), .s (.bool r_3.1.Req)]⟩, ⟨23, [], .s (.int .i64 r_3.2.1)⟩, ⟨24, [], .s (.int .i64 r_3.2.2)⟩, ⟨25, [], .s (.int .i64 r_3.2.2)⟩, ⟨26, [], .s (.bool (r_3.2.2 != 0))⟩, ⟨28, [], .s (.int .i64 r_3.2.1)⟩, ⟨30, [], .s (.int .i64 (ln l_7))⟩, ⟨31, [], .s (.int .i64 (IntKind.wrap .i64 (4096 - (ln l_7))))⟩, ⟨32, [], .s (.bool (decide ((IntKind.wrap .i64 (4096 - (ln l_7))) < r_3.2.1)))⟩, ⟨33, [], .s (.int .i64 r_3.2.1)⟩, ⟨34, [], .s (.int .i64 t_11)⟩] ∧ L = [⟨0, .grow, 6, cat api_Pins.v ([] : List api_Pins)⟩, ⟨v_10, .grow, 6, cat api_Pins.v l_10⟩, ⟨0, .mem, 1, [.s (.bool r_3.1.Reset), .s (.bool r_3.1.Nmi), .s (.bool r_3.1.Firq), .s (.bool r_3.1.Irq), .s (.bool r_3.1.Halt), .s (.bool r_3.1.Req)]⟩]) ?_ ?_ BIG _ _ ⟨l_7, (0), v_7, hx1, FOk_of [2, 3, 4, 6, 7, 8, 9, 11, 12, 13, 14, 15, 16, 17, 18, 19, 20, 21, 22, 23, 24, 25, 26, 28, 30, 31, 32, 33, 34] hf13 (by kernel_rfl), (by kernel_rfl)⟩
            · rintro f L ⟨l_10, t_11, v_10, h, _⟩
              cases (show (none : Option _) = some _ from h)
            · rintro n1 R1 ih f L ⟨l_10, t_11, v_10, h, hf, rfl⟩
              rw [pins_Parse_l3] at h
              refine k_seq ?_
              refine k_reg ?_
              refine mops_en hf (by kernel_rfl) fun f1 hf1 => ?_
              refine k_c ?_
              refine k_seq ?_
              refine k_cond hf1 (t := (decide (t_11 < r_3.2.1))) (by kernel_rfl) (fun hc6 => ?_) (fun hc6 => ?_)
              · have h := if_t h hc6
                refine k_skip ?_
                refine k_c ?_
                refine k_seq ?_
                refine k_block ?_
                refine k_reg ?_
                refine mops_sg 3 hf1 (by kernel_rfl) fun f2 hf2 => ?_
                obtain ⟨c7, h⟩ := as_ok h
                refine mops_adv rfl (v := .ref 1 (v_10 + 1) 0 (l_10 ++ [r_3.1]).length) hf2 (by kernel_rfl) (e_app (g := api_Pins.v) (l := l_10) (l' := [r_3.1]) (b := 1) (ver := v_10) (n := l_10.length) rfl (by kernel_rfl) rfl (live_grow (by kernel_rfl)) (sll_ev (v := .ref 3 0 0 1) (by kernel_rfl) (sll_ref (B := ⟨0, .grow, 6, cat api_Pins.v [r_3.1]⟩) (by kernel_rfl) (live_grow (by kernel_rfl)))) (slc_ev (v := .ref 3 0 0 1) (by kernel_rfl) (slc_ref (g := api_Pins.v) (l := [r_3.1]) (kd := .grow) (q := 6) (by kernel_rfl) (live_grow (by kernel_rfl)))) c7) fun f3 hf3 => ?_
                refine mops_en hf3 (by kernel_rfl) fun f4 hf4 => ?_
                refine k_b ?_
                refine k_c ?_
                refine k_reg ?_
                refine mops_en hf4 (by kernel_rfl) fun f5 hf5 => ?_
                refine k_l' (vs_cut (l := [⟨2, [], .ref 0 0 0 0⟩, ⟨3, [], .s (.int .i64 0)⟩, ⟨4, [], .ref 1 (v_10 + 1) 0 (l_10 ++ [r_3.1]).length⟩, ⟨6, [], .s (.string (gt r_ t_9))⟩, ⟨7, [], .ptr 2 0 0⟩, ⟨8, [], .s (.int .i64 r_3.2.1)⟩, ⟨9, [], .s (.int .i64 r_3.2.2)⟩, ⟨11, [], .sl false r_.length (cat nS r_)⟩, ⟨12, [], .s (.int .i64 (ln r_))⟩, ⟨13, [], .s (.int .i64 t_9)⟩, ⟨14, [], .s (.bool (decide (t_9 < (ln r_))))⟩, ⟨15, [], .ip ((cat nS r_).drop ((t_9 : Int).toNat * 1))⟩, ⟨16, [], .s (.string (gt r_ t_9))⟩, ⟨17, [], .s (.string (gt r_ t_9))⟩, ⟨18, [], .s (.bool ((gt r_ t_9).toList == (⟨#[]⟩ : ByteArray).toList))⟩, ⟨19, [], .tup [.agg [.s (.bool r_3.1.Reset), .s (.bool r_3.1.Nmi), .s (.bool r_3.1.Firq), .s (.bool r_3.1.Irq), .s (.bool r_3.1.Halt), .s (.bool r_3.1.Req)], .s (.int .i64 r_3.2.1), .s (.int .i64 r_3.2.2)]⟩, ⟨20, [], .s (.string (gt r_ t_9))⟩, ⟨21, [], .tup [.agg [.s (.bool r_3.1.Reset), .s (.bool r_3.1.Nmi), .s (.bool r_3.1.Firq), .s (.bool r_3.1.Irq), .s (.bool r_3.1.Halt), .s (.bool r_3.1.Req)], .s (.int .i64 r_3.2.1), .s (.int .i64 r_3.2.2)]⟩, ⟨22, [], .agg [.s (.bool r_3.1.Reset), .s (.bool r_3.1.Nmi), .s (.bool r_3.1.Firq), .s (.bool r_3.1.Irq), .s (.bool r_3.1.Halt), .s (.bool r_3.1.Req)]⟩, ⟨23, [], .s (.int .i64 r_3.2.1)⟩, ⟨24, [], .s (.int .i64 r_3.2.2)⟩, ⟨25, [], .s (.int .i64 r_3.2.2)⟩, ⟨26, [], .s (.bool (r_3.2.2 != 0))⟩, ⟨28, [], .s (.int .i64 r_3.2.1)⟩, ⟨30, [], .s (.int .i64 (ln l_7))⟩, ⟨31, [], .s (.int .i64 (IntKind.wrap .i64 (4096 - (ln l_7))))⟩, ⟨32, [], .s (.bool (decide ((IntKind.wrap .i64 (4096 - (ln l_7))) < r_3.2.1)))⟩, ⟨33, [], .s (.int .i64 r_3.2.1)⟩, ⟨34, [], .s (.int .i64 (IntKind.wrap .i64 (t_11 + 1)))⟩]) 3 (by kernel_rfl) (by kernel_rfl) (L' := [⟨0, .grow, 6, cat api_Pins.v ([] : List api_Pins)⟩, ⟨(v_10 + 1), .grow, 6, cat api_Pins.v (l_10 ++ [r_3.1])⟩, ⟨0, .mem, 1, [.s (.bool r_3.1.Reset), .s (.bool r_3.1.Nmi), .s (.bool r_3.1.Firq), .s (.bool r_3.1.Irq), .s (.bool r_3.1.Halt), .s (.bool r_3.1.Req)]⟩]) (by kernel_rfl) ⟨⟨rfl, rfl⟩, ⟨rfl, rfl⟩, ⟨rfl, rfl⟩, ⟨rfl, rfl⟩, ⟨rfl, rfl⟩, ⟨rfl, rfl⟩, ⟨rfl, rfl⟩, ⟨rfl, (static_under _ _ (by simp [V.static, statics, cat_stat, dropcat_stat]))⟩, ⟨rfl, rfl⟩, ⟨rfl, rfl⟩, ⟨rfl, rfl⟩, ⟨rfl, (static_under _ _ (by simp [V.static, statics, cat_stat, dropcat_stat]))⟩, ⟨rfl, rfl⟩, ⟨rfl, rfl⟩, ⟨rfl, rfl⟩, ⟨rfl, rfl⟩, ⟨rfl, rfl⟩, ⟨rfl, rfl⟩, ⟨rfl, rfl⟩, ⟨rfl, rfl⟩, ⟨rfl, rfl⟩, ⟨rfl, rfl⟩, ⟨rfl, rfl⟩, ⟨rfl, rfl⟩, ⟨rfl, rfl⟩, ⟨rfl, rfl⟩, ⟨rfl, rfl⟩, ⟨rfl, rfl⟩, ⟨rfl, rfl⟩, trivial⟩ ⟨.inr (.inr (statics_unders _ _ (cat_stat _))), .inr (.inr (statics_unders _ _ (cat_stat _))), .inr (.inr rfl), trivial⟩ (FOk_of [2, 3, 4, 6, 7, 8, 9, 11, 12, 13, 14, 15, 16, 17, 18, 19, 20, 21, 22, 23, 24, 25, 26, 28, 30, 31, 32, 33, 34] hf5 (by kernel_rfl)) fun f hf => ?_)
                exact ih _ _ ⟨(l_10 ++ [r_3.1]), (IntKind.wrap .i64 (t_11 + 1)), (v_10 + 1), h, hf, rfl⟩
              · have h := if_f h hc6
                refine k_exit ?_
                refine x_c nofun ?_
                refine x_l nofun ?_
                refine x_b ?_
                refine k_b ?_
                refine k_hp (L' := [⟨0, .grow, 6, cat api_Pins.v ([] : List api_Pins)⟩, ⟨v_10, .grow, 6, cat api_Pins.v l_10⟩, ⟨0, .mem, 1, [.s (.bool r_3.1.Reset), .s (.bool r_3.1.Nmi), .s (.bool r_3.1.Firq), .s (.bool r_3.1.Irq), .s (.bool r_3.1.Halt), .s (.bool r_3.1.Req)]⟩]) (by kernel_rfl) ?_
                exact hgo1 l_10 t_11 (decide (t_11 < r_3.2.1)) v_10 (Option.some.inj h) _ (FOk_of [2, 3, 4, 6, 7, 8, 9, 11, 12, 13, 14, 15, 16, 17, 18, 19, 20, 21, 22, 23, 24, 25, 26, 28, 30, 31, 32, 33, 34, 35] hf1 (by kernel_rfl))
    · have h := if_f h hc1
      refine k_exit ?_
      refine x_c nofun ?_
      refine x_l nofun ?_
      refine x_b ?_
      refine k_hp (L' := [⟨0, .grow, 6, cat api_Pins.v ([] : List api_Pins)⟩, ⟨v_7, .grow, 6, cat api_Pins.v l_7⟩]) (by kernel_rfl) ?_
      exact hgo0 l_7 v_7 (Option.some.inj h) _ (FOk_of [2, 3, 4] hf1 (by kernel_rfl))
end Go.Proofs.YthhjooegpjgicaaDoorK
