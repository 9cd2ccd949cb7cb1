/- The Go functions come to the functions over typed data. Printed by a program of this work. -/
import Derived.Test.YtmabdijipkmmkaaF
import Derived.Test.YtmabdijipkmmkaaProg
import Derived.Test.YtmabdijipkmmkaaG0
import Derived.Test.YtmabdijipkmmkaaG1
import Derived.Test.YtmabdijipkmmkaaG3
import Derived.Test.YtmabdijipkmmkaaG4
namespace Go.Proofs.YtmabdijipkmmkaaK
set_option linter.unusedVariables false
set_option linter.unusedSimpArgs false
set_option maxHeartbeats 4000000
open Go.RowKit
attribute [local irreducible] dwv mops lops lqops lwops kont iter run runK rk okK ex E1 vals val chain chB sel resF
def page_first_i0 : List Op1 := [(oE 2 (.zero [(.int .i64 0), (.int .i64 0), (.int .i64 0)]) [])]
def page_first_i1 : List Op1 := [(oM 5 (.t 0) []), (oE 6 (.bin .shr (.t 5) (.k (.int .u64 4))) [0]), (oM 7 (.t 0) []), (oE 8 (.bin .and (.t 7) (.k (.int .u8 15))) [2]), (oM 3 (.t 6) [1, 0, 1]), (oM 4 (.t 8) [3, 4, 0, 1, 2, 3, 4])]
def page_first_i2 : List Op1 := [(oM 9 (.t 3) [])]
def page_first_i3 : List Op1 := [(oE 11 (.bin .eql (.t 9) (.k (.int .u8 0))) []), (oM 10 (.t 11) [0])]
def page_first_i4 : List Op1 := [(oM 12 (.t 4) []), (oC 13 35 [(.t 12), (.k (.int .i64 3))] [0]), (oN (.store 3 (.t 2) (.t 13)) [1, 1, 0, 1])]
def page_first_i5 : IR := .ret
def page_first_i6 : List Op1 := [(oE 15 (.bin .eql (.t 9) (.k (.int .u8 1))) []), (oM 14 (.t 15) [0])]
def page_first_i7 : List Op1 := [(oM 16 (.t 4) []), (oC 17 36 [(.t 16)] [0]), (oN (.store 3 (.t 2) (.t 17)) [1, 1, 0, 1])]
def page_first_i8 : IR := .ret
def page_first_i9 : List Op1 := [(oE 19 (.bin .eql (.t 9) (.k (.int .u8 2))) []), (oM 18 (.t 19) [0])]
def page_first_i10 : List Op1 := [(oM 20 (.t 4) []), (oE 21 (.cint .i64 (.t 20)) [0]), (oE 22 (.build [(.int .i64 0), (.int .i64 0), (.int .i64 0)] [(0, (1, (.k (.int .i64 34)))), (1, (1, (.k (.int .i64 6)))), (2, (1, (.t 21)))]) [1]), (oN (.store 3 (.t 2) (.t 22)) [2, 0, 1, 2])]
def page_first_i11 : IR := .ret
def page_first_i12 : List Op1 := [(oE 24 (.bin .eql (.t 9) (.k (.int .u8 3))) []), (oM 23 (.t 24) [0])]
def page_first_i13 : List Op1 := [(oM 25 (.t 4) []), (oC 26 37 [(.t 25)] [0]), (oN (.store 3 (.t 2) (.t 26)) [1, 1, 0, 1])]
def page_first_i14 : IR := .ret
def page_first_i15 : List Op1 := [(oE 28 (.bin .eql (.t 9) (.k (.int .u8 4))) []), (oM 27 (.t 28) [0])]
def page_first_i16 : List Op1 := [(oM 29 (.t 4) []), (oC 30 38 [(.t 29), (.k (.int .i64 8))] [0]), (oN (.store 3 (.t 2) (.t 30)) [1, 1, 0, 1])]
def page_first_i17 : IR := .ret
def page_first_i18 : List Op1 := [(oE 32 (.bin .eql (.t 9) (.k (.int .u8 5))) []), (oM 31 (.t 32) [0])]
def page_first_i19 : List Op1 := [(oM 33 (.t 4) []), (oC 34 38 [(.t 33), (.k (.int .i64 9))] [0]), (oN (.store 3 (.t 2) (.t 34)) [1, 1, 0, 1])]
def page_first_i20 : IR := .ret
def page_first_i21 : List Op1 := [(oE 36 (.bin .eql (.t 9) (.k (.int .u8 6))) []), (oM 35 (.t 36) [0])]
def page_first_i22 : List Op1 := [(oM 37 (.t 4) []), (oC 38 35 [(.t 37), (.k (.int .i64 4))] [0]), (oN (.store 3 (.t 2) (.t 38)) [1, 1, 0, 1])]
def page_first_i23 : IR := .ret
def page_first_i24 : List Op1 := [(oE 40 (.bin .eql (.t 9) (.k (.int .u8 7))) []), (oM 39 (.t 40) [0])]
def page_first_i25 : List Op1 := [(oM 41 (.t 4) []), (oC 42 35 [(.t 41), (.k (.int .i64 5))] [0]), (oN (.store 3 (.t 2) (.t 42)) [1, 1, 0, 1])]
def page_first_i26 : IR := .ret
def page_first_i27 : IR := (.cond (.t 39) (.seq (.reg false page_first_i25) page_first_i26) .skip)
def page_first_i28 : IR := (.cond (.t 35) (.seq (.reg false page_first_i22) page_first_i23) (.seq (.reg false page_first_i24) page_first_i27))
def page_first_i29 : IR := (.cond (.t 31) (.seq (.reg false page_first_i19) page_first_i20) (.seq (.reg false page_first_i21) page_first_i28))
def page_first_i30 : IR := (.cond (.t 27) (.seq (.reg false page_first_i16) page_first_i17) (.seq (.reg false page_first_i18) page_first_i29))
def page_first_i31 : IR := (.cond (.t 23) (.seq (.reg false page_first_i13) page_first_i14) (.seq (.reg false page_first_i15) page_first_i30))
def page_first_i32 : IR := (.cond (.t 18) (.seq (.reg false page_first_i10) page_first_i11) (.seq (.reg false page_first_i12) page_first_i31))
def page_first_i33 : IR := (.cond (.t 14) (.seq (.reg false page_first_i7) page_first_i8) (.seq (.reg false page_first_i9) page_first_i32))
def page_first_i34 : IR := (.cond (.t 10) (.seq (.reg false page_first_i4) page_first_i5) (.seq (.reg false page_first_i6) page_first_i33))
def page_first_i35 : IR := (.block 0 (.seq (.reg false page_first_i3) page_first_i34))
def page_first_i36 : List Op1 := [(oM 43 (.t 3) []), (oM 44 (.t 4) []), (oC 45 39 [(.t 43), (.t 44)] [0, 1]), (oN (.store 3 (.t 2) (.t 45)) [2, 2, 0, 1, 2])]
def page_first_i37 : IR := .ret
def page_first_i38 : IR := (.seq (.reg false page_first_i36) page_first_i37)
def page_first_i39 : IR := (.seq (.seq (.reg false page_first_i2) page_first_i35) page_first_i38)
def page_first_i40 : IR := (.seq (.reg false page_first_i1) page_first_i39)
def page_first_ir : IR := (.seq (.reg false page_first_i0) page_first_i40)
theorem page_first_cfn : cFn Try.prog 25 = some (page_first_ir, [(.c 2 true 3)], 46) := by kernel_rfl
def page_first_V (r : (api_Entry)) : V := .agg [.s (.int .i64 r.Op), .s (.int .i64 r.Mode), .s (.int .i64 r.Reg)]
def page_first_C (r : (api_Entry)) : X → Fr → Hp → Prop := FinL [(.c 2 true 3)] [] (page_first_V r) []
theorem page_first_ok (code_ : Int) (r : (api_Entry)) (h : page_first code_ = some r) : Pure Try.prog 25 [.s (.int .u8 code_)] (page_first_V r) := by
  refine ConL.of page_first_cfn (Nat.le_of_ble_eq_true (by kernel_rfl)) (Nat.le_of_ble_eq_true (by kernel_rfl)) ?_
  refine k_start ?_
  show dwv Try.prog [] page_first_ir (kont Try.prog [] (page_first_C r) []) (fr0 [.s (.int .u8 code_)]) []
  have hf : FOk (fr0 [.s (.int .u8 code_)]) [⟨0, [], .s (.int .u8 code_)⟩] := ⟨⟨fun _ => rfl, fun h => (h trivial).elim⟩, trivial⟩
  generalize fr0 [.s (.int .u8 code_)] = f at hf ⊢
  unfold page_first at h
  refine k_seq ?_
  refine k_reg ?_
  refine mops_en hf (by kernel_rfl) fun f1 hf1 => ?_
  refine k_c ?_
  refine k_seq ?_
  refine k_reg ?_
  refine mops_en hf1 (by kernel_rfl) fun f2 hf2 => ?_
  refine k_c ?_
  refine k_seq ?_
  refine k_seq ?_
  refine k_reg ?_
  refine mops_en hf2 (by kernel_rfl) fun f3 hf3 => ?_
  refine k_c ?_
  refine k_block ?_
  refine k_seq ?_
  refine k_reg ?_
  refine mops_en hf3 (by kernel_rfl) fun f4 hf4 => ?_
  refine k_c ?_
  refine k_cond hf4 (t := ((Int.fdiv code_ (2 ^ (4))) == 0)) (by kernel_rfl) (fun hc1 => ?_) (fun hc1 => ?_)
  · have h := if_t h hc1
    refine k_seq ?_
    refine k_reg ?_
    refine mops_sg 1 hf4 (by kernel_rfl) fun f5 hf5 => ?_
    obtain ⟨r_, hx_r_, h⟩ := Option.bind_eq_some_iff.1 h
    refine mops_call rfl hf5 (av := [.s (.int .u8 (bits .and .u8 code_ 15)), .s (.int .i64 3)]) (by kernel_rfl) (v := .agg [.s (.int .i64 r_.Op), .s (.int .i64 r_.Mode), .s (.int .i64 r_.Reg)]) (CalL.pure (page_memory_ok (bits .and .u8 code_ 15) (3) r_ hx_r_) rfl rfl (Nat.le_of_ble_eq_true (by kernel_rfl))) (fun _ => rfl) fun f6 hf6 => ?_
    refine mops_en hf6 (by kernel_rfl) fun f7 hf7 => ?_
    refine k_c ?_
    refine k_ret ?_
    refine x_br ?_
    refine x_c nofun ?_
    obtain rfl := Option.some.inj h
    exact k_fin (fin_ret (.inl rfl) hf7 (vs := [.agg [.s (.int .i64 r_.Op), .s (.int .i64 r_.Mode), .s (.int .i64 r_.Reg)]]) (by kernel_rfl) (SettL.pure (FzL.stat rfl)))
  · have h := if_f h hc1
    refine k_seq ?_
    refine k_reg ?_
    refine mops_en hf4 (by kernel_rfl) fun f5 hf5 => ?_
    refine k_c ?_
    refine k_cond hf5 (t := ((Int.fdiv code_ (2 ^ (4))) == 1)) (by kernel_rfl) (fun hc2 => ?_) (fun hc2 => ?_)
    · have h := if_t h hc2
      refine k_seq ?_
      refine k_reg ?_
      refine mops_sg 1 hf5 (by kernel_rfl) fun f6 hf6 => ?_
      obtain ⟨r_1, hx_r_1, h⟩ := Option.bind_eq_some_iff.1 h
      refine mops_call rfl hf6 (av := [.s (.int .u8 (bits .and .u8 code_ 15))]) (by kernel_rfl) (v := .agg [.s (.int .i64 r_1.Op), .s (.int .i64 r_1.Mode), .s (.int .i64 r_1.Reg)]) (CalL.pure (page_tens_ok (bits .and .u8 code_ 15) r_1 hx_r_1) rfl rfl (Nat.le_of_ble_eq_true (by kernel_rfl))) (fun _ => rfl) fun f7 hf7 => ?_
      refine mops_en hf7 (by kernel_rfl) fun f8 hf8 => ?_
      refine k_c ?_
      refine k_ret ?_
      refine x_br ?_
      refine x_c nofun ?_
      obtain rfl := Option.some.inj h
      exact k_fin (fin_ret (.inl rfl) hf8 (vs := [.agg [.s (.int .i64 r_1.Op), .s (.int .i64 r_1.Mode), .s (.int .i64 r_1.Reg)]]) (by kernel_rfl) (SettL.pure (FzL.stat rfl)))
    · have h := if_f h hc2
      refine k_seq ?_
      refine k_reg ?_
      refine mops_en hf5 (by kernel_rfl) fun f6 hf6 => ?_
      refine k_c ?_
      refine k_cond hf6 (t := ((Int.fdiv code_ (2 ^ (4))) == 2)) (by kernel_rfl) (fun hc3 => ?_) (fun hc3 => ?_)
      · have h := if_t h hc3
        refine k_seq ?_
        refine k_reg ?_
        refine mops_en hf6 (by kernel_rfl) fun f7 hf7 => ?_
        refine k_c ?_
        refine k_ret ?_
        refine x_br ?_
        refine x_c nofun ?_
        obtain rfl := Option.some.inj h
        exact k_fin (fin_ret (.inl rfl) hf7 (vs := [.agg [.s (.int .i64 34), .s (.int .i64 6), .s (.int .i64 (IntKind.wrap .i64 (bits .and .u8 code_ 15)))]]) (by kernel_rfl) (SettL.pure (FzL.stat rfl)))
      · have h := if_f h hc3
        refine k_seq ?_
        refine k_reg ?_
        refine mops_en hf6 (by kernel_rfl) fun f7 hf7 => ?_
        refine k_c ?_
        refine k_cond hf7 (t := ((Int.fdiv code_ (2 ^ (4))) == 3)) (by kernel_rfl) (fun hc4 => ?_) (fun hc4 => ?_)
        · have h := if_t h hc4
          refine k_seq ?_
          refine k_reg ?_
          refine mops_sg 1 hf7 (by kernel_rfl) fun f8 hf8 => ?_
          obtain ⟨r_2, hx_r_2, h⟩ := Option.bind_eq_some_iff.1 h
          refine mops_call rfl hf8 (av := [.s (.int .u8 (bits .and .u8 code_ 15))]) (by kernel_rfl) (v := .agg [.s (.int .i64 r_2.Op), .s (.int .i64 r_2.Mode), .s (.int .i64 r_2.Reg)]) (CalL.pure (page_thirties_ok (bits .and .u8 code_ 15) r_2 hx_r_2) rfl rfl (Nat.le_of_ble_eq_true (by kernel_rfl))) (fun _ => rfl) fun f9 hf9 => ?_
          refine mops_en hf9 (by kernel_rfl) fun f10 hf10 => ?_
          refine k_c ?_
          refine k_ret ?_
          refine x_br ?_
          refine x_c nofun ?_
          obtain rfl := Option.some.inj h
          exact k_fin (fin_ret (.inl rfl) hf10 (vs := [.agg [.s (.int .i64 r_2.Op), .s (.int .i64 r_2.Mode), .s (.int .i64 r_2.Reg)]]) (by kernel_rfl) (SettL.pure (FzL.stat rfl)))
        · have h := if_f h hc4
          refine k_seq ?_
          refine k_reg ?_
          refine mops_en hf7 (by kernel_rfl) fun f8 hf8 => ?_
          refine k_c ?_
          refine k_cond hf8 (t := ((Int.fdiv code_ (2 ^ (4))) == 4)) (by kernel_rfl) (fun hc5 => ?_) (fun hc5 => ?_)
          · have h := if_t h hc5
            refine k_seq ?_
            refine k_reg ?_
            refine mops_sg 1 hf8 (by kernel_rfl) fun f9 hf9 => ?_
            obtain ⟨r_3, hx_r_3, h⟩ := Option.bind_eq_some_iff.1 h
            refine mops_call rfl hf9 (av := [.s (.int .u8 (bits .and .u8 code_ 15)), .s (.int .i64 8)]) (by kernel_rfl) (v := .agg [.s (.int .i64 r_3.Op), .s (.int .i64 r_3.Mode), .s (.int .i64 r_3.Reg)]) (CalL.pure (page_inside_ok (bits .and .u8 code_ 15) (8) r_3 hx_r_3) rfl rfl (Nat.le_of_ble_eq_true (by kernel_rfl))) (fun _ => rfl) fun f10 hf10 => ?_
            refine mops_en hf10 (by kernel_rfl) fun f11 hf11 => ?_
            refine k_c ?_
            refine k_ret ?_
            refine x_br ?_
            refine x_c nofun ?_
            obtain rfl := Option.some.inj h
            exact k_fin (fin_ret (.inl rfl) hf11 (vs := [.agg [.s (.int .i64 r_3.Op), .s (.int .i64 r_3.Mode), .s (.int .i64 r_3.Reg)]]) (by kernel_rfl) (SettL.pure (FzL.stat rfl)))
          · have h := if_f h hc5
            refine k_seq ?_
            refine k_reg ?_
            refine mops_en hf8 (by kernel_rfl) fun f9 hf9 => ?_
            refine k_c ?_
            refine k_cond hf9 (t := ((Int.fdiv code_ (2 ^ (4))) == 5)) (by kernel_rfl) (fun hc6 => ?_) (fun hc6 => ?_)
            · have h := if_t h hc6
              refine k_seq ?_
              refine k_reg ?_
              refine mops_sg 1 hf9 (by kernel_rfl) fun f10 hf10 => ?_
              obtain ⟨r_4, hx_r_4, h⟩ := Option.bind_eq_some_iff.1 h
              refine mops_call rfl hf10 (av := [.s (.int .u8 (bits .and .u8 code_ 15)), .s (.int .i64 9)]) (by kernel_rfl) (v := .agg [.s (.int .i64 r_4.Op), .s (.int .i64 r_4.Mode), .s (.int .i64 r_4.Reg)]) (CalL.pure (page_inside_ok (bits .and .u8 code_ 15) (9) r_4 hx_r_4) rfl rfl (Nat.le_of_ble_eq_true (by kernel_rfl))) (fun _ => rfl) fun f11 hf11 => ?_
              refine mops_en hf11 (by kernel_rfl) fun f12 hf12 => ?_
              refine k_c ?_
              refine k_ret ?_
              refine x_br ?_
              refine x_c nofun ?_
              obtain rfl := Option.some.inj h
              exact k_fin (fin_ret (.inl rfl) hf12 (vs := [.agg [.s (.int .i64 r_4.Op), .s (.int .i64 r_4.Mode), .s (.int .i64 r_4.Reg)]]) (by kernel_rfl) (SettL.pure (FzL.stat rfl)))
            · have h := if_f h hc6
              refine k_seq ?_
              refine k_reg ?_
              refine mops_en hf9 (by kernel_rfl) fun f10 hf10 => ?_
              refine k_c ?_
              refine k_cond hf10 (t := ((Int.fdiv code_ (2 ^ (4))) == 6)) (by kernel_rfl) (fun hc7 => ?_) (fun hc7 => ?_)
              · have h := if_t h hc7
                refine k_seq ?_
                refine k_reg ?_
                refine mops_sg 1 hf10 (by kernel_rfl) fun f11 hf11 => ?_
                obtain ⟨r_5, hx_r_5, h⟩ := Option.bind_eq_some_iff.1 h
                refine mops_call rfl hf11 (av := [.s (.int .u8 (bits .and .u8 code_ 15)), .s (.int .i64 4)]) (by kernel_rfl) (v := .agg [.s (.int .i64 r_5.Op), .s (.int .i64 r_5.Mode), .s (.int .i64 r_5.Reg)]) (CalL.pure (page_memory_ok (bits .and .u8 code_ 15) (4) r_5 hx_r_5) rfl rfl (Nat.le_of_ble_eq_true (by kernel_rfl))) (fun _ => rfl) fun f12 hf12 => ?_
                refine mops_en hf12 (by kernel_rfl) fun f13 hf13 => ?_
                refine k_c ?_
                refine k_ret ?_
                refine x_br ?_
                refine x_c nofun ?_
                obtain rfl := Option.some.inj h
                exact k_fin (fin_ret (.inl rfl) hf13 (vs := [.agg [.s (.int .i64 r_5.Op), .s (.int .i64 r_5.Mode), .s (.int .i64 r_5.Reg)]]) (by kernel_rfl) (SettL.pure (FzL.stat rfl)))
              · have h := if_f h hc7
                refine k_seq ?_
                refine k_reg ?_
                refine mops_en hf10 (by kernel_rfl) fun f11 hf11 => ?_
                refine k_c ?_
                refine k_cond hf11 (t := ((Int.fdiv code_ (2 ^ (4))) == 7)) (by kernel_rfl) (fun hc8 => ?_) (fun hc8 => ?_)
                · have h := if_t h hc8
                  refine k_seq ?_
                  refine k_reg ?_
                  refine mops_sg 1 hf11 (by kernel_rfl) fun f12 hf12 => ?_
                  obtain ⟨r_6, hx_r_6, h⟩ := Option.bind_eq_some_iff.1 h
                  refine mops_call rfl hf12 (av := [.s (.int .u8 (bits .and .u8 code_ 15)), .s (.int .i64 5)]) (by kernel_rfl) (v := .agg [.s (.int .i64 r_6.Op), .s (.int .i64 r_6.Mode), .s (.int .i64 r_6.Reg)]) (CalL.pure (page_memory_ok (bits .and .u8 code_ 15) (5) r_6 hx_r_6) rfl rfl (Nat.le_of_ble_eq_true (by kernel_rfl))) (fun _ => rfl) fun f13 hf13 => ?_
                  refine mops_en hf13 (by kernel_rfl) fun f14 hf14 => ?_
                  refine k_c ?_
                  refine k_ret ?_
                  refine x_br ?_
                  refine x_c nofun ?_
                  obtain rfl := Option.some.inj h
                  exact k_fin (fin_ret (.inl rfl) hf14 (vs := [.agg [.s (.int .i64 r_6.Op), .s (.int .i64 r_6.Mode), .s (.int .i64 r_6.Reg)]]) (by kernel_rfl) (SettL.pure (FzL.stat rfl)))
                · have h := if_f h hc8
                  refine k_skip ?_
                  refine k_b ?_
                  refine k_c ?_
                  refine k_seq ?_
                  refine k_reg ?_
                  refine mops_sg 2 hf11 (by kernel_rfl) fun f12 hf12 => ?_
                  obtain ⟨r_7, hx_r_7, h⟩ := Option.bind_eq_some_iff.1 h
                  refine mops_call rfl hf12 (av := [.s (.int .u8 (Int.fdiv code_ (2 ^ (4)))), .s (.int .u8 (bits .and .u8 code_ 15))]) (by kernel_rfl) (v := .agg [.s (.int .i64 r_7.Op), .s (.int .i64 r_7.Mode), .s (.int .i64 r_7.Reg)]) (CalL.pure (page_columns_ok (Int.fdiv code_ (2 ^ (4))) (bits .and .u8 code_ 15) r_7 hx_r_7) rfl rfl (Nat.le_of_ble_eq_true (by kernel_rfl))) (fun _ => rfl) fun f13 hf13 => ?_
                  refine mops_en hf13 (by kernel_rfl) fun f14 hf14 => ?_
                  refine k_c ?_
                  refine k_ret ?_
                  obtain rfl := Option.some.inj h
                  exact k_fin (fin_ret (.inl rfl) hf14 (vs := [.agg [.s (.int .i64 r_7.Op), .s (.int .i64 r_7.Mode), .s (.int .i64 r_7.Reg)]]) (by kernel_rfl) (SettL.pure (FzL.stat rfl)))
def inst_behind_i0 : List Op1 := [(oM 4 (.k (.int .i64 0)) []), (oM 5 (.k (.bool false)) [0])]
def inst_behind_i1 : List Op1 := [(oM 6 (.t 0) [])]
def inst_behind_i2 : List Op1 := [(oE 8 (.bin .eql (.t 6) (.k (.int .i64 1))) []), (oM 7 (.t 8) [0])]
def inst_behind_i3 : List Op1 := [(oE 9 (.bin .eql (.t 6) (.k (.int .i64 3))) []), (oM 7 (.t 9) [0])]
def inst_behind_i4 : IR := (.cond (.t 7) .skip (.reg false inst_behind_i3))
def inst_behind_i5 : List Op1 := [(oM 4 (.k (.int .i64 1)) []), (oM 5 (.k (.bool false)) [0, 0])]
def inst_behind_i6 : IR := .ret
def inst_behind_i7 : List Op1 := [(oE 11 (.bin .eql (.t 6) (.k (.int .i64 2))) []), (oM 10 (.t 11) [0])]
def inst_behind_i8 : List Op1 := [(oE 12 (.bin .eql (.t 6) (.k (.int .i64 5))) []), (oM 10 (.t 12) [0])]
def inst_behind_i9 : List Op1 := [(oE 13 (.bin .eql (.t 6) (.k (.int .i64 7))) []), (oM 10 (.t 13) [0])]
def inst_behind_i10 : IR := (.cond (.t 10) .skip (.reg false inst_behind_i9))
def inst_behind_i11 : IR := (.cond (.t 10) .skip (.seq (.reg false inst_behind_i8) inst_behind_i10))
def inst_behind_i12 : List Op1 := [(oM 4 (.k (.int .i64 2)) []), (oM 5 (.k (.bool false)) [0, 0])]
def inst_behind_i13 : IR := .ret
def inst_behind_i14 : List Op1 := [(oE 15 (.bin .eql (.t 6) (.k (.int .i64 6))) []), (oM 14 (.t 15) [0])]
def inst_behind_i15 : List Op1 := [(oM 4 (.k (.int .i64 1)) []), (oM 5 (.k (.bool true)) [0, 0])]
def inst_behind_i16 : IR := .ret
def inst_behind_i17 : List Op1 := [(oE 17 (.bin .eql (.t 6) (.k (.int .i64 4))) []), (oM 16 (.t 17) [0])]
def inst_behind_i18 : List Op1 := [(oM 18 (.t 1) []), (oC 19 28 [(.t 18)] [0]), (oC 20 29 [(.t 19)] [1, 1]), (oM 4 (.t 20) [2, 2, 0, 1, 2]), (oM 5 (.k (.bool true)) [3, 0, 1, 2, 3])]
def inst_behind_i19 : IR := .ret
def inst_behind_i20 : IR := (.cond (.t 16) (.seq (.reg false inst_behind_i18) inst_behind_i19) .skip)
def inst_behind_i21 : IR := (.cond (.t 14) (.seq (.reg false inst_behind_i15) inst_behind_i16) (.seq (.reg false inst_behind_i17) inst_behind_i20))
def inst_behind_i22 : IR := (.cond (.t 10) (.seq (.reg false inst_behind_i12) inst_behind_i13) (.seq (.reg false inst_behind_i14) inst_behind_i21))
def inst_behind_i23 : IR := (.cond (.t 7) (.seq (.reg false inst_behind_i5) inst_behind_i6) (.seq (.seq (.reg false inst_behind_i7) inst_behind_i11) inst_behind_i22))
def inst_behind_i24 : IR := (.block 0 (.seq (.seq (.reg false inst_behind_i2) inst_behind_i4) inst_behind_i23))
def inst_behind_i25 : List Op1 := [(oM 4 (.k (.int .i64 0)) []), (oM 5 (.k (.bool false)) [0, 0])]
def inst_behind_i26 : IR := .ret
def inst_behind_i27 : IR := (.seq (.reg false inst_behind_i25) inst_behind_i26)
def inst_behind_i28 : IR := (.seq (.seq (.reg false inst_behind_i1) inst_behind_i24) inst_behind_i27)
def inst_behind_ir : IR := (.seq (.reg false inst_behind_i0) inst_behind_i28)
theorem inst_behind_cfn : cFn Try.prog 17 = some (inst_behind_ir, [(.t 4), (.t 5)], 21) := by kernel_rfl
def inst_behind_V (r : (Int × Bool)) : V := .tup [.s (.int .i64 r.1), .s (.bool r.2)]
def inst_behind_C (r : (Int × Bool)) : X → Fr → Hp → Prop := FinL [(.t 4), (.t 5)] [] (inst_behind_V r) []
theorem inst_behind_ok (mode_ : Int) (b_ : Int) (r : (Int × Bool)) (h : inst_behind mode_ b_ = some r) : Pure Try.prog 17 [.s (.int .i64 mode_), .s (.int .u8 b_)] (inst_behind_V r) := by
  refine ConL.of inst_behind_cfn (Nat.le_of_ble_eq_true (by kernel_rfl)) (Nat.le_of_ble_eq_true (by kernel_rfl)) ?_
  refine k_start ?_
  show dwv Try.prog [] inst_behind_ir (kont Try.prog [] (inst_behind_C r) []) (fr0 [.s (.int .i64 mode_), .s (.int .u8 b_)]) []
  have hf : FOk (fr0 [.s (.int .i64 mode_), .s (.int .u8 b_)]) [⟨0, [], .s (.int .i64 mode_)⟩, ⟨1, [], .s (.int .u8 b_)⟩] := ⟨⟨fun _ => rfl, fun h => (h trivial).elim⟩, ⟨fun _ => rfl, fun h => (h trivial).elim⟩, trivial⟩
  generalize fr0 [.s (.int .i64 mode_), .s (.int .u8 b_)] = f at hf ⊢
  unfold inst_behind at h
  refine k_seq ?_
  refine k_reg ?_
  refine mops_en hf (by kernel_rfl) fun f1 hf1 => ?_
  refine k_c ?_
  refine k_seq ?_
  refine k_seq ?_
  refine k_reg ?_
  refine mops_en hf1 (by kernel_rfl) fun f2 hf2 => ?_
  refine k_c ?_
  refine k_block ?_
  refine k_seq ?_
  refine k_seq ?_
  refine k_reg ?_
  refine mops_en hf2 (by kernel_rfl) fun f3 hf3 => ?_
  refine k_c ?_
  have hj1 : ∀ (t_ : Bool), inst_behind_j1 mode_ b_ t_ = some r → ∀ f, FOk f [⟨1, [], .s (.int .u8 b_)⟩, ⟨4, [], .s (.int .i64 0)⟩, ⟨5, [], .s (.bool false)⟩, ⟨6, [], .s (.int .i64 mode_)⟩, ⟨7, [], .s (.bool t_)⟩] → kont Try.prog [] (inst_behind_C r) ((.c inst_behind_i23) :: (.b 0) :: (.c inst_behind_i27) :: []) .normal f [] := by
    intro t_ h f hf
    unfold inst_behind_j1 at h
    refine k_c ?_
    refine k_cond hf (t := t_) (by kernel_rfl) (fun hc2 => ?_) (fun hc2 => ?_)
    · have h := if_t h hc2
      refine k_seq ?_
      refine k_reg ?_
      refine mops_en hf (by kernel_rfl) fun f1 hf1 => ?_
      refine k_c ?_
      refine k_ret ?_
      refine x_br ?_
      refine x_c nofun ?_
      obtain rfl := Option.some.inj h
      exact k_fin (fin_ret (.inl rfl) hf1 (vs := [.s (.int .i64 1), .s (.bool false)]) (by kernel_rfl) (SettL.pure (FzL.tup (FzsL.cons (FzL.stat rfl) (FzsL.cons (FzL.stat rfl) FzsL.nil)))))
    · have h := if_f h hc2
      refine k_seq ?_
      refine k_seq ?_
      refine k_reg ?_
      refine mops_en hf (by kernel_rfl) fun f1 hf1 => ?_
      refine k_c ?_
      have hj2 : ∀ (t_1 : Bool), inst_behind_j0 mode_ b_ t_1 = some r → ∀ f, FOk f [⟨1, [], .s (.int .u8 b_)⟩, ⟨4, [], .s (.int .i64 0)⟩, ⟨5, [], .s (.bool false)⟩, ⟨6, [], .s (.int .i64 mode_)⟩, ⟨10, [], .s (.bool t_1)⟩] → kont Try.prog [] (inst_behind_C r) ((.c inst_behind_i22) :: (.b 0) :: (.c inst_behind_i27) :: []) .normal f [] := by
        intro t_1 h f hf
        unfold inst_behind_j0 at h
        refine k_c ?_
        refine k_cond hf (t := t_1) (by kernel_rfl) (fun hc5 => ?_) (fun hc5 => ?_)
        · have h := if_t h hc5
          refine k_seq ?_
          refine k_reg ?_
          refine mops_en hf (by kernel_rfl) fun f1 hf1 => ?_
          refine k_c ?_
          refine k_ret ?_
          refine x_br ?_
          refine x_c nofun ?_
          obtain rfl := Option.some.inj h
          exact k_fin (fin_ret (.inl rfl) hf1 (vs := [.s (.int .i64 2), .s (.bool false)]) (by kernel_rfl) (SettL.pure (FzL.tup (FzsL.cons (FzL.stat rfl) (FzsL.cons (FzL.stat rfl) FzsL.nil)))))
        · have h := if_f h hc5
          refine k_seq ?_
          refine k_reg ?_
          refine mops_en hf (by kernel_rfl) fun f1 hf1 => ?_
          refine k_c ?_
          refine k_cond hf1 (t := (mode_ == 6)) (by kernel_rfl) (fun hc6 => ?_) (fun hc6 => ?_)
          · have h := if_t h hc6
            refine k_seq ?_
            refine k_reg ?_
            refine mops_en hf1 (by kernel_rfl) fun f2 hf2 => ?_
            refine k_c ?_
            refine k_ret ?_
            refine x_br ?_
            refine x_c nofun ?_
            obtain rfl := Option.some.inj h
            exact k_fin (fin_ret (.inl rfl) hf2 (vs := [.s (.int .i64 1), .s (.bool true)]) (by kernel_rfl) (SettL.pure (FzL.tup (FzsL.cons (FzL.stat rfl) (FzsL.cons (FzL.stat rfl) FzsL.nil)))))
          · have h := if_f h hc6
            refine k_seq ?_
            refine k_reg ?_
            refine mops_en hf1 (by kernel_rfl) fun f2 hf2 => ?_
            refine k_c ?_
            refine k_cond hf2 (t := (mode_ == 4)) (by kernel_rfl) (fun hc7 => ?_) (fun hc7 => ?_)
            · have h := if_t h hc7
              refine k_seq ?_
              refine k_reg ?_
              refine mops_sg 1 hf2 (by kernel_rfl) fun f3 hf3 => ?_
              obtain ⟨r_, hx_r_, h⟩ := Option.bind_eq_some_iff.1 h
              refine mops_call rfl hf3 (av := [.s (.int .u8 b_)]) (by kernel_rfl) (v := .agg [.s (.int .i64 r_.Kind), .s (.int .i64 r_.Reg), .s (.int .u16 r_.Off), .s (.bool r_.Indirect)]) (CalL.pure (post_Of_ok b_ r_ hx_r_) rfl rfl (Nat.le_of_ble_eq_true (by kernel_rfl))) (fun _ => rfl) fun f4 hf4 => ?_
              obtain ⟨r_1, hx_r_1, h⟩ := Option.bind_eq_some_iff.1 h
              refine mops_call rfl hf4 (av := [.agg [.s (.int .i64 r_.Kind), .s (.int .i64 r_.Reg), .s (.int .u16 r_.Off), .s (.bool r_.Indirect)]]) (by kernel_rfl) (v := .s (.int .i64 r_1)) (CalL.pure (post_Post_Bytes_ok r_ r_1 hx_r_1) rfl rfl (Nat.le_of_ble_eq_true (by kernel_rfl))) (fun _ => rfl) fun f5 hf5 => ?_
              refine mops_en hf5 (by kernel_rfl) fun f6 hf6 => ?_
              refine k_c ?_
              refine k_ret ?_
              refine x_br ?_
              refine x_c nofun ?_
              obtain rfl := Option.some.inj h
              exact k_fin (fin_ret (.inl rfl) hf6 (vs := [.s (.int .i64 r_1), .s (.bool true)]) (by kernel_rfl) (SettL.pure (FzL.tup (FzsL.cons (FzL.stat rfl) (FzsL.cons (FzL.stat rfl) FzsL.nil)))))
            · have h := if_f h hc7
              refine k_skip ?_
              refine k_b ?_
              refine k_c ?_
              refine k_seq ?_
              refine k_reg ?_
              refine mops_en hf2 (by kernel_rfl) fun f3 hf3 => ?_
              refine k_c ?_
              refine k_ret ?_
              obtain rfl := Option.some.inj h
              exact k_fin (fin_ret (.inl rfl) hf3 (vs := [.s (.int .i64 0), .s (.bool false)]) (by kernel_rfl) (SettL.pure (FzL.tup (FzsL.cons (FzL.stat rfl) (FzsL.cons (FzL.stat rfl) FzsL.nil)))))
      refine k_cond hf1 (t := (mode_ == 2)) (by kernel_rfl) (fun hc3 => ?_) (fun hc3 => ?_)
      · have h := if_t h hc3
        refine k_skip ?_
        refine k_hp (L' := []) (by kernel_rfl) ?_
        exact hj2 (mode_ == 2) h _ (FOk_of [1, 4, 5, 6, 10] hf1 (by kernel_rfl))
      · have h := if_f h hc3
        refine k_seq ?_
        refine k_reg ?_
        refine mops_en hf1 (by kernel_rfl) fun f2 hf2 => ?_
        refine k_c ?_
        refine k_cond hf2 (t := (mode_ == 5)) (by kernel_rfl) (fun hc4 => ?_) (fun hc4 => ?_)
        · have h := if_t h hc4
          refine k_skip ?_
          refine k_hp (L' := []) (by kernel_rfl) ?_
          exact hj2 (mode_ == 5) h _ (FOk_of [1, 4, 5, 6, 10] hf2 (by kernel_rfl))
        · have h := if_f h hc4
          refine k_reg ?_
          refine mops_en hf2 (by kernel_rfl) fun f3 hf3 => ?_
          refine k_hp (L' := []) (by kernel_rfl) ?_
          exact hj2 (mode_ == 7) h _ (FOk_of [1, 4, 5, 6, 10] hf3 (by kernel_rfl))
  refine k_cond hf3 (t := (mode_ == 1)) (by kernel_rfl) (fun hc1 => ?_) (fun hc1 => ?_)
  · have h := if_t h hc1
    refine k_skip ?_
    refine k_hp (L' := []) (by kernel_rfl) ?_
    exact hj1 (mode_ == 1) h _ (FOk_of [1, 4, 5, 6, 7] hf3 (by kernel_rfl))
  · have h := if_f h hc1
    refine k_reg ?_
    refine mops_en hf3 (by kernel_rfl) fun f4 hf4 => ?_
    refine k_hp (L' := []) (by kernel_rfl) ?_
    exact hj1 (mode_ == 3) h _ (FOk_of [1, 4, 5, 6, 7] hf4 (by kernel_rfl))
def inst_reader_value_i0 : List Op1 := [(oM 6 (.k (.int .u16 0)) [])]
def inst_reader_value_i1 : List Op1 := [(oM 8 (.t 1) []), (oE 9 (.bin .eql (.t 8) (.k (.int .i64 2))) [0]), (oM 7 (.t 9) [1])]
def inst_reader_value_i2 : List Op1 := [(oM 10 (.t 0) []), (oC 11 30 [(.t 10)] [0]), (oM 6 (.t 11) [1, 1, 0, 1])]
def inst_reader_value_i3 : IR := .ret
def inst_reader_value_i4 : List Op1 := [(oM 13 (.t 1) []), (oE 14 (.bin .eql (.t 13) (.k (.int .i64 1))) [0]), (oM 15 (.t 14) [1]), (oG 16 (.mv (.t 2)) 15 true [2]), (oE 17 (.pick (.t 15) (.t 16) (.k (.bool false))) [2, 3]), (oM 12 (.t 17) [4, 2])]
def inst_reader_value_i5 : List Op1 := [(oM 18 (.t 0) []), (oC 19 13 [(.t 18)] [0]), (oC 20 31 [(.t 19)] [1, 1]), (oM 6 (.t 20) [2, 2, 0, 1, 2])]
def inst_reader_value_i6 : IR := .ret
def inst_reader_value_i7 : List Op1 := [(oM 22 (.t 1) []), (oE 23 (.bin .eql (.t 22) (.k (.int .i64 1))) [0]), (oM 21 (.t 23) [1])]
def inst_reader_value_i8 : List Op1 := [(oM 24 (.t 0) []), (oC 25 13 [(.t 24)] [0]), (oE 26 (.cint .u16 (.t 25)) [1]), (oM 6 (.t 26) [2, 1, 0, 1, 2])]
def inst_reader_value_i9 : IR := .ret
def inst_reader_value_i10 : IR := (.cond (.t 21) (.seq (.reg false inst_reader_value_i8) inst_reader_value_i9) .skip)
def inst_reader_value_i11 : IR := (.cond (.t 12) (.seq (.reg false inst_reader_value_i5) inst_reader_value_i6) (.seq (.reg false inst_reader_value_i7) inst_reader_value_i10))
def inst_reader_value_i12 : IR := (.cond (.t 7) (.seq (.reg false inst_reader_value_i2) inst_reader_value_i3) (.seq (.reg false inst_reader_value_i4) inst_reader_value_i11))
def inst_reader_value_i13 : List Op1 := [(oM 6 (.k (.int .u16 0)) [])]
def inst_reader_value_i14 : IR := .ret
def inst_reader_value_i15 : IR := (.seq (.reg false inst_reader_value_i13) inst_reader_value_i14)
def inst_reader_value_i16 : IR := (.seq (.block 0 (.seq (.reg false inst_reader_value_i1) inst_reader_value_i12)) inst_reader_value_i15)
def inst_reader_value_ir : IR := (.seq (.reg false inst_reader_value_i0) inst_reader_value_i16)
theorem inst_reader_value_cfn : cFn Try.prog 18 [13, 30] = some (inst_reader_value_ir, [(.t 6)], 27) := by kernel_rfl
def inst_reader_value_V (r : (Int × inst_reader)) : V := .s (.int .u16 r.1)
def inst_reader_value_L (r_ : inst_reader) : Hp := [⟨0, .mem, 1, [.sl false r_.b.length (cat (nI .u8) r_.b), .s (.int .i64 r_.n), .s (.bool r_.short)]⟩]
def inst_reader_value_C (r_ : inst_reader) (r : (Int × inst_reader)) : X → Fr → Hp → Prop := FinL [(.t 6)] (inst_reader_value_L r_) (inst_reader_value_V r) [⟨0, .mem, 1, [.sl false r.2.b.length (cat (nI .u8) r.2.b), .s (.int .i64 r.2.n), .s (.bool r.2.short)]⟩]
theorem inst_reader_value_ok (r_ : inst_reader) (bytes_ : Int) (signed_ : Bool) (r : (Int × inst_reader)) (h : inst_reader_value r_ bytes_ signed_ = some r) : ConL Try.prog 18 [.ptr 0 0 0, .s (.int .i64 bytes_), .s (.bool signed_)] [⟨0, .mem, 1, [.sl false r_.b.length (cat (nI .u8) r_.b), .s (.int .i64 r_.n), .s (.bool r_.short)]⟩] (inst_reader_value_V r) [⟨0, .mem, 1, [.sl false r.2.b.length (cat (nI .u8) r.2.b), .s (.int .i64 r.2.n), .s (.bool r.2.short)]⟩] := by
  refine ConL.of inst_reader_value_cfn (Nat.le_of_ble_eq_true (by kernel_rfl)) (Nat.le_of_ble_eq_true (by kernel_rfl)) ?_
  refine k_start ?_
  show dwv Try.prog (inst_reader_value_L r_) inst_reader_value_ir (kont Try.prog (inst_reader_value_L r_) (inst_reader_value_C r_ r) []) (fr0 [.ptr 0 0 0, .s (.int .i64 bytes_), .s (.bool signed_)]) [⟨0, .mem, 1, [.sl false r_.b.length (cat (nI .u8) r_.b), .s (.int .i64 r_.n), .s (.bool r_.short)]⟩]
  have hf : FOk (fr0 [.ptr 0 0 0, .s (.int .i64 bytes_), .s (.bool signed_)]) [⟨0, [], .ptr 0 0 0⟩, ⟨1, [], .s (.int .i64 bytes_)⟩, ⟨2, [], .s (.bool signed_)⟩] := ⟨⟨fun _ => rfl, fun h => (h trivial).elim⟩, ⟨fun _ => rfl, fun h => (h trivial).elim⟩, ⟨fun _ => rfl, fun h => (h trivial).elim⟩, trivial⟩
  generalize fr0 [.ptr 0 0 0, .s (.int .i64 bytes_), .s (.bool signed_)] = f at hf ⊢
  unfold inst_reader_value at h
  refine k_seq ?_
  refine k_reg ?_
  refine mops_en hf (by kernel_rfl) fun f1 hf1 => ?_
  refine k_c ?_
  refine k_seq ?_
  refine k_block ?_
  refine k_seq ?_
  refine k_reg ?_
  refine mops_en hf1 (by kernel_rfl) fun f2 hf2 => ?_
  refine k_c ?_
  refine k_cond hf2 (t := (bytes_ == 2)) (by kernel_rfl) (fun hc1 => ?_) (fun hc1 => ?_)
  · have h := if_t h hc1
    refine k_seq ?_
    refine k_reg ?_
    refine mops_sg 1 hf2 (by kernel_rfl) fun f3 hf3 => ?_
    obtain ⟨r_1, hx_r_1, h⟩ := Option.bind_eq_some_iff.1 h
    refine mops_call rfl hf3 (av := [.ptr 0 0 0]) (by kernel_rfl) (v := .s (.int .u16 r_1.1)) (L' := [⟨0, .mem, 1, [.sl false r_1.2.b.length (cat (nI .u8) r_1.2.b), .s (.int .i64 r_1.2.n), .s (.bool r_1.2.short)]⟩]) (CalL.borrow (M := [⟨0, .mem, 1, [.sl false r_.b.length (cat (nI .u8) r_.b), .s (.int .i64 r_.n), .s (.bool r_.short)]⟩]) (M' := [⟨0, .mem, 1, [.sl false r_1.2.b.length (cat (nI .u8) r_1.2.b), .s (.int .i64 r_1.2.n), .s (.bool r_1.2.short)]⟩]) [0] (inst_reader_word_ok r_ r_1 hx_r_1) (by kernel_rfl) (RNs.cons (RN.ptr (by kernel_rfl)) RNs.nil) (RN.stat rfl) (RBs.cons (RNs.stat (by simp [statics, V.static, cat_stat])) RBs.nil) (RBs.cons (RNs.stat (by simp [statics, V.static, cat_stat])) RBs.nil) (by kernel_rfl) (by kernel_rfl)) (by intro h; cases h) fun f4 hf4 => ?_
    refine mops_en hf4 (by kernel_rfl) fun f5 hf5 => ?_
    refine k_c ?_
    refine k_ret ?_
    refine x_br ?_
    refine x_c nofun ?_
    obtain rfl := Option.some.inj h
    exact k_fin (fin_ret (.inl rfl) hf5 (vs := [.s (.int .u16 r_1.1)]) (by kernel_rfl) (SettL.cutb (L' := [⟨0, .mem, 1, [.sl false r_1.2.b.length (cat (nI .u8) r_1.2.b), .s (.int .i64 r_1.2.n), .s (.bool r_1.2.short)]⟩]) 1 (by kernel_rfl) (by kernel_rfl) (by kernel_rfl) ⟨.inr (.inr (statics_unders _ _ (by simp [V.static, statics, cat_stat]))), trivial⟩ (FzL.stat rfl)))
  · have h := if_f h hc1
    refine k_seq ?_
    refine k_reg ?_
    refine mops_en hf2 (by kernel_rfl) fun f3 hf3 => ?_
    refine k_c ?_
    refine k_cond hf3 (t := ((bytes_ == 1) && signed_)) (by kernel_rfl) (fun hc2 => ?_) (fun hc2 => ?_)
    · have h := if_t h hc2
      refine k_seq ?_
      refine k_reg ?_
      refine mops_sg 1 hf3 (by kernel_rfl) fun f4 hf4 => ?_
      obtain ⟨r_2, hx_r_2, h⟩ := Option.bind_eq_some_iff.1 h
      refine mops_call rfl hf4 (av := [.ptr 0 0 0]) (by kernel_rfl) (v := .s (.int .u8 r_2.1)) (L' := [⟨0, .mem, 1, [.sl false r_2.2.b.length (cat (nI .u8) r_2.2.b), .s (.int .i64 r_2.2.n), .s (.bool r_2.2.short)]⟩]) (CalL.borrow (M := [⟨0, .mem, 1, [.sl false r_.b.length (cat (nI .u8) r_.b), .s (.int .i64 r_.n), .s (.bool r_.short)]⟩]) (M' := [⟨0, .mem, 1, [.sl false r_2.2.b.length (cat (nI .u8) r_2.2.b), .s (.int .i64 r_2.2.n), .s (.bool r_2.2.short)]⟩]) [0] (inst_reader_next_ok r_ r_2 hx_r_2) (by kernel_rfl) (RNs.cons (RN.ptr (by kernel_rfl)) RNs.nil) (RN.stat rfl) (RBs.cons (RNs.stat (by simp [statics, V.static, cat_stat])) RBs.nil) (RBs.cons (RNs.stat (by simp [statics, V.static, cat_stat])) RBs.nil) (by kernel_rfl) (by kernel_rfl)) (by intro h; cases h) fun f5 hf5 => ?_
      obtain ⟨r_3, hx_r_3, h⟩ := Option.bind_eq_some_iff.1 h
      refine mops_call rfl hf5 (av := [.s (.int .u8 r_2.1)]) (by kernel_rfl) (v := .s (.int .u16 r_3)) (CalL.pure (octet_Sign_ok r_2.1 r_3 hx_r_3) rfl rfl (Nat.le_of_ble_eq_true (by kernel_rfl))) (fun _ => rfl) fun f6 hf6 => ?_
      refine mops_en hf6 (by kernel_rfl) fun f7 hf7 => ?_
      refine k_c ?_
      refine k_ret ?_
      refine x_br ?_
      refine x_c nofun ?_
      obtain rfl := Option.some.inj h
      exact k_fin (fin_ret (.inl rfl) hf7 (vs := [.s (.int .u16 r_3)]) (by kernel_rfl) (SettL.cutb (L' := [⟨0, .mem, 1, [.sl false r_2.2.b.length (cat (nI .u8) r_2.2.b), .s (.int .i64 r_2.2.n), .s (.bool r_2.2.short)]⟩]) 1 (by kernel_rfl) (by kernel_rfl) (by kernel_rfl) ⟨.inr (.inr (statics_unders _ _ (by simp [V.static, statics, cat_stat]))), trivial⟩ (FzL.stat rfl)))
    · have h := if_f h hc2
      refine k_seq ?_
      refine k_reg ?_
      refine mops_en hf3 (by kernel_rfl) fun f4 hf4 => ?_
      refine k_c ?_
      refine k_cond hf4 (t := (bytes_ == 1)) (by kernel_rfl) (fun hc3 => ?_) (fun hc3 => ?_)
      · have h := if_t h hc3
        refine k_seq ?_
        refine k_reg ?_
        refine mops_sg 1 hf4 (by kernel_rfl) fun f5 hf5 => ?_
        obtain ⟨r_4, hx_r_4, h⟩ := Option.bind_eq_some_iff.1 h
        refine mops_call rfl hf5 (av := [.ptr 0 0 0]) (by kernel_rfl) (v := .s (.int .u8 r_4.1)) (L' := [⟨0, .mem, 1, [.sl false r_4.2.b.length (cat (nI .u8) r_4.2.b), .s (.int .i64 r_4.2.n), .s (.bool r_4.2.short)]⟩]) (CalL.borrow (M := [⟨0, .mem, 1, [.sl false r_.b.length (cat (nI .u8) r_.b), .s (.int .i64 r_.n), .s (.bool r_.short)]⟩]) (M' := [⟨0, .mem, 1, [.sl false r_4.2.b.length (cat (nI .u8) r_4.2.b), .s (.int .i64 r_4.2.n), .s (.bool r_4.2.short)]⟩]) [0] (inst_reader_next_ok r_ r_4 hx_r_4) (by kernel_rfl) (RNs.cons (RN.ptr (by kernel_rfl)) RNs.nil) (RN.stat rfl) (RBs.cons (RNs.stat (by simp [statics, V.static, cat_stat])) RBs.nil) (RBs.cons (RNs.stat (by simp [statics, V.static, cat_stat])) RBs.nil) (by kernel_rfl) (by kernel_rfl)) (by intro h; cases h) fun f6 hf6 => ?_
        refine mops_en hf6 (by kernel_rfl) fun f7 hf7 => ?_
        refine k_c ?_
        refine k_ret ?_
        refine x_br ?_
        refine x_c nofun ?_
        obtain rfl := Option.some.inj h
        exact k_fin (fin_ret (.inl rfl) hf7 (vs := [.s (.int .u16 (IntKind.wrap .u16 r_4.1))]) (by kernel_rfl) (SettL.cutb (L' := [⟨0, .mem, 1, [.sl false r_4.2.b.length (cat (nI .u8) r_4.2.b), .s (.int .i64 r_4.2.n), .s (.bool r_4.2.short)]⟩]) 1 (by kernel_rfl) (by kernel_rfl) (by kernel_rfl) ⟨.inr (.inr (statics_unders _ _ (by simp [V.static, statics, cat_stat]))), trivial⟩ (FzL.stat rfl)))
      · have h := if_f h hc3
        refine k_skip ?_
        refine k_b ?_
        refine k_c ?_
        refine k_seq ?_
        refine k_reg ?_
        refine mops_en hf4 (by kernel_rfl) fun f5 hf5 => ?_
        refine k_c ?_
        refine k_ret ?_
        obtain rfl := Option.some.inj h
        exact k_fin (fin_ret (.inl rfl) hf5 (vs := [.s (.int .u16 0)]) (by kernel_rfl) (SettL.cutb (L' := [⟨0, .mem, 1, [.sl false r_.b.length (cat (nI .u8) r_.b), .s (.int .i64 r_.n), .s (.bool r_.short)]⟩]) 1 (by kernel_rfl) (by kernel_rfl) (by kernel_rfl) ⟨.inr (.inr (statics_unders _ _ (by simp [V.static, statics, cat_stat]))), trivial⟩ (FzL.stat rfl)))
def spinetref14_Of_i0 : List Op1 := [(oE 4 (.zero [(.int .i64 0), (.int .i64 0), (.int .i64 0)]) [])]
def spinetref14_Of_i1 : List Op1 := [(oC 7 32 [] []), (oM 5 (.t 7) [0, 0, 0])]
def spinetref14_Of_i2 : List Op1 := [(oM 6 (.k (.int .i64 0)) [])]
def spinetref14_Of_i3 : List Op1 := [(oM 8 (.t 6) []), (oM 9 (.t 5) []), (oE 10 (.len (.t 9)) [1]), (oE 11 (.bin .lss (.t 8) (.t 10)) [0, 2])]
def spinetref14_Of_i4 : IR := (.cond (.t 11) .skip (.exit 0))
def spinetref14_Of_i5 : List Op1 := [(oM 14 (.t 5) []), (oM 15 (.t 6) []), (oE 16 (.ias 5 (.t 14) (.t 15)) [0, 1]), (oE 17 (.fld 0 (.t 16)) [2]), (oE 18 (.load false 1 (.t 17)) [3]), (oM 19 (.t 0) []), (oE 20 (.bin .eql (.t 18) (.t 19)) [4, 5]), (oM 21 (.t 20) [6]), (oG 22 (.mv (.t 5)) 21 true [7]), (oG 23 (.mv (.t 6)) 21 true [7]), (oG 24 (.ias 5 (.t 22) (.t 23)) 21 true [8, 9, 7]), (oG 25 (.fld 1 (.t 24)) 21 true [10, 7]), (oG 26 (.load false 1 (.t 25)) 21 true [11, 7]), (oG 27 (.mv (.t 1)) 21 true [7]), (oG 28 (.bin .eql (.t 26) (.t 27)) 21 true [12, 13, 7]), (oE 29 (.pick (.t 21) (.t 28) (.k (.bool false))) [7, 14])]
def spinetref14_Of_i6 : List Op1 := [(oM 30 (.t 5) []), (oM 31 (.t 6) []), (oE 32 (.ias 5 (.t 30) (.t 31)) [0, 1]), (oE 33 (.fld 2 (.t 32)) [2]), (oE 34 (.load true 3 (.t 33)) [3]), (oN (.store 3 (.t 4) (.t 34)) [4, 0, 1, 2, 3, 4])]
def spinetref14_Of_i7 : IR := .ret
def spinetref14_Of_i8 : IR := (.cond (.t 29) (.seq (.reg false spinetref14_Of_i6) spinetref14_Of_i7) .skip)
def spinetref14_Of_i9 : List Op1 := [(oM 12 (.t 6) []), (oE 13 (.bin .add (.t 12) (.k (.int .i64 1))) [0]), (oM 6 (.t 13) [1, 0, 1])]
def spinetref14_Of_i10 : IR := (.reg false spinetref14_Of_i9)
def spinetref14_Of_i11 : IR := (.seq (.block 1 (.seq (.reg false spinetref14_Of_i5) spinetref14_Of_i8)) spinetref14_Of_i10)
def spinetref14_Of_i12 : IR := (.seq (.seq (.reg false spinetref14_Of_i3) spinetref14_Of_i4) spinetref14_Of_i11)
def spinetref14_Of_i13 : IR := (.block 0 (.loop spinetref14_Of_i12))
def spinetref14_Of_i14 : List Op1 := [(oE 35 (.build [(.int .i64 0), (.int .i64 0), (.int .i64 0)] []) []), (oN (.store 3 (.t 4) (.t 35)) [0, 0])]
def spinetref14_Of_i15 : IR := .ret
def spinetref14_Of_i16 : IR := (.seq (.reg false spinetref14_Of_i14) spinetref14_Of_i15)
def spinetref14_Of_i17 : IR := (.seq (.seq (.reg false spinetref14_Of_i2) spinetref14_Of_i13) spinetref14_Of_i16)
def spinetref14_Of_i18 : IR := (.seq (.reg false spinetref14_Of_i1) spinetref14_Of_i17)
def spinetref14_Of_ir : IR := (.seq (.reg false spinetref14_Of_i0) spinetref14_Of_i18)
theorem spinetref14_Of_cfn : cFn Try.prog 19 = some (spinetref14_Of_ir, [(.c 4 true 3)], 36) := by kernel_rfl
def spinetref14_Of_V (r : (api_Entry)) : V := .agg [.s (.int .i64 r.Op), .s (.int .i64 r.Mode), .s (.int .i64 r.Reg)]
def spinetref14_Of_C (r : (api_Entry)) : X → Fr → Hp → Prop := FinL [(.c 4 true 3)] [] (spinetref14_Of_V r) []
theorem spinetref14_Of_ok (page_ : Int) (code_ : Int) (r : (api_Entry)) (h : spinetref14_Of page_ code_ = some r) : Pure Try.prog 19 [.s (.int .i64 page_), .s (.int .i64 code_)] (spinetref14_Of_V r) := by
  refine ConL.of spinetref14_Of_cfn (Nat.le_of_ble_eq_true (by kernel_rfl)) (Nat.le_of_ble_eq_true (by kernel_rfl)) ?_
  refine k_start ?_
  show dwv Try.prog [] spinetref14_Of_ir (kont Try.prog [] (spinetref14_Of_C r) []) (fr0 [.s (.int .i64 page_), .s (.int .i64 code_)]) []
  have hf : FOk (fr0 [.s (.int .i64 page_), .s (.int .i64 code_)]) [⟨0, [], .s (.int .i64 page_)⟩, ⟨1, [], .s (.int .i64 code_)⟩] := ⟨⟨fun _ => rfl, fun h => (h trivial).elim⟩, ⟨fun _ => rfl, fun h => (h trivial).elim⟩, trivial⟩
  generalize fr0 [.s (.int .i64 page_), .s (.int .i64 code_)] = f at hf ⊢
  unfold spinetref14_Of at h
  refine k_seq ?_
  refine k_reg ?_
  refine mops_en hf (by kernel_rfl) fun f1 hf1 => ?_
  refine k_c ?_
  refine k_seq ?_
  refine k_reg ?_
  obtain ⟨r_, hx_r_, h⟩ := Option.bind_eq_some_iff.1 h
  refine mops_call rfl hf1 (av := []) (by kernel_rfl) (v := .sl false r_.length (cat spinetref14_Known.v r_)) (CalL.pure (spinetref14_All_ok  r_ hx_r_) rfl (by simp [V.static, statics, cat_stat, spinetref14_All_V]) (Nat.le_of_ble_eq_true (by kernel_rfl))) (fun _ => rfl) fun f2 hf2 => ?_
  refine mops_en hf2 (by kernel_rfl) fun f3 hf3 => ?_
  refine k_c ?_
  refine k_seq ?_
  refine k_seq ?_
  refine k_reg ?_
  refine mops_en hf3 (by kernel_rfl) fun f4 hf4 => ?_
  refine k_c ?_
  refine k_block ?_
  obtain ⟨o0, hx0, h⟩ := Option.bind_eq_some_iff.1 h
  have hret0 : ∀ r0, .ret r0 = o0 → r0 = r := fun r0 e => by subst e; exact Option.some.inj h
  have hgo0 : .go () = o0 → ∀ f, FOk f [⟨4, [], .ptr 0 0 0⟩] → kont Try.prog [] (spinetref14_Of_C r) ((.c spinetref14_Of_i16) :: []) .normal f [⟨0, .mem, 1, [.s (.int .i64 0), .s (.int .i64 0), .s (.int .i64 0)]⟩] := by
    intro  e f hf
    subst e
    refine k_c ?_
    refine k_seq ?_
    refine k_reg ?_
    refine mops_en hf (by kernel_rfl) fun f1 hf1 => ?_
    refine k_c ?_
    refine k_ret ?_
    obtain rfl := Option.some.inj h
    exact k_fin (fin_ret (.inl rfl) hf1 (vs := [.agg [.s (.int .i64 0), .s (.int .i64 0), .s (.int .i64 0)]]) (by kernel_rfl) (SettL.pure (FzL.stat rfl)))
  refine k_loop BIG ?_
  refine loop_ind (fun n f L => ∃ (i_1 : Int), spinetref14_Of_l0 page_ code_ r_ n i_1 = some o0 ∧ FOk f [⟨0, [], .s (.int .i64 page_)⟩, ⟨1, [], .s (.int .i64 code_)⟩, ⟨4, [], .ptr 0 0 0⟩, ⟨5, [], .sl false r_.length (cat spinetref14_Known.v r_)⟩, ⟨6, [], .s (.int .i64 i_1)⟩] ∧ L = [⟨0, .mem, 1, [.s (.int .i64 0), .s (.int .i64 0), .s (.int .i64 0)]⟩]) ?_ ?_ BIG _ _ ⟨(0), hx0, FOk_of [0, 1, 4, 5, 6] hf4 (by kernel_rfl), (by kernel_rfl)⟩
  · rintro f L ⟨i_1, h, _⟩
    cases (show (none : Option _) = some _ from h)
  · rintro n0 R0 ih f L ⟨i_1, h, hf, rfl⟩
    rw [spinetref14_Of_l0] at h
    refine k_seq ?_
    refine k_seq ?_
    refine k_reg ?_
    refine mops_en hf (by kernel_rfl) fun f1 hf1 => ?_
    refine k_c ?_
    refine k_cond hf1 (t := (decide (i_1 < (ln r_)))) (by kernel_rfl) (fun hc1 => ?_) (fun hc1 => ?_)
    · have h := if_t h hc1
      refine k_skip ?_
      refine k_c ?_
      refine k_seq ?_
      refine k_block ?_
      refine k_seq ?_
      refine k_reg ?_
      refine mops_sg 2 hf1 (by kernel_rfl) fun f2 hf2 => ?_
      obtain ⟨c2, h⟩ := as_ok h
      refine mops_adv rfl (v := .ip ((cat spinetref14_Known.v r_).drop ((i_1 : Int).toNat * 5))) hf2 (by kernel_rfl) (e_ias (n := r_.length) (xv := .sl false r_.length (cat spinetref14_Known.v r_)) (k := .i64) (iv := i_1) (p := .ip ((cat spinetref14_Known.v r_).drop ((i_1 : Int).toNat * 5))) (by kernel_rfl) (by kernel_rfl) (by kernel_rfl) (by kernel_rfl) c2) fun f3 hf3 => ?_
      refine mops_sg 1 hf3 (by kernel_rfl) fun f4 hf4 => ?_
      refine mops_adv rfl (v := .s (.int .i64 (gt r_ i_1).Page)) hf4 (by kernel_rfl) (e_load_ip (g := spinetref14_Known.v) (l := r_) (iv := i_1) [0] (by kernel_rfl) c2 (by kernel_rfl) (by kernel_rfl)) fun f5 hf5 => ?_
      refine mops_sg 5 hf5 (by kernel_rfl) fun f6 hf6 => ?_
      obtain ⟨c3, h⟩ := as_ok h
      refine mops_gadv (dst := (some 24)) (op := (.ias 5 (.t 22) (.t 23))) (aft := [8, 9, 7]) (t := 21) (w := true) (ch := [(21, true)]) (b := ((gt r_ i_1).Page == page_)) (v := .ip ((cat spinetref14_Known.v r_).drop ((i_1 : Int).toNat * 5))) (by kernel_rfl) hf6 (by kernel_rfl) (by kernel_rfl) (by kernel_rfl) (fun hb4 => e_ias (n := r_.length) (xv := .sl false r_.length (cat spinetref14_Known.v r_)) (k := .i64) (iv := i_1) (p := .ip ((cat spinetref14_Known.v r_).drop ((i_1 : Int).toNat * 5))) (by kernel_rfl) (by kernel_rfl) (by kernel_rfl) (by kernel_rfl) (c3 hb4)) fun f7 hf7 => ?_
      refine mops_sg 1 hf7 (by kernel_rfl) fun f8 hf8 => ?_
      refine mops_gadv (dst := (some 26)) (op := (.load false 1 (.t 25))) (aft := [11, 7]) (t := 21) (w := true) (ch := [(21, true)]) (b := ((gt r_ i_1).Page == page_)) (v := .s (.int .i64 (gt r_ i_1).Code)) (by kernel_rfl) hf8 (by kernel_rfl) (by kernel_rfl) (by kernel_rfl) (fun hb5 => e_load_ip (g := spinetref14_Known.v) (l := r_) (iv := i_1) [1] (by kernel_rfl) (c3 hb5) (by kernel_rfl) (by kernel_rfl)) fun f9 hf9 => ?_
      refine mops_en hf9 (by kernel_rfl) fun f10 hf10 => ?_
      refine k_c ?_
      refine k_cond hf10 (t := (((gt r_ i_1).Page == page_) && ((gt r_ i_1).Code == code_))) (by kernel_rfl) (fun hc6 => ?_) (fun hc6 => ?_)
      · have h := if_t h hc6
        refine k_seq ?_
        refine k_reg ?_
        refine mops_sg 2 hf10 (by kernel_rfl) fun f11 hf11 => ?_
        obtain ⟨c7, h⟩ := as_ok h
        refine mops_adv rfl (v := .ip ((cat spinetref14_Known.v r_).drop ((i_1 : Int).toNat * 5))) hf11 (by kernel_rfl) (e_ias (n := r_.length) (xv := .sl false r_.length (cat spinetref14_Known.v r_)) (k := .i64) (iv := i_1) (p := .ip ((cat spinetref14_Known.v r_).drop ((i_1 : Int).toNat * 5))) (by kernel_rfl) (by kernel_rfl) (by kernel_rfl) (by kernel_rfl) c7) fun f12 hf12 => ?_
        refine mops_sg 1 hf12 (by kernel_rfl) fun f13 hf13 => ?_
        refine mops_adv rfl (v := .agg [.s (.int .i64 ((gt r_ i_1).Entry).Op), .s (.int .i64 ((gt r_ i_1).Entry).Mode), .s (.int .i64 ((gt r_ i_1).Entry).Reg)]) hf13 (by kernel_rfl) (e_load_ip (g := spinetref14_Known.v) (l := r_) (iv := i_1) [2] (by kernel_rfl) c7 (by kernel_rfl) (by kernel_rfl)) fun f14 hf14 => ?_
        refine mops_en hf14 (by kernel_rfl) fun f15 hf15 => ?_
        refine k_c ?_
        refine k_ret ?_
        refine x_br ?_
        refine x_c nofun ?_
        refine x_l nofun ?_
        refine x_br ?_
        refine x_c nofun ?_
        obtain rfl := hret0 _ (Option.some.inj h)
        exact k_fin (fin_ret (.inl rfl) hf15 (vs := [.agg [.s (.int .i64 ((gt r_ i_1).Entry).Op), .s (.int .i64 ((gt r_ i_1).Entry).Mode), .s (.int .i64 ((gt r_ i_1).Entry).Reg)]]) (by kernel_rfl) (SettL.pure (FzL.stat rfl)))
      · have h := if_f h hc6
        refine k_skip ?_
        refine k_b ?_
        refine k_c ?_
        refine k_reg ?_
        refine mops_en hf10 (by kernel_rfl) fun f11 hf11 => ?_
        refine k_l ?_
        exact ih _ _ ⟨(IntKind.wrap .i64 (i_1 + 1)), h, FOk_of [0, 1, 4, 5, 6] hf11 (by kernel_rfl), (by kernel_rfl)⟩
    · have h := if_f h hc1
      refine k_exit ?_
      refine x_c nofun ?_
      refine x_l nofun ?_
      refine x_b ?_
      refine k_hp (L' := [⟨0, .mem, 1, [.s (.int .i64 0), .s (.int .i64 0), .s (.int .i64 0)]⟩]) (by kernel_rfl) ?_
      exact hgo0  (Option.some.inj h) _ (FOk_of [4] hf1 (by kernel_rfl))
end Go.Proofs.YtmabdijipkmmkaaK
