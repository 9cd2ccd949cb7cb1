/- The Go functions come to the functions over typed data. Printed by a program of this work. -/
import Derived.Test.YtiedenhkailolaaDoorF
import Derived.Test.YtiedenhkailolaaDoorProg
import Derived.Test.YtiedenhkailolaaDoorG0
import Derived.Test.YtiedenhkailolaaDoorG1
namespace Go.Proofs.YtiedenhkailolaaDoorK
set_option linter.unusedVariables false
set_option linter.unusedSimpArgs false
set_option maxHeartbeats 4000000
open Go.RowKit
attribute [local irreducible] dwv mops lops lqops lwops kont iter run runK rk okK ex E1 vals val chain chB sel resF
def spinetlaw17_text_i0 : List Op1 := [(oM 4 (.k (.string ⟨#[]⟩)) [])]
def spinetlaw17_text_i1 : List Op1 := [(oM 5 (.k (.string ⟨#[]⟩)) [])]
def spinetlaw17_text_i2 : List Op1 := [(oM 6 (.k (.int .u8 1)) [])]
def spinetlaw17_text_i3 : List Op1 := [(oM 7 (.k (.int .i64 0)) [])]
def spinetlaw17_text_i4 : List Op1 := [(oM 8 (.t 7) []), (oE 9 (.bin .lss (.t 8) (.k (.int .i64 8))) [0])]
def spinetlaw17_text_i5 : IR := (.cond (.t 9) .skip (.exit 0))
def spinetlaw17_text_i6 : List Op1 := [(oM 12 (.t 0) []), (oM 13 (.t 6) []), (oE 14 (.bin .quo (.t 12) (.t 13)) [0, 1]), (oE 15 (.bin .rem (.t 14) (.k (.int .u8 2))) [2]), (oE 16 (.bin .eql (.t 15) (.k (.int .u8 1))) [3])]
def spinetlaw17_text_i7 : List Op1 := [(oM 17 (.t 5) []), (oE 18 (.bin .neq (.t 17) (.k (.string ⟨#[]⟩))) [0])]
def spinetlaw17_text_i8 : List Op1 := [(oM 19 (.t 5) []), (oE 20 (.bin .add (.t 19) (.k (.string ⟨#[44]⟩))) [0]), (oM 5 (.t 20) [1, 0, 1])]
def spinetlaw17_text_i9 : IR := (.cond (.t 18) (.reg false spinetlaw17_text_i8) .skip)
def spinetlaw17_text_i10 : List Op1 := [(oM 21 (.t 5) []), (oM 22 (.t 7) []), (oM 23 (.t 1) []), (oC 24 10 [(.t 22), (.t 23)] [1, 2]), (oC 25 9 [(.t 24)] [3, 3]), (oE 26 (.bin .add (.t 21) (.t 25)) [0, 4]), (oM 5 (.t 26) [5, 4, 0, 1, 2, 3, 4, 5])]
def spinetlaw17_text_i11 : IR := (.reg false spinetlaw17_text_i10)
def spinetlaw17_text_i12 : IR := (.cond (.t 16) (.seq (.seq (.reg false spinetlaw17_text_i7) spinetlaw17_text_i9) spinetlaw17_text_i11) .skip)
def spinetlaw17_text_i13 : List Op1 := [(oM 27 (.t 6) []), (oE 28 (.bin .mul (.t 27) (.k (.int .u8 2))) [0]), (oM 6 (.t 28) [1, 0, 1])]
def spinetlaw17_text_i14 : IR := (.reg false spinetlaw17_text_i13)
def spinetlaw17_text_i15 : List Op1 := [(oM 10 (.t 7) []), (oE 11 (.bin .add (.t 10) (.k (.int .i64 1))) [0]), (oM 7 (.t 11) [1, 0, 1])]
def spinetlaw17_text_i16 : IR := (.reg false spinetlaw17_text_i15)
def spinetlaw17_text_i17 : IR := (.seq (.block 1 (.seq (.seq (.reg false spinetlaw17_text_i6) spinetlaw17_text_i12) spinetlaw17_text_i14)) spinetlaw17_text_i16)
def spinetlaw17_text_i18 : IR := (.seq (.seq (.reg false spinetlaw17_text_i4) spinetlaw17_text_i5) spinetlaw17_text_i17)
def spinetlaw17_text_i19 : IR := (.block 0 (.loop spinetlaw17_text_i18))
def spinetlaw17_text_i20 : List Op1 := [(oM 29 (.t 5) []), (oM 4 (.t 29) [0, 0])]
def spinetlaw17_text_i21 : IR := .ret
def spinetlaw17_text_i22 : IR := (.seq (.reg false spinetlaw17_text_i20) spinetlaw17_text_i21)
def spinetlaw17_text_i23 : IR := (.seq (.seq (.reg false spinetlaw17_text_i3) spinetlaw17_text_i19) spinetlaw17_text_i22)
def spinetlaw17_text_i24 : IR := (.seq (.reg false spinetlaw17_text_i2) spinetlaw17_text_i23)
def spinetlaw17_text_i25 : IR := (.seq (.reg false spinetlaw17_text_i1) spinetlaw17_text_i24)
def spinetlaw17_text_ir : IR := (.seq (.reg false spinetlaw17_text_i0) spinetlaw17_text_i25)
theorem spinetlaw17_text_cfn : cFn Tryd.prog 20 = some (spinetlaw17_text_ir, [(.t 4)], 30) := by kernel_rfl
def spinetlaw17_text_V (r : (ByteArray)) : V := .s (.string r)
def spinetlaw17_text_C (r : (ByteArray)) : X → Fr → Hp → Prop := FinL [(.t 4)] [] (spinetlaw17_text_V r) []
theorem spinetlaw17_text_ok (post_ : Int) (user_ : Bool) (r : (ByteArray)) (h : spinetlaw17_text post_ user_ = some r) : Pure Tryd.prog 20 [.s (.int .u8 post_), .s (.bool user_)] (spinetlaw17_text_V r) := by
  refine ConL.of spinetlaw17_text_cfn (Nat.le_of_ble_eq_true (by kernel_rfl)) (Nat.le_of_ble_eq_true (by kernel_rfl)) ?_
  refine k_start ?_
  show dwv Tryd.prog [] spinetlaw17_text_ir (kont Tryd.prog [] (spinetlaw17_text_C r) []) (fr0 [.s (.int .u8 post_), .s (.bool user_)]) []
  have hf : FOk (fr0 [.s (.int .u8 post_), .s (.bool user_)]) [⟨0, [], .s (.int .u8 post_)⟩, ⟨1, [], .s (.bool user_)⟩] := ⟨⟨fun _ => rfl, fun h => (h trivial).elim⟩, ⟨fun _ => rfl, fun h => (h trivial).elim⟩, trivial⟩
  generalize fr0 [.s (.int .u8 post_), .s (.bool user_)] = f at hf ⊢
  unfold spinetlaw17_text at h
  refine k_seq ?_
  refine k_reg ?_
  refine mops_en hf (by kernel_rfl) fun f1 hf1 => ?_
  refine k_c ?_
  refine k_seq ?_
  refine k_reg ?_
  refine mops_en hf1 (by kernel_rfl) fun f2 hf2 => ?_
  refine k_c ?_
  refine k_seq ?_
  refine k_reg ?_
  refine mops_en hf2 (by kernel_rfl) fun f3 hf3 => ?_
  refine k_c ?_
  refine k_seq ?_
  refine k_seq ?_
  refine k_reg ?_
  refine mops_en hf3 (by kernel_rfl) fun f4 hf4 => ?_
  refine k_c ?_
  refine k_block ?_
  obtain ⟨o0, hx0, h⟩ := Option.bind_eq_some_iff.1 h
  have hgo0 : ∀ (s_4 : ByteArray), s_4 = o0 → ∀ f, FOk f [⟨4, [], .s (.string (⟨#[]⟩ : ByteArray))⟩, ⟨5, [], .s (.string s_4)⟩] → kont Tryd.prog [] (spinetlaw17_text_C r) ((.c spinetlaw17_text_i22) :: []) .normal f [] := by
    intro s_4 e f hf
    subst e
    refine k_c ?_
    refine k_seq ?_
    refine k_reg ?_
    refine mops_en hf (by kernel_rfl) fun f1 hf1 => ?_
    refine k_c ?_
    refine k_ret ?_
    obtain rfl := Option.some.inj h
    exact k_fin (fin_ret (.inl rfl) hf1 (vs := [.s (.string s_4)]) (by kernel_rfl) (SettL.pure (FzL.stat rfl)))
  refine k_loop BIG ?_
  refine loop_ind (fun n f L => ∃ (s_3 : ByteArray) (bit_1 : Int) (i_1 : Int), spinetlaw17_text_l0 post_ user_ n s_3 bit_1 i_1 = some o0 ∧ FOk f [⟨0, [], .s (.int .u8 post_)⟩, ⟨1, [], .s (.bool user_)⟩, ⟨4, [], .s (.string (⟨#[]⟩ : ByteArray))⟩, ⟨5, [], .s (.string s_3)⟩, ⟨6, [], .s (.int .u8 bit_1)⟩, ⟨7, [], .s (.int .i64 i_1)⟩] ∧ L = []) ?_ ?_ BIG _ _ ⟨(⟨#[]⟩ : ByteArray), (1), (0), hx0, FOk_of [0, 1, 4, 5, 6, 7] hf4 (by kernel_rfl), (by kernel_rfl)⟩
  · rintro f L ⟨s_3, bit_1, i_1, h, _⟩
    cases (show (none : Option _) = some _ from h)
  · rintro n0 R0 ih f L ⟨s_3, bit_1, i_1, h, hf, rfl⟩
    rw [spinetlaw17_text_l0] at h
    refine k_seq ?_
    refine k_seq ?_
    refine k_reg ?_
    refine mops_en hf (by kernel_rfl) fun f1 hf1 => ?_
    refine k_c ?_
    refine k_cond hf1 (t := (decide (i_1 < 8))) (by kernel_rfl) (fun hc1 => ?_) (fun hc1 => ?_)
    · have h := if_t h hc1
      refine k_skip ?_
      refine k_c ?_
      refine k_seq ?_
      refine k_block ?_
      refine k_seq ?_
      refine k_seq ?_
      refine k_reg ?_
      refine mops_sg 2 hf1 (by kernel_rfl) fun f2 hf2 => ?_
      obtain ⟨c2, h⟩ := as_ok h
      refine mops_adv rfl (v := .s (.int .u8 (IntKind.wrap .u8 (Int.tdiv post_ bit_1)))) hf2 (by kernel_rfl) (e_quo (k := .u8) (iv := post_) (jv := bit_1) (by kernel_rfl) (by kernel_rfl) c2) fun f3 hf3 => ?_
      refine mops_en hf3 (by kernel_rfl) fun f4 hf4 => ?_
      refine k_c ?_
      refine k_cond hf4 (t := ((Int.tmod (IntKind.wrap .u8 (Int.tdiv post_ bit_1)) 2) == 1)) (by kernel_rfl) (fun hc3 => ?_) (fun hc3 => ?_)
      · have h := if_t h hc3
        refine k_seq ?_
        refine k_seq ?_
        refine k_reg ?_
        refine mops_en hf4 (by kernel_rfl) fun f5 hf5 => ?_
        refine k_c ?_
        have hj1 : ∀ (s_5 : ByteArray), spinetlaw17_text_j0 ((spinetlaw17_text_l0 post_ user_ n0)) user_ bit_1 i_1 s_5 = some o0 → ∀ f, FOk f [⟨0, [], .s (.int .u8 post_)⟩, ⟨1, [], .s (.bool user_)⟩, ⟨4, [], .s (.string (⟨#[]⟩ : ByteArray))⟩, ⟨5, [], .s (.string s_5)⟩, ⟨6, [], .s (.int .u8 bit_1)⟩, ⟨7, [], .s (.int .i64 i_1)⟩, ⟨8, [], .s (.int .i64 i_1)⟩, ⟨9, [], .s (.bool (decide (i_1 < 8)))⟩, ⟨12, [], .s (.int .u8 post_)⟩, ⟨13, [], .s (.int .u8 bit_1)⟩, ⟨14, [], .s (.int .u8 (IntKind.wrap .u8 (Int.tdiv post_ bit_1)))⟩, ⟨15, [], .s (.int .u8 (Int.tmod (IntKind.wrap .u8 (Int.tdiv post_ bit_1)) 2))⟩, ⟨16, [], .s (.bool ((Int.tmod (IntKind.wrap .u8 (Int.tdiv post_ bit_1)) 2) == 1))⟩, ⟨17, [], .s (.string s_3)⟩, ⟨18, [], .s (.bool (!(s_3.toList == (⟨#[]⟩ : ByteArray).toList)))⟩] → kont Tryd.prog [] (spinetlaw17_text_C r) ((.c spinetlaw17_text_i11) :: (.c spinetlaw17_text_i14) :: (.b 1) :: (.c spinetlaw17_text_i16) :: (.l R0) :: (.b 0) :: (.c spinetlaw17_text_i22) :: []) .normal f [] := by
          intro s_5 h f hf
          unfold spinetlaw17_text_j0 at h
          refine k_c ?_
          refine k_reg ?_
          refine mops_sg 3 hf (by kernel_rfl) fun f1 hf1 => ?_
          obtain ⟨r_4, hx_r_4, h⟩ := Option.bind_eq_some_iff.1 h
          refine mops_call rfl hf1 (av := [.s (.int .i64 i_1), .s (.bool user_)]) (by kernel_rfl) (v := .s (.int .i64 r_4)) (CalL.pure (spinetref17_Code_ok i_1 user_ r_4 hx_r_4) rfl rfl (Nat.le_of_ble_eq_true (by kernel_rfl))) (fun _ => rfl) fun f2 hf2 => ?_
          obtain ⟨r_5, hx_r_5, h⟩ := Option.bind_eq_some_iff.1 h
          refine mops_call rfl hf2 (av := [.s (.int .i64 r_4)]) (by kernel_rfl) (v := .s (.string r_5)) (CalL.pure (spinetref13_Reg_ok r_4 r_5 hx_r_5) rfl rfl (Nat.le_of_ble_eq_true (by kernel_rfl))) (fun _ => rfl) fun f3 hf3 => ?_
          obtain ⟨c6, h⟩ := as_ok h
          refine mops_adv rfl (v := .s (.string (s_5 ++ r_5))) hf3 (by kernel_rfl) (e_sadd (t := s_5) (t' := r_5) (by kernel_rfl) (by kernel_rfl) c6) fun f4 hf4 => ?_
          refine mops_en hf4 (by kernel_rfl) fun f5 hf5 => ?_
          refine k_c ?_
          refine k_reg ?_
          refine mops_en hf5 (by kernel_rfl) fun f6 hf6 => ?_
          refine k_b ?_
          refine k_c ?_
          refine k_reg ?_
          refine mops_en hf6 (by kernel_rfl) fun f7 hf7 => ?_
          refine k_l ?_
          exact ih _ _ ⟨(s_5 ++ r_5), (IntKind.wrap .u8 (bit_1 * 2)), (IntKind.wrap .i64 (i_1 + 1)), h, FOk_of [0, 1, 4, 5, 6, 7] hf7 (by kernel_rfl), (by kernel_rfl)⟩
        refine k_cond hf5 (t := (!(s_3.toList == (⟨#[]⟩ : ByteArray).toList))) (by kernel_rfl) (fun hc4 => ?_) (fun hc4 => ?_)
        · have h := if_t h hc4
          refine k_reg ?_
          refine mops_sg 1 hf5 (by kernel_rfl) fun f6 hf6 => ?_
          obtain ⟨c5, h⟩ := as_ok h
          refine mops_adv rfl (v := .s (.string (s_3 ++ (⟨#[44]⟩ : ByteArray)))) hf6 (by kernel_rfl) (e_sadd (t := s_3) (t' := (⟨#[44]⟩ : ByteArray)) (by kernel_rfl) (by kernel_rfl) c5) fun f7 hf7 => ?_
          refine mops_en hf7 (by kernel_rfl) fun f8 hf8 => ?_
          refine k_hp (L' := []) (by kernel_rfl) ?_
          exact hj1 (s_3 ++ (⟨#[44]⟩ : ByteArray)) h _ (FOk_of [0, 1, 4, 5, 6, 7, 8, 9, 12, 13, 14, 15, 16, 17, 18] hf8 (by kernel_rfl))
        · have h := if_f h hc4
          refine k_skip ?_
          refine k_hp (L' := []) (by kernel_rfl) ?_
          exact hj1 s_3 h _ (FOk_of [0, 1, 4, 5, 6, 7, 8, 9, 12, 13, 14, 15, 16, 17, 18] hf5 (by kernel_rfl))
      · have h := if_f h hc3
        refine k_skip ?_
        refine k_c ?_
        refine k_reg ?_
        refine mops_en hf4 (by kernel_rfl) fun f5 hf5 => ?_
        refine k_b ?_
        refine k_c ?_
        refine k_reg ?_
        refine mops_en hf5 (by kernel_rfl) fun f6 hf6 => ?_
        refine k_l ?_
        exact ih _ _ ⟨s_3, (IntKind.wrap .u8 (bit_1 * 2)), (IntKind.wrap .i64 (i_1 + 1)), h, FOk_of [0, 1, 4, 5, 6, 7] hf6 (by kernel_rfl), (by kernel_rfl)⟩
    · have h := if_f h hc1
      refine k_exit ?_
      refine x_c nofun ?_
      refine x_l nofun ?_
      refine x_b ?_
      refine k_hp (L' := []) (by kernel_rfl) ?_
      exact hgo0 s_3 (Option.some.inj h) _ (FOk_of [4, 5] hf1 (by kernel_rfl))
def strings_Split_i0 : List Op1 := [(oE 4 (.nilg 1) [])]
def strings_Split_i1 : List Op1 := [(oM 5 (.t 0) []), (oM 6 (.t 1) []), (oC 7 34 [(.t 5), (.t 6), (.k (.int .i64 0)), (.k (.int .i64 (-1)))] [0, 1]), (oM 4 (.t 7) [2, 2, 0, 1, 2])]
def strings_Split_i2 : IR := .ret
def strings_Split_i3 : IR := (.seq (.reg false strings_Split_i1) strings_Split_i2)
def strings_Split_ir : IR := (.seq (.reg false strings_Split_i0) strings_Split_i3)
theorem strings_Split_cfn : cFn Tryd.prog 21 = some (strings_Split_ir, [(.t 4)], 8) := by kernel_rfl
def strings_Split_V (r : ((List ByteArray))) : V := .sl false r.length (cat nS r)
def strings_Split_C (r : ((List ByteArray))) : X → Fr → Hp → Prop := FinL [(.t 4)] [] (strings_Split_V r) []
theorem strings_Split_ok (s_ : ByteArray) (sep_ : ByteArray) (r : ((List ByteArray))) (h : strings_Split s_ sep_ = some r) : Pure Tryd.prog 21 [.s (.string s_), .s (.string sep_)] (strings_Split_V r) := by
  refine ConL.of strings_Split_cfn (Nat.le_of_ble_eq_true (by kernel_rfl)) (Nat.le_of_ble_eq_true (by kernel_rfl)) ?_
  refine k_start ?_
  show dwv Tryd.prog [] strings_Split_ir (kont Tryd.prog [] (strings_Split_C r) []) (fr0 [.s (.string s_), .s (.string sep_)]) []
  have hf : FOk (fr0 [.s (.string s_), .s (.string sep_)]) [⟨0, [], .s (.string s_)⟩, ⟨1, [], .s (.string sep_)⟩] := ⟨⟨fun _ => rfl, fun h => (h trivial).elim⟩, ⟨fun _ => rfl, fun h => (h trivial).elim⟩, trivial⟩
  generalize fr0 [.s (.string s_), .s (.string sep_)] = f at hf ⊢
  unfold strings_Split at h
  refine k_seq ?_
  refine k_reg ?_
  refine mops_en hf (by kernel_rfl) fun f1 hf1 => ?_
  refine k_c ?_
  refine k_seq ?_
  refine k_reg ?_
  refine mops_sg 2 hf1 (by kernel_rfl) fun f2 hf2 => ?_
  obtain ⟨r_, hx_r_, h⟩ := Option.bind_eq_some_iff.1 h
  refine mops_call rfl hf2 (av := [.s (.string s_), .s (.string sep_), .s (.int .i64 0), .s (.int .i64 (-1))]) (by kernel_rfl) (v := .sl false r_.length (cat nS r_)) (CalL.pure (strings_genSplit_ok s_ sep_ (0) (-1) r_ hx_r_) rfl (by simp [V.static, statics, cat_stat, strings_genSplit_V]) (Nat.le_of_ble_eq_true (by kernel_rfl))) (fun _ => rfl) fun f3 hf3 => ?_
  refine mops_en hf3 (by kernel_rfl) fun f4 hf4 => ?_
  refine k_c ?_
  refine k_ret ?_
  obtain rfl := Option.some.inj h
  exact k_fin (fin_ret (.inl rfl) hf4 (vs := [.sl false r_.length (cat nS r_)]) (by kernel_rfl) (SettL.pure (FzL.slf (g := nS))))
def lists_Read_i0 : List Op1 := [(oM 4 (.k (.int .u8 0)) []), (oM 5 (.k (.int .i64 0)) [0])]
def lists_Read_i1 : List Op1 := [(oM 6 (.k (.int .u8 0)) [])]
def lists_Read_i2 : List Op1 := [(oM 10 (.t 0) []), (oE 11 (.bin .eql (.t 10) (.k (.string ⟨#[]⟩))) [0])]
def lists_Read_i3 : List Op1 := [(oM 4 (.k (.int .u8 0)) []), (oM 5 (.k (.int .i64 0)) [0, 0])]
def lists_Read_i4 : IR := .ret
def lists_Read_i5 : IR := (.cond (.t 11) (.seq (.reg false lists_Read_i3) lists_Read_i4) .skip)
def lists_Read_i6 : List Op1 := [(oM 12 (.t 0) []), (oC 13 21 [(.t 12), (.k (.string ⟨#[44]⟩))] [0]), (oE 14 (.len (.t 13)) [1]), (oM 15 (.k (.int .i64 0)) [])]
def lists_Read_i7 : List Op1 := [(oE 16 (.bin .lss (.t 15) (.t 14)) [])]
def lists_Read_i8 : List Op1 := [(oE 17 (.ias 1 (.t 13) (.t 15)) []), (oE 18 (.load false 1 (.t 17)) [0]), (oM 8 (.t 18) [1, 0, 1])]
def lists_Read_i9 : List Op1 := [(oM 19 (.t 8) []), (oM 20 (.t 1) []), (oC 21 22 [(.t 19), (.t 20)] [0, 1]), (oM 9 (.t 21) [2, 2, 0, 1, 2])]
def lists_Read_i10 : List Op1 := [(oM 22 (.t 9) []), (oE 23 (.bin .eql (.t 22) (.k (.int .u8 0))) [0])]
def lists_Read_i11 : List Op1 := [(oM 4 (.k (.int .u8 0)) []), (oM 5 (.k (.int .i64 40)) [0, 0])]
def lists_Read_i12 : IR := .ret
def lists_Read_i13 : IR := (.cond (.t 23) (.seq (.reg false lists_Read_i11) lists_Read_i12) .skip)
def lists_Read_i14 : List Op1 := [(oM 24 (.t 6) []), (oM 25 (.t 9) []), (oE 26 (.bin .and (.t 24) (.t 25)) [0, 1]), (oE 27 (.bin .neq (.t 26) (.k (.int .u8 0))) [2])]
def lists_Read_i15 : List Op1 := [(oM 4 (.k (.int .u8 0)) []), (oM 5 (.k (.int .i64 41)) [0, 0])]
def lists_Read_i16 : IR := .ret
def lists_Read_i17 : IR := (.cond (.t 27) (.seq (.reg false lists_Read_i15) lists_Read_i16) .skip)
def lists_Read_i18 : List Op1 := [(oM 28 (.t 6) []), (oM 29 (.t 9) []), (oE 30 (.bin .or (.t 28) (.t 29)) [0, 1]), (oM 6 (.t 30) [2, 0, 1, 2])]
def lists_Read_i19 : IR := (.reg false lists_Read_i18)
def lists_Read_i20 : IR := (.seq (.seq (.reg false lists_Read_i14) lists_Read_i17) lists_Read_i19)
def lists_Read_i21 : IR := (.seq (.seq (.reg false lists_Read_i10) lists_Read_i13) lists_Read_i20)
def lists_Read_i22 : IR := (.seq (.reg false lists_Read_i9) lists_Read_i21)
def lists_Read_i23 : List Op1 := [(oE 31 (.bin .add (.t 15) (.k (.int .i64 1))) []), (oM 15 (.t 31) [0])]
def lists_Read_i24 : IR := (.reg false lists_Read_i23)
def lists_Read_i25 : IR := (.seq (.block 1 (.seq (.reg false lists_Read_i8) lists_Read_i22)) lists_Read_i24)
def lists_Read_i26 : IR := (.seq (.cond (.t 16) .skip (.exit 0)) lists_Read_i25)
def lists_Read_i27 : IR := (.seq (.reg false lists_Read_i7) lists_Read_i26)
def lists_Read_i28 : IR := (.block 0 (.loop lists_Read_i27))
def lists_Read_i29 : List Op1 := [(oM 32 (.t 6) []), (oM 4 (.t 32) [0, 0]), (oM 5 (.k (.int .i64 0)) [1, 0, 1])]
def lists_Read_i30 : IR := .ret
def lists_Read_i31 : IR := (.seq (.reg false lists_Read_i29) lists_Read_i30)
def lists_Read_i32 : IR := (.seq (.seq (.reg false lists_Read_i6) lists_Read_i28) lists_Read_i31)
def lists_Read_i33 : IR := (.seq (.seq (.reg false lists_Read_i2) lists_Read_i5) lists_Read_i32)
def lists_Read_i34 : IR := (.seq (.reg false lists_Read_i1) lists_Read_i33)
def lists_Read_ir : IR := (.seq (.reg false lists_Read_i0) lists_Read_i34)
theorem lists_Read_cfn : cFn Tryd.prog 7 = some (lists_Read_ir, [(.t 4), (.t 5)], 33) := by kernel_rfl
def lists_Read_V (r : (Int × Int)) : V := .tup [.s (.int .u8 r.1), .s (.int .i64 r.2)]
def lists_Read_C (r : (Int × Int)) : X → Fr → Hp → Prop := FinL [(.t 4), (.t 5)] [] (lists_Read_V r) []
theorem lists_Read_ok (s_ : ByteArray) (stack_ : Int) (r : (Int × Int)) (h : lists_Read s_ stack_ = some r) : Pure Tryd.prog 7 [.s (.string s_), .s (.int .i64 stack_)] (lists_Read_V r) := by
  refine ConL.of lists_Read_cfn (Nat.le_of_ble_eq_true (by kernel_rfl)) (Nat.le_of_ble_eq_true (by kernel_rfl)) ?_
  refine k_start ?_
  show dwv Tryd.prog [] lists_Read_ir (kont Tryd.prog [] (lists_Read_C r) []) (fr0 [.s (.string s_), .s (.int .i64 stack_)]) []
  have hf : FOk (fr0 [.s (.string s_), .s (.int .i64 stack_)]) [⟨0, [], .s (.string s_)⟩, ⟨1, [], .s (.int .i64 stack_)⟩] := ⟨⟨fun _ => rfl, fun h => (h trivial).elim⟩, ⟨fun _ => rfl, fun h => (h trivial).elim⟩, trivial⟩
  generalize fr0 [.s (.string s_), .s (.int .i64 stack_)] = f at hf ⊢
  unfold lists_Read at h
  refine k_seq ?_
  refine k_reg ?_
  refine mops_en hf (by kernel_rfl) fun f1 hf1 => ?_
  refine k_c ?_
  refine k_seq ?_
  refine k_reg ?_
  refine mops_en hf1 (by kernel_rfl) fun f2 hf2 => ?_
  refine k_c ?_
  refine k_seq ?_
  refine k_seq ?_
  refine k_reg ?_
  refine mops_en hf2 (by kernel_rfl) fun f3 hf3 => ?_
  refine k_c ?_
  refine k_cond hf3 (t := (s_.toList == (⟨#[]⟩ : ByteArray).toList)) (by kernel_rfl) (fun hc1 => ?_) (fun hc1 => ?_)
  · have h := if_t h hc1
    refine k_seq ?_
    refine k_reg ?_
    refine mops_en hf3 (by kernel_rfl) fun f4 hf4 => ?_
    refine k_c ?_
    refine k_ret ?_
    refine x_c nofun ?_
    obtain rfl := Option.some.inj h
    exact k_fin (fin_ret (.inl rfl) hf4 (vs := [.s (.int .u8 0), .s (.int .i64 0)]) (by kernel_rfl) (SettL.pure (FzL.tup (FzsL.cons (FzL.stat rfl) (FzsL.cons (FzL.stat rfl) FzsL.nil)))))
  · have h := if_f h hc1
    refine k_skip ?_
    refine k_c ?_
    refine k_seq ?_
    refine k_seq ?_
    refine k_reg ?_
    refine mops_sg 1 hf3 (by kernel_rfl) fun f4 hf4 => ?_
    obtain ⟨r_, hx_r_, h⟩ := Option.bind_eq_some_iff.1 h
    refine mops_call rfl hf4 (av := [.s (.string s_), .s (.string (⟨#[44]⟩ : ByteArray))]) (by kernel_rfl) (v := .sl false r_.length (cat nS r_)) (CalL.pure (strings_Split_ok s_ (⟨#[44]⟩ : ByteArray) r_ hx_r_) rfl (by simp [V.static, statics, cat_stat, strings_Split_V]) (Nat.le_of_ble_eq_true (by kernel_rfl))) (fun _ => rfl) fun f5 hf5 => ?_
    refine mops_en hf5 (by kernel_rfl) fun f6 hf6 => ?_
    refine k_c ?_
    refine k_block ?_
    obtain ⟨o0, hx0, h⟩ := Option.bind_eq_some_iff.1 h
    have hret0 : ∀ r0, .ret r0 = o0 → r0 = r := fun r0 e => by subst e; exact Option.some.inj h
    have hgo0 : ∀ (post_2 : Int), .go post_2 = o0 → ∀ f, FOk f [⟨4, [], .s (.int .u8 0)⟩, ⟨5, [], .s (.int .i64 0)⟩, ⟨6, [], .s (.int .u8 post_2)⟩] → kont Tryd.prog [] (lists_Read_C r) ((.c lists_Read_i31) :: []) .normal f [] := by
      intro post_2 e f hf
      subst e
      refine k_c ?_
      refine k_seq ?_
      refine k_reg ?_
      refine mops_en hf (by kernel_rfl) fun f1 hf1 => ?_
      refine k_c ?_
      refine k_ret ?_
      obtain rfl := Option.some.inj h
      exact k_fin (fin_ret (.inl rfl) hf1 (vs := [.s (.int .u8 post_2), .s (.int .i64 0)]) (by kernel_rfl) (SettL.pure (FzL.tup (FzsL.cons (FzL.stat rfl) (FzsL.cons (FzL.stat rfl) FzsL.nil)))))
    refine k_loop BIG ?_
    refine loop_ind (fun n f L => ∃ (post_1 : Int) (t_1 : Int), lists_Read_l0 stack_ r_ n post_1 t_1 = some o0 ∧ FOk f [⟨1, [], .s (.int .i64 stack_)⟩, ⟨4, [], .s (.int .u8 0)⟩, ⟨5, [], .s (.int .i64 0)⟩, ⟨6, [], .s (.int .u8 post_1)⟩, ⟨13, [], .sl false r_.length (cat nS r_)⟩, ⟨14, [], .s (.int .i64 (ln r_))⟩, ⟨15, [], .s (.int .i64 t_1)⟩] ∧ L = []) ?_ ?_ BIG _ _ ⟨(0), (0), hx0, FOk_of [1, 4, 5, 6, 13, 14, 15] hf6 (by kernel_rfl), (by kernel_rfl)⟩
    · rintro f L ⟨post_1, t_1, h, _⟩
      cases (show (none : Option _) = some _ from h)
    · rintro n0 R0 ih f L ⟨post_1, t_1, h, hf, rfl⟩
      rw [lists_Read_l0] at h
      refine k_seq ?_
      refine k_reg ?_
      refine mops_en hf (by kernel_rfl) fun f1 hf1 => ?_
      refine k_c ?_
      refine k_seq ?_
      refine k_cond hf1 (t := (decide (t_1 < (ln r_)))) (by kernel_rfl) (fun hc2 => ?_) (fun hc2 => ?_)
      · have h := if_t h hc2
        refine k_skip ?_
        refine k_c ?_
        refine k_seq ?_
        refine k_block ?_
        refine k_seq ?_
        refine k_reg ?_
        obtain ⟨c3, h⟩ := as_ok h
        refine mops_adv rfl (v := .ip ((cat nS r_).drop ((t_1 : Int).toNat * 1))) hf1 (by kernel_rfl) (e_ias (n := r_.length) (xv := .sl false r_.length (cat nS r_)) (k := .i64) (iv := t_1) (p := .ip ((cat nS r_).drop ((t_1 : Int).toNat * 1))) (by kernel_rfl) (by kernel_rfl) (by kernel_rfl) (by kernel_rfl) c3) fun f2 hf2 => ?_
        refine mops_adv rfl (v := .s (.string (gt r_ t_1))) hf2 (by kernel_rfl) (e_load_ip (g := nS) (l := r_) (iv := t_1) [] (by kernel_rfl) c3 (by kernel_rfl) (by kernel_rfl)) fun f3 hf3 => ?_
        refine mops_en hf3 (by kernel_rfl) fun f4 hf4 => ?_
        refine k_c ?_
        refine k_seq ?_
        refine k_reg ?_
        refine mops_sg 2 hf4 (by kernel_rfl) fun f5 hf5 => ?_
        obtain ⟨r_3, hx_r_3, h⟩ := Option.bind_eq_some_iff.1 h
        refine mops_call rfl hf5 (av := [.s (.string (gt r_ t_1)), .s (.int .i64 stack_)]) (by kernel_rfl) (v := .s (.int .u8 r_3)) (CalL.pure (lists_bits_ok (gt r_ t_1) stack_ r_3 hx_r_3) rfl rfl (Nat.le_of_ble_eq_true (by kernel_rfl))) (fun _ => rfl) fun f6 hf6 => ?_
        refine mops_en hf6 (by kernel_rfl) fun f7 hf7 => ?_
        refine k_c ?_
        refine k_seq ?_
        refine k_seq ?_
        refine k_reg ?_
        refine mops_en hf7 (by kernel_rfl) fun f8 hf8 => ?_
        refine k_c ?_
        refine k_cond hf8 (t := (r_3 == 0)) (by kernel_rfl) (fun hc4 => ?_) (fun hc4 => ?_)
        · have h := if_t h hc4
          refine k_seq ?_
          refine k_reg ?_
          refine mops_en hf8 (by kernel_rfl) fun f9 hf9 => ?_
          refine k_c ?_
          refine k_ret ?_
          refine x_c nofun ?_
          refine x_br ?_
          refine x_c nofun ?_
          refine x_l nofun ?_
          refine x_br ?_
          refine x_c nofun ?_
          obtain rfl := hret0 _ (Option.some.inj h)
          exact k_fin (fin_ret (.inl rfl) hf9 (vs := [.s (.int .u8 0), .s (.int .i64 40)]) (by kernel_rfl) (SettL.pure (FzL.tup (FzsL.cons (FzL.stat rfl) (FzsL.cons (FzL.stat rfl) FzsL.nil)))))
        · have h := if_f h hc4
          refine k_skip ?_
          refine k_c ?_
          refine k_seq ?_
          refine k_seq ?_
          refine k_reg ?_
          refine mops_en hf8 (by kernel_rfl) fun f9 hf9 => ?_
          refine k_c ?_
          refine k_cond hf9 (t := ((bits .and .u8 post_1 r_3) != 0)) (by kernel_rfl) (fun hc5 => ?_) (fun hc5 => ?_)
          · have h := if_t h hc5
            refine k_seq ?_
            refine k_reg ?_
            refine mops_en hf9 (by kernel_rfl) fun f10 hf10 => ?_
            refine k_c ?_
            refine k_ret ?_
            refine x_c nofun ?_
            refine x_br ?_
            refine x_c nofun ?_
            refine x_l nofun ?_
            refine x_br ?_
            refine x_c nofun ?_
            obtain rfl := hret0 _ (Option.some.inj h)
            exact k_fin (fin_ret (.inl rfl) hf10 (vs := [.s (.int .u8 0), .s (.int .i64 41)]) (by kernel_rfl) (SettL.pure (FzL.tup (FzsL.cons (FzL.stat rfl) (FzsL.cons (FzL.stat rfl) FzsL.nil)))))
          · have h := if_f h hc5
            refine k_skip ?_
            refine k_c ?_
            refine k_reg ?_
            refine mops_en hf9 (by kernel_rfl) fun f10 hf10 => ?_
            refine k_b ?_
            refine k_c ?_
            refine k_reg ?_
            refine mops_en hf10 (by kernel_rfl) fun f11 hf11 => ?_
            refine k_l ?_
            exact ih _ _ ⟨(bits .or .u8 post_1 r_3), (IntKind.wrap .i64 (t_1 + 1)), h, FOk_of [1, 4, 5, 6, 13, 14, 15] hf11 (by kernel_rfl), (by kernel_rfl)⟩
      · have h := if_f h hc2
        refine k_exit ?_
        refine x_c nofun ?_
        refine x_l nofun ?_
        refine x_b ?_
        refine k_hp (L' := []) (by kernel_rfl) ?_
        exact hgo0 post_1 (Option.some.inj h) _ (FOk_of [4, 5, 6] hf1 (by kernel_rfl))
end Go.Proofs.YtiedenhkailolaaDoorK
