/- The Go functions come to the functions over typed data. Printed by a program of this work. -/
import Derived.Test.YtnilppmpfklpbaaDoorF
import Derived.Test.YtnilppmpfklpbaaDoorProg
import Derived.Test.YtnilppmpfklpbaaDoorSc
import Derived.Test.YtnilppmpfklpbaaDoorSe
import Derived.Test.YtnilppmpfklpbaaDoorSf
import Derived.Test.YtnilppmpfklpbaaDoorG0
namespace Go.Proofs.YtnilppmpfklpbaaDoorK
set_option linter.unusedVariables false
set_option linter.unusedSimpArgs false
set_option maxHeartbeats 4000000
open Go.RowKit
attribute [local irreducible] dwv mops lops lqops lwops kont iter run runK rk okK ex E1 vals val chain chB sel resF
def wave_Line_i0 : List Op1 := [(oM 4 (.k (.string ⟨#[]⟩)) [])]
def wave_Line_i1 : List Op1 := [(oM 8 (.t 0) []), (oE 9 (.bin .lss (.t 8) (.k (.int .i64 0))) [0]), (oM 10 (.t 9) [1]), (oG 11 (.mv (.t 0)) 10 false [2]), (oG 12 (.bin .gtr (.t 11) (.k (.int .i64 6))) 10 false [3, 2]), (oE 13 (.pick (.t 10) (.k (.bool true)) (.t 12)) [2, 4])]
def wave_Line_i2 : List Op1 := [(oM 4 (.k (.string ⟨#[]⟩)) [])]
def wave_Line_i3 : IR := .ret
def wave_Line_i4 : IR := (.cond (.t 13) (.seq (.reg false wave_Line_i2) wave_Line_i3) .skip)
def wave_Line_i5 : List Op1 := [(oE 5 (.zerob 44 5) [])]
def wave_Line_i6 : List Op1 := [(oM 14 (.t 1) []), (oE 15 (.len (.t 14)) [0]), (oM 16 (.k (.int .i64 0)) [])]
def wave_Line_i7 : List Op1 := [(oE 17 (.bin .lss (.t 16) (.t 15)) [])]
def wave_Line_i8 : List Op1 := [(oE 18 (.ias 9 (.t 14) (.t 16)) []), (oE 19 (.load true 9 (.t 18)) [0]), (oE 7 (.zero [(.int .u16 0), (.int .u8 0), (.bool false), (.bool false), (.bool false), (.bool false), (.bool false), (.bool false), (.bool false)]) []), (oN (.store 9 (.t 7) (.t 19)) [2, 1, 0, 1, 2])]
def wave_Line_i9 : List Op1 := [(oE 20 (.load true 9 (.t 7)) []), (oM 21 (.t 0) []), (oC 22 17 [(.t 20), (.t 21)] [0, 1])]
def wave_Line_i10 : List Op1 := [(oC 23 18 [(.t 5), (.k (.int .u8 35))] [])]
def wave_Line_i11 : List Op1 := [(oC 24 18 [(.t 5), (.k (.int .u8 95))] [])]
def wave_Line_i12 : IR := (.cond (.t 22) (.reg false wave_Line_i10) (.reg false wave_Line_i11))
def wave_Line_i13 : IR := (.seq (.reg false wave_Line_i9) wave_Line_i12)
def wave_Line_i14 : List Op1 := [(oE 25 (.bin .add (.t 16) (.k (.int .i64 1))) []), (oM 16 (.t 25) [0])]
def wave_Line_i15 : IR := (.reg false wave_Line_i14)
def wave_Line_i16 : IR := (.seq (.block 1 (.seq (.reg false wave_Line_i8) wave_Line_i13)) wave_Line_i15)
def wave_Line_i17 : IR := (.seq (.cond (.t 17) .skip (.exit 0)) wave_Line_i16)
def wave_Line_i18 : IR := (.seq (.reg false wave_Line_i7) wave_Line_i17)
def wave_Line_i19 : IR := (.block 0 (.loop wave_Line_i18))
def wave_Line_i20 : List Op1 := [(oC 26 16 [(.t 5)] []), (oM 4 (.t 26) [0, 0, 0])]
def wave_Line_i21 : IR := .ret
def wave_Line_i22 : IR := (.seq (.reg false wave_Line_i20) wave_Line_i21)
def wave_Line_i23 : IR := (.seq (.seq (.reg false wave_Line_i6) wave_Line_i19) wave_Line_i22)
def wave_Line_i24 : IR := (.seq (.reg false wave_Line_i5) wave_Line_i23)
def wave_Line_i25 : IR := (.seq (.seq (.reg false wave_Line_i1) wave_Line_i4) wave_Line_i24)
def wave_Line_ir : IR := (.seq (.reg false wave_Line_i0) wave_Line_i25)
theorem wave_Line_cfn : cFn Tryd.prog 9 = some (wave_Line_ir, [(.t 4)], 27) := by kernel_rfl
def wave_Line_V (r : (ByteArray)) : V := .s (.string r)
def wave_Line_C (r : (ByteArray)) : X → Fr → Hp → Prop := FinL [(.t 4)] [] (wave_Line_V r) []
theorem wave_Line_ok (line_ : Int) (l_ : (List api_Rec)) (r : (ByteArray)) (h : wave_Line line_ l_ = some r) : Pure Tryd.prog 9 [.s (.int .i64 line_), .sl false l_.length (cat api_Rec.v l_)] (wave_Line_V r) := by
  refine ConL.of wave_Line_cfn (Nat.le_of_ble_eq_true (by kernel_rfl)) (Nat.le_of_ble_eq_true (by kernel_rfl)) ?_
  refine k_start ?_
  show dwv Tryd.prog [] wave_Line_ir (kont Tryd.prog [] (wave_Line_C r) []) (fr0 [.s (.int .i64 line_), .sl false l_.length (cat api_Rec.v l_)]) []
  have hf : FOk (fr0 [.s (.int .i64 line_), .sl false l_.length (cat api_Rec.v l_)]) [⟨0, [], .s (.int .i64 line_)⟩, ⟨1, [], .sl false l_.length (cat api_Rec.v l_)⟩] := ⟨⟨fun _ => rfl, fun h => (h trivial).elim⟩, ⟨fun _ => rfl, fun h => (h trivial).elim⟩, trivial⟩
  generalize fr0 [.s (.int .i64 line_), .sl false l_.length (cat api_Rec.v l_)] = f at hf ⊢
  unfold wave_Line at h
  refine k_seq ?_
  refine k_reg ?_
  refine mops_en hf (by kernel_rfl) fun f1 hf1 => ?_
  refine k_c ?_
  refine k_seq ?_
  refine k_seq ?_
  refine k_reg ?_
  refine mops_en hf1 (by kernel_rfl) fun f2 hf2 => ?_
  refine k_c ?_
  refine k_cond hf2 (t := ((decide (line_ < 0)) || (decide (6 < line_)))) (by kernel_rfl) (fun hc1 => ?_) (fun hc1 => ?_)
  · have h := if_t h hc1
    refine k_seq ?_
    refine k_reg ?_
    refine mops_en hf2 (by kernel_rfl) fun f3 hf3 => ?_
    refine k_c ?_
    refine k_ret ?_
    refine x_c nofun ?_
    obtain rfl := Option.some.inj h
    exact k_fin (fin_ret (.inl rfl) hf3 (vs := [.s (.string (⟨#[]⟩ : ByteArray))]) (by kernel_rfl) (SettL.pure (FzL.stat rfl)))
  · have h := if_f h hc1
    refine k_skip ?_
    refine k_c ?_
    refine k_seq ?_
    refine k_reg ?_
    refine mops_en hf2 (by kernel_rfl) fun f3 hf3 => ?_
    refine k_c ?_
    refine k_seq ?_
    refine k_seq ?_
    refine k_reg ?_
    refine mops_en hf3 (by kernel_rfl) fun f4 hf4 => ?_
    refine k_c ?_
    refine k_block ?_
    obtain ⟨o0, hx0, h⟩ := Option.bind_eq_some_iff.1 h
    have hgo0 : ∀ (l_3 : (List Int)) (v_2 : Nat) (z_2 : Bool), l_3 = o0 → ∀ f, FOk f [⟨4, [], .s (.string (⟨#[]⟩ : ByteArray))⟩, ⟨5, [], .ptr 1 0 0⟩] → kont Tryd.prog [] (wave_Line_C r) ((.c wave_Line_i22) :: []) .normal f [⟨v_2, .buf BU, 1, cat (nI .u8) l_3⟩, ⟨0, .bld BT, 1, [sp z_2 1 0, .ref 0 v_2 0 l_3.length]⟩] := by
      intro l_3 v_2 z_2 e f hf
      subst e
      refine k_c ?_
      refine k_seq ?_
      refine k_reg ?_
      obtain ⟨c7, h⟩ := as_ok h
      refine mops_call rfl hf (av := [.ptr 1 0 0]) (by kernel_rfl) (v := .s (.string (bs l_3))) (L' := [⟨v_2, .dead, 1, []⟩, ⟨0, .bld BT, 1, [sp z_2 1 0, .ref 0 v_2 0 l_3.length]⟩]) (CalL.bldD 0 1 (str_con z_2 v_2 l_3 c7) (by kernel_rfl) rfl (by kernel_rfl) (by kernel_rfl)) (by intro h; cases h) fun f1 hf1 => ?_
      refine mops_en hf1 (by kernel_rfl) fun f2 hf2 => ?_
      refine k_c ?_
      refine k_ret ?_
      obtain rfl := Option.some.inj h
      exact k_fin (fin_ret (.inl rfl) hf2 (vs := [.s (.string (bs l_3))]) (by kernel_rfl) (SettL.pure (FzL.stat rfl)))
    refine k_loop BIG ?_
    refine loop_ind (fun n f L => ∃ (l_2 : (List Int)) (t_1 : Int) (v_1 : Nat) (z_1 : Bool), wave_Line_l0 line_ l_ n l_2 t_1 = some o0 ∧ FOk f [⟨0, [], .s (.int .i64 line_)⟩, ⟨4, [], .s (.string (⟨#[]⟩ : ByteArray))⟩, ⟨5, [], .ptr 1 0 0⟩, ⟨14, [], .sl false l_.length (cat api_Rec.v l_)⟩, ⟨15, [], .s (.int .i64 (ln l_))⟩, ⟨16, [], .s (.int .i64 t_1)⟩] ∧ L = [⟨v_1, .buf BU, 1, cat (nI .u8) l_2⟩, ⟨0, .bld BT, 1, [sp z_1 1 0, .ref 0 v_1 0 l_2.length]⟩]) ?_ ?_ BIG _ _ ⟨([] : List Int), (0), (0), true, hx0, FOk_of [0, 4, 5, 14, 15, 16] hf4 (by kernel_rfl), (by kernel_rfl)⟩
    · rintro f L ⟨l_2, t_1, v_1, z_1, h, _⟩
      cases (show (none : Option _) = some _ from h)
    · rintro n0 R0 ih f L ⟨l_2, t_1, v_1, z_1, h, hf, rfl⟩
      rw [wave_Line_l0] at h
      refine k_seq ?_
      refine k_reg ?_
      refine mops_en hf (by kernel_rfl) fun f1 hf1 => ?_
      refine k_c ?_
      refine k_seq ?_
      refine k_cond hf1 (t := (decide (t_1 < (ln l_)))) (by kernel_rfl) (fun hc2 => ?_) (fun hc2 => ?_)
      · have h := if_t h hc2
        refine k_skip ?_
        refine k_c ?_
        refine k_seq ?_
        refine k_block ?_
        refine k_seq ?_
        refine k_reg ?_
        obtain ⟨c3, h⟩ := as_ok h
        refine mops_adv rfl (v := .ip ((cat api_Rec.v l_).drop ((t_1 : Int).toNat * 9))) hf1 (by kernel_rfl) (e_ias (n := l_.length) (xv := .sl false l_.length (cat api_Rec.v l_)) (k := .i64) (iv := t_1) (p := .ip ((cat api_Rec.v l_).drop ((t_1 : Int).toNat * 9))) (by kernel_rfl) (by kernel_rfl) (by kernel_rfl) (by kernel_rfl) c3) fun f2 hf2 => ?_
        refine mops_adv rfl (v := .agg [.s (.int .u16 (gt l_ t_1).Addr), .s (.int .u8 (gt l_ t_1).Data), .s (.bool (gt l_ t_1).Read), .s (.bool (gt l_ t_1).BA), .s (.bool (gt l_ t_1).BS), .s (.bool (gt l_ t_1).LIC), .s (.bool (gt l_ t_1).AVMA), .s (.bool (gt l_ t_1).BUSY), .s (.bool (gt l_ t_1).Mine)]) hf2 (by kernel_rfl) (e_load_ip (g := api_Rec.v) (l := l_) (iv := t_1) [] (by kernel_rfl) c3 (by kernel_rfl) (by kernel_rfl)) fun f3 hf3 => ?_
        refine mops_en hf3 (by kernel_rfl) fun f4 hf4 => ?_
        refine k_c ?_
        refine k_seq ?_
        refine k_reg ?_
        refine mops_sg 2 hf4 (by kernel_rfl) fun f5 hf5 => ?_
        obtain ⟨r_2, hx_r_2, h⟩ := Option.bind_eq_some_iff.1 h
        refine mops_call rfl hf5 (av := [.agg [.s (.int .u16 (gt l_ t_1).Addr), .s (.int .u8 (gt l_ t_1).Data), .s (.bool (gt l_ t_1).Read), .s (.bool (gt l_ t_1).BA), .s (.bool (gt l_ t_1).BS), .s (.bool (gt l_ t_1).LIC), .s (.bool (gt l_ t_1).AVMA), .s (.bool (gt l_ t_1).BUSY), .s (.bool (gt l_ t_1).Mine)], .s (.int .i64 line_)]) (by kernel_rfl) (v := .s (.bool r_2)) (CalL.pure (wave_level_ok (gt l_ t_1) line_ r_2 hx_r_2) rfl rfl (Nat.le_of_ble_eq_true (by kernel_rfl))) (fun _ => rfl) fun f6 hf6 => ?_
        refine mops_en hf6 (by kernel_rfl) fun f7 hf7 => ?_
        refine k_c ?_
        refine k_cond hf7 (t := r_2) (by kernel_rfl) (fun hc4 => ?_) (fun hc4 => ?_)
        · have h := if_t h hc4
          refine k_reg ?_
          obtain ⟨c5, h⟩ := as_ok h
          refine mops_call rfl hf7 (av := [.ptr 1 0 0, .s (.int .u8 35)]) (by kernel_rfl) (v := .s .nilIface) (L' := [⟨(v_1 + 1), .buf BU, 1, cat (nI .u8) (l_2 ++ [35])⟩, ⟨0, .bld BT, 1, [sp false 1 0, .ref 0 (v_1 + 1) 0 (l_2 ++ [35]).length]⟩, ⟨0, .mem, 1, [.s (.int .u16 (gt l_ t_1).Addr), .s (.int .u8 (gt l_ t_1).Data), .s (.bool (gt l_ t_1).Read), .s (.bool (gt l_ t_1).BA), .s (.bool (gt l_ t_1).BS), .s (.bool (gt l_ t_1).LIC), .s (.bool (gt l_ t_1).AVMA), .s (.bool (gt l_ t_1).BUSY), .s (.bool (gt l_ t_1).Mine)]⟩]) (CalL.bld (xs := [.int .u8 35]) 0 1 (wb_con z_1 v_1 l_2 (35) c5) (by kernel_rfl) rfl (by kernel_rfl) (by kernel_rfl)) (by intro h; cases h) fun f8 hf8 => ?_
          refine mops_en hf8 (by kernel_rfl) fun f9 hf9 => ?_
          refine k_b ?_
          refine k_c ?_
          refine k_reg ?_
          refine mops_en hf9 (by kernel_rfl) fun f10 hf10 => ?_
          refine k_l' (vs_cut (l := [⟨0, [], .s (.int .i64 line_)⟩, ⟨4, [], .s (.string (⟨#[]⟩ : ByteArray))⟩, ⟨5, [], .ptr 1 0 0⟩, ⟨14, [], .sl false l_.length (cat api_Rec.v l_)⟩, ⟨15, [], .s (.int .i64 (ln l_))⟩, ⟨16, [], .s (.int .i64 (IntKind.wrap .i64 (t_1 + 1)))⟩]) 2 (by kernel_rfl) (by kernel_rfl) (L' := [⟨(v_1 + 1), .buf BU, 1, cat (nI .u8) (l_2 ++ [35])⟩, ⟨0, .bld BT, 1, [sp false 1 0, .ref 0 (v_1 + 1) 0 (l_2 ++ [35]).length]⟩]) (by kernel_rfl) ⟨⟨rfl, rfl⟩, ⟨rfl, rfl⟩, ⟨rfl, rfl⟩, ⟨rfl, (static_under _ _ (by simp [V.static, statics, cat_stat, dropcat_stat]))⟩, ⟨rfl, rfl⟩, ⟨rfl, rfl⟩, trivial⟩ ⟨.inr (.inr (statics_unders _ _ (cat_stat _))), .inr (.inr (bld_under (by kernel_rfl) (by kernel_rfl))), trivial⟩ (FOk_of [0, 4, 5, 14, 15, 16] hf10 (by kernel_rfl)) fun f hf => ?_)
          exact ih _ _ ⟨(l_2 ++ [35]), (IntKind.wrap .i64 (t_1 + 1)), (v_1 + 1), false, h, hf, rfl⟩
        · have h := if_f h hc4
          refine k_reg ?_
          obtain ⟨c6, h⟩ := as_ok h
          refine mops_call rfl hf7 (av := [.ptr 1 0 0, .s (.int .u8 95)]) (by kernel_rfl) (v := .s .nilIface) (L' := [⟨(v_1 + 1), .buf BU, 1, cat (nI .u8) (l_2 ++ [95])⟩, ⟨0, .bld BT, 1, [sp false 1 0, .ref 0 (v_1 + 1) 0 (l_2 ++ [95]).length]⟩, ⟨0, .mem, 1, [.s (.int .u16 (gt l_ t_1).Addr), .s (.int .u8 (gt l_ t_1).Data), .s (.bool (gt l_ t_1).Read), .s (.bool (gt l_ t_1).BA), .s (.bool (gt l_ t_1).BS), .s (.bool (gt l_ t_1).LIC), .s (.bool (gt l_ t_1).AVMA), .s (.bool (gt l_ t_1).BUSY), .s (.bool (gt l_ t_1).Mine)]⟩]) (CalL.bld (xs := [.int .u8 95]) 0 1 (wb_con z_1 v_1 l_2 (95) c6) (by kernel_rfl) rfl (by kernel_rfl) (by kernel_rfl)) (by intro h; cases h) fun f8 hf8 => ?_
          refine mops_en hf8 (by kernel_rfl) fun f9 hf9 => ?_
          refine k_b ?_
          refine k_c ?_
          refine k_reg ?_
          refine mops_en hf9 (by kernel_rfl) fun f10 hf10 => ?_
          refine k_l' (vs_cut (l := [⟨0, [], .s (.int .i64 line_)⟩, ⟨4, [], .s (.string (⟨#[]⟩ : ByteArray))⟩, ⟨5, [], .ptr 1 0 0⟩, ⟨14, [], .sl false l_.length (cat api_Rec.v l_)⟩, ⟨15, [], .s (.int .i64 (ln l_))⟩, ⟨16, [], .s (.int .i64 (IntKind.wrap .i64 (t_1 + 1)))⟩]) 2 (by kernel_rfl) (by kernel_rfl) (L' := [⟨(v_1 + 1), .buf BU, 1, cat (nI .u8) (l_2 ++ [95])⟩, ⟨0, .bld BT, 1, [sp false 1 0, .ref 0 (v_1 + 1) 0 (l_2 ++ [95]).length]⟩]) (by kernel_rfl) ⟨⟨rfl, rfl⟩, ⟨rfl, rfl⟩, ⟨rfl, rfl⟩, ⟨rfl, (static_under _ _ (by simp [V.static, statics, cat_stat, dropcat_stat]))⟩, ⟨rfl, rfl⟩, ⟨rfl, rfl⟩, trivial⟩ ⟨.inr (.inr (statics_unders _ _ (cat_stat _))), .inr (.inr (bld_under (by kernel_rfl) (by kernel_rfl))), trivial⟩ (FOk_of [0, 4, 5, 14, 15, 16] hf10 (by kernel_rfl)) fun f hf => ?_)
          exact ih _ _ ⟨(l_2 ++ [95]), (IntKind.wrap .i64 (t_1 + 1)), (v_1 + 1), false, h, hf, rfl⟩
      · have h := if_f h hc2
        refine k_exit ?_
        refine x_c nofun ?_
        refine x_l nofun ?_
        refine x_b ?_
        refine k_hp (L' := [⟨v_1, .buf BU, 1, cat (nI .u8) l_2⟩, ⟨0, .bld BT, 1, [sp z_1 1 0, .ref 0 v_1 0 l_2.length]⟩]) (by kernel_rfl) ?_
        exact hgo0 l_2 v_1 z_1 (Option.some.inj h) _ (FOk_of [4, 5] hf1 (by kernel_rfl))
def unicode_utf8_DecodeRuneInString_i0 : List Op1 := [(oM 2 (.k (.int .i32 0)) []), (oM 3 (.k (.int .i64 0)) [0])]
def unicode_utf8_DecodeRuneInString_i1 : List Op1 := [(oM 4 (.t 0) []), (oE 5 (.bin .neq (.t 4) (.k (.string ⟨#[]⟩))) [0]), (oM 6 (.t 5) [1]), (oG 7 (.mv (.t 0)) 6 true [2]), (oG 8 (.ixs (.t 7) (.k (.int .i64 0))) 6 true [3, 2]), (oG 9 (.bin .lss (.t 8) (.k (.int .u8 128))) 6 true [4, 2]), (oE 10 (.pick (.t 6) (.t 9) (.k (.bool false))) [2, 5])]
def unicode_utf8_DecodeRuneInString_i2 : List Op1 := [(oM 11 (.t 0) []), (oE 12 (.ixs (.t 11) (.k (.int .i64 0))) [0]), (oE 13 (.cint .i32 (.t 12)) [1]), (oM 2 (.t 13) [2, 0, 1, 2]), (oM 3 (.k (.int .i64 1)) [3, 0, 1, 2, 3])]
def unicode_utf8_DecodeRuneInString_i3 : IR := .ret
def unicode_utf8_DecodeRuneInString_i4 : List Op1 := [(oM 15 (.t 0) []), (oC 16 42 [(.t 15)] [0]), (oM 14 (.t 16) [1]), (oE 17 (.ext 0 (.t 14)) [2]), (oE 18 (.ext 1 (.t 14)) [2]), (oM 2 (.t 17) [3, 1, 0, 1, 2, 3]), (oM 3 (.t 18) [4, 5, 0, 1, 2, 3, 4, 5])]
def unicode_utf8_DecodeRuneInString_i5 : IR := (.cond (.t 10) (.seq (.reg false unicode_utf8_DecodeRuneInString_i2) unicode_utf8_DecodeRuneInString_i3) (.reg false unicode_utf8_DecodeRuneInString_i4))
def unicode_utf8_DecodeRuneInString_i6 : IR := .ret
def unicode_utf8_DecodeRuneInString_i7 : IR := (.seq (.seq (.reg false unicode_utf8_DecodeRuneInString_i1) unicode_utf8_DecodeRuneInString_i5) unicode_utf8_DecodeRuneInString_i6)
def unicode_utf8_DecodeRuneInString_ir : IR := (.seq (.reg false unicode_utf8_DecodeRuneInString_i0) unicode_utf8_DecodeRuneInString_i7)
theorem unicode_utf8_DecodeRuneInString_cfn : cFn Tryd.prog 36 = some (unicode_utf8_DecodeRuneInString_ir, [(.t 2), (.t 3)], 19) := by kernel_rfl
def unicode_utf8_DecodeRuneInString_V (r : (Int × Int)) : V := .tup [.s (.int .i32 r.1), .s (.int .i64 r.2)]
def unicode_utf8_DecodeRuneInString_C (r : (Int × Int)) : X → Fr → Hp → Prop := FinL [(.t 2), (.t 3)] [] (unicode_utf8_DecodeRuneInString_V r) []
theorem unicode_utf8_DecodeRuneInString_ok (s_ : ByteArray) (r : (Int × Int)) (h : unicode_utf8_DecodeRuneInString s_ = some r) : Pure Tryd.prog 36 [.s (.string s_)] (unicode_utf8_DecodeRuneInString_V r) := by
  refine ConL.of unicode_utf8_DecodeRuneInString_cfn (Nat.le_of_ble_eq_true (by kernel_rfl)) (Nat.le_of_ble_eq_true (by kernel_rfl)) ?_
  refine k_start ?_
  show dwv Tryd.prog [] unicode_utf8_DecodeRuneInString_ir (kont Tryd.prog [] (unicode_utf8_DecodeRuneInString_C r) []) (fr0 [.s (.string s_)]) []
  have hf : FOk (fr0 [.s (.string s_)]) [⟨0, [], .s (.string s_)⟩] := ⟨⟨fun _ => rfl, fun h => (h trivial).elim⟩, trivial⟩
  generalize fr0 [.s (.string s_)] = f at hf ⊢
  unfold unicode_utf8_DecodeRuneInString at h
  refine k_seq ?_
  refine k_reg ?_
  refine mops_en hf (by kernel_rfl) fun f1 hf1 => ?_
  refine k_c ?_
  refine k_seq ?_
  refine k_seq ?_
  refine k_reg ?_
  refine mops_sg 4 hf1 (by kernel_rfl) fun f2 hf2 => ?_
  obtain ⟨c1, h⟩ := as_ok h
  refine mops_gadv (dst := (some 8)) (op := (.ixs (.t 7) (.k (.int .i64 0)))) (aft := [3, 2]) (t := 6) (w := true) (ch := [(6, true)]) (b := (!(s_.toList == (⟨#[]⟩ : ByteArray).toList))) (v := .s (.int .u8 (bt s_ (0)))) (by kernel_rfl) hf2 (by kernel_rfl) (by kernel_rfl) (by kernel_rfl) (fun hb2 => e_ixs (t := s_) (k := .i64) (iv := 0) (by kernel_rfl) (by kernel_rfl) (c1 hb2)) fun f3 hf3 => ?_
  refine mops_en hf3 (by kernel_rfl) fun f4 hf4 => ?_
  refine k_c ?_
  refine k_cond hf4 (t := ((!(s_.toList == (⟨#[]⟩ : ByteArray).toList)) && (decide ((bt s_ (0)) < 128)))) (by kernel_rfl) (fun hc3 => ?_) (fun hc3 => ?_)
  · have h := if_t h hc3
    refine k_seq ?_
    refine k_reg ?_
    refine mops_sg 1 hf4 (by kernel_rfl) fun f5 hf5 => ?_
    obtain ⟨c4, h⟩ := as_ok h
    refine mops_adv rfl (v := .s (.int .u8 (bt s_ (0)))) hf5 (by kernel_rfl) (e_ixs (t := s_) (k := .i64) (iv := 0) (by kernel_rfl) (by kernel_rfl) c4) fun f6 hf6 => ?_
    refine mops_en hf6 (by kernel_rfl) fun f7 hf7 => ?_
    refine k_c ?_
    refine k_ret ?_
    refine x_c nofun ?_
    obtain rfl := Option.some.inj h
    exact k_fin (fin_ret (.inl rfl) hf7 (vs := [.s (.int .i32 (IntKind.wrap .i32 (bt s_ (0)))), .s (.int .i64 1)]) (by kernel_rfl) (SettL.pure (FzL.tup (FzsL.cons (FzL.stat rfl) (FzsL.cons (FzL.stat rfl) FzsL.nil)))))
  · have h := if_f h hc3
    refine k_reg ?_
    refine mops_sg 1 hf4 (by kernel_rfl) fun f5 hf5 => ?_
    obtain ⟨r_, hx_r_, h⟩ := Option.bind_eq_some_iff.1 h
    refine mops_call rfl hf5 (av := [.s (.string s_)]) (by kernel_rfl) (v := .tup [.s (.int .i32 r_.1), .s (.int .i64 r_.2)]) (CalL.pure (unicode_utf8_decodeRuneInStringSlow_ok s_ r_ hx_r_) rfl rfl (Nat.le_of_ble_eq_true (by kernel_rfl))) (fun _ => rfl) fun f6 hf6 => ?_
    refine mops_en hf6 (by kernel_rfl) fun f7 hf7 => ?_
    refine k_c ?_
    refine k_ret ?_
    obtain rfl := Option.some.inj h
    exact k_fin (fin_ret (.inl rfl) hf7 (vs := [.s (.int .i32 r_.1), .s (.int .i64 r_.2)]) (by kernel_rfl) (SettL.pure (FzL.tup (FzsL.cons (FzL.stat rfl) (FzsL.cons (FzL.stat rfl) FzsL.nil)))))
def strings_genSplit_i0 : List Op1 := [(oE 8 (.nilg 1) [])]
def strings_genSplit_i1 : List Op1 := [(oM 12 (.t 3) []), (oE 13 (.bin .eql (.t 12) (.k (.int .i64 0))) [0])]
def strings_genSplit_i2 : List Op1 := [(oE 8 (.nilg 1) [])]
def strings_genSplit_i3 : IR := .ret
def strings_genSplit_i4 : IR := (.cond (.t 13) (.seq (.reg false strings_genSplit_i2) strings_genSplit_i3) .skip)
def strings_genSplit_i5 : List Op1 := [(oM 14 (.t 1) []), (oE 15 (.bin .eql (.t 14) (.k (.string ⟨#[]⟩))) [0])]
def strings_genSplit_i6 : List Op1 := [(oM 16 (.t 0) []), (oM 17 (.t 3) []), (oC 18 29 [(.t 16), (.t 17)] [0, 1]), (oM 8 (.t 18) [2, 2, 0, 1, 2])]
def strings_genSplit_i7 : IR := .ret
def strings_genSplit_i8 : IR := (.cond (.t 15) (.seq (.reg false strings_genSplit_i6) strings_genSplit_i7) .skip)
def strings_genSplit_i9 : List Op1 := [(oM 19 (.t 3) []), (oE 20 (.bin .lss (.t 19) (.k (.int .i64 0))) [0])]
def strings_genSplit_i10 : List Op1 := [(oM 21 (.t 0) []), (oM 22 (.t 1) []), (oC 23 19 [(.t 21), (.t 22)] [0, 1]), (oE 24 (.bin .add (.t 23) (.k (.int .i64 1))) [2]), (oM 3 (.t 24) [3, 2, 0, 1, 2, 3])]
def strings_genSplit_i11 : IR := (.cond (.t 20) (.reg false strings_genSplit_i10) .skip)
def strings_genSplit_i12 : List Op1 := [(oM 25 (.t 3) []), (oM 26 (.t 0) []), (oE 27 (.lens (.t 26)) [1]), (oE 28 (.bin .add (.t 27) (.k (.int .i64 1))) [2]), (oE 29 (.mnx false (.t 25) (.t 28)) [0, 3]), (oM 3 (.t 29) [4, 0, 1, 2, 3, 4])]
def strings_genSplit_i13 : List Op1 := [(oM 30 (.t 3) []), (oE 31 (.mks [(.string ⟨#[]⟩)] 16 (.t 30) (.t 30)) [0, 0]), (oM 9 (.t 31) [1, 0, 1])]
def strings_genSplit_i14 : List Op1 := [(oM 32 (.t 3) []), (oE 33 (.bin .sub (.t 32) (.k (.int .i64 1))) [0]), (oM 3 (.t 33) [1, 0, 1])]
def strings_genSplit_i15 : List Op1 := [(oM 10 (.k (.int .i64 0)) [])]
def strings_genSplit_i16 : List Op1 := [(oM 34 (.t 10) []), (oM 35 (.t 3) []), (oE 36 (.bin .lss (.t 34) (.t 35)) [0, 1])]
def strings_genSplit_i17 : IR := (.cond (.t 36) .skip (.exit 0))
def strings_genSplit_i18 : List Op1 := [(oM 37 (.t 0) []), (oM 38 (.t 1) []), (oC 39 28 [(.t 37), (.t 38)] [0, 1]), (oM 11 (.t 39) [2, 2, 0, 1, 2])]
def strings_genSplit_i19 : List Op1 := [(oM 40 (.t 11) []), (oE 41 (.bin .lss (.t 40) (.k (.int .i64 0))) [0])]
def strings_genSplit_i20 : IR := (.cond (.t 41) (.exit 0) .skip)
def strings_genSplit_i21 : List Op1 := [(oM 42 (.t 9) []), (oM 43 (.t 10) []), (oM 44 (.t 0) []), (oM 45 (.t 11) []), (oM 46 (.t 2) []), (oE 47 (.bin .add (.t 45) (.t 46)) [3, 4]), (oE 48 (.sstr (.t 44) none (some (.t 47))) [2, 5]), (oE 49 (.ias 1 (.t 42) (.t 43)) [0, 1, 0, 1, 2, 3, 4, 5, 6]), (oN (.store 1 (.t 49) (.t 48)) [7, 6, 0, 1, 2, 3, 4, 5, 6])]
def strings_genSplit_i22 : List Op1 := [(oM 50 (.t 0) []), (oM 51 (.t 11) []), (oM 52 (.t 1) []), (oE 53 (.lens (.t 52)) [2]), (oE 54 (.bin .add (.t 51) (.t 53)) [1, 3]), (oE 55 (.sstr (.t 50) (some (.t 54)) none) [0, 4]), (oM 0 (.t 55) [5, 0, 1, 2, 3, 4, 5])]
def strings_genSplit_i23 : List Op1 := [(oM 56 (.t 10) []), (oE 57 (.bin .add (.t 56) (.k (.int .i64 1))) [0]), (oM 10 (.t 57) [1, 0, 1])]
def strings_genSplit_i24 : IR := (.reg false strings_genSplit_i23)
def strings_genSplit_i25 : IR := (.seq (.reg false strings_genSplit_i22) strings_genSplit_i24)
def strings_genSplit_i26 : IR := (.seq (.reg false strings_genSplit_i21) strings_genSplit_i25)
def strings_genSplit_i27 : IR := (.seq (.seq (.reg false strings_genSplit_i19) strings_genSplit_i20) strings_genSplit_i26)
def strings_genSplit_i28 : IR := (.block 1 (.seq (.reg false strings_genSplit_i18) strings_genSplit_i27))
def strings_genSplit_i29 : IR := (.seq (.seq (.reg false strings_genSplit_i16) strings_genSplit_i17) strings_genSplit_i28)
def strings_genSplit_i30 : List Op1 := [(oM 58 (.t 9) []), (oM 59 (.t 10) []), (oM 60 (.t 0) []), (oE 61 (.ias 1 (.t 58) (.t 59)) [0, 1, 0, 1, 2]), (oN (.store 1 (.t 61) (.t 60)) [3, 2, 0, 1, 2])]
def strings_genSplit_i31 : List Op1 := [(oM 62 (.t 9) []), (oM 63 (.t 10) []), (oE 64 (.bin .add (.t 63) (.k (.int .i64 1))) [1]), (oE 65 (.slice 1 (.t 62) none (some (.t 64))) [0, 2]), (oM 8 (.t 65) [3, 0, 1, 2, 3])]
def strings_genSplit_i32 : IR := .ret
def strings_genSplit_i33 : IR := (.seq (.reg false strings_genSplit_i31) strings_genSplit_i32)
def strings_genSplit_i34 : IR := (.seq (.reg false strings_genSplit_i30) strings_genSplit_i33)
def strings_genSplit_i35 : IR := (.seq (.block 0 (.loop strings_genSplit_i29)) strings_genSplit_i34)
def strings_genSplit_i36 : IR := (.seq (.reg false strings_genSplit_i15) strings_genSplit_i35)
def strings_genSplit_i37 : IR := (.seq (.reg false strings_genSplit_i14) strings_genSplit_i36)
def strings_genSplit_i38 : IR := (.seq (.reg false strings_genSplit_i13) strings_genSplit_i37)
def strings_genSplit_i39 : IR := (.seq (.reg false strings_genSplit_i12) strings_genSplit_i38)
def strings_genSplit_i40 : IR := (.seq (.seq (.reg false strings_genSplit_i9) strings_genSplit_i11) strings_genSplit_i39)
def strings_genSplit_i41 : IR := (.seq (.seq (.reg false strings_genSplit_i5) strings_genSplit_i8) strings_genSplit_i40)
def strings_genSplit_i42 : IR := (.seq (.seq (.reg false strings_genSplit_i1) strings_genSplit_i4) strings_genSplit_i41)
def strings_genSplit_ir : IR := (.seq (.reg false strings_genSplit_i0) strings_genSplit_i42)
theorem strings_genSplit_cfn : cFn Tryd.prog 20 = some (strings_genSplit_ir, [(.t 8)], 66) := by kernel_rfl
def strings_genSplit_V (r : ((List ByteArray))) : V := .sl false r.length (cat nS r)
def strings_genSplit_C (r : ((List ByteArray))) : X → Fr → Hp → Prop := FinL [(.t 8)] [] (strings_genSplit_V r) []
theorem strings_genSplit_ok (s_ : ByteArray) (sep_ : ByteArray) (sepSave_ : Int) (n_ : Int) (r : ((List ByteArray))) (h : strings_genSplit s_ sep_ sepSave_ n_ = some r) : Pure Tryd.prog 20 [.s (.string s_), .s (.string sep_), .s (.int .i64 sepSave_), .s (.int .i64 n_)] (strings_genSplit_V r) := by
  refine ConL.of strings_genSplit_cfn (Nat.le_of_ble_eq_true (by kernel_rfl)) (Nat.le_of_ble_eq_true (by kernel_rfl)) ?_
  refine k_start ?_
  show dwv Tryd.prog [] strings_genSplit_ir (kont Tryd.prog [] (strings_genSplit_C r) []) (fr0 [.s (.string s_), .s (.string sep_), .s (.int .i64 sepSave_), .s (.int .i64 n_)]) []
  have hf : FOk (fr0 [.s (.string s_), .s (.string sep_), .s (.int .i64 sepSave_), .s (.int .i64 n_)]) [⟨0, [], .s (.string s_)⟩, ⟨1, [], .s (.string sep_)⟩, ⟨2, [], .s (.int .i64 sepSave_)⟩, ⟨3, [], .s (.int .i64 n_)⟩] := ⟨⟨fun _ => rfl, fun h => (h trivial).elim⟩, ⟨fun _ => rfl, fun h => (h trivial).elim⟩, ⟨fun _ => rfl, fun h => (h trivial).elim⟩, ⟨fun _ => rfl, fun h => (h trivial).elim⟩, trivial⟩
  generalize fr0 [.s (.string s_), .s (.string sep_), .s (.int .i64 sepSave_), .s (.int .i64 n_)] = f at hf ⊢
  unfold strings_genSplit at h
  refine k_seq ?_
  refine k_reg ?_
  refine mops_en hf (by kernel_rfl) fun f1 hf1 => ?_
  refine k_c ?_
  refine k_seq ?_
  refine k_seq ?_
  refine k_reg ?_
  refine mops_en hf1 (by kernel_rfl) fun f2 hf2 => ?_
  refine k_c ?_
  refine k_cond hf2 (t := (n_ == 0)) (by kernel_rfl) (fun hc1 => ?_) (fun hc1 => ?_)
  · have h := if_t h hc1
    refine k_seq ?_
    refine k_reg ?_
    refine mops_en hf2 (by kernel_rfl) fun f3 hf3 => ?_
    refine k_c ?_
    refine k_ret ?_
    refine x_c nofun ?_
    obtain rfl := Option.some.inj h
    exact k_fin (fin_ret (.inl rfl) hf3 (vs := [.ref 1 0 0 0]) (by kernel_rfl) (SettL.pure (FzL.whole (g := nS) (kd := .grow) (l := ([] : List ByteArray)) (by kernel_rfl) rfl (live_grow (by kernel_rfl)))))
  · have h := if_f h hc1
    refine k_skip ?_
    refine k_c ?_
    refine k_seq ?_
    refine k_seq ?_
    refine k_reg ?_
    refine mops_en hf2 (by kernel_rfl) fun f3 hf3 => ?_
    refine k_c ?_
    refine k_cond hf3 (t := (sep_.toList == (⟨#[]⟩ : ByteArray).toList)) (by kernel_rfl) (fun hc2 => ?_) (fun hc2 => ?_)
    · have h := if_t h hc2
      cases h
    · have h := if_f h hc2
      refine k_skip ?_
      refine k_c ?_
      refine k_seq ?_
      refine k_seq ?_
      refine k_reg ?_
      refine mops_en hf3 (by kernel_rfl) fun f4 hf4 => ?_
      refine k_c ?_
      have hj1 : ∀ (t_ : Int), strings_genSplit_j0 s_ sep_ sepSave_ t_ = some r → ∀ f, FOk f [⟨0, [], .s (.string s_)⟩, ⟨1, [], .s (.string sep_)⟩, ⟨2, [], .s (.int .i64 sepSave_)⟩, ⟨3, [], .s (.int .i64 t_)⟩, ⟨8, [], .ref 0 0 0 0⟩] → kont Tryd.prog [] (strings_genSplit_C r) ((.c strings_genSplit_i39) :: []) .normal f [⟨0, .grow, 1, cat nS ([] : List ByteArray)⟩] := by
        intro t_ h f hf
        unfold strings_genSplit_j0 at h
        refine k_c ?_
        refine k_seq ?_
        refine k_reg ?_
        refine mops_en hf (by kernel_rfl) fun f1 hf1 => ?_
        refine k_c ?_
        refine k_seq ?_
        refine k_reg ?_
        refine mops_sg 1 hf1 (by kernel_rfl) fun f2 hf2 => ?_
        obtain ⟨c4, h⟩ := as_ok h
        refine mops_adv rfl (v := .ref 1 0 0 (rp (if (IntKind.wrap .i64 ((sln s_) + 1)) < t_ then (IntKind.wrap .i64 ((sln s_) + 1)) else t_) ((⟨#[]⟩ : ByteArray) : ByteArray)).length) hf2 (by kernel_rfl) (e_mks (g := nS) (a := (⟨#[]⟩ : ByteArray)) (k := .i64) (k' := .i64) (iv := (if (IntKind.wrap .i64 ((sln s_) + 1)) < t_ then (IntKind.wrap .i64 ((sln s_) + 1)) else t_)) (jv := (if (IntKind.wrap .i64 ((sln s_) + 1)) < t_ then (IntKind.wrap .i64 ((sln s_) + 1)) else t_)) (by kernel_rfl) (by kernel_rfl) (by kernel_rfl) c4 (by kernel_rfl)) fun f3 hf3 => ?_
        refine mops_en hf3 (by kernel_rfl) fun f4 hf4 => ?_
        refine k_c ?_
        refine k_seq ?_
        refine k_reg ?_
        refine mops_en hf4 (by kernel_rfl) fun f5 hf5 => ?_
        refine k_c ?_
        refine k_seq ?_
        refine k_reg ?_
        refine mops_en hf5 (by kernel_rfl) fun f6 hf6 => ?_
        refine k_c ?_
        refine k_seq ?_
        refine k_block ?_
        obtain ⟨o0, hx0, h⟩ := Option.bind_eq_some_iff.1 h
        have hgo0 : ∀ (l_2 : (List ByteArray)) (t_3 : ByteArray) (i_2 : Int) (m_2 : Nat) (hn_2 : l_2.length = m_2), (l_2, t_3, i_2) = o0 → ∀ f, FOk f [⟨0, [], .s (.string t_3)⟩, ⟨8, [], .ref 0 0 0 0⟩, ⟨9, [], .ref 1 0 0 m_2⟩, ⟨10, [], .s (.int .i64 i_2)⟩] → kont Tryd.prog [] (strings_genSplit_C r) ((.c strings_genSplit_i34) :: []) .normal f [⟨0, .grow, 1, cat nS ([] : List ByteArray)⟩, ⟨0, .grow, 1, cat nS l_2⟩] := by
          intro l_2 t_3 i_2 m_2 hn_2 e f hf
          subst e
          refine k_c ?_
          refine k_seq ?_
          refine k_reg ?_
          refine mops_sg 3 hf (by kernel_rfl) fun f1 hf1 => ?_
          obtain ⟨c10, h⟩ := as_ok h
          refine mops_adv rfl (v := .ptr 1 0 (0 + (i_2 : Int).toNat * 1)) hf1 (by kernel_rfl) (e_ias_ref (l := l_2) (B := ⟨0, .grow, 1, cat nS l_2⟩) (b := 1) (ver := 0) (n := m_2) (k := .i64) (iv := i_2) (by kernel_rfl) (by kernel_rfl) hn_2 (live_grow (by kernel_rfl)) c10) fun f2 hf2 => ?_
          refine mops_adv rfl (v := .s undef) hf2 (by kernel_rfl) (e_store_pe (g := nS) (l := l_2) (iv := i_2) (kd := .grow) (q := 1) (b := 1) (ver := 0) (ys := [.s (.string t_3)]) (a := t_3) [] (by kernel_rfl) (live_grow (by kernel_rfl)) (by kernel_rfl) (by kernel_rfl) (by kernel_rfl) c10 (by kernel_rfl) (by kernel_rfl)) fun f3 hf3 => ?_
          refine mops_en hf3 (by kernel_rfl) fun f4 hf4 => ?_
          refine k_c ?_
          refine k_seq ?_
          refine k_reg ?_
          refine mops_sg 3 hf4 (by kernel_rfl) fun f5 hf5 => ?_
          obtain ⟨c11, h⟩ := as_ok h
          refine mops_adv rfl (v := .ref 1 0 (0 + 0 * 1) (((IntKind.wrap .i64 (i_2 + 1)) : Int).toNat - 0)) hf5 (by kernel_rfl) (e_slice_ref (B := ⟨0, .grow, 1, cat nS (st l_2 i_2 t_3)⟩) (n := m_2) (o := 0) (by kernel_rfl) (live_grow (by kernel_rfl)) rfl (b_ns (k := .i64) (iv := (IntKind.wrap .i64 (i_2 + 1))) (by kernel_rfl) (ln_ns (st_len.trans hn_2) c11))) fun f6 hf6 => ?_
          refine mops_en hf6 (by kernel_rfl) fun f7 hf7 => ?_
          refine k_c ?_
          refine k_ret ?_
          obtain rfl := Option.some.inj h
          exact k_fin (fin_ret (.inl rfl) hf7 (vs := [.ref 1 0 (0 + 0 * 1) (((IntKind.wrap .i64 (i_2 + 1)) : Int).toNat - 0)]) (by kernel_rfl) (SettL.pure (FzL.partr (g := nS) (kd := .grow) (l := (st l_2 i_2 t_3)) (n := m_2) (a := 0) (b := ((IntKind.wrap .i64 (i_2 + 1)) : Int).toNat) (by kernel_rfl) (cut_ns (n := m_2) (ln_ns (st_len.trans hn_2) c11)) (st_len.trans hn_2) (live_grow (by kernel_rfl)))))
        refine k_loop BIG ?_
        refine loop_ind (fun n f L => ∃ (l_1 : (List ByteArray)) (t_2 : ByteArray) (i_1 : Int) (m_1 : Nat) (hn_1 : l_1.length = m_1), strings_genSplit_l0 s_ sep_ sepSave_ t_ n l_1 t_2 i_1 = some o0 ∧ FOk f [⟨0, [], .s (.string t_2)⟩, ⟨1, [], .s (.string sep_)⟩, ⟨2, [], .s (.int .i64 sepSave_)⟩, ⟨3, [], .s (.int .i64 (IntKind.wrap .i64 ((if (IntKind.wrap .i64 ((sln s_) + 1)) < t_ then (IntKind.wrap .i64 ((sln s_) + 1)) else t_) - 1)))⟩, ⟨8, [], .ref 0 0 0 0⟩, ⟨9, [], .ref 1 0 0 m_1⟩, ⟨10, [], .s (.int .i64 i_1)⟩] ∧ L = [⟨0, .grow, 1, cat nS ([] : List ByteArray)⟩, ⟨0, .grow, 1, cat nS l_1⟩]) ?_ ?_ BIG _ _ ⟨(rp (if (IntKind.wrap .i64 ((sln s_) + 1)) < t_ then (IntKind.wrap .i64 ((sln s_) + 1)) else t_) ((⟨#[]⟩ : ByteArray) : ByteArray)), s_, (0), ((rp (if (IntKind.wrap .i64 ((sln s_) + 1)) < t_ then (IntKind.wrap .i64 ((sln s_) + 1)) else t_) ((⟨#[]⟩ : ByteArray) : ByteArray)).length), rfl, hx0, FOk_of [0, 1, 2, 3, 8, 9, 10] hf6 (by kernel_rfl), (by kernel_rfl)⟩
        · rintro f L ⟨l_1, t_2, i_1, m_1, hn_1, h, _⟩
          cases (show (none : Option _) = some _ from h)
        · rintro n0 R0 ih f L ⟨l_1, t_2, i_1, m_1, hn_1, h, hf, rfl⟩
          rw [strings_genSplit_l0] at h
          refine k_seq ?_
          refine k_seq ?_
          refine k_reg ?_
          refine mops_en hf (by kernel_rfl) fun f1 hf1 => ?_
          refine k_c ?_
          refine k_cond hf1 (t := (decide (i_1 < (IntKind.wrap .i64 ((if (IntKind.wrap .i64 ((sln s_) + 1)) < t_ then (IntKind.wrap .i64 ((sln s_) + 1)) else t_) - 1))))) (by kernel_rfl) (fun hc5 => ?_) (fun hc5 => ?_)
          · have h := if_t h hc5
            refine k_skip ?_
            refine k_c ?_
            refine k_block ?_
            refine k_seq ?_
            refine k_reg ?_
            refine mops_sg 2 hf1 (by kernel_rfl) fun f2 hf2 => ?_
            obtain ⟨r_3, hx_r_3, h⟩ := Option.bind_eq_some_iff.1 h
            refine mops_call rfl hf2 (av := [.s (.string t_2), .s (.string sep_)]) (by kernel_rfl) (v := .s (.int .i64 r_3)) (CalL.pure (strings_Index_ok t_2 sep_ r_3 hx_r_3) rfl rfl (Nat.le_of_ble_eq_true (by kernel_rfl))) (fun _ => rfl) fun f3 hf3 => ?_
            refine mops_en hf3 (by kernel_rfl) fun f4 hf4 => ?_
            refine k_c ?_
            refine k_seq ?_
            refine k_seq ?_
            refine k_reg ?_
            refine mops_en hf4 (by kernel_rfl) fun f5 hf5 => ?_
            refine k_c ?_
            refine k_cond hf5 (t := (decide (r_3 < 0))) (by kernel_rfl) (fun hc6 => ?_) (fun hc6 => ?_)
            · have h := if_t h hc6
              refine k_exit ?_
              refine x_c nofun ?_
              refine x_b' (by kernel_rfl) ?_
              refine x_l nofun ?_
              refine x_b ?_
              refine k_hp (L' := [⟨0, .grow, 1, cat nS ([] : List ByteArray)⟩, ⟨0, .grow, 1, cat nS l_1⟩]) (by kernel_rfl) ?_
              exact hgo0 l_1 t_2 i_1 m_1 hn_1 (Option.some.inj h) _ (FOk_of [0, 8, 9, 10] hf5 (by kernel_rfl))
            · have h := if_f h hc6
              refine k_skip ?_
              refine k_c ?_
              refine k_seq ?_
              refine k_reg ?_
              refine mops_sg 6 hf5 (by kernel_rfl) fun f6 hf6 => ?_
              obtain ⟨c7, h⟩ := as_ok h
              refine mops_adv rfl (v := .s (.string (t_2.extract 0 ((IntKind.wrap .i64 (r_3 + sepSave_)) : Int).toNat))) hf6 (by kernel_rfl) (e_sstr (t := t_2) (by kernel_rfl) (b_ns (k := .i64) (iv := (IntKind.wrap .i64 (r_3 + sepSave_))) (by kernel_rfl) c7)) fun f7 hf7 => ?_
              obtain ⟨c8, h⟩ := as_ok h
              refine mops_adv rfl (v := .ptr 1 0 (0 + (i_1 : Int).toNat * 1)) hf7 (by kernel_rfl) (e_ias_ref (l := l_1) (B := ⟨0, .grow, 1, cat nS l_1⟩) (b := 1) (ver := 0) (n := m_1) (k := .i64) (iv := i_1) (by kernel_rfl) (by kernel_rfl) hn_1 (live_grow (by kernel_rfl)) c8) fun f8 hf8 => ?_
              refine mops_adv rfl (v := .s undef) hf8 (by kernel_rfl) (e_store_pe (g := nS) (l := l_1) (iv := i_1) (kd := .grow) (q := 1) (b := 1) (ver := 0) (ys := [.s (.string (t_2.extract 0 ((IntKind.wrap .i64 (r_3 + sepSave_)) : Int).toNat))]) (a := (t_2.extract 0 ((IntKind.wrap .i64 (r_3 + sepSave_)) : Int).toNat)) [] (by kernel_rfl) (live_grow (by kernel_rfl)) (by kernel_rfl) (by kernel_rfl) (by kernel_rfl) c8 (by kernel_rfl) (by kernel_rfl)) fun f9 hf9 => ?_
              refine mops_en hf9 (by kernel_rfl) fun f10 hf10 => ?_
              refine k_c ?_
              refine k_seq ?_
              refine k_reg ?_
              refine mops_sg 5 hf10 (by kernel_rfl) fun f11 hf11 => ?_
              obtain ⟨c9, h⟩ := as_ok h
              refine mops_adv rfl (v := .s (.string (t_2.extract ((IntKind.wrap .i64 (r_3 + (sln sep_))) : Int).toNat t_2.size))) hf11 (by kernel_rfl) (e_sstr (t := t_2) (by kernel_rfl) (b_sn (k := .i64) (iv := (IntKind.wrap .i64 (r_3 + (sln sep_)))) (by kernel_rfl) c9)) fun f12 hf12 => ?_
              refine mops_en hf12 (by kernel_rfl) fun f13 hf13 => ?_
              refine k_c ?_
              refine k_reg ?_
              refine mops_en hf13 (by kernel_rfl) fun f14 hf14 => ?_
              refine k_b ?_
              refine k_l ?_
              exact ih _ _ ⟨(st l_1 i_1 (t_2.extract 0 ((IntKind.wrap .i64 (r_3 + sepSave_)) : Int).toNat)), (t_2.extract ((IntKind.wrap .i64 (r_3 + (sln sep_))) : Int).toNat t_2.size), (IntKind.wrap .i64 (i_1 + 1)), m_1, (st_len.trans hn_1), h, FOk_of [0, 1, 2, 3, 8, 9, 10] hf14 (by kernel_rfl), (by kernel_rfl)⟩
          · have h := if_f h hc5
            refine k_exit ?_
            refine x_c nofun ?_
            refine x_l nofun ?_
            refine x_b ?_
            refine k_hp (L' := [⟨0, .grow, 1, cat nS ([] : List ByteArray)⟩, ⟨0, .grow, 1, cat nS l_1⟩]) (by kernel_rfl) ?_
            exact hgo0 l_1 t_2 i_1 m_1 hn_1 (Option.some.inj h) _ (FOk_of [0, 8, 9, 10] hf1 (by kernel_rfl))
      refine k_cond hf4 (t := (decide (n_ < 0))) (by kernel_rfl) (fun hc3 => ?_) (fun hc3 => ?_)
      · have h := if_t h hc3
        refine k_reg ?_
        refine mops_sg 2 hf4 (by kernel_rfl) fun f5 hf5 => ?_
        obtain ⟨r_, hx_r_, h⟩ := Option.bind_eq_some_iff.1 h
        refine mops_call rfl hf5 (av := [.s (.string s_), .s (.string sep_)]) (by kernel_rfl) (v := .s (.int .i64 r_)) (CalL.pure (strings_Count_ok s_ sep_ r_ hx_r_) rfl rfl (Nat.le_of_ble_eq_true (by kernel_rfl))) (fun _ => rfl) fun f6 hf6 => ?_
        refine mops_en hf6 (by kernel_rfl) fun f7 hf7 => ?_
        refine k_hp (L' := [⟨0, .grow, 1, cat nS ([] : List ByteArray)⟩]) (by kernel_rfl) ?_
        exact hj1 (IntKind.wrap .i64 (r_ + 1)) h _ (FOk_of [0, 1, 2, 3, 8] hf7 (by kernel_rfl))
      · have h := if_f h hc3
        refine k_skip ?_
        refine k_hp (L' := [⟨0, .grow, 1, cat nS ([] : List ByteArray)⟩]) (by kernel_rfl) ?_
        exact hj1 n_ h _ (FOk_of [0, 1, 2, 3, 8] hf4 (by kernel_rfl))
def math_bits_Mul_i0 : List Op1 := [(oM 4 (.k (.int .u64 0)) []), (oM 5 (.k (.int .u64 0)) [0])]
def math_bits_Mul_i1 : List Op1 := [(oM 11 (.t 0) []), (oE 12 (.cint .u32 (.t 11)) [0]), (oM 13 (.t 1) []), (oE 14 (.cint .u32 (.t 13)) [2]), (oC 15 31 [(.t 12), (.t 14)] [1, 3]), (oM 10 (.t 15) [4]), (oE 16 (.ext 0 (.t 10)) [5]), (oE 17 (.ext 1 (.t 10)) [5]), (oM 6 (.t 16) [6, 4, 0, 1, 2, 3, 4, 5, 6]), (oM 7 (.t 17) [7, 8, 0, 1, 2, 3, 4, 5, 6, 7, 8])]
def math_bits_Mul_i2 : List Op1 := [(oM 18 (.t 6) []), (oE 19 (.cint .u64 (.t 18)) [0]), (oM 20 (.t 7) []), (oE 21 (.cint .u64 (.t 20)) [2]), (oM 4 (.t 19) [1, 0, 1]), (oM 5 (.t 21) [3, 4, 0, 1, 2, 3, 4])]
def math_bits_Mul_i3 : IR := .ret
def math_bits_Mul_i4 : IR := (.seq (.reg false math_bits_Mul_i2) math_bits_Mul_i3)
def math_bits_Mul_i5 : List Op1 := [(oM 23 (.t 0) []), (oM 24 (.t 1) []), (oC 25 32 [(.t 23), (.t 24)] [0, 1]), (oM 22 (.t 25) [2]), (oE 26 (.ext 0 (.t 22)) [3]), (oE 27 (.ext 1 (.t 22)) [3]), (oM 8 (.t 26) [4, 2, 0, 1, 2, 3, 4]), (oM 9 (.t 27) [5, 6, 0, 1, 2, 3, 4, 5, 6])]
def math_bits_Mul_i6 : List Op1 := [(oM 28 (.t 8) []), (oM 29 (.t 9) []), (oM 4 (.t 28) [0, 0]), (oM 5 (.t 29) [1, 2, 0, 1, 2])]
def math_bits_Mul_i7 : IR := .ret
def math_bits_Mul_i8 : IR := (.seq (.reg false math_bits_Mul_i6) math_bits_Mul_i7)
def math_bits_Mul_i9 : IR := (.seq (.reg false math_bits_Mul_i5) math_bits_Mul_i8)
def math_bits_Mul_i10 : IR := (.seq (.cond (.k (.bool false)) (.seq (.reg false math_bits_Mul_i1) math_bits_Mul_i4) .skip) math_bits_Mul_i9)
def math_bits_Mul_ir : IR := (.seq (.reg false math_bits_Mul_i0) math_bits_Mul_i10)
theorem math_bits_Mul_cfn : cFn Tryd.prog 22 = some (math_bits_Mul_ir, [(.t 4), (.t 5)], 30) := by kernel_rfl
def math_bits_Mul_V (r : (Int × Int)) : V := .tup [.s (.int .u64 r.1), .s (.int .u64 r.2)]
def math_bits_Mul_C (r : (Int × Int)) : X → Fr → Hp → Prop := FinL [(.t 4), (.t 5)] [] (math_bits_Mul_V r) []
theorem math_bits_Mul_ok (x_ : Int) (y_ : Int) (r : (Int × Int)) (h : math_bits_Mul x_ y_ = some r) : Pure Tryd.prog 22 [.s (.int .u64 x_), .s (.int .u64 y_)] (math_bits_Mul_V r) := by
  refine ConL.of math_bits_Mul_cfn (Nat.le_of_ble_eq_true (by kernel_rfl)) (Nat.le_of_ble_eq_true (by kernel_rfl)) ?_
  refine k_start ?_
  show dwv Tryd.prog [] math_bits_Mul_ir (kont Tryd.prog [] (math_bits_Mul_C r) []) (fr0 [.s (.int .u64 x_), .s (.int .u64 y_)]) []
  have hf : FOk (fr0 [.s (.int .u64 x_), .s (.int .u64 y_)]) [⟨0, [], .s (.int .u64 x_)⟩, ⟨1, [], .s (.int .u64 y_)⟩] := ⟨⟨fun _ => rfl, fun h => (h trivial).elim⟩, ⟨fun _ => rfl, fun h => (h trivial).elim⟩, trivial⟩
  generalize fr0 [.s (.int .u64 x_), .s (.int .u64 y_)] = f at hf ⊢
  unfold math_bits_Mul at h
  refine k_seq ?_
  refine k_reg ?_
  refine mops_en hf (by kernel_rfl) fun f1 hf1 => ?_
  refine k_c ?_
  refine k_seq ?_
  refine k_cond hf1 (t := false) (by kernel_rfl) (fun hc1 => ?_) (fun hc1 => ?_)
  · have h := if_t h hc1
    refine k_seq ?_
    refine k_reg ?_
    refine mops_sg 4 hf1 (by kernel_rfl) fun f2 hf2 => ?_
    obtain ⟨r_, hx_r_, h⟩ := Option.bind_eq_some_iff.1 h
    refine mops_call rfl hf2 (av := [.s (.int .u32 (IntKind.wrap .u32 x_)), .s (.int .u32 (IntKind.wrap .u32 y_))]) (by kernel_rfl) (v := .tup [.s (.int .u32 r_.1), .s (.int .u32 r_.2)]) (CalL.pure (math_bits_Mul32_ok (IntKind.wrap .u32 x_) (IntKind.wrap .u32 y_) r_ hx_r_) rfl rfl (Nat.le_of_ble_eq_true (by kernel_rfl))) (fun _ => rfl) fun f3 hf3 => ?_
    refine mops_en hf3 (by kernel_rfl) fun f4 hf4 => ?_
    refine k_c ?_
    refine k_seq ?_
    refine k_reg ?_
    refine mops_en hf4 (by kernel_rfl) fun f5 hf5 => ?_
    refine k_c ?_
    refine k_ret ?_
    refine x_c nofun ?_
    obtain rfl := Option.some.inj h
    exact k_fin (fin_ret (.inl rfl) hf5 (vs := [.s (.int .u64 (IntKind.wrap .u64 r_.1)), .s (.int .u64 (IntKind.wrap .u64 r_.2))]) (by kernel_rfl) (SettL.pure (FzL.tup (FzsL.cons (FzL.stat rfl) (FzsL.cons (FzL.stat rfl) FzsL.nil)))))
  · have h := if_f h hc1
    refine k_skip ?_
    refine k_c ?_
    refine k_seq ?_
    refine k_reg ?_
    refine mops_sg 2 hf1 (by kernel_rfl) fun f2 hf2 => ?_
    obtain ⟨r_1, hx_r_1, h⟩ := Option.bind_eq_some_iff.1 h
    refine mops_call rfl hf2 (av := [.s (.int .u64 x_), .s (.int .u64 y_)]) (by kernel_rfl) (v := .tup [.s (.int .u64 r_1.1), .s (.int .u64 r_1.2)]) (CalL.pure (math_bits_Mul64_ok x_ y_ r_1 hx_r_1) rfl rfl (Nat.le_of_ble_eq_true (by kernel_rfl))) (fun _ => rfl) fun f3 hf3 => ?_
    refine mops_en hf3 (by kernel_rfl) fun f4 hf4 => ?_
    refine k_c ?_
    refine k_seq ?_
    refine k_reg ?_
    refine mops_en hf4 (by kernel_rfl) fun f5 hf5 => ?_
    refine k_c ?_
    refine k_ret ?_
    obtain rfl := Option.some.inj h
    exact k_fin (fin_ret (.inl rfl) hf5 (vs := [.s (.int .u64 r_1.1), .s (.int .u64 r_1.2)]) (by kernel_rfl) (SettL.pure (FzL.tup (FzsL.cons (FzL.stat rfl) (FzsL.cons (FzL.stat rfl) FzsL.nil)))))
def strings_HasPrefix_i0 : List Op1 := [(oM 4 (.k (.bool false)) [])]
def strings_HasPrefix_i1 : List Op1 := [(oM 5 (.t 0) []), (oM 6 (.t 1) []), (oC 7 33 [(.t 5), (.t 6)] [0, 1]), (oM 4 (.t 7) [2, 2, 0, 1, 2])]
def strings_HasPrefix_i2 : IR := .ret
def strings_HasPrefix_i3 : IR := (.seq (.reg false strings_HasPrefix_i1) strings_HasPrefix_i2)
def strings_HasPrefix_ir : IR := (.seq (.reg false strings_HasPrefix_i0) strings_HasPrefix_i3)
theorem strings_HasPrefix_cfn : cFn Tryd.prog 23 = some (strings_HasPrefix_ir, [(.t 4)], 8) := by kernel_rfl
def strings_HasPrefix_V (r : (Bool)) : V := .s (.bool r)
def strings_HasPrefix_C (r : (Bool)) : X → Fr → Hp → Prop := FinL [(.t 4)] [] (strings_HasPrefix_V r) []
theorem strings_HasPrefix_ok (s_ : ByteArray) (prefix_ : ByteArray) (r : (Bool)) (h : strings_HasPrefix s_ prefix_ = some r) : Pure Tryd.prog 23 [.s (.string s_), .s (.string prefix_)] (strings_HasPrefix_V r) := by
  refine ConL.of strings_HasPrefix_cfn (Nat.le_of_ble_eq_true (by kernel_rfl)) (Nat.le_of_ble_eq_true (by kernel_rfl)) ?_
  refine k_start ?_
  show dwv Tryd.prog [] strings_HasPrefix_ir (kont Tryd.prog [] (strings_HasPrefix_C r) []) (fr0 [.s (.string s_), .s (.string prefix_)]) []
  have hf : FOk (fr0 [.s (.string s_), .s (.string prefix_)]) [⟨0, [], .s (.string s_)⟩, ⟨1, [], .s (.string prefix_)⟩] := ⟨⟨fun _ => rfl, fun h => (h trivial).elim⟩, ⟨fun _ => rfl, fun h => (h trivial).elim⟩, trivial⟩
  generalize fr0 [.s (.string s_), .s (.string prefix_)] = f at hf ⊢
  unfold strings_HasPrefix at h
  refine k_seq ?_
  refine k_reg ?_
  refine mops_en hf (by kernel_rfl) fun f1 hf1 => ?_
  refine k_c ?_
  refine k_seq ?_
  refine k_reg ?_
  refine mops_sg 2 hf1 (by kernel_rfl) fun f2 hf2 => ?_
  obtain ⟨r_, hx_r_, h⟩ := Option.bind_eq_some_iff.1 h
  refine mops_call rfl hf2 (av := [.s (.string s_), .s (.string prefix_)]) (by kernel_rfl) (v := .s (.bool r_)) (CalL.pure (internal_stringslite_HasPrefix_ok s_ prefix_ r_ hx_r_) rfl rfl (Nat.le_of_ble_eq_true (by kernel_rfl))) (fun _ => rfl) fun f3 hf3 => ?_
  refine mops_en hf3 (by kernel_rfl) fun f4 hf4 => ?_
  refine k_c ?_
  refine k_ret ?_
  obtain rfl := Option.some.inj h
  exact k_fin (fin_ret (.inl rfl) hf4 (vs := [.s (.bool r_)]) (by kernel_rfl) (SettL.pure (FzL.stat rfl)))
end Go.Proofs.YtnilppmpfklpbaaDoorK
