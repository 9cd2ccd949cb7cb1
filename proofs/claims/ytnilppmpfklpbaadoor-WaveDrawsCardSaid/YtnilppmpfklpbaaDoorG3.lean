/- The Go functions come to the functions over typed data. Printed by a program of this work. -/
import Derived.Test.YtnilppmpfklpbaaDoorF
import Derived.Test.YtnilppmpfklpbaaDoorProg
import Derived.Test.YtnilppmpfklpbaaDoorSc
import Derived.Test.YtnilppmpfklpbaaDoorSd
import Derived.Test.YtnilppmpfklpbaaDoorG1
import Derived.Test.YtnilppmpfklpbaaDoorG2
namespace Go.Proofs.YtnilppmpfklpbaaDoorK
set_option linter.unusedVariables false
set_option linter.unusedSimpArgs false
set_option maxHeartbeats 4000000
open Go.RowKit
attribute [local irreducible] dwv mops lops lqops lwops kont iter run runK rk okK ex E1 vals val chain chB sel resF
def wave_Text_i0 : List Op1 := [(oM 2 (.k (.string ⟨#[]⟩)) [])]
def wave_Text_i1 : List Op1 := [(oE 3 (.zerob 44 5) [])]
def wave_Text_i2 : List Op1 := [(oC 6 13 [(.k (.string ⟨#[82, 69, 65, 68, 32, 66, 65, 32, 66, 83, 32, 76, 73, 67, 32, 65, 86, 77, 65, 32, 66, 85, 83, 89, 32, 77, 73, 78, 69]⟩)), (.k (.string ⟨#[32]⟩))] []), (oE 7 (.len (.t 6)) [0]), (oM 8 (.k (.int .i64 0)) [])]
def wave_Text_i3 : List Op1 := [(oE 9 (.bin .lss (.t 8) (.t 7)) [])]
def wave_Text_i4 : List Op1 := [(oM 10 (.t 8) []), (oE 11 (.ias 1 (.t 6) (.t 8)) []), (oE 12 (.load false 1 (.t 11)) [1]), (oM 4 (.t 10) [0, 0, 1, 2]), (oM 5 (.t 12) [2, 3, 0, 1, 2, 3])]
def wave_Text_i5 : List Op1 := [(oM 13 (.t 5) []), (oM 14 (.t 5) []), (oE 15 (.lens (.t 14)) [1]), (oE 16 (.bin .sub (.k (.int .i64 5)) (.t 15)) [2]), (oC 17 15 [(.k (.string ⟨#[32]⟩)), (.t 16)] [3]), (oE 18 (.bin .add (.t 13) (.t 17)) [0, 4]), (oM 19 (.t 4) []), (oM 20 (.t 0) []), (oC 21 9 [(.t 19), (.t 20)] [6, 7, 4]), (oE 22 (.bin .add (.t 18) (.t 21)) [5, 8]), (oE 23 (.bin .add (.t 22) (.k (.string ⟨#[10]⟩))) [9]), (oC 24 14 [(.t 3), (.t 23)] [10, 8])]
def wave_Text_i6 : IR := (.reg false wave_Text_i5)
def wave_Text_i7 : List Op1 := [(oE 25 (.bin .add (.t 8) (.k (.int .i64 1))) []), (oM 8 (.t 25) [0])]
def wave_Text_i8 : IR := (.reg false wave_Text_i7)
def wave_Text_i9 : IR := (.seq (.block 1 (.seq (.reg false wave_Text_i4) wave_Text_i6)) wave_Text_i8)
def wave_Text_i10 : IR := (.seq (.cond (.t 9) .skip (.exit 0)) wave_Text_i9)
def wave_Text_i11 : IR := (.seq (.reg false wave_Text_i3) wave_Text_i10)
def wave_Text_i12 : IR := (.block 0 (.loop wave_Text_i11))
def wave_Text_i13 : List Op1 := [(oC 26 16 [(.t 3)] []), (oM 2 (.t 26) [0, 0, 0])]
def wave_Text_i14 : IR := .ret
def wave_Text_i15 : IR := (.seq (.reg false wave_Text_i13) wave_Text_i14)
def wave_Text_i16 : IR := (.seq (.seq (.reg false wave_Text_i2) wave_Text_i12) wave_Text_i15)
def wave_Text_i17 : IR := (.seq (.reg false wave_Text_i1) wave_Text_i16)
def wave_Text_ir : IR := (.seq (.reg false wave_Text_i0) wave_Text_i17)
theorem wave_Text_cfn : cFn Tryd.prog 6 = some (wave_Text_ir, [(.t 2)], 27) := by kernel_rfl
def wave_Text_V (r : (ByteArray)) : V := .s (.string r)
def wave_Text_C (r : (ByteArray)) : X → Fr → Hp → Prop := FinL [(.t 2)] [] (wave_Text_V r) []
theorem wave_Text_ok (l_ : (List api_Rec)) (r : (ByteArray)) (h : wave_Text l_ = some r) : Pure Tryd.prog 6 [.sl false l_.length (cat api_Rec.v l_)] (wave_Text_V r) := by
  refine ConL.of wave_Text_cfn (Nat.le_of_ble_eq_true (by kernel_rfl)) (Nat.le_of_ble_eq_true (by kernel_rfl)) ?_
  refine k_start ?_
  show dwv Tryd.prog [] wave_Text_ir (kont Tryd.prog [] (wave_Text_C r) []) (fr0 [.sl false l_.length (cat api_Rec.v l_)]) []
  have hf : FOk (fr0 [.sl false l_.length (cat api_Rec.v l_)]) [⟨0, [], .sl false l_.length (cat api_Rec.v l_)⟩] := ⟨⟨fun _ => rfl, fun h => (h trivial).elim⟩, trivial⟩
  generalize fr0 [.sl false l_.length (cat api_Rec.v l_)] = f at hf ⊢
  unfold wave_Text at h
  refine k_seq ?_
  refine k_reg ?_
  refine mops_en hf (by kernel_rfl) fun f1 hf1 => ?_
  refine k_c ?_
  refine k_seq ?_
  refine k_reg ?_
  refine mops_en hf1 (by kernel_rfl) fun f2 hf2 => ?_
  refine k_c ?_
  refine k_seq ?_
  refine k_seq ?_
  refine k_reg ?_
  obtain ⟨r_, hx_r_, h⟩ := Option.bind_eq_some_iff.1 h
  refine mops_call rfl hf2 (av := [.s (.string (⟨#[82, 69, 65, 68, 32, 66, 65, 32, 66, 83, 32, 76, 73, 67, 32, 65, 86, 77, 65, 32, 66, 85, 83, 89, 32, 77, 73, 78, 69]⟩ : ByteArray)), .s (.string (⟨#[32]⟩ : ByteArray))]) (by kernel_rfl) (v := .sl false r_.length (cat nS r_)) (CalL.pure (strings_Split_ok (⟨#[82, 69, 65, 68, 32, 66, 65, 32, 66, 83, 32, 76, 73, 67, 32, 65, 86, 77, 65, 32, 66, 85, 83, 89, 32, 77, 73, 78, 69]⟩ : ByteArray) (⟨#[32]⟩ : ByteArray) r_ hx_r_) rfl (by simp [V.static, statics, cat_stat, strings_Split_V]) (Nat.le_of_ble_eq_true (by kernel_rfl))) (fun _ => rfl) fun f3 hf3 => ?_
  refine mops_en hf3 (by kernel_rfl) fun f4 hf4 => ?_
  refine k_c ?_
  refine k_block ?_
  obtain ⟨o0, hx0, h⟩ := Option.bind_eq_some_iff.1 h
  have hgo0 : ∀ (l_3 : (List Int)) (v_2 : Nat) (z_2 : Bool), l_3 = o0 → ∀ f, FOk f [⟨2, [], .s (.string (⟨#[]⟩ : ByteArray))⟩, ⟨3, [], .ptr 1 0 0⟩] → kont Tryd.prog [] (wave_Text_C r) ((.c wave_Text_i15) :: []) .normal f [⟨v_2, .buf BU, 1, cat (nI .u8) l_3⟩, ⟨0, .bld BT, 1, [sp z_2 1 0, .ref 0 v_2 0 l_3.length]⟩] := by
    intro l_3 v_2 z_2 e f hf
    subst e
    refine k_c ?_
    refine k_seq ?_
    refine k_reg ?_
    obtain ⟨c7, h⟩ := as_ok h
    refine mops_call rfl hf (av := [.ptr 1 0 0]) (by kernel_rfl) (v := .s (.string (bs l_3))) (L' := [⟨v_2, .dead, 1, []⟩, ⟨0, .bld BT, 1, [sp z_2 1 0, .ref 0 v_2 0 l_3.length]⟩]) (CalL.bldD 0 1 (str_con z_2 v_2 l_3 c7) (by kernel_rfl) rfl (by kernel_rfl) (by kernel_rfl)) (by intro h; cases h) fun f1 hf1 => ?_
    refine mops_en hf1 (by kernel_rfl) fun f2 hf2 => ?_
    refine k_c ?_
    refine k_ret ?_
    obtain rfl := Option.some.inj h
    exact k_fin (fin_ret (.inl rfl) hf2 (vs := [.s (.string (bs l_3))]) (by kernel_rfl) (SettL.pure (FzL.stat rfl)))
  refine k_loop BIG ?_
  refine loop_ind (fun n f L => ∃ (l_2 : (List Int)) (t_1 : Int) (v_1 : Nat) (z_1 : Bool), wave_Text_l0 l_ r_ n l_2 t_1 = some o0 ∧ FOk f [⟨0, [], .sl false l_.length (cat api_Rec.v l_)⟩, ⟨2, [], .s (.string (⟨#[]⟩ : ByteArray))⟩, ⟨3, [], .ptr 1 0 0⟩, ⟨6, [], .sl false r_.length (cat nS r_)⟩, ⟨7, [], .s (.int .i64 (ln r_))⟩, ⟨8, [], .s (.int .i64 t_1)⟩] ∧ L = [⟨v_1, .buf BU, 1, cat (nI .u8) l_2⟩, ⟨0, .bld BT, 1, [sp z_1 1 0, .ref 0 v_1 0 l_2.length]⟩]) ?_ ?_ BIG _ _ ⟨([] : List Int), (0), (0), true, hx0, FOk_of [0, 2, 3, 6, 7, 8] hf4 (by kernel_rfl), (by kernel_rfl)⟩
  · rintro f L ⟨l_2, t_1, v_1, z_1, h, _⟩
    cases (show (none : Option _) = some _ from h)
  · rintro n0 R0 ih f L ⟨l_2, t_1, v_1, z_1, h, hf, rfl⟩
    rw [wave_Text_l0] at h
    refine k_seq ?_
    refine k_reg ?_
    refine mops_en hf (by kernel_rfl) fun f1 hf1 => ?_
    refine k_c ?_
    refine k_seq ?_
    refine k_cond hf1 (t := (decide (t_1 < (ln r_)))) (by kernel_rfl) (fun hc1 => ?_) (fun hc1 => ?_)
    · have h := if_t h hc1
      refine k_skip ?_
      refine k_c ?_
      refine k_seq ?_
      refine k_block ?_
      refine k_seq ?_
      refine k_reg ?_
      refine mops_sg 1 hf1 (by kernel_rfl) fun f2 hf2 => ?_
      obtain ⟨c2, h⟩ := as_ok h
      refine mops_adv rfl (v := .ip ((cat nS r_).drop ((t_1 : Int).toNat * 1))) hf2 (by kernel_rfl) (e_ias (n := r_.length) (xv := .sl false r_.length (cat nS r_)) (k := .i64) (iv := t_1) (p := .ip ((cat nS r_).drop ((t_1 : Int).toNat * 1))) (by kernel_rfl) (by kernel_rfl) (by kernel_rfl) (by kernel_rfl) c2) fun f3 hf3 => ?_
      refine mops_adv rfl (v := .s (.string (gt r_ t_1))) hf3 (by kernel_rfl) (e_load_ip (g := nS) (l := r_) (iv := t_1) [] (by kernel_rfl) c2 (by kernel_rfl) (by kernel_rfl)) fun f4 hf4 => ?_
      refine mops_en hf4 (by kernel_rfl) fun f5 hf5 => ?_
      refine k_c ?_
      refine k_reg ?_
      refine mops_sg 4 hf5 (by kernel_rfl) fun f6 hf6 => ?_
      obtain ⟨r_5, hx_r_5, h⟩ := Option.bind_eq_some_iff.1 h
      refine mops_call rfl hf6 (av := [.s (.string (⟨#[32]⟩ : ByteArray)), .s (.int .i64 (IntKind.wrap .i64 (5 - (sln (gt r_ t_1)))))]) (by kernel_rfl) (v := .s (.string r_5)) (CalL.pure (strings_Repeat_ok (⟨#[32]⟩ : ByteArray) (IntKind.wrap .i64 (5 - (sln (gt r_ t_1)))) r_5 hx_r_5) rfl rfl (Nat.le_of_ble_eq_true (by kernel_rfl))) (fun _ => rfl) fun f7 hf7 => ?_
      obtain ⟨c3, h⟩ := as_ok h
      refine mops_adv rfl (v := .s (.string ((gt r_ t_1) ++ r_5))) hf7 (by kernel_rfl) (e_sadd (t := (gt r_ t_1)) (t' := r_5) (by kernel_rfl) (by kernel_rfl) c3) fun f8 hf8 => ?_
      refine mops_sg 2 hf8 (by kernel_rfl) fun f9 hf9 => ?_
      obtain ⟨r_6, hx_r_6, h⟩ := Option.bind_eq_some_iff.1 h
      refine mops_call rfl hf9 (av := [.s (.int .i64 t_1), .sl false l_.length (cat api_Rec.v l_)]) (by kernel_rfl) (v := .s (.string r_6)) (CalL.pure (wave_Line_ok t_1 l_ r_6 hx_r_6) (by simp [V.static, statics, cat_stat]) rfl (Nat.le_of_ble_eq_true (by kernel_rfl))) (fun _ => rfl) fun f10 hf10 => ?_
      obtain ⟨c4, h⟩ := as_ok h
      refine mops_adv rfl (v := .s (.string (((gt r_ t_1) ++ r_5) ++ r_6))) hf10 (by kernel_rfl) (e_sadd (t := ((gt r_ t_1) ++ r_5)) (t' := r_6) (by kernel_rfl) (by kernel_rfl) c4) fun f11 hf11 => ?_
      obtain ⟨c5, h⟩ := as_ok h
      refine mops_adv rfl (v := .s (.string ((((gt r_ t_1) ++ r_5) ++ r_6) ++ (⟨#[10]⟩ : ByteArray)))) hf11 (by kernel_rfl) (e_sadd (t := (((gt r_ t_1) ++ r_5) ++ r_6)) (t' := (⟨#[10]⟩ : ByteArray)) (by kernel_rfl) (by kernel_rfl) c5) fun f12 hf12 => ?_
      obtain ⟨c6, h⟩ := as_ok h
      refine mops_call rfl hf12 (av := [.ptr 1 0 0, .s (.string ((((gt r_ t_1) ++ r_5) ++ r_6) ++ (⟨#[10]⟩ : ByteArray)))]) (by kernel_rfl) (v := .tup [.s (.int .i64 ((((((gt r_ t_1) ++ r_5) ++ r_6) ++ (⟨#[10]⟩ : ByteArray)).size : Nat) : Int)), .s .nilIface]) (L' := [⟨(v_1 + 1), .buf BU, 1, cat (nI .u8) (l_2 ++ (sbl ((((gt r_ t_1) ++ r_5) ++ r_6) ++ (⟨#[10]⟩ : ByteArray))))⟩, ⟨0, .bld BT, 1, [sp false 1 0, .ref 0 (v_1 + 1) 0 (l_2 ++ (sbl ((((gt r_ t_1) ++ r_5) ++ r_6) ++ (⟨#[10]⟩ : ByteArray)))).length]⟩]) (CalL.bld (xs := [.string ((((gt r_ t_1) ++ r_5) ++ r_6) ++ (⟨#[10]⟩ : ByteArray))]) 0 1 (ws_con z_1 v_1 l_2 ((((gt r_ t_1) ++ r_5) ++ r_6) ++ (⟨#[10]⟩ : ByteArray)) c6) (by kernel_rfl) rfl (by kernel_rfl) (by kernel_rfl)) (by intro h; cases h) fun f13 hf13 => ?_
      refine mops_en hf13 (by kernel_rfl) fun f14 hf14 => ?_
      refine k_b ?_
      refine k_c ?_
      refine k_reg ?_
      refine mops_en hf14 (by kernel_rfl) fun f15 hf15 => ?_
      refine k_l ?_
      exact ih _ _ ⟨(l_2 ++ (sbl ((((gt r_ t_1) ++ r_5) ++ r_6) ++ (⟨#[10]⟩ : ByteArray)))), (IntKind.wrap .i64 (t_1 + 1)), (v_1 + 1), false, h, FOk_of [0, 2, 3, 6, 7, 8] hf15 (by kernel_rfl), (by kernel_rfl)⟩
    · have h := if_f h hc1
      refine k_exit ?_
      refine x_c nofun ?_
      refine x_l nofun ?_
      refine x_b ?_
      refine k_hp (L' := [⟨v_1, .buf BU, 1, cat (nI .u8) l_2⟩, ⟨0, .bld BT, 1, [sp z_1 1 0, .ref 0 v_1 0 l_2.length]⟩]) (by kernel_rfl) ?_
      exact hgo0 l_2 v_1 z_1 (Option.some.inj h) _ (FOk_of [2, 3] hf1 (by kernel_rfl))
def wave_Read_i0 : List Op1 := [(oE 2 (.nilg 9) []), (oM 3 (.k (.int .i64 0)) [0])]
def wave_Read_i1 : List Op1 := [(oM 9 (.t 0) []), (oC 10 13 [(.t 9), (.k (.string ⟨#[10]⟩))] [0]), (oM 4 (.t 10) [1, 1, 0, 1])]
def wave_Read_i2 : List Op1 := [(oM 11 (.t 4) []), (oE 12 (.len (.t 11)) [0]), (oE 13 (.bin .neq (.t 12) (.k (.int .i64 8))) [1]), (oM 14 (.t 13) [2]), (oG 15 (.mv (.t 4)) 14 false [3]), (oG 16 (.ias 1 (.t 15) (.k (.int .i64 0))) 14 false [4, 3]), (oG 17 (.load false 1 (.t 16)) 14 false [5, 3]), (oG 18 (.lens (.t 17)) 14 false [6, 3]), (oG 19 (.bin .lss (.t 18) (.k (.int .i64 5))) 14 false [7, 3]), (oE 20 (.pick (.t 14) (.k (.bool true)) (.t 19)) [3, 8])]
def wave_Read_i3 : List Op1 := [(oE 2 (.nilg 9) []), (oM 3 (.k (.int .i64 21)) [0, 0])]
def wave_Read_i4 : IR := .ret
def wave_Read_i5 : IR := (.cond (.t 20) (.seq (.reg false wave_Read_i3) wave_Read_i4) .skip)
def wave_Read_i6 : List Op1 := [(oE 5 (.nilg 9) [])]
def wave_Read_i7 : List Op1 := [(oM 21 (.t 4) []), (oE 22 (.ias 1 (.t 21) (.k (.int .i64 0))) [0]), (oE 23 (.load false 1 (.t 22)) [1]), (oE 24 (.lens (.t 23)) [2]), (oE 25 (.bin .sub (.t 24) (.k (.int .i64 5))) [3]), (oM 26 (.k (.int .i64 0)) [])]
def wave_Read_i8 : List Op1 := [(oE 27 (.bin .lss (.t 26) (.t 25)) [])]
def wave_Read_i9 : List Op1 := [(oM 28 (.t 26) []), (oM 6 (.t 28) [0, 0])]
def wave_Read_i10 : List Op1 := [(oE 7 (.zero [(.bool false), (.bool false), (.bool false), (.bool false), (.bool false), (.bool false), (.bool false)]) [])]
def wave_Read_i11 : List Op1 := [(oM 29 (.k (.int .i64 0)) [])]
def wave_Read_i12 : List Op1 := [(oE 30 (.bin .lss (.t 29) (.k (.int .i64 7))) [])]
def wave_Read_i13 : List Op1 := [(oM 31 (.t 29) []), (oM 8 (.t 31) [0, 0])]
def wave_Read_i14 : List Op1 := [(oM 32 (.t 8) []), (oM 33 (.t 4) []), (oM 34 (.t 8) []), (oE 35 (.ias 1 (.t 33) (.t 34)) [1, 2]), (oE 36 (.load false 1 (.t 35)) [3]), (oE 37 (.lens (.t 36)) [4]), (oM 38 (.t 6) []), (oE 39 (.bin .add (.t 38) (.k (.int .i64 5))) [6]), (oE 40 (.bin .gtr (.t 37) (.t 39)) [5, 7]), (oM 41 (.t 40) [8]), (oG 42 (.mv (.t 4)) 41 true [9]), (oG 43 (.mv (.t 8)) 41 true [9]), (oG 44 (.ias 1 (.t 42) (.t 43)) 41 true [10, 11, 9]), (oG 45 (.load false 1 (.t 44)) 41 true [12, 9]), (oG 46 (.mv (.t 6)) 41 true [9]), (oG 47 (.bin .add (.t 46) (.k (.int .i64 5))) 41 true [14, 9]), (oG 48 (.ixs (.t 45) (.t 47)) 41 true [13, 15, 9]), (oG 49 (.bin .eql (.t 48) (.k (.int .u8 35))) 41 true [16, 9]), (oE 50 (.pick (.t 41) (.t 49) (.k (.bool false))) [9, 17]), (oE 51 (.iaa 7 1 (.t 7) (.t 32)) [0, 0, 1, 2, 3, 4, 5, 6, 7, 8, 9, 10, 11, 12, 13, 14, 15, 16, 17, 18]), (oN (.store 1 (.t 51) (.t 50)) [19, 18, 9, 0, 1, 2, 3, 4, 5, 6, 7, 8, 9, 10, 11, 12, 13, 14, 15, 16, 17, 18])]
def wave_Read_i15 : IR := (.reg false wave_Read_i14)
def wave_Read_i16 : List Op1 := [(oE 52 (.bin .add (.t 29) (.k (.int .i64 1))) []), (oM 29 (.t 52) [0])]
def wave_Read_i17 : IR := (.reg false wave_Read_i16)
def wave_Read_i18 : IR := (.seq (.block 3 (.seq (.reg false wave_Read_i13) wave_Read_i15)) wave_Read_i17)
def wave_Read_i19 : IR := (.seq (.cond (.t 30) .skip (.exit 2)) wave_Read_i18)
def wave_Read_i20 : IR := (.seq (.reg false wave_Read_i12) wave_Read_i19)
def wave_Read_i21 : IR := (.block 2 (.loop wave_Read_i20))
def wave_Read_i22 : List Op1 := [(oM 53 (.t 5) []), (oE 54 (.iaa 7 1 (.t 7) (.k (.int .i64 0))) []), (oE 55 (.load false 1 (.t 54)) [1]), (oE 56 (.iaa 7 1 (.t 7) (.k (.int .i64 1))) []), (oE 57 (.load false 1 (.t 56)) [3]), (oE 58 (.iaa 7 1 (.t 7) (.k (.int .i64 2))) []), (oE 59 (.load false 1 (.t 58)) [5]), (oE 60 (.iaa 7 1 (.t 7) (.k (.int .i64 3))) []), (oE 61 (.load false 1 (.t 60)) [7]), (oE 62 (.iaa 7 1 (.t 7) (.k (.int .i64 4))) []), (oE 63 (.load false 1 (.t 62)) [9]), (oE 64 (.iaa 7 1 (.t 7) (.k (.int .i64 5))) []), (oE 65 (.load false 1 (.t 64)) [11]), (oE 66 (.iaa 7 1 (.t 7) (.k (.int .i64 6))) []), (oE 67 (.load false 1 (.t 66)) [13]), (oE 68 (.build [(.int .u16 0), (.int .u8 0), (.bool false), (.bool false), (.bool false), (.bool false), (.bool false), (.bool false), (.bool false)] [(2, (1, (.t 55))), (3, (1, (.t 57))), (4, (1, (.t 59))), (5, (1, (.t 61))), (6, (1, (.t 63))), (7, (1, (.t 65))), (8, (1, (.t 67)))]) [2, 4, 6, 8, 10, 12, 14]), (oE 69 (.bslo 9 1 [(.int .u16 0), (.int .u8 0), (.bool false), (.bool false), (.bool false), (.bool false), (.bool false), (.bool false), (.bool false)] [(0, (9, (.t 68)))]) [15]), (oE 70 (.app 30 9 10 (.t 53) (.t 69)) [0, 16]), (oM 5 (.t 70) [17, 17, 0, 1, 2, 3, 4, 5, 6, 7, 8, 9, 10, 11, 12, 13, 14, 15, 16, 17])]
def wave_Read_i23 : IR := (.reg false wave_Read_i22)
def wave_Read_i24 : IR := (.seq (.seq (.reg false wave_Read_i11) wave_Read_i21) wave_Read_i23)
def wave_Read_i25 : IR := (.seq (.reg false wave_Read_i10) wave_Read_i24)
def wave_Read_i26 : List Op1 := [(oE 71 (.bin .add (.t 26) (.k (.int .i64 1))) []), (oM 26 (.t 71) [0])]
def wave_Read_i27 : IR := (.reg false wave_Read_i26)
def wave_Read_i28 : IR := (.seq (.block 1 (.seq (.reg false wave_Read_i9) wave_Read_i25)) wave_Read_i27)
def wave_Read_i29 : IR := (.seq (.cond (.t 27) .skip (.exit 0)) wave_Read_i28)
def wave_Read_i30 : IR := (.seq (.reg false wave_Read_i8) wave_Read_i29)
def wave_Read_i31 : IR := (.block 0 (.loop wave_Read_i30))
def wave_Read_i32 : List Op1 := [(oM 72 (.t 5) []), (oC 73 6 [(.t 72)] [0]), (oM 74 (.t 0) []), (oE 75 (.bin .neq (.t 73) (.t 74)) [1, 2])]
def wave_Read_i33 : List Op1 := [(oE 2 (.nilg 9) []), (oM 3 (.k (.int .i64 21)) [0, 0])]
def wave_Read_i34 : IR := .ret
def wave_Read_i35 : IR := (.cond (.t 75) (.seq (.reg false wave_Read_i33) wave_Read_i34) .skip)
def wave_Read_i36 : List Op1 := [(oM 76 (.t 5) []), (oM 2 (.t 76) [0, 0]), (oM 3 (.k (.int .i64 0)) [1, 0, 1])]
def wave_Read_i37 : IR := .ret
def wave_Read_i38 : IR := (.seq (.reg false wave_Read_i36) wave_Read_i37)
def wave_Read_i39 : IR := (.seq (.seq (.reg false wave_Read_i32) wave_Read_i35) wave_Read_i38)
def wave_Read_i40 : IR := (.seq (.seq (.reg false wave_Read_i7) wave_Read_i31) wave_Read_i39)
def wave_Read_i41 : IR := (.seq (.reg false wave_Read_i6) wave_Read_i40)
def wave_Read_i42 : IR := (.seq (.seq (.reg false wave_Read_i2) wave_Read_i5) wave_Read_i41)
def wave_Read_i43 : IR := (.seq (.reg false wave_Read_i1) wave_Read_i42)
def wave_Read_ir : IR := (.seq (.reg false wave_Read_i0) wave_Read_i43)
theorem wave_Read_cfn : cFn Tryd.prog 5 = some (wave_Read_ir, [(.t 2), (.t 3)], 77) := by kernel_rfl
def wave_Read_V (r : ((List api_Rec) × Int)) : V := .tup [.sl false r.1.length (cat api_Rec.v r.1), .s (.int .i64 r.2)]
def wave_Read_C (r : ((List api_Rec) × Int)) : X → Fr → Hp → Prop := FinL [(.t 2), (.t 3)] [] (wave_Read_V r) []
theorem wave_Read_ok (s_ : ByteArray) (r : ((List api_Rec) × Int)) (h : wave_Read s_ = some r) : Pure Tryd.prog 5 [.s (.string s_)] (wave_Read_V r) := by
  refine ConL.of wave_Read_cfn (Nat.le_of_ble_eq_true (by kernel_rfl)) (Nat.le_of_ble_eq_true (by kernel_rfl)) ?_
  refine k_start ?_
  show dwv Tryd.prog [] wave_Read_ir (kont Tryd.prog [] (wave_Read_C r) []) (fr0 [.s (.string s_)]) []
  have hf : FOk (fr0 [.s (.string s_)]) [⟨0, [], .s (.string s_)⟩] := ⟨⟨fun _ => rfl, fun h => (h trivial).elim⟩, trivial⟩
  generalize fr0 [.s (.string s_)] = f at hf ⊢
  unfold wave_Read at h
  refine k_seq ?_
  refine k_reg ?_
  refine mops_en hf (by kernel_rfl) fun f1 hf1 => ?_
  refine k_c ?_
  refine k_seq ?_
  refine k_reg ?_
  refine mops_sg 1 hf1 (by kernel_rfl) fun f2 hf2 => ?_
  obtain ⟨r_, hx_r_, h⟩ := Option.bind_eq_some_iff.1 h
  refine mops_call rfl hf2 (av := [.s (.string s_), .s (.string (⟨#[10]⟩ : ByteArray))]) (by kernel_rfl) (v := .sl false r_.length (cat nS r_)) (CalL.pure (strings_Split_ok s_ (⟨#[10]⟩ : ByteArray) r_ hx_r_) rfl (by simp [V.static, statics, cat_stat, strings_Split_V]) (Nat.le_of_ble_eq_true (by kernel_rfl))) (fun _ => rfl) fun f3 hf3 => ?_
  refine mops_en hf3 (by kernel_rfl) fun f4 hf4 => ?_
  refine k_c ?_
  refine k_seq ?_
  refine k_seq ?_
  refine k_reg ?_
  refine mops_sg 5 hf4 (by kernel_rfl) fun f5 hf5 => ?_
  obtain ⟨c1, h⟩ := as_ok h
  refine mops_gadv (dst := (some 16)) (op := (.ias 1 (.t 15) (.k (.int .i64 0)))) (aft := [4, 3]) (t := 14) (w := false) (ch := [(14, false)]) (b := (!((ln r_) != 8))) (v := .ip ((cat nS r_).drop ((0 : Int).toNat * 1))) (by kernel_rfl) hf5 (by kernel_rfl) (by kernel_rfl) (by kernel_rfl) (fun hb2 => e_ias (n := r_.length) (xv := .sl false r_.length (cat nS r_)) (k := .i64) (iv := 0) (p := .ip ((cat nS r_).drop ((0 : Int).toNat * 1))) (by kernel_rfl) (by kernel_rfl) (by kernel_rfl) (by kernel_rfl) (c1 hb2)) fun f6 hf6 => ?_
  refine mops_gadv (dst := (some 17)) (op := (.load false 1 (.t 16))) (aft := [5, 3]) (t := 14) (w := false) (ch := [(14, false)]) (b := (!((ln r_) != 8))) (v := .s (.string (gt r_ (0)))) (by kernel_rfl) hf6 (by kernel_rfl) (by kernel_rfl) (by kernel_rfl) (fun hb3 => e_load_ip (g := nS) (l := r_) (iv := 0) [] (by kernel_rfl) (c1 hb3) (by kernel_rfl) (by kernel_rfl)) fun f7 hf7 => ?_
  refine mops_en hf7 (by kernel_rfl) fun f8 hf8 => ?_
  refine k_c ?_
  refine k_cond hf8 (t := (((ln r_) != 8) || (decide ((sln (gt r_ (0))) < 5)))) (by kernel_rfl) (fun hc4 => ?_) (fun hc4 => ?_)
  · have h := if_t h hc4
    refine k_seq ?_
    refine k_reg ?_
    refine mops_en hf8 (by kernel_rfl) fun f9 hf9 => ?_
    refine k_c ?_
    refine k_ret ?_
    refine x_c nofun ?_
    obtain rfl := Option.some.inj h
    exact k_fin (fin_ret (.inl rfl) hf9 (vs := [.ref 1 0 0 0, .s (.int .i64 21)]) (by kernel_rfl) (SettL.pure (FzL.tup (FzsL.cons (FzL.whole (g := api_Rec.v) (kd := .grow) (l := ([] : List api_Rec)) (by kernel_rfl) rfl (live_grow (by kernel_rfl))) (FzsL.cons (FzL.stat rfl) FzsL.nil)))))
  · have h := if_f h hc4
    refine k_skip ?_
    refine k_c ?_
    refine k_seq ?_
    refine k_reg ?_
    refine mops_en hf8 (by kernel_rfl) fun f9 hf9 => ?_
    refine k_c ?_
    refine k_seq ?_
    refine k_seq ?_
    refine k_reg ?_
    refine mops_sg 1 hf9 (by kernel_rfl) fun f10 hf10 => ?_
    obtain ⟨c5, h⟩ := as_ok h
    refine mops_adv rfl (v := .ip ((cat nS r_).drop ((0 : Int).toNat * 1))) hf10 (by kernel_rfl) (e_ias (n := r_.length) (xv := .sl false r_.length (cat nS r_)) (k := .i64) (iv := 0) (p := .ip ((cat nS r_).drop ((0 : Int).toNat * 1))) (by kernel_rfl) (by kernel_rfl) (by kernel_rfl) (by kernel_rfl) c5) fun f11 hf11 => ?_
    refine mops_adv rfl (v := .s (.string (gt r_ (0)))) hf11 (by kernel_rfl) (e_load_ip (g := nS) (l := r_) (iv := 0) [] (by kernel_rfl) c5 (by kernel_rfl) (by kernel_rfl)) fun f12 hf12 => ?_
    refine mops_en hf12 (by kernel_rfl) fun f13 hf13 => ?_
    refine k_c ?_
    refine k_block ?_
    obtain ⟨o0, hx0, h⟩ := Option.bind_eq_some_iff.1 h
    have hgo0 : ∀ (l_8 : (List api_Rec)) (v_2 : Nat), l_8 = o0 → ∀ f, FOk f [⟨0, [], .s (.string s_)⟩, ⟨2, [], .ref 0 0 0 0⟩, ⟨3, [], .s (.int .i64 0)⟩, ⟨5, [], .ref 1 v_2 0 l_8.length⟩] → kont Tryd.prog [] (wave_Read_C r) ((.c wave_Read_i39) :: []) .normal f [⟨0, .grow, 9, cat api_Rec.v ([] : List api_Rec)⟩, ⟨v_2, .grow, 9, cat api_Rec.v l_8⟩] := by
      intro l_8 v_2 e f hf
      subst e
      refine k_c ?_
      refine k_seq ?_
      refine k_seq ?_
      refine k_reg ?_
      refine mops_sg 1 hf (by kernel_rfl) fun f1 hf1 => ?_
      obtain ⟨r_1, hx_r_1, h⟩ := Option.bind_eq_some_iff.1 h
      refine mops_call rfl hf1 (av := [.ref 1 v_2 0 l_8.length]) (by kernel_rfl) (v := .s (.string r_1)) (CalL.lend (wave_Text_ok l_8 r_1 hx_r_1) rfl (Lends.cons (Lend.whole (g := api_Rec.v) (kd := .grow) (l := l_8) rfl (live_grow (by kernel_rfl))) Lends.nil) (by kernel_rfl)) (fun _ => rfl) fun f2 hf2 => ?_
      refine mops_en hf2 (by kernel_rfl) fun f3 hf3 => ?_
      refine k_c ?_
      refine k_cond hf3 (t := (!(r_1.toList == s_.toList))) (by kernel_rfl) (fun hc23 => ?_) (fun hc23 => ?_)
      · have h := if_t h hc23
        refine k_seq ?_
        refine k_reg ?_
        refine mops_en hf3 (by kernel_rfl) fun f4 hf4 => ?_
        refine k_c ?_
        refine k_ret ?_
        refine x_c nofun ?_
        obtain rfl := Option.some.inj h
        exact k_fin (fin_ret (.inl rfl) hf4 (vs := [.ref 2 0 0 0, .s (.int .i64 21)]) (by kernel_rfl) (SettL.pure (FzL.tup (FzsL.cons (FzL.whole (g := api_Rec.v) (kd := .grow) (l := ([] : List api_Rec)) (by kernel_rfl) rfl (live_grow (by kernel_rfl))) (FzsL.cons (FzL.stat rfl) FzsL.nil)))))
      · have h := if_f h hc23
        refine k_skip ?_
        refine k_c ?_
        refine k_seq ?_
        refine k_reg ?_
        refine mops_en hf3 (by kernel_rfl) fun f4 hf4 => ?_
        refine k_c ?_
        refine k_ret ?_
        obtain rfl := Option.some.inj h
        exact k_fin (fin_ret (.inl rfl) hf4 (vs := [.ref 1 v_2 0 l_8.length, .s (.int .i64 0)]) (by kernel_rfl) (SettL.pure (FzL.tup (FzsL.cons (FzL.whole (g := api_Rec.v) (kd := .grow) (l := l_8) (by kernel_rfl) rfl (live_grow (by kernel_rfl))) (FzsL.cons (FzL.stat rfl) FzsL.nil)))))
    refine k_loop BIG ?_
    refine loop_ind (fun n f L => ∃ (l_7 : (List api_Rec)) (t_11 : Int) (v_1 : Nat), wave_Read_l2 r_ n l_7 t_11 = some o0 ∧ FOk f [⟨0, [], .s (.string s_)⟩, ⟨2, [], .ref 0 0 0 0⟩, ⟨3, [], .s (.int .i64 0)⟩, ⟨4, [], .sl false r_.length (cat nS r_)⟩, ⟨5, [], .ref 1 v_1 0 l_7.length⟩, ⟨25, [], .s (.int .i64 (IntKind.wrap .i64 ((sln (gt r_ (0))) - 5)))⟩, ⟨26, [], .s (.int .i64 t_11)⟩] ∧ L = [⟨0, .grow, 9, cat api_Rec.v ([] : List api_Rec)⟩, ⟨v_1, .grow, 9, cat api_Rec.v l_7⟩]) ?_ ?_ BIG _ _ ⟨([] : List api_Rec), (0), (0), hx0, FOk_of [0, 2, 3, 4, 5, 25, 26] hf13 (by kernel_rfl), (by kernel_rfl)⟩
    · rintro f L ⟨l_7, t_11, v_1, h, _⟩
      cases (show (none : Option _) = some _ from h)
    · rintro n0 R0 ih f L ⟨l_7, t_11, v_1, h, hf, rfl⟩
      rw [wave_Read_l2] at h
      refine k_seq ?_
      refine k_reg ?_
      refine mops_en hf (by kernel_rfl) fun f1 hf1 => ?_
      refine k_c ?_
      refine k_seq ?_
      refine k_cond hf1 (t := (decide (t_11 < (IntKind.wrap .i64 ((sln (gt r_ (0))) - 5))))) (by kernel_rfl) (fun hc6 => ?_) (fun hc6 => ?_)
      · have h := if_t h hc6
        refine k_skip ?_
        refine k_c ?_
        refine k_seq ?_
        refine k_block ?_
        refine k_seq ?_
        refine k_reg ?_
        refine mops_en hf1 (by kernel_rfl) fun f2 hf2 => ?_
        refine k_c ?_
        refine k_seq ?_
        refine k_reg ?_
        refine mops_en hf2 (by kernel_rfl) fun f3 hf3 => ?_
        refine k_c ?_
        refine k_seq ?_
        refine k_seq ?_
        refine k_reg ?_
        refine mops_en hf3 (by kernel_rfl) fun f4 hf4 => ?_
        refine k_c ?_
        refine k_block ?_
        obtain ⟨o1, hx1, h⟩ := Option.bind_eq_some_iff.1 h
        have hgo1 : ∀ (l_11 : (List Bool)) (t_15 : Int) (t_16 : Bool) (hn_8 : l_11.length = 7), (l_11, t_15, t_16) = o1 → ∀ f, FOk f [⟨0, [], .s (.string s_)⟩, ⟨2, [], .ref 0 0 0 0⟩, ⟨3, [], .s (.int .i64 0)⟩, ⟨4, [], .sl false r_.length (cat nS r_)⟩, ⟨5, [], .ref 1 v_1 0 l_7.length⟩, ⟨6, [], .s (.int .i64 t_11)⟩, ⟨7, [], .ptr 2 0 0⟩, ⟨25, [], .s (.int .i64 (IntKind.wrap .i64 ((sln (gt r_ (0))) - 5)))⟩, ⟨26, [], .s (.int .i64 t_11)⟩, ⟨27, [], .s (.bool (decide (t_11 < (IntKind.wrap .i64 ((sln (gt r_ (0))) - 5)))))⟩, ⟨28, [], .s (.int .i64 t_11)⟩, ⟨29, [], .s (.int .i64 t_15)⟩, ⟨30, [], .s (.bool t_16)⟩] → kont Tryd.prog [] (wave_Read_C r) ((.c wave_Read_i23) :: (.b 1) :: (.c wave_Read_i27) :: (.l R0) :: (.b 0) :: (.c wave_Read_i39) :: []) .normal f [⟨0, .grow, 9, cat api_Rec.v ([] : List api_Rec)⟩, ⟨v_1, .grow, 9, cat api_Rec.v l_7⟩, ⟨0, .mem, 1, cat nB l_11⟩] := by
          intro l_11 t_15 t_16 hn_8 e f hf
          subst e
          refine k_c ?_
          refine k_reg ?_
          refine mops_sg 1 hf (by kernel_rfl) fun f1 hf1 => ?_
          obtain ⟨c15, h⟩ := as_ok h
          refine mops_adv rfl (v := .ptr 2 0 (0 + (0 : Int).toNat * 1)) hf1 (by kernel_rfl) (e_iaa (n := 7) (xv := .ptr 2 0 0) (k := .i64) (iv := 0) (p := .ptr 2 0 (0 + (0 : Int).toNat * 1)) (by kernel_rfl) (by kernel_rfl) (by kernel_rfl) (by kernel_rfl) c15) fun f2 hf2 => ?_
          refine mops_adv rfl (v := .s (.bool (gt l_11 (0)))) hf2 (by kernel_rfl) (e_load_pe (g := nB) (l := l_11) (iv := 0) (kd := .mem) (q := 1) (b := 2) (ver := 0) [] (by kernel_rfl) (live_mem (by kernel_rfl)) (arr_h (l := l_11) c15 hn_8) (by kernel_rfl) (by kernel_rfl)) fun f3 hf3 => ?_
          obtain ⟨c16, h⟩ := as_ok h
          refine mops_adv rfl (v := .ptr 2 0 (0 + (1 : Int).toNat * 1)) hf3 (by kernel_rfl) (e_iaa (n := 7) (xv := .ptr 2 0 0) (k := .i64) (iv := 1) (p := .ptr 2 0 (0 + (1 : Int).toNat * 1)) (by kernel_rfl) (by kernel_rfl) (by kernel_rfl) (by kernel_rfl) c16) fun f4 hf4 => ?_
          refine mops_adv rfl (v := .s (.bool (gt l_11 (1)))) hf4 (by kernel_rfl) (e_load_pe (g := nB) (l := l_11) (iv := 1) (kd := .mem) (q := 1) (b := 2) (ver := 0) [] (by kernel_rfl) (live_mem (by kernel_rfl)) (arr_h (l := l_11) c16 hn_8) (by kernel_rfl) (by kernel_rfl)) fun f5 hf5 => ?_
          obtain ⟨c17, h⟩ := as_ok h
          refine mops_adv rfl (v := .ptr 2 0 (0 + (2 : Int).toNat * 1)) hf5 (by kernel_rfl) (e_iaa (n := 7) (xv := .ptr 2 0 0) (k := .i64) (iv := 2) (p := .ptr 2 0 (0 + (2 : Int).toNat * 1)) (by kernel_rfl) (by kernel_rfl) (by kernel_rfl) (by kernel_rfl) c17) fun f6 hf6 => ?_
          refine mops_adv rfl (v := .s (.bool (gt l_11 (2)))) hf6 (by kernel_rfl) (e_load_pe (g := nB) (l := l_11) (iv := 2) (kd := .mem) (q := 1) (b := 2) (ver := 0) [] (by kernel_rfl) (live_mem (by kernel_rfl)) (arr_h (l := l_11) c17 hn_8) (by kernel_rfl) (by kernel_rfl)) fun f7 hf7 => ?_
          obtain ⟨c18, h⟩ := as_ok h
          refine mops_adv rfl (v := .ptr 2 0 (0 + (3 : Int).toNat * 1)) hf7 (by kernel_rfl) (e_iaa (n := 7) (xv := .ptr 2 0 0) (k := .i64) (iv := 3) (p := .ptr 2 0 (0 + (3 : Int).toNat * 1)) (by kernel_rfl) (by kernel_rfl) (by kernel_rfl) (by kernel_rfl) c18) fun f8 hf8 => ?_
          refine mops_adv rfl (v := .s (.bool (gt l_11 (3)))) hf8 (by kernel_rfl) (e_load_pe (g := nB) (l := l_11) (iv := 3) (kd := .mem) (q := 1) (b := 2) (ver := 0) [] (by kernel_rfl) (live_mem (by kernel_rfl)) (arr_h (l := l_11) c18 hn_8) (by kernel_rfl) (by kernel_rfl)) fun f9 hf9 => ?_
          obtain ⟨c19, h⟩ := as_ok h
          refine mops_adv rfl (v := .ptr 2 0 (0 + (4 : Int).toNat * 1)) hf9 (by kernel_rfl) (e_iaa (n := 7) (xv := .ptr 2 0 0) (k := .i64) (iv := 4) (p := .ptr 2 0 (0 + (4 : Int).toNat * 1)) (by kernel_rfl) (by kernel_rfl) (by kernel_rfl) (by kernel_rfl) c19) fun f10 hf10 => ?_
          refine mops_adv rfl (v := .s (.bool (gt l_11 (4)))) hf10 (by kernel_rfl) (e_load_pe (g := nB) (l := l_11) (iv := 4) (kd := .mem) (q := 1) (b := 2) (ver := 0) [] (by kernel_rfl) (live_mem (by kernel_rfl)) (arr_h (l := l_11) c19 hn_8) (by kernel_rfl) (by kernel_rfl)) fun f11 hf11 => ?_
          obtain ⟨c20, h⟩ := as_ok h
          refine mops_adv rfl (v := .ptr 2 0 (0 + (5 : Int).toNat * 1)) hf11 (by kernel_rfl) (e_iaa (n := 7) (xv := .ptr 2 0 0) (k := .i64) (iv := 5) (p := .ptr 2 0 (0 + (5 : Int).toNat * 1)) (by kernel_rfl) (by kernel_rfl) (by kernel_rfl) (by kernel_rfl) c20) fun f12 hf12 => ?_
          refine mops_adv rfl (v := .s (.bool (gt l_11 (5)))) hf12 (by kernel_rfl) (e_load_pe (g := nB) (l := l_11) (iv := 5) (kd := .mem) (q := 1) (b := 2) (ver := 0) [] (by kernel_rfl) (live_mem (by kernel_rfl)) (arr_h (l := l_11) c20 hn_8) (by kernel_rfl) (by kernel_rfl)) fun f13 hf13 => ?_
          obtain ⟨c21, h⟩ := as_ok h
          refine mops_adv rfl (v := .ptr 2 0 (0 + (6 : Int).toNat * 1)) hf13 (by kernel_rfl) (e_iaa (n := 7) (xv := .ptr 2 0 0) (k := .i64) (iv := 6) (p := .ptr 2 0 (0 + (6 : Int).toNat * 1)) (by kernel_rfl) (by kernel_rfl) (by kernel_rfl) (by kernel_rfl) c21) fun f14 hf14 => ?_
          refine mops_adv rfl (v := .s (.bool (gt l_11 (6)))) hf14 (by kernel_rfl) (e_load_pe (g := nB) (l := l_11) (iv := 6) (kd := .mem) (q := 1) (b := 2) (ver := 0) [] (by kernel_rfl) (live_mem (by kernel_rfl)) (arr_h (l := l_11) c21 hn_8) (by kernel_rfl) (by kernel_rfl)) fun f15 hf15 => ?_
          refine mops_sg 2 hf15 (by kernel_rfl) fun f16 hf16 => ?_
          obtain ⟨c22, h⟩ := as_ok h
          refine mops_adv rfl (v := .ref 1 (v_1 + 1) 0 (l_7 ++ [(api_Rec.mk (0) (0) (gt l_11 (0)) (gt l_11 (1)) (gt l_11 (2)) (gt l_11 (3)) (gt l_11 (4)) (gt l_11 (5)) (gt l_11 (6)))]).length) hf16 (by kernel_rfl) (e_app (g := api_Rec.v) (l := l_7) (l' := [(api_Rec.mk (0) (0) (gt l_11 (0)) (gt l_11 (1)) (gt l_11 (2)) (gt l_11 (3)) (gt l_11 (4)) (gt l_11 (5)) (gt l_11 (6)))]) (b := 1) (ver := v_1) (n := l_7.length) rfl (by kernel_rfl) rfl (live_grow (by kernel_rfl)) (sll_ev (v := .ref 3 0 0 1) (by kernel_rfl) (sll_ref (B := ⟨0, .grow, 9, cat api_Rec.v [(api_Rec.mk (0) (0) (gt l_11 (0)) (gt l_11 (1)) (gt l_11 (2)) (gt l_11 (3)) (gt l_11 (4)) (gt l_11 (5)) (gt l_11 (6)))]⟩) (by kernel_rfl) (live_grow (by kernel_rfl)))) (slc_ev (v := .ref 3 0 0 1) (by kernel_rfl) (slc_ref (g := api_Rec.v) (l := [(api_Rec.mk (0) (0) (gt l_11 (0)) (gt l_11 (1)) (gt l_11 (2)) (gt l_11 (3)) (gt l_11 (4)) (gt l_11 (5)) (gt l_11 (6)))]) (kd := .grow) (q := 9) (by kernel_rfl) (live_grow (by kernel_rfl)))) c22) fun f17 hf17 => ?_
          refine mops_en hf17 (by kernel_rfl) fun f18 hf18 => ?_
          refine k_b ?_
          refine k_c ?_
          refine k_reg ?_
          refine mops_en hf18 (by kernel_rfl) fun f19 hf19 => ?_
          refine k_l' (vs_cut (l := [⟨0, [], .s (.string s_)⟩, ⟨2, [], .ref 0 0 0 0⟩, ⟨3, [], .s (.int .i64 0)⟩, ⟨4, [], .sl false r_.length (cat nS r_)⟩, ⟨5, [], .ref 1 (v_1 + 1) 0 (l_7 ++ [(api_Rec.mk (0) (0) (gt l_11 (0)) (gt l_11 (1)) (gt l_11 (2)) (gt l_11 (3)) (gt l_11 (4)) (gt l_11 (5)) (gt l_11 (6)))]).length⟩, ⟨25, [], .s (.int .i64 (IntKind.wrap .i64 ((sln (gt r_ (0))) - 5)))⟩, ⟨26, [], .s (.int .i64 (IntKind.wrap .i64 (t_11 + 1)))⟩]) 2 (by kernel_rfl) (by kernel_rfl) (L' := [⟨0, .grow, 9, cat api_Rec.v ([] : List api_Rec)⟩, ⟨(v_1 + 1), .grow, 9, cat api_Rec.v (l_7 ++ [(api_Rec.mk (0) (0) (gt l_11 (0)) (gt l_11 (1)) (gt l_11 (2)) (gt l_11 (3)) (gt l_11 (4)) (gt l_11 (5)) (gt l_11 (6)))])⟩]) (by kernel_rfl) ⟨⟨rfl, rfl⟩, ⟨rfl, rfl⟩, ⟨rfl, rfl⟩, ⟨rfl, (static_under _ _ (by simp [V.static, statics, cat_stat, dropcat_stat]))⟩, ⟨rfl, rfl⟩, ⟨rfl, rfl⟩, ⟨rfl, rfl⟩, trivial⟩ ⟨.inr (.inr (statics_unders _ _ (cat_stat _))), .inr (.inr (statics_unders _ _ (cat_stat _))), trivial⟩ (FOk_of [0, 2, 3, 4, 5, 25, 26] hf19 (by kernel_rfl)) fun f hf => ?_)
          exact ih _ _ ⟨(l_7 ++ [(api_Rec.mk (0) (0) (gt l_11 (0)) (gt l_11 (1)) (gt l_11 (2)) (gt l_11 (3)) (gt l_11 (4)) (gt l_11 (5)) (gt l_11 (6)))]), (IntKind.wrap .i64 (t_11 + 1)), (v_1 + 1), h, hf, rfl⟩
        refine k_loop BIG ?_
        refine loop_ind (fun n f L => ∃ (l_10 : (List Bool)) (t_14 : Int) (hn_7 : l_10.length = 7), wave_Read_l3 r_ t_11 n l_10 t_14 = some o1 ∧ FOk f [⟨0, [], .s (.string s_)⟩, ⟨2, [], .ref 0 0 0 0⟩, ⟨3, [], .s (.int .i64 0)⟩, ⟨4, [], .sl false r_.length (cat nS r_)⟩, ⟨5, [], .ref 1 v_1 0 l_7.length⟩, ⟨6, [], .s (.int .i64 t_11)⟩, ⟨7, [], .ptr 2 0 0⟩, ⟨25, [], .s (.int .i64 (IntKind.wrap .i64 ((sln (gt r_ (0))) - 5)))⟩, ⟨26, [], .s (.int .i64 t_11)⟩, ⟨27, [], .s (.bool (decide (t_11 < (IntKind.wrap .i64 ((sln (gt r_ (0))) - 5)))))⟩, ⟨28, [], .s (.int .i64 t_11)⟩, ⟨29, [], .s (.int .i64 t_14)⟩] ∧ L = [⟨0, .grow, 9, cat api_Rec.v ([] : List api_Rec)⟩, ⟨v_1, .grow, 9, cat api_Rec.v l_7⟩, ⟨0, .mem, 1, cat nB l_10⟩]) ?_ ?_ BIG _ _ ⟨[false, false, false, false, false, false, false], (0), (by kernel_rfl), hx1, FOk_of [0, 2, 3, 4, 5, 6, 7, 25, 26, 27, 28, 29] hf4 (by kernel_rfl), (by kernel_rfl)⟩
        · rintro f L ⟨l_10, t_14, hn_7, h, _⟩
          cases (show (none : Option _) = some _ from h)
        · rintro n1 R1 ih f L ⟨l_10, t_14, hn_7, h, hf, rfl⟩
          rw [wave_Read_l3] at h
          refine k_seq ?_
          refine k_reg ?_
          refine mops_en hf (by kernel_rfl) fun f1 hf1 => ?_
          refine k_c ?_
          refine k_seq ?_
          refine k_cond hf1 (t := (decide (t_14 < 7))) (by kernel_rfl) (fun hc7 => ?_) (fun hc7 => ?_)
          · have h := if_t h hc7
            refine k_skip ?_
            refine k_c ?_
            refine k_seq ?_
            refine k_block ?_
            refine k_seq ?_
            refine k_reg ?_
            refine mops_en hf1 (by kernel_rfl) fun f2 hf2 => ?_
            refine k_c ?_
            refine k_reg ?_
            refine mops_sg 3 hf2 (by kernel_rfl) fun f3 hf3 => ?_
            obtain ⟨c8, h⟩ := as_ok h
            refine mops_adv rfl (v := .ip ((cat nS r_).drop ((t_14 : Int).toNat * 1))) hf3 (by kernel_rfl) (e_ias (n := r_.length) (xv := .sl false r_.length (cat nS r_)) (k := .i64) (iv := t_14) (p := .ip ((cat nS r_).drop ((t_14 : Int).toNat * 1))) (by kernel_rfl) (by kernel_rfl) (by kernel_rfl) (by kernel_rfl) c8) fun f4 hf4 => ?_
            refine mops_adv rfl (v := .s (.string (gt r_ t_14))) hf4 (by kernel_rfl) (e_load_ip (g := nS) (l := r_) (iv := t_14) [] (by kernel_rfl) c8 (by kernel_rfl) (by kernel_rfl)) fun f5 hf5 => ?_
            refine mops_sg 7 hf5 (by kernel_rfl) fun f6 hf6 => ?_
            obtain ⟨c9, h⟩ := as_ok h
            refine mops_gadv (dst := (some 44)) (op := (.ias 1 (.t 42) (.t 43))) (aft := [10, 11, 9]) (t := 41) (w := true) (ch := [(41, true)]) (b := (decide ((IntKind.wrap .i64 (t_11 + 5)) < (sln (gt r_ t_14))))) (v := .ip ((cat nS r_).drop ((t_14 : Int).toNat * 1))) (by kernel_rfl) hf6 (by kernel_rfl) (by kernel_rfl) (by kernel_rfl) (fun hb10 => e_ias (n := r_.length) (xv := .sl false r_.length (cat nS r_)) (k := .i64) (iv := t_14) (p := .ip ((cat nS r_).drop ((t_14 : Int).toNat * 1))) (by kernel_rfl) (by kernel_rfl) (by kernel_rfl) (by kernel_rfl) (c9 hb10)) fun f7 hf7 => ?_
            refine mops_gadv (dst := (some 45)) (op := (.load false 1 (.t 44))) (aft := [12, 9]) (t := 41) (w := true) (ch := [(41, true)]) (b := (decide ((IntKind.wrap .i64 (t_11 + 5)) < (sln (gt r_ t_14))))) (v := .s (.string (gt r_ t_14))) (by kernel_rfl) hf7 (by kernel_rfl) (by kernel_rfl) (by kernel_rfl) (fun hb11 => e_load_ip (g := nS) (l := r_) (iv := t_14) [] (by kernel_rfl) (c9 hb11) (by kernel_rfl) (by kernel_rfl)) fun f8 hf8 => ?_
            refine mops_sg 2 hf8 (by kernel_rfl) fun f9 hf9 => ?_
            obtain ⟨c12, h⟩ := as_ok h
            refine mops_gadv (dst := (some 48)) (op := (.ixs (.t 45) (.t 47))) (aft := [13, 15, 9]) (t := 41) (w := true) (ch := [(41, true)]) (b := (decide ((IntKind.wrap .i64 (t_11 + 5)) < (sln (gt r_ t_14))))) (v := .s (.int .u8 (bt (gt r_ t_14) (IntKind.wrap .i64 (t_11 + 5))))) (by kernel_rfl) hf9 (by kernel_rfl) (by kernel_rfl) (by kernel_rfl) (fun hb13 => e_ixs (t := (gt r_ t_14)) (k := .i64) (iv := (IntKind.wrap .i64 (t_11 + 5))) (by kernel_rfl) (by kernel_rfl) (c12 hb13)) fun f10 hf10 => ?_
            refine mops_sg 2 hf10 (by kernel_rfl) fun f11 hf11 => ?_
            obtain ⟨c14, h⟩ := as_ok h
            refine mops_adv rfl (v := .ptr 2 0 (0 + (t_14 : Int).toNat * 1)) hf11 (by kernel_rfl) (e_iaa (n := 7) (xv := .ptr 2 0 0) (k := .i64) (iv := t_14) (p := .ptr 2 0 (0 + (t_14 : Int).toNat * 1)) (by kernel_rfl) (by kernel_rfl) (by kernel_rfl) (by kernel_rfl) c14) fun f12 hf12 => ?_
            refine mops_adv rfl (v := .s undef) hf12 (by kernel_rfl) (e_store_pe (g := nB) (l := l_10) (iv := t_14) (kd := .mem) (q := 1) (b := 2) (ver := 0) (ys := [.s (.bool ((decide ((IntKind.wrap .i64 (t_11 + 5)) < (sln (gt r_ t_14)))) && ((bt (gt r_ t_14) (IntKind.wrap .i64 (t_11 + 5))) == 35)))]) (a := ((decide ((IntKind.wrap .i64 (t_11 + 5)) < (sln (gt r_ t_14)))) && ((bt (gt r_ t_14) (IntKind.wrap .i64 (t_11 + 5))) == 35))) [] (by kernel_rfl) (live_mem (by kernel_rfl)) (by kernel_rfl) (by kernel_rfl) (by kernel_rfl) (arr_h (l := l_10) c14 hn_7) (by kernel_rfl) (by kernel_rfl)) fun f13 hf13 => ?_
            refine mops_en hf13 (by kernel_rfl) fun f14 hf14 => ?_
            refine k_b ?_
            refine k_c ?_
            refine k_reg ?_
            refine mops_en hf14 (by kernel_rfl) fun f15 hf15 => ?_
            refine k_l ?_
            exact ih _ _ ⟨(st l_10 t_14 ((decide ((IntKind.wrap .i64 (t_11 + 5)) < (sln (gt r_ t_14)))) && ((bt (gt r_ t_14) (IntKind.wrap .i64 (t_11 + 5))) == 35))), (IntKind.wrap .i64 (t_14 + 1)), (st_len.trans hn_7), h, FOk_of [0, 2, 3, 4, 5, 6, 7, 25, 26, 27, 28, 29] hf15 (by kernel_rfl), (by kernel_rfl)⟩
          · have h := if_f h hc7
            refine k_exit ?_
            refine x_c nofun ?_
            refine x_l nofun ?_
            refine x_b ?_
            refine k_hp (L' := [⟨0, .grow, 9, cat api_Rec.v ([] : List api_Rec)⟩, ⟨v_1, .grow, 9, cat api_Rec.v l_7⟩, ⟨0, .mem, 1, cat nB l_10⟩]) (by kernel_rfl) ?_
            exact hgo1 l_10 t_14 (decide (t_14 < 7)) hn_7 (Option.some.inj h) _ (FOk_of [0, 2, 3, 4, 5, 6, 7, 25, 26, 27, 28, 29, 30] hf1 (by kernel_rfl))
      · have h := if_f h hc6
        refine k_exit ?_
        refine x_c nofun ?_
        refine x_l nofun ?_
        refine x_b ?_
        refine k_hp (L' := [⟨0, .grow, 9, cat api_Rec.v ([] : List api_Rec)⟩, ⟨v_1, .grow, 9, cat api_Rec.v l_7⟩]) (by kernel_rfl) ?_
        exact hgo0 l_7 v_1 (Option.some.inj h) _ (FOk_of [0, 2, 3, 5] hf1 (by kernel_rfl))
end Go.Proofs.YtnilppmpfklpbaaDoorK
