/- The Go functions come to the functions over typed data. Printed by a program of this work. -/
import Derived.Test.YtiedenhkailolaaDoorF
import Derived.Test.YtiedenhkailolaaDoorProg
import Derived.Test.YtiedenhkailolaaDoorG1
namespace Go.Proofs.YtiedenhkailolaaDoorK
set_option linter.unusedVariables false
set_option linter.unusedSimpArgs false
set_option maxHeartbeats 4000000
open Go.RowKit
attribute [local irreducible] dwv mops lops lqops lwops kont iter run runK rk okK ex E1 vals val chain chB sel resF
def strings_Split_i0 : List Op1 := [(oE 4 (.nilg 1) [])]
def strings_Split_i1 : List Op1 := [(oM 5 (.t 0) []), (oM 6 (.t 1) []), (oC 7 34 [(.t 5), (.t 6), (.k (.int .i64 0)), (.k (.int .i64 (-1)))] [0, 1]), (oM 4 (.t 7) [2, 2, 0, 1, 2])]
def strings_Split_i2 : IR := .ret
def strings_Split_i3 : IR := (.seq (.reg false strings_Split_i1) strings_Split_i2)
def strings_Split_ir : IR := (.seq (.reg false strings_Split_i0) strings_Split_i3)
theorem strings_Split_cfn : cFn Tryd.prog 21 = some (strings_Split_ir, [(.t 4)], 8) := by kernel_rfl
def strings_Split_V (r : ((List ByteArray))) : V := .sl false r.length (cat nS r)
def strings_Split_C (r : ((List ByteArray))) : X → Fr → Hp → Prop := FinL [(.t 4)] [] (strings_Split_V r) []
theorem strings_Split_ok (s_ : ByteArray) (sep_ : ByteArray) (r : ((List ByteArray))) (h : strings_Split s_ sep_ = some r) : Pure Tryd.prog 21 [.s (.string s_), .s (.string sep_)] (strings_Split_V r) := by
  refine ConL.of strings_Split_cfn (Nat.le_of_ble_eq_true (by kernel_rfl)) (Nat.le_of_ble_eq_true (by kernel_rfl)) ?_
  refine k_start ?_
  show dwv Tryd.prog [] strings_Split_ir (kont Tryd.prog [] (strings_Split_C r) []) (fr0 [.s (.string s_), .s (.string sep_)]) []
  have hf : FOk (fr0 [.s (.string s_), .s (.string sep_)]) [⟨0, [], .s (.string s_)⟩, ⟨1, [], .s (.string sep_)⟩] := ⟨⟨fun _ => rfl, fun h => (h trivial).elim⟩, ⟨fun _ => rfl, fun h => (h trivial).elim⟩, trivial⟩
  generalize fr0 [.s (.string s_), .s (.string sep_)] = f at hf ⊢
  unfold strings_Split at h
  refine k_seq ?_
  refine k_reg ?_
  refine mops_en hf (by kernel_rfl) fun f1 hf1 => ?_
  refine k_c ?_
  refine k_seq ?_
  refine k_reg ?_
  refine mops_sg 2 hf1 (by kernel_rfl) fun f2 hf2 => ?_
  obtain ⟨r_, hx_r_, h⟩ := Option.bind_eq_some_iff.1 h
  refine mops_call rfl hf2 (av := [.s (.string s_), .s (.string sep_), .s (.int .i64 0), .s (.int .i64 (-1))]) (by kernel_rfl) (v := .sl false r_.length (cat nS r_)) (CalL.pure (strings_genSplit_ok s_ sep_ (0) (-1) r_ hx_r_) rfl (by simp [V.static, statics, cat_stat, strings_genSplit_V]) (Nat.le_of_ble_eq_true (by kernel_rfl))) (fun _ => rfl) fun f3 hf3 => ?_
  refine mops_en hf3 (by kernel_rfl) fun f4 hf4 => ?_
  refine k_c ?_
  refine k_ret ?_
  obtain rfl := Option.some.inj h
  exact k_fin (fin_ret (.inl rfl) hf4 (vs := [.sl false r_.length (cat nS r_)]) (by kernel_rfl) (SettL.pure (FzL.slf (g := nS))))
def lists_Read_i0 : List Op1 := [(oM 4 (.k (.int .u8 0)) []), (oM 5 (.k (.int .i64 0)) [0])]
def lists_Read_i1 : List Op1 := [(oM 6 (.k (.int .u8 0)) [])]
def lists_Read_i2 : List Op1 := [(oM 10 (.t 0) []), (oE 11 (.bin .eql (.t 10) (.k (.string ⟨#[]⟩))) [0])]
def lists_Read_i3 : List Op1 := [(oM 4 (.k (.int .u8 0)) []), (oM 5 (.k (.int .i64 0)) [0, 0])]
def lists_Read_i4 : IR := .ret
def lists_Read_i5 : IR := (.cond (.t 11) (.seq (.reg false lists_Read_i3) lists_Read_i4) .skip)
def lists_Read_i6 : List Op1 := [(oM 12 (.t 0) []), (oC 13 21 [(.t 12), (.k (.string ⟨#[44]⟩))] [0]), (oE 14 (.len (.t 13)) [1]), (oM 15 (.k (.int .i64 0)) [])]
def lists_Read_i7 : List Op1 := [(oE 16 (.bin .lss (.t 15) (.t 14)) [])]
def lists_Read_i8 : List Op1 := [(oE 17 (.ias 1 (.t 13) (.t 15)) []), (oE 18 (.load false 1 (.t 17)) [0]), (oM 8 (.t 18) [1, 0, 1])]
def lists_Read_i9 : List Op1 := [(oM 19 (.t 8) []), (oM 20 (.t 1) []), (oC 21 22 [(.t 19), (.t 20)] [0, 1]), (oM 9 (.t 21) [2, 2, 0, 1, 2])]
def lists_Read_i10 : List Op1 := [(oM 22 (.t 9) []), (oE 23 (.bin .eql (.t 22) (.k (.int .u8 0))) [0])]
def lists_Read_i11 : List Op1 := [(oM 4 (.k (.int .u8 0)) []), (oM 5 (.k (.int .i64 40)) [0, 0])]
def lists_Read_i12 : IR := .ret
def lists_Read_i13 : IR := (.cond (.t 23) (.seq (.reg false lists_Read_i11) lists_Read_i12) .skip)
def lists_Read_i14 : List Op1 := [(oM 24 (.t 6) []), (oM 25 (.t 9) []), (oE 26 (.bin .and (.t 24) (.t 25)) [0, 1]), (oE 27 (.bin .neq (.t 26) (.k (.int .u8 0))) [2])]
def lists_Read_i15 : List Op1 := [(oM 4 (.k (.int .u8 0)) []), (oM 5 (.k (.int .i64 41)) [0, 0])]
def lists_Read_i16 : IR := .ret
def lists_Read_i17 : IR := (.cond (.t 27) (.seq (.reg false lists_Read_i15) lists_Read_i16) .skip)
def lists_Read_i18 : List Op1 := [(oM 28 (.t 6) []), (oM 29 (.t 9) []), (oE 30 (.bin .or (.t 28) (.t 29)) [0, 1]), (oM 6 (.t 30) [2, 0, 1, 2])]
def lists_Read_i19 : IR := (.reg false lists_Read_i18)
def lists_Read_i20 : IR := (.seq (.seq (.reg false lists_Read_i14) lists_Read_i17) lists_Read_i19)
def lists_Read_i21 : IR := (.seq (.seq (.reg false lists_Read_i10) lists_Read_i13) lists_Read_i20)
def lists_Read_i22 : IR := (.seq (.reg false lists_Read_i9) lists_Read_i21)
def lists_Read_i23 : List Op1 := [(oE 31 (.bin .add (.t 15) (.k (.int .i64 1))) []), (oM 15 (.t 31) [0])]
def lists_Read_i24 : IR := (.reg false lists_Read_i23)
def lists_Read_i25 : IR := (.seq (.block 1 (.seq (.reg false lists_Read_i8) lists_Read_i22)) lists_Read_i24)
def lists_Read_i26 : IR := (.seq (.cond (.t 16) .skip (.exit 0)) lists_Read_i25)
def lists_Read_i27 : IR := (.seq (.reg false lists_Read_i7) lists_Read_i26)
def lists_Read_i28 : IR := (.block 0 (.loop lists_Read_i27))
def lists_Read_i29 : List Op1 := [(oM 32 (.t 6) []), (oM 4 (.t 32) [0, 0]), (oM 5 (.k (.int .i64 0)) [1, 0, 1])]
def lists_Read_i30 : IR := .ret
def lists_Read_i31 : IR := (.seq (.reg false lists_Read_i29) lists_Read_i30)
def lists_Read_i32 : IR := (.seq (.seq (.reg false lists_Read_i6) lists_Read_i28) lists_Read_i31)
def lists_Read_i33 : IR := (.seq (.seq (.reg false lists_Read_i2) lists_Read_i5) lists_Read_i32)
def lists_Read_i34 : IR := (.seq (.reg false lists_Read_i1) lists_Read_i33)
def lists_Read_ir : IR := (.seq (.reg false lists_Read_i0) lists_Read_i34)
theorem lists_Read_cfn : cFn Tryd.prog 7 = some (lists_Read_ir, [(.t 4), (.t 5)], 33) := by kernel_rfl
def lists_Read_V (r : (Int × Int)) : V := .tup [.s (.int .u8 r.1), .s (.int .i64 r.2)]
def lists_Read_C (r : (Int × Int)) : X → Fr → Hp → Prop := FinL [(.t 4), (.t 5)] [] (lists_Read_V r) []
theorem lists_Read_ok (s_ : ByteArray) (stack_ : Int) (r : (Int × Int)) (h : lists_Read s_ stack_ = some r) : Pure Tryd.prog 7 [.s (.string s_), .s (.int .i64 stack_)] (lists_Read_V r) := by
  refine ConL.of lists_Read_cfn (Nat.le_of_ble_eq_true (by kernel_rfl)) (Nat.le_of_ble_eq_true (by kernel_rfl)) ?_
  refine k_start ?_
  show dwv Tryd.prog [] lists_Read_ir (kont Tryd.prog [] (lists_Read_C r) []) (fr0 [.s (.string s_), .s (.int .i64 stack_)]) []
  have hf : FOk (fr0 [.s (.string s_), .s (.int .i64 stack_)]) [⟨0, [], .s (.string s_)⟩, ⟨1, [], .s (.int .i64 stack_)⟩] := ⟨⟨fun _ => rfl, fun h => (h trivial).elim⟩, ⟨fun _ => rfl, fun h => (h trivial).elim⟩, trivial⟩
  generalize fr0 [.s (.string s_), .s (.int .i64 stack_)] = f at hf ⊢
  unfold lists_Read at h
  refine k_seq ?_
  refine k_reg ?_
  refine mops_en hf (by kernel_rfl) fun f1 hf1 => ?_
  refine k_c ?_
  refine k_seq ?_
  refine k_reg ?_
  refine mops_en hf1 (by kernel_rfl) fun f2 hf2 => ?_
  refine k_c ?_
  refine k_seq ?_
  refine k_seq ?_
  refine k_reg ?_
  refine mops_en hf2 (by kernel_rfl) fun f3 hf3 => ?_
  refine k_c ?_
  refine k_cond hf3 (t := (s_.toList == (⟨#[]⟩ : ByteArray).toList)) (by kernel_rfl) (fun hc1 => ?_) (fun hc1 => ?_)
  · have h := if_t h hc1
    refine k_seq ?_
    refine k_reg ?_
    refine mops_en hf3 (by kernel_rfl) fun f4 hf4 => ?_
    refine k_c ?_
    refine k_ret ?_
    refine x_c nofun ?_
    obtain rfl := Option.some.inj h
    exact k_fin (fin_ret (.inl rfl) hf4 (vs := [.s (.int .u8 0), .s (.int .i64 0)]) (by kernel_rfl) (SettL.pure (FzL.tup (FzsL.cons (FzL.stat rfl) (FzsL.cons (FzL.stat rfl) FzsL.nil)))))
  · have h := if_f h hc1
    refine k_skip ?_
    refine k_c ?_
    refine k_seq ?_
    refine k_seq ?_
    refine k_reg ?_
    refine mops_sg 1 hf3 (by kernel_rfl) fun f4 hf4 => ?_
    obtain ⟨r_, hx_r_, h⟩ := Option.bind_eq_some_iff.1 h
    refine mops_call rfl hf4 (av := [.s (.string s_), .s (.string (⟨#[44]⟩ : ByteArray))]) (by kernel_rfl) (v := .sl false r_.length (cat nS r_)) (CalL.pure (strings_Split_ok s_ (⟨#[44]⟩ : ByteArray) r_ hx_r_) rfl (by simp [V.static, statics, cat_stat, strings_Split_V]) (Nat.le_of_ble_eq_true (by kernel_rfl))) (fun _ => rfl) fun f5 hf5 => ?_
    refine mops_en hf5 (by kernel_rfl) fun f6 hf6 => ?_
    refine k_c ?_
    refine k_block ?_
    obtain ⟨o0, hx0, h⟩ := Option.bind_eq_some_iff.1 h
    have hret0 : ∀ r0, .ret r0 = o0 → r0 = r := fun r0 e => by subst e; exact Option.some.inj h
    have hgo0 : ∀ (post_2 : Int), .go post_2 = o0 → ∀ f, FOk f [⟨4, [], .s (.int .u8 0)⟩, ⟨5, [], .s (.int .i64 0)⟩, ⟨6, [], .s (.int .u8 post_2)⟩] → kont Tryd.prog [] (lists_Read_C r) ((.c lists_Read_i31) :: []) .normal f [] := by
      intro post_2 e f hf
      subst e
      refine k_c ?_
      refine k_seq ?_
      refine k_reg ?_
      refine mops_en hf (by kernel_rfl) fun f1 hf1 => ?_
      refine k_c ?_
      refine k_ret ?_
      obtain rfl := Option.some.inj h
      exact k_fin (fin_ret (.inl rfl) hf1 (vs := [.s (.int .u8 post_2), .s (.int .i64 0)]) (by kernel_rfl) (SettL.pure (FzL.tup (FzsL.cons (FzL.stat rfl) (FzsL.cons (FzL.stat rfl) FzsL.nil)))))
    refine k_loop BIG ?_
    refine loop_ind (fun n f L => ∃ (post_1 : Int) (t_1 : Int), lists_Read_l0 stack_ r_ n post_1 t_1 = some o0 ∧ FOk f [⟨1, [], .s (.int .i64 stack_)⟩, ⟨4, [], .s (.int .u8 0)⟩, ⟨5, [], .s (.int .i64 0)⟩, ⟨6, [], .s (.int .u8 post_1)⟩, ⟨13, [], .sl false r_.length (cat nS r_)⟩, ⟨14, [], .s (.int .i64 (ln r_))⟩, ⟨15, [], .s (.int .i64 t_1)⟩] ∧ L = []) ?_ ?_ BIG _ _ ⟨(0), (0), hx0, FOk_of [1, 4, 5, 6, 13, 14, 15] hf6 (by kernel_rfl), (by kernel_rfl)⟩
    · rintro f L ⟨post_1, t_1, h, _⟩
      cases (show (none : Option _) = some _ from h)
    · rintro n0 R0 ih f L ⟨post_1, t_1, h, hf, rfl⟩
      rw [lists_Read_l0] at h
      refine k_seq ?_
      refine k_reg ?_
      refine mops_en hf (by kernel_rfl) fun f1 hf1 => ?_
      refine k_c ?_
      refine k_seq ?_
      refine k_cond hf1 (t := (decide (t_1 < (ln r_)))) (by kernel_rfl) (fun hc2 => ?_) (fun hc2 => ?_)
      · have h := if_t h hc2
        refine k_skip ?_
        refine k_c ?_
        refine k_seq ?_
        refine k_block ?_
        refine k_seq ?_
        refine k_reg ?_
        obtain ⟨c3, h⟩ := as_ok h
        refine mops_adv rfl (v := .ip ((cat nS r_).drop ((t_1 : Int).toNat * 1))) hf1 (by kernel_rfl) (e_ias (n := r_.length) (xv := .sl false r_.length (cat nS r_)) (k := .i64) (iv := t_1) (p := .ip ((cat nS r_).drop ((t_1 : Int).toNat * 1))) (by kernel_rfl) (by kernel_rfl) (by kernel_rfl) (by kernel_rfl) c3) fun f2 hf2 => ?_
        refine mops_adv rfl (v := .s (.string (gt r_ t_1))) hf2 (by kernel_rfl) (e_load_ip (g := nS) (l := r_) (iv := t_1) [] (by kernel_rfl) c3 (by kernel_rfl) (by kernel_rfl)) fun f3 hf3 => ?_
        refine mops_en hf3 (by kernel_rfl) fun f4 hf4 => ?_
        refine k_c ?_
        refine k_seq ?_
        refine k_reg ?_
        refine mops_sg 2 hf4 (by kernel_rfl) fun f5 hf5 => ?_
        obtain ⟨r_3, hx_r_3, h⟩ := Option.bind_eq_some_iff.1 h
        refine mops_call rfl hf5 (av := [.s (.string (gt r_ t_1)), .s (.int .i64 stack_)]) (by kernel_rfl) (v := .s (.int .u8 r_3)) (CalL.pure (lists_bits_ok (gt r_ t_1) stack_ r_3 hx_r_3) rfl rfl (Nat.le_of_ble_eq_true (by kernel_rfl))) (fun _ => rfl) fun f6 hf6 => ?_
        refine mops_en hf6 (by kernel_rfl) fun f7 hf7 => ?_
        refine k_c ?_
        refine k_seq ?_
        refine k_seq ?_
        refine k_reg ?_
        refine mops_en hf7 (by kernel_rfl) fun f8 hf8 => ?_
        refine k_c ?_
        refine k_cond hf8 (t := (r_3 == 0)) (by kernel_rfl) (fun hc4 => ?_) (fun hc4 => ?_)
        · have h := if_t h hc4
          refine k_seq ?_
          refine k_reg ?_
          refine mops_en hf8 (by kernel_rfl) fun f9 hf9 => ?_
          refine k_c ?_
          refine k_ret ?_
          refine x_c nofun ?_
          refine x_br ?_
          refine x_c nofun ?_
          refine x_l nofun ?_
          refine x_br ?_
          refine x_c nofun ?_
          obtain rfl := hret0 _ (Option.some.inj h)
          exact k_fin (fin_ret (.inl rfl) hf9 (vs := [.s (.int .u8 0), .s (.int .i64 40)]) (by kernel_rfl) (SettL.pure (FzL.tup (FzsL.cons (FzL.stat rfl) (FzsL.cons (FzL.stat rfl) FzsL.nil)))))
        · have h := if_f h hc4
          refine k_skip ?_
          refine k_c ?_
          refine k_seq ?_
          refine k_seq ?_
          refine k_reg ?_
          refine mops_en hf8 (by kernel_rfl) fun f9 hf9 => ?_
          refine k_c ?_
          refine k_cond hf9 (t := ((bits .and .u8 post_1 r_3) != 0)) (by kernel_rfl) (fun hc5 => ?_) (fun hc5 => ?_)
          · have h := if_t h hc5
            refine k_seq ?_
            refine k_reg ?_
            refine mops_en hf9 (by kernel_rfl) fun f10 hf10 => ?_
            refine k_c ?_
            refine k_ret ?_
            refine x_c nofun ?_
            refine x_br ?_
            refine x_c nofun ?_
            refine x_l nofun ?_
            refine x_br ?_
            refine x_c nofun ?_
            obtain rfl := hret0 _ (Option.some.inj h)
            exact k_fin (fin_ret (.inl rfl) hf10 (vs := [.s (.int .u8 0), .s (.int .i64 41)]) (by kernel_rfl) (SettL.pure (FzL.tup (FzsL.cons (FzL.stat rfl) (FzsL.cons (FzL.stat rfl) FzsL.nil)))))
          · have h := if_f h hc5
            refine k_skip ?_
            refine k_c ?_
            refine k_reg ?_
            refine mops_en hf9 (by kernel_rfl) fun f10 hf10 => ?_
            refine k_b ?_
            refine k_c ?_
            refine k_reg ?_
            refine mops_en hf10 (by kernel_rfl) fun f11 hf11 => ?_
            refine k_l ?_
            exact ih _ _ ⟨(bits .or .u8 post_1 r_3), (IntKind.wrap .i64 (t_1 + 1)), h, FOk_of [1, 4, 5, 6, 13, 14, 15] hf11 (by kernel_rfl), (by kernel_rfl)⟩
      · have h := if_f h hc2
        refine k_exit ?_
        refine x_c nofun ?_
        refine x_l nofun ?_
        refine x_b ?_
        refine k_hp (L' := []) (by kernel_rfl) ?_
        exact hgo0 post_1 (Option.some.inj h) _ (FOk_of [4, 5, 6] hf1 (by kernel_rfl))
def spinetlaw17_alive_i0 : List Op1 := [(oM 0 (.k (.bool false)) [])]
def spinetlaw17_alive_i1 : List Op1 := [(oC 4 12 [(.k (.int .u8 129)), (.k (.int .i64 4))] []), (oM 1 (.t 4) [0, 0, 0])]
def spinetlaw17_alive_i2 : List Op1 := [(oC 6 7 [(.k (.string ⟨#[68, 44, 88]⟩)), (.k (.int .i64 4))] []), (oM 5 (.t 6) [0]), (oE 7 (.ext 0 (.t 5)) [1]), (oE 8 (.ext 1 (.t 5)) [1]), (oM 2 (.t 7) [2, 0, 0, 1, 2]), (oM 3 (.t 8) [3, 4, 0, 1, 2, 3, 4])]
def spinetlaw17_alive_i3 : List Op1 := [(oM 9 (.t 1) []), (oE 10 (.len (.t 9)) [0]), (oE 11 (.bin .eql (.t 10) (.k (.int .i64 3))) [1]), (oM 12 (.t 11) [2]), (oG 13 (.mv (.t 1)) 12 true [3]), (oG 14 (.ias 2 (.t 13) (.k (.int .i64 0))) 12 true [4, 3]), (oG 15 (.fld 0 (.t 14)) 12 true [5, 3]), (oG 16 (.load false 1 (.t 15)) 12 true [6, 3]), (oG 17 (.bin .eql (.t 16) (.k (.int .i64 10))) 12 true [7, 3]), (oE 18 (.pick (.t 12) (.t 17) (.k (.bool false))) [3, 8]), (oM 19 (.t 18) [9, 3]), (oG 20 (.mv (.t 1)) 19 true [10]), (oG 21 (.ias 2 (.t 20) (.k (.int .i64 1))) 19 true [11, 10]), (oG 22 (.fld 1 (.t 21)) 19 true [12, 10]), (oG 23 (.load false 1 (.t 22)) 19 true [13, 10]), (oE 24 (.pick (.t 19) (.t 23) (.k (.bool false))) [10, 14]), (oM 25 (.t 24) [15, 10]), (oG 26 (.mv (.t 2)) 25 true [16]), (oG 27 (.bin .eql (.t 26) (.k (.int .u8 22))) 25 true [17, 16]), (oE 28 (.pick (.t 25) (.t 27) (.k (.bool false))) [16, 18]), (oM 29 (.t 28) [19, 16]), (oG 30 (.mv (.t 3)) 29 true [20]), (oG 31 (.bin .eql (.t 30) (.k (.int .i64 0))) 29 true [21, 20]), (oE 32 (.pick (.t 29) (.t 31) (.k (.bool false))) [20, 22]), (oM 0 (.t 32) [23, 20, 0, 1, 2, 3, 4, 5, 6, 7, 8, 9, 10, 11, 12, 13, 14, 15, 16, 17, 18, 19, 20, 21, 22, 23])]
def spinetlaw17_alive_i4 : IR := .ret
def spinetlaw17_alive_i5 : IR := (.seq (.reg false spinetlaw17_alive_i3) spinetlaw17_alive_i4)
def spinetlaw17_alive_i6 : IR := (.seq (.reg false spinetlaw17_alive_i2) spinetlaw17_alive_i5)
def spinetlaw17_alive_i7 : IR := (.seq (.reg false spinetlaw17_alive_i1) spinetlaw17_alive_i6)
def spinetlaw17_alive_ir : IR := (.seq (.reg false spinetlaw17_alive_i0) spinetlaw17_alive_i7)
theorem spinetlaw17_alive_cfn : cFn Tryd.prog 11 = some (spinetlaw17_alive_ir, [(.t 0)], 33) := by kernel_rfl
def spinetlaw17_alive_V (r : (Bool)) : V := .s (.bool r)
def spinetlaw17_alive_C (r : (Bool)) : X → Fr → Hp → Prop := FinL [(.t 0)] [] (spinetlaw17_alive_V r) []
theorem spinetlaw17_alive_ok (r : (Bool)) (h : spinetlaw17_alive = some r) : Pure Tryd.prog 11 [] (spinetlaw17_alive_V r) := by
  refine ConL.of spinetlaw17_alive_cfn (Nat.le_of_ble_eq_true (by kernel_rfl)) (Nat.le_of_ble_eq_true (by kernel_rfl)) ?_
  refine k_start ?_
  show dwv Tryd.prog [] spinetlaw17_alive_ir (kont Tryd.prog [] (spinetlaw17_alive_C r) []) (fr0 []) []
  have hf : FOk (fr0 []) [] := trivial
  generalize fr0 [] = f at hf ⊢
  unfold spinetlaw17_alive at h
  refine k_seq ?_
  refine k_reg ?_
  refine mops_en hf (by kernel_rfl) fun f1 hf1 => ?_
  refine k_c ?_
  refine k_seq ?_
  refine k_reg ?_
  obtain ⟨r_, hx_r_, h⟩ := Option.bind_eq_some_iff.1 h
  refine mops_call rfl hf1 (av := [.s (.int .u8 129), .s (.int .i64 4)]) (by kernel_rfl) (v := .sl false r_.length (cat lists_Part.v r_)) (CalL.pure (lists_Order_ok (129) (4) r_ hx_r_) rfl (by simp [V.static, statics, cat_stat, lists_Order_V]) (Nat.le_of_ble_eq_true (by kernel_rfl))) (fun _ => rfl) fun f2 hf2 => ?_
  refine mops_en hf2 (by kernel_rfl) fun f3 hf3 => ?_
  refine k_c ?_
  refine k_seq ?_
  refine k_reg ?_
  obtain ⟨r_1, hx_r_1, h⟩ := Option.bind_eq_some_iff.1 h
  refine mops_call rfl hf3 (av := [.s (.string (⟨#[68, 44, 88]⟩ : ByteArray)), .s (.int .i64 4)]) (by kernel_rfl) (v := .tup [.s (.int .u8 r_1.1), .s (.int .i64 r_1.2)]) (CalL.pure (lists_Read_ok (⟨#[68, 44, 88]⟩ : ByteArray) (4) r_1 hx_r_1) rfl rfl (Nat.le_of_ble_eq_true (by kernel_rfl))) (fun _ => rfl) fun f4 hf4 => ?_
  refine mops_en hf4 (by kernel_rfl) fun f5 hf5 => ?_
  refine k_c ?_
  refine k_seq ?_
  refine k_reg ?_
  refine mops_sg 5 hf5 (by kernel_rfl) fun f6 hf6 => ?_
  obtain ⟨c1, h⟩ := as_ok h
  refine mops_gadv (dst := (some 14)) (op := (.ias 2 (.t 13) (.k (.int .i64 0)))) (aft := [4, 3]) (t := 12) (w := true) (ch := [(12, true)]) (b := ((ln r_) == 3)) (v := .ip ((cat lists_Part.v r_).drop ((0 : Int).toNat * 2))) (by kernel_rfl) hf6 (by kernel_rfl) (by kernel_rfl) (by kernel_rfl) (fun hb2 => e_ias (n := r_.length) (xv := .sl false r_.length (cat lists_Part.v r_)) (k := .i64) (iv := 0) (p := .ip ((cat lists_Part.v r_).drop ((0 : Int).toNat * 2))) (by kernel_rfl) (by kernel_rfl) (by kernel_rfl) (by kernel_rfl) (c1 hb2)) fun f7 hf7 => ?_
  refine mops_sg 1 hf7 (by kernel_rfl) fun f8 hf8 => ?_
  refine mops_gadv (dst := (some 16)) (op := (.load false 1 (.t 15))) (aft := [6, 3]) (t := 12) (w := true) (ch := [(12, true)]) (b := ((ln r_) == 3)) (v := .s (.int .i64 (gt r_ (0)).Reg)) (by kernel_rfl) hf8 (by kernel_rfl) (by kernel_rfl) (by kernel_rfl) (fun hb3 => e_load_ip (g := lists_Part.v) (l := r_) (iv := 0) [0] (by kernel_rfl) (c1 hb3) (by kernel_rfl) (by kernel_rfl)) fun f9 hf9 => ?_
  refine mops_sg 4 hf9 (by kernel_rfl) fun f10 hf10 => ?_
  obtain ⟨c4, h⟩ := as_ok h
  refine mops_gadv (dst := (some 21)) (op := (.ias 2 (.t 20) (.k (.int .i64 1)))) (aft := [11, 10]) (t := 19) (w := true) (ch := [(19, true)]) (b := (((ln r_) == 3) && ((gt r_ (0)).Reg == 10))) (v := .ip ((cat lists_Part.v r_).drop ((1 : Int).toNat * 2))) (by kernel_rfl) hf10 (by kernel_rfl) (by kernel_rfl) (by kernel_rfl) (fun hb5 => e_ias (n := r_.length) (xv := .sl false r_.length (cat lists_Part.v r_)) (k := .i64) (iv := 1) (p := .ip ((cat lists_Part.v r_).drop ((1 : Int).toNat * 2))) (by kernel_rfl) (by kernel_rfl) (by kernel_rfl) (by kernel_rfl) (c4 hb5)) fun f11 hf11 => ?_
  refine mops_sg 1 hf11 (by kernel_rfl) fun f12 hf12 => ?_
  refine mops_gadv (dst := (some 23)) (op := (.load false 1 (.t 22))) (aft := [13, 10]) (t := 19) (w := true) (ch := [(19, true)]) (b := (((ln r_) == 3) && ((gt r_ (0)).Reg == 10))) (v := .s (.bool (gt r_ (1)).High)) (by kernel_rfl) hf12 (by kernel_rfl) (by kernel_rfl) (by kernel_rfl) (fun hb6 => e_load_ip (g := lists_Part.v) (l := r_) (iv := 1) [1] (by kernel_rfl) (c4 hb6) (by kernel_rfl) (by kernel_rfl)) fun f13 hf13 => ?_
  refine mops_end [0] hf13 (l' := [⟨0, [], .s (.bool ((((((ln r_) == 3) && ((gt r_ (0)).Reg == 10)) && (gt r_ (1)).High) && (r_1.1 == 22)) && (r_1.2 == 0)))⟩]) (L' := []) (by kernel_rfl) fun f14 hf14 => ?_
  refine k_c ?_
  refine k_ret ?_
  obtain rfl := Option.some.inj h
  exact k_fin (fin_ret (.inl rfl) hf14 (vs := [.s (.bool ((((((ln r_) == 3) && ((gt r_ (0)).Reg == 10)) && (gt r_ (1)).High) && (r_1.1 == 22)) && (r_1.2 == 0)))]) (by kernel_rfl) (SettL.pure (FzL.stat rfl)))
end Go.Proofs.YtiedenhkailolaaDoorK
