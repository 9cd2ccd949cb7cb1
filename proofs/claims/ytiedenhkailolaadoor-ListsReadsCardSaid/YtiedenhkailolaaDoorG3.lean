/- The Go functions come to the functions over typed data. Printed by a program of this work. -/
import Derived.Test.YtiedenhkailolaaDoorF
import Derived.Test.YtiedenhkailolaaDoorProg
import Derived.Test.YtiedenhkailolaaDoorG0
import Derived.Test.YtiedenhkailolaaDoorG2
namespace Go.Proofs.YtiedenhkailolaaDoorK
set_option linter.unusedVariables false
set_option linter.unusedSimpArgs false
set_option maxHeartbeats 4000000
open Go.RowKit
attribute [local irreducible] dwv mops lops lqops lwops kont iter run runK rk okK ex E1 vals val chain chB sel resF
def spinetlaw17_ListsReads_i0 : List Op1 := [(oM 4 (.k (.bool false)) [])]
def spinetlaw17_ListsReads_i1 : List Op1 := [(oM 13 (.t 0) []), (oE 14 (.lens (.t 13)) [0]), (oE 15 (.bin .gtr (.t 14) (.k (.int .i64 60))) [1])]
def spinetlaw17_ListsReads_i2 : List Op1 := [(oM 4 (.k (.bool true)) [])]
def spinetlaw17_ListsReads_i3 : IR := .ret
def spinetlaw17_ListsReads_i4 : IR := (.cond (.t 15) (.seq (.reg false spinetlaw17_ListsReads_i2) spinetlaw17_ListsReads_i3) .skip)
def spinetlaw17_ListsReads_i5 : List Op1 := [(oM 17 (.t 0) []), (oM 18 (.t 1) []), (oC 19 7 [(.t 17), (.t 18)] [0, 1]), (oM 16 (.t 19) [2]), (oE 20 (.ext 0 (.t 16)) [3]), (oE 21 (.ext 1 (.t 16)) [3]), (oM 5 (.t 20) [4, 2, 0, 1, 2, 3, 4]), (oM 6 (.t 21) [5, 6, 0, 1, 2, 3, 4, 5, 6])]
def spinetlaw17_ListsReads_i6 : List Op1 := [(oM 7 (.k (.int .i64 0)) []), (oM 8 (.k (.int .i64 0)) [0, 0])]
def spinetlaw17_ListsReads_i7 : List Op1 := [(oM 22 (.t 0) []), (oC 23 8 [(.t 22)] [0]), (oM 9 (.t 23) [1, 1, 0, 1])]
def spinetlaw17_ListsReads_i8 : List Op1 := [(oM 10 (.k (.int .i64 0)) [])]
def spinetlaw17_ListsReads_i9 : List Op1 := [(oM 24 (.t 10) []), (oM 25 (.t 9) []), (oE 26 (.len (.t 25)) [1]), (oE 27 (.bin .lss (.t 24) (.t 26)) [0, 2]), (oM 28 (.t 27) [3]), (oG 29 (.mv (.t 0)) 28 true [4]), (oG 30 (.bin .neq (.t 29) (.k (.string ⟨#[]⟩))) 28 true [5, 4]), (oE 31 (.pick (.t 28) (.t 30) (.k (.bool false))) [4, 6]), (oM 32 (.t 31) [7, 4]), (oG 33 (.mv (.t 8)) 32 true [8]), (oG 34 (.bin .eql (.t 33) (.k (.int .i64 0))) 32 true [9, 8]), (oE 35 (.pick (.t 32) (.t 34) (.k (.bool false))) [8, 10])]
def spinetlaw17_ListsReads_i10 : IR := (.cond (.t 35) .skip (.exit 0))
def spinetlaw17_ListsReads_i11 : List Op1 := [(oM 11 (.k (.int .i64 0)) [])]
def spinetlaw17_ListsReads_i12 : List Op1 := [(oM 38 (.t 9) []), (oM 39 (.t 10) []), (oE 40 (.ias 1 (.t 38) (.t 39)) [0, 1]), (oE 41 (.load false 1 (.t 40)) [2]), (oE 42 (.bin .eql (.t 41) (.k (.string ⟨#[68]⟩))) [3])]
def spinetlaw17_ListsReads_i13 : List Op1 := [(oM 11 (.k (.int .i64 6)) [])]
def spinetlaw17_ListsReads_i14 : IR := (.cond (.t 42) (.reg false spinetlaw17_ListsReads_i13) .skip)
def spinetlaw17_ListsReads_i15 : List Op1 := [(oM 12 (.k (.int .i64 0)) [])]
def spinetlaw17_ListsReads_i16 : List Op1 := [(oM 43 (.t 12) []), (oE 44 (.bin .lss (.t 43) (.k (.int .i64 8))) [0])]
def spinetlaw17_ListsReads_i17 : IR := (.cond (.t 44) .skip (.exit 2))
def spinetlaw17_ListsReads_i18 : List Op1 := [(oM 47 (.t 12) []), (oM 48 (.t 1) []), (oE 49 (.bin .eql (.t 48) (.k (.int .i64 3))) [1]), (oC 50 10 [(.t 47), (.t 49)] [0, 2]), (oC 51 9 [(.t 50)] [3, 3]), (oM 52 (.t 9) []), (oM 53 (.t 10) []), (oE 54 (.ias 1 (.t 52) (.t 53)) [5, 6]), (oE 55 (.load false 1 (.t 54)) [7]), (oE 56 (.bin .eql (.t 51) (.t 55)) [4, 8])]
def spinetlaw17_ListsReads_i19 : List Op1 := [(oM 57 (.t 12) []), (oE 58 (.bin .shl (.k (.int .i64 1)) (.t 57)) [0]), (oM 11 (.t 58) [1, 0, 1])]
def spinetlaw17_ListsReads_i20 : IR := (.cond (.t 56) (.reg false spinetlaw17_ListsReads_i19) .skip)
def spinetlaw17_ListsReads_i21 : List Op1 := [(oM 45 (.t 12) []), (oE 46 (.bin .add (.t 45) (.k (.int .i64 1))) [0]), (oM 12 (.t 46) [1, 0, 1])]
def spinetlaw17_ListsReads_i22 : IR := (.reg false spinetlaw17_ListsReads_i21)
def spinetlaw17_ListsReads_i23 : IR := (.seq (.block 3 (.seq (.reg true spinetlaw17_ListsReads_i18) spinetlaw17_ListsReads_i20)) spinetlaw17_ListsReads_i22)
def spinetlaw17_ListsReads_i24 : IR := (.seq (.seq (.reg false spinetlaw17_ListsReads_i16) spinetlaw17_ListsReads_i17) spinetlaw17_ListsReads_i23)
def spinetlaw17_ListsReads_i25 : IR := (.block 2 (.loop spinetlaw17_ListsReads_i24))
def spinetlaw17_ListsReads_i26 : List Op1 := [(oM 59 (.t 11) []), (oE 60 (.bin .eql (.t 59) (.k (.int .i64 0))) [0])]
def spinetlaw17_ListsReads_i27 : List Op1 := [(oM 8 (.k (.int .i64 40)) [])]
def spinetlaw17_ListsReads_i28 : List Op1 := [(oM 61 (.t 7) []), (oM 62 (.t 11) []), (oE 63 (.bin .and (.t 61) (.t 62)) [0, 1]), (oE 64 (.bin .neq (.t 63) (.k (.int .i64 0))) [2])]
def spinetlaw17_ListsReads_i29 : List Op1 := [(oM 8 (.k (.int .i64 41)) [])]
def spinetlaw17_ListsReads_i30 : IR := (.cond (.t 64) (.reg false spinetlaw17_ListsReads_i29) .skip)
def spinetlaw17_ListsReads_i31 : IR := (.cond (.t 60) (.reg false spinetlaw17_ListsReads_i27) (.seq (.reg false spinetlaw17_ListsReads_i28) spinetlaw17_ListsReads_i30))
def spinetlaw17_ListsReads_i32 : List Op1 := [(oM 65 (.t 7) []), (oM 66 (.t 11) []), (oE 67 (.bin .or (.t 65) (.t 66)) [0, 1]), (oM 7 (.t 67) [2, 0, 1, 2])]
def spinetlaw17_ListsReads_i33 : IR := (.reg false spinetlaw17_ListsReads_i32)
def spinetlaw17_ListsReads_i34 : IR := (.seq (.seq (.reg false spinetlaw17_ListsReads_i26) spinetlaw17_ListsReads_i31) spinetlaw17_ListsReads_i33)
def spinetlaw17_ListsReads_i35 : IR := (.seq (.seq (.reg false spinetlaw17_ListsReads_i15) spinetlaw17_ListsReads_i25) spinetlaw17_ListsReads_i34)
def spinetlaw17_ListsReads_i36 : IR := (.seq (.seq (.reg false spinetlaw17_ListsReads_i12) spinetlaw17_ListsReads_i14) spinetlaw17_ListsReads_i35)
def spinetlaw17_ListsReads_i37 : List Op1 := [(oM 36 (.t 10) []), (oE 37 (.bin .add (.t 36) (.k (.int .i64 1))) [0]), (oM 10 (.t 37) [1, 0, 1])]
def spinetlaw17_ListsReads_i38 : IR := (.reg false spinetlaw17_ListsReads_i37)
def spinetlaw17_ListsReads_i39 : IR := (.seq (.block 1 (.seq (.reg false spinetlaw17_ListsReads_i11) spinetlaw17_ListsReads_i36)) spinetlaw17_ListsReads_i38)
def spinetlaw17_ListsReads_i40 : IR := (.seq (.seq (.reg false spinetlaw17_ListsReads_i9) spinetlaw17_ListsReads_i10) spinetlaw17_ListsReads_i39)
def spinetlaw17_ListsReads_i41 : IR := (.block 0 (.loop spinetlaw17_ListsReads_i40))
def spinetlaw17_ListsReads_i42 : List Op1 := [(oM 68 (.t 8) []), (oE 69 (.bin .neq (.t 68) (.k (.int .i64 0))) [0])]
def spinetlaw17_ListsReads_i43 : List Op1 := [(oM 7 (.k (.int .i64 0)) [])]
def spinetlaw17_ListsReads_i44 : IR := (.cond (.t 69) (.reg false spinetlaw17_ListsReads_i43) .skip)
def spinetlaw17_ListsReads_i45 : List Op1 := [(oM 70 (.t 5) []), (oE 71 (.cint .i64 (.t 70)) [0]), (oM 72 (.t 7) []), (oE 73 (.bin .eql (.t 71) (.t 72)) [1, 2]), (oM 74 (.t 73) [3]), (oG 75 (.mv (.t 6)) 74 true [4]), (oG 76 (.mv (.t 8)) 74 true [4]), (oG 77 (.bin .eql (.t 75) (.t 76)) 74 true [5, 6, 4]), (oE 78 (.pick (.t 74) (.t 77) (.k (.bool false))) [4, 7]), (oM 79 (.t 78) [8, 4]), ⟨(some 80), (.call 11 []), (some (79, true)), [9, 9]⟩, (oE 81 (.pick (.t 79) (.t 80) (.k (.bool false))) [9, 10]), (oM 4 (.t 81) [11, 10, 0, 1, 2, 3, 4, 5, 6, 7, 8, 9, 10, 11])]
def spinetlaw17_ListsReads_i46 : IR := .ret
def spinetlaw17_ListsReads_i47 : IR := (.seq (.reg false spinetlaw17_ListsReads_i45) spinetlaw17_ListsReads_i46)
def spinetlaw17_ListsReads_i48 : IR := (.seq (.seq (.reg false spinetlaw17_ListsReads_i42) spinetlaw17_ListsReads_i44) spinetlaw17_ListsReads_i47)
def spinetlaw17_ListsReads_i49 : IR := (.seq (.seq (.reg false spinetlaw17_ListsReads_i8) spinetlaw17_ListsReads_i41) spinetlaw17_ListsReads_i48)
def spinetlaw17_ListsReads_i50 : IR := (.seq (.reg false spinetlaw17_ListsReads_i7) spinetlaw17_ListsReads_i49)
def spinetlaw17_ListsReads_i51 : IR := (.seq (.reg false spinetlaw17_ListsReads_i6) spinetlaw17_ListsReads_i50)
def spinetlaw17_ListsReads_i52 : IR := (.seq (.reg false spinetlaw17_ListsReads_i5) spinetlaw17_ListsReads_i51)
def spinetlaw17_ListsReads_i53 : IR := (.seq (.seq (.reg false spinetlaw17_ListsReads_i1) spinetlaw17_ListsReads_i4) spinetlaw17_ListsReads_i52)
def spinetlaw17_ListsReads_ir : IR := (.seq (.reg false spinetlaw17_ListsReads_i0) spinetlaw17_ListsReads_i53)
theorem spinetlaw17_ListsReads_cfn : cFn Tryd.prog 3 = some (spinetlaw17_ListsReads_ir, [(.t 4)], 82) := by kernel_rfl
def spinetlaw17_ListsReads_V (r : (Bool)) : V := .s (.bool r)
def spinetlaw17_ListsReads_C (r : (Bool)) : X → Fr → Hp → Prop := FinL [(.t 4)] [] (spinetlaw17_ListsReads_V r) []
theorem spinetlaw17_ListsReads_ok (s_ : ByteArray) (stack_ : Int) (r : (Bool)) (h : spinetlaw17_ListsReads s_ stack_ = some r) : Pure Tryd.prog 3 [.s (.string s_), .s (.int .i64 stack_)] (spinetlaw17_ListsReads_V r) := by
  refine ConL.of spinetlaw17_ListsReads_cfn (Nat.le_of_ble_eq_true (by kernel_rfl)) (Nat.le_of_ble_eq_true (by kernel_rfl)) ?_
  refine k_start ?_
  show dwv Tryd.prog [] spinetlaw17_ListsReads_ir (kont Tryd.prog [] (spinetlaw17_ListsReads_C r) []) (fr0 [.s (.string s_), .s (.int .i64 stack_)]) []
  have hf : FOk (fr0 [.s (.string s_), .s (.int .i64 stack_)]) [⟨0, [], .s (.string s_)⟩, ⟨1, [], .s (.int .i64 stack_)⟩] := ⟨⟨fun _ => rfl, fun h => (h trivial).elim⟩, ⟨fun _ => rfl, fun h => (h trivial).elim⟩, trivial⟩
  generalize fr0 [.s (.string s_), .s (.int .i64 stack_)] = f at hf ⊢
  unfold spinetlaw17_ListsReads at h
  refine k_seq ?_
  refine k_reg ?_
  refine mops_en hf (by kernel_rfl) fun f1 hf1 => ?_
  refine k_c ?_
  refine k_seq ?_
  refine k_seq ?_
  refine k_reg ?_
  refine mops_en hf1 (by kernel_rfl) fun f2 hf2 => ?_
  refine k_c ?_
  refine k_cond hf2 (t := (decide (60 < (sln s_)))) (by kernel_rfl) (fun hc1 => ?_) (fun hc1 => ?_)
  · have h := if_t h hc1
    refine k_seq ?_
    refine k_reg ?_
    refine mops_en hf2 (by kernel_rfl) fun f3 hf3 => ?_
    refine k_c ?_
    refine k_ret ?_
    refine x_c nofun ?_
    obtain rfl := Option.some.inj h
    exact k_fin (fin_ret (.inl rfl) hf3 (vs := [.s (.bool true)]) (by kernel_rfl) (SettL.pure (FzL.stat rfl)))
  · have h := if_f h hc1
    refine k_skip ?_
    refine k_c ?_
    refine k_seq ?_
    refine k_reg ?_
    refine mops_sg 2 hf2 (by kernel_rfl) fun f3 hf3 => ?_
    obtain ⟨r_, hx_r_, h⟩ := Option.bind_eq_some_iff.1 h
    refine mops_call rfl hf3 (av := [.s (.string s_), .s (.int .i64 stack_)]) (by kernel_rfl) (v := .tup [.s (.int .u8 r_.1), .s (.int .i64 r_.2)]) (CalL.pure (lists_Read_ok s_ stack_ r_ hx_r_) rfl rfl (Nat.le_of_ble_eq_true (by kernel_rfl))) (fun _ => rfl) fun f4 hf4 => ?_
    refine mops_en hf4 (by kernel_rfl) fun f5 hf5 => ?_
    refine k_c ?_
    refine k_seq ?_
    refine k_reg ?_
    refine mops_en hf5 (by kernel_rfl) fun f6 hf6 => ?_
    refine k_c ?_
    refine k_seq ?_
    refine k_reg ?_
    refine mops_sg 1 hf6 (by kernel_rfl) fun f7 hf7 => ?_
    obtain ⟨r_1, hx_r_1, h⟩ := Option.bind_eq_some_iff.1 h
    refine mops_call rfl hf7 (av := [.s (.string s_)]) (by kernel_rfl) (v := .sl false r_1.length (cat nS r_1)) (CalL.pure (spinetlaw17_names_ok s_ r_1 hx_r_1) rfl (by simp [V.static, statics, cat_stat, spinetlaw17_names_V]) (Nat.le_of_ble_eq_true (by kernel_rfl))) (fun _ => rfl) fun f8 hf8 => ?_
    refine mops_en hf8 (by kernel_rfl) fun f9 hf9 => ?_
    refine k_c ?_
    refine k_seq ?_
    refine k_seq ?_
    refine k_reg ?_
    refine mops_en hf9 (by kernel_rfl) fun f10 hf10 => ?_
    refine k_c ?_
    refine k_block ?_
    obtain ⟨o0, hx0, h⟩ := Option.bind_eq_some_iff.1 h
    have hgo0 : ∀ (want_2 : Int) (f_4 : Int), (want_2, f_4) = o0 → ∀ f, FOk f [⟨4, [], .s (.bool false)⟩, ⟨5, [], .s (.int .u8 r_.1)⟩, ⟨6, [], .s (.int .i64 r_.2)⟩, ⟨7, [], .s (.int .i64 want_2)⟩, ⟨8, [], .s (.int .i64 f_4)⟩] → kont Tryd.prog [] (spinetlaw17_ListsReads_C r) ((.c spinetlaw17_ListsReads_i48) :: []) .normal f [] := by
      intro want_2 f_4 e f hf
      subst e
      refine k_c ?_
      refine k_seq ?_
      refine k_seq ?_
      refine k_reg ?_
      refine mops_en hf (by kernel_rfl) fun f1 hf1 => ?_
      refine k_c ?_
      have hj3 : ∀ (want_3 : Int), spinetlaw17_ListsReads_j2 r_ f_4 want_3 = some r → ∀ f, FOk f [⟨4, [], .s (.bool false)⟩, ⟨5, [], .s (.int .u8 r_.1)⟩, ⟨6, [], .s (.int .i64 r_.2)⟩, ⟨7, [], .s (.int .i64 want_3)⟩, ⟨8, [], .s (.int .i64 f_4)⟩] → kont Tryd.prog [] (spinetlaw17_ListsReads_C r) ((.c spinetlaw17_ListsReads_i47) :: []) .normal f [] := by
        intro want_3 h f hf
        unfold spinetlaw17_ListsReads_j2 at h
        refine k_c ?_
        refine k_seq ?_
        refine k_reg ?_
        refine mops_sg 10 hf (by kernel_rfl) fun f1 hf1 => ?_
        obtain ⟨r_20, hx_r_20, h⟩ := Option.bind_eq_some_iff.1 h
        refine mops_gcall (dst := (some 80)) (m := 11) (args := []) (aft := [9, 9]) (t := 79) (w := true) (ch := [(79, true)]) (b := (((IntKind.wrap .i64 r_.1) == want_3) && (r_.2 == f_4))) (by kernel_rfl) hf1 (by kernel_rfl) (by kernel_rfl) (av := []) (by kernel_rfl) (v := .s (.bool r_20)) (by kernel_rfl) (fun hb12 => (CalL.pure (spinetlaw17_alive_ok  r_20 (if_t hx_r_20 hb12)) rfl rfl (Nat.le_of_ble_eq_true (by kernel_rfl)))) fun f2 hf2 => ?_
        refine mops_en hf2 (by kernel_rfl) fun f3 hf3 => ?_
        refine k_c ?_
        refine k_ret ?_
        obtain rfl := Option.some.inj h
        exact k_fin (fin_ret (.inl rfl) hf3 (vs := [.s (.bool ((((IntKind.wrap .i64 r_.1) == want_3) && (r_.2 == f_4)) && r_20))]) (by kernel_rfl) (SettL.pure (FzL.stat rfl)))
      refine k_cond hf1 (t := (f_4 != 0)) (by kernel_rfl) (fun hc11 => ?_) (fun hc11 => ?_)
      · have h := if_t h hc11
        refine k_reg ?_
        refine mops_en hf1 (by kernel_rfl) fun f2 hf2 => ?_
        refine k_hp (L' := []) (by kernel_rfl) ?_
        exact hj3 (0) h _ (FOk_of [4, 5, 6, 7, 8] hf2 (by kernel_rfl))
      · have h := if_f h hc11
        refine k_skip ?_
        refine k_hp (L' := []) (by kernel_rfl) ?_
        exact hj3 want_2 h _ (FOk_of [4, 5, 6, 7, 8] hf1 (by kernel_rfl))
    refine k_loop BIG ?_
    refine loop_ind (fun n f L => ∃ (want_1 : Int) (f_3 : Int) (i_1 : Int), spinetlaw17_ListsReads_l2 s_ stack_ r_1 n want_1 f_3 i_1 = some o0 ∧ FOk f [⟨0, [], .s (.string s_)⟩, ⟨1, [], .s (.int .i64 stack_)⟩, ⟨4, [], .s (.bool false)⟩, ⟨5, [], .s (.int .u8 r_.1)⟩, ⟨6, [], .s (.int .i64 r_.2)⟩, ⟨7, [], .s (.int .i64 want_1)⟩, ⟨8, [], .s (.int .i64 f_3)⟩, ⟨9, [], .sl false r_1.length (cat nS r_1)⟩, ⟨10, [], .s (.int .i64 i_1)⟩] ∧ L = []) ?_ ?_ BIG _ _ ⟨(0), (0), (0), hx0, FOk_of [0, 1, 4, 5, 6, 7, 8, 9, 10] hf10 (by kernel_rfl), (by kernel_rfl)⟩
    · rintro f L ⟨want_1, f_3, i_1, h, _⟩
      cases (show (none : Option _) = some _ from h)
    · rintro n0 R0 ih f L ⟨want_1, f_3, i_1, h, hf, rfl⟩
      rw [spinetlaw17_ListsReads_l2] at h
      refine k_seq ?_
      refine k_seq ?_
      refine k_reg ?_
      refine mops_en hf (by kernel_rfl) fun f1 hf1 => ?_
      refine k_c ?_
      refine k_cond hf1 (t := (((decide (i_1 < (ln r_1))) && (!(s_.toList == (⟨#[]⟩ : ByteArray).toList))) && (f_3 == 0))) (by kernel_rfl) (fun hc2 => ?_) (fun hc2 => ?_)
      · have h := if_t h hc2
        refine k_skip ?_
        refine k_c ?_
        refine k_seq ?_
        refine k_block ?_
        refine k_seq ?_
        refine k_reg ?_
        refine mops_en hf1 (by kernel_rfl) fun f2 hf2 => ?_
        refine k_c ?_
        refine k_seq ?_
        refine k_seq ?_
        refine k_reg ?_
        refine mops_sg 2 hf2 (by kernel_rfl) fun f3 hf3 => ?_
        obtain ⟨c3, h⟩ := as_ok h
        refine mops_adv rfl (v := .ip ((cat nS r_1).drop ((i_1 : Int).toNat * 1))) hf3 (by kernel_rfl) (e_ias (n := r_1.length) (xv := .sl false r_1.length (cat nS r_1)) (k := .i64) (iv := i_1) (p := .ip ((cat nS r_1).drop ((i_1 : Int).toNat * 1))) (by kernel_rfl) (by kernel_rfl) (by kernel_rfl) (by kernel_rfl) c3) fun f4 hf4 => ?_
        refine mops_adv rfl (v := .s (.string (gt r_1 i_1))) hf4 (by kernel_rfl) (e_load_ip (g := nS) (l := r_1) (iv := i_1) [] (by kernel_rfl) c3 (by kernel_rfl) (by kernel_rfl)) fun f5 hf5 => ?_
        refine mops_en hf5 (by kernel_rfl) fun f6 hf6 => ?_
        refine k_c ?_
        have hj1 : ∀ (n_8 : Int), spinetlaw17_ListsReads_j1 ((spinetlaw17_ListsReads_l2 s_ stack_ r_1 n0)) stack_ r_1 want_1 f_3 i_1 n_8 = some o0 → ∀ f, FOk f [⟨0, [], .s (.string s_)⟩, ⟨1, [], .s (.int .i64 stack_)⟩, ⟨4, [], .s (.bool false)⟩, ⟨5, [], .s (.int .u8 r_.1)⟩, ⟨6, [], .s (.int .i64 r_.2)⟩, ⟨7, [], .s (.int .i64 want_1)⟩, ⟨8, [], .s (.int .i64 f_3)⟩, ⟨9, [], .sl false r_1.length (cat nS r_1)⟩, ⟨10, [], .s (.int .i64 i_1)⟩, ⟨11, [], .s (.int .i64 n_8)⟩, ⟨24, [], .s (.int .i64 i_1)⟩, ⟨25, [], .sl false r_1.length (cat nS r_1)⟩, ⟨26, [], .s (.int .i64 (ln r_1))⟩, ⟨27, [], .s (.bool (decide (i_1 < (ln r_1))))⟩, ⟨28, [], .s (.bool (decide (i_1 < (ln r_1))))⟩, ⟨31, [], .s (.bool ((decide (i_1 < (ln r_1))) && (!(s_.toList == (⟨#[]⟩ : ByteArray).toList))))⟩, ⟨32, [], .s (.bool ((decide (i_1 < (ln r_1))) && (!(s_.toList == (⟨#[]⟩ : ByteArray).toList))))⟩, ⟨35, [], .s (.bool (((decide (i_1 < (ln r_1))) && (!(s_.toList == (⟨#[]⟩ : ByteArray).toList))) && (f_3 == 0)))⟩, ⟨38, [], .sl false r_1.length (cat nS r_1)⟩, ⟨39, [], .s (.int .i64 i_1)⟩, ⟨40, [], .ip ((cat nS r_1).drop ((i_1 : Int).toNat * 1))⟩, ⟨41, [], .s (.string (gt r_1 i_1))⟩, ⟨42, [], .s (.bool ((gt r_1 i_1).toList == (⟨#[68]⟩ : ByteArray).toList))⟩] → kont Tryd.prog [] (spinetlaw17_ListsReads_C r) ((.c spinetlaw17_ListsReads_i35) :: (.b 1) :: (.c spinetlaw17_ListsReads_i38) :: (.l R0) :: (.b 0) :: (.c spinetlaw17_ListsReads_i48) :: []) .normal f [] := by
          intro n_8 h f hf
          unfold spinetlaw17_ListsReads_j1 at h
          refine k_c ?_
          refine k_seq ?_
          refine k_seq ?_
          refine k_reg ?_
          refine mops_en hf (by kernel_rfl) fun f1 hf1 => ?_
          refine k_c ?_
          refine k_block ?_
          obtain ⟨o1, hx1, h⟩ := Option.bind_eq_some_iff.1 h
          have hgo1 : ∀ (n_11 : Int) (k_8 : Int) (t_4 : Int) (t_5 : Bool), (n_11, k_8, t_4, t_5) = o1 → ∀ f, FOk f [⟨0, [], .s (.string s_)⟩, ⟨1, [], .s (.int .i64 stack_)⟩, ⟨4, [], .s (.bool false)⟩, ⟨5, [], .s (.int .u8 r_.1)⟩, ⟨6, [], .s (.int .i64 r_.2)⟩, ⟨7, [], .s (.int .i64 want_1)⟩, ⟨8, [], .s (.int .i64 f_3)⟩, ⟨9, [], .sl false r_1.length (cat nS r_1)⟩, ⟨10, [], .s (.int .i64 i_1)⟩, ⟨11, [], .s (.int .i64 n_11)⟩, ⟨12, [], .s (.int .i64 k_8)⟩, ⟨24, [], .s (.int .i64 i_1)⟩, ⟨25, [], .sl false r_1.length (cat nS r_1)⟩, ⟨26, [], .s (.int .i64 (ln r_1))⟩, ⟨27, [], .s (.bool (decide (i_1 < (ln r_1))))⟩, ⟨28, [], .s (.bool (decide (i_1 < (ln r_1))))⟩, ⟨31, [], .s (.bool ((decide (i_1 < (ln r_1))) && (!(s_.toList == (⟨#[]⟩ : ByteArray).toList))))⟩, ⟨32, [], .s (.bool ((decide (i_1 < (ln r_1))) && (!(s_.toList == (⟨#[]⟩ : ByteArray).toList))))⟩, ⟨35, [], .s (.bool (((decide (i_1 < (ln r_1))) && (!(s_.toList == (⟨#[]⟩ : ByteArray).toList))) && (f_3 == 0)))⟩, ⟨38, [], .sl false r_1.length (cat nS r_1)⟩, ⟨39, [], .s (.int .i64 i_1)⟩, ⟨40, [], .ip ((cat nS r_1).drop ((i_1 : Int).toNat * 1))⟩, ⟨41, [], .s (.string (gt r_1 i_1))⟩, ⟨42, [], .s (.bool ((gt r_1 i_1).toList == (⟨#[68]⟩ : ByteArray).toList))⟩, ⟨43, [], .s (.int .i64 t_4)⟩, ⟨44, [], .s (.bool t_5)⟩] → kont Tryd.prog [] (spinetlaw17_ListsReads_C r) ((.c spinetlaw17_ListsReads_i34) :: (.b 1) :: (.c spinetlaw17_ListsReads_i38) :: (.l R0) :: (.b 0) :: (.c spinetlaw17_ListsReads_i48) :: []) .normal f [] := by
            intro n_11 k_8 t_4 t_5 e f hf
            subst e
            refine k_c ?_
            refine k_seq ?_
            refine k_seq ?_
            refine k_reg ?_
            refine mops_en hf (by kernel_rfl) fun f1 hf1 => ?_
            refine k_c ?_
            have hj2 : ∀ (f_5 : Int), spinetlaw17_ListsReads_j0 ((spinetlaw17_ListsReads_l2 s_ stack_ r_1 n0)) want_1 i_1 n_11 f_5 = some o0 → ∀ f, FOk f [⟨0, [], .s (.string s_)⟩, ⟨1, [], .s (.int .i64 stack_)⟩, ⟨4, [], .s (.bool false)⟩, ⟨5, [], .s (.int .u8 r_.1)⟩, ⟨6, [], .s (.int .i64 r_.2)⟩, ⟨7, [], .s (.int .i64 want_1)⟩, ⟨8, [], .s (.int .i64 f_5)⟩, ⟨9, [], .sl false r_1.length (cat nS r_1)⟩, ⟨10, [], .s (.int .i64 i_1)⟩, ⟨11, [], .s (.int .i64 n_11)⟩, ⟨12, [], .s (.int .i64 k_8)⟩, ⟨24, [], .s (.int .i64 i_1)⟩, ⟨25, [], .sl false r_1.length (cat nS r_1)⟩, ⟨26, [], .s (.int .i64 (ln r_1))⟩, ⟨27, [], .s (.bool (decide (i_1 < (ln r_1))))⟩, ⟨28, [], .s (.bool (decide (i_1 < (ln r_1))))⟩, ⟨31, [], .s (.bool ((decide (i_1 < (ln r_1))) && (!(s_.toList == (⟨#[]⟩ : ByteArray).toList))))⟩, ⟨32, [], .s (.bool ((decide (i_1 < (ln r_1))) && (!(s_.toList == (⟨#[]⟩ : ByteArray).toList))))⟩, ⟨35, [], .s (.bool (((decide (i_1 < (ln r_1))) && (!(s_.toList == (⟨#[]⟩ : ByteArray).toList))) && (f_3 == 0)))⟩, ⟨38, [], .sl false r_1.length (cat nS r_1)⟩, ⟨39, [], .s (.int .i64 i_1)⟩, ⟨40, [], .ip ((cat nS r_1).drop ((i_1 : Int).toNat * 1))⟩, ⟨41, [], .s (.string (gt r_1 i_1))⟩, ⟨42, [], .s (.bool ((gt r_1 i_1).toList == (⟨#[68]⟩ : ByteArray).toList))⟩, ⟨43, [], .s (.int .i64 t_4)⟩, ⟨44, [], .s (.bool t_5)⟩, ⟨59, [], .s (.int .i64 n_11)⟩, ⟨60, [], .s (.bool (n_11 == 0))⟩] → kont Tryd.prog [] (spinetlaw17_ListsReads_C r) ((.c spinetlaw17_ListsReads_i33) :: (.b 1) :: (.c spinetlaw17_ListsReads_i38) :: (.l R0) :: (.b 0) :: (.c spinetlaw17_ListsReads_i48) :: []) .normal f [] := by
              intro f_5 h f hf
              unfold spinetlaw17_ListsReads_j0 at h
              refine k_c ?_
              refine k_reg ?_
              refine mops_en hf (by kernel_rfl) fun f1 hf1 => ?_
              refine k_b ?_
              refine k_c ?_
              refine k_reg ?_
              refine mops_en hf1 (by kernel_rfl) fun f2 hf2 => ?_
              refine k_l ?_
              exact ih _ _ ⟨(bits .or .i64 want_1 n_11), f_5, (IntKind.wrap .i64 (i_1 + 1)), h, FOk_of [0, 1, 4, 5, 6, 7, 8, 9, 10] hf2 (by kernel_rfl), (by kernel_rfl)⟩
            refine k_cond hf1 (t := (n_11 == 0)) (by kernel_rfl) (fun hc9 => ?_) (fun hc9 => ?_)
            · have h := if_t h hc9
              refine k_reg ?_
              refine mops_en hf1 (by kernel_rfl) fun f2 hf2 => ?_
              refine k_hp (L' := []) (by kernel_rfl) ?_
              exact hj2 (40) h _ (FOk_of [0, 1, 4, 5, 6, 7, 8, 9, 10, 11, 12, 24, 25, 26, 27, 28, 31, 32, 35, 38, 39, 40, 41, 42, 43, 44, 59, 60] hf2 (by kernel_rfl))
            · have h := if_f h hc9
              refine k_seq ?_
              refine k_reg ?_
              refine mops_en hf1 (by kernel_rfl) fun f2 hf2 => ?_
              refine k_c ?_
              refine k_cond hf2 (t := ((bits .and .i64 want_1 n_11) != 0)) (by kernel_rfl) (fun hc10 => ?_) (fun hc10 => ?_)
              · have h := if_t h hc10
                refine k_reg ?_
                refine mops_en hf2 (by kernel_rfl) fun f3 hf3 => ?_
                refine k_hp (L' := []) (by kernel_rfl) ?_
                exact hj2 (41) h _ (FOk_of [0, 1, 4, 5, 6, 7, 8, 9, 10, 11, 12, 24, 25, 26, 27, 28, 31, 32, 35, 38, 39, 40, 41, 42, 43, 44, 59, 60] hf3 (by kernel_rfl))
              · have h := if_f h hc10
                refine k_skip ?_
                refine k_hp (L' := []) (by kernel_rfl) ?_
                exact hj2 f_3 h _ (FOk_of [0, 1, 4, 5, 6, 7, 8, 9, 10, 11, 12, 24, 25, 26, 27, 28, 31, 32, 35, 38, 39, 40, 41, 42, 43, 44, 59, 60] hf2 (by kernel_rfl))
          refine k_loop BIG ?_
          refine loop_ind (fun n f L => ∃ (n_10 : Int) (k_7 : Int), spinetlaw17_ListsReads_l3 stack_ r_1 i_1 n n_10 k_7 = some o1 ∧ FOk f [⟨0, [], .s (.string s_)⟩, ⟨1, [], .s (.int .i64 stack_)⟩, ⟨4, [], .s (.bool false)⟩, ⟨5, [], .s (.int .u8 r_.1)⟩, ⟨6, [], .s (.int .i64 r_.2)⟩, ⟨7, [], .s (.int .i64 want_1)⟩, ⟨8, [], .s (.int .i64 f_3)⟩, ⟨9, [], .sl false r_1.length (cat nS r_1)⟩, ⟨10, [], .s (.int .i64 i_1)⟩, ⟨11, [], .s (.int .i64 n_10)⟩, ⟨12, [], .s (.int .i64 k_7)⟩, ⟨24, [], .s (.int .i64 i_1)⟩, ⟨25, [], .sl false r_1.length (cat nS r_1)⟩, ⟨26, [], .s (.int .i64 (ln r_1))⟩, ⟨27, [], .s (.bool (decide (i_1 < (ln r_1))))⟩, ⟨28, [], .s (.bool (decide (i_1 < (ln r_1))))⟩, ⟨31, [], .s (.bool ((decide (i_1 < (ln r_1))) && (!(s_.toList == (⟨#[]⟩ : ByteArray).toList))))⟩, ⟨32, [], .s (.bool ((decide (i_1 < (ln r_1))) && (!(s_.toList == (⟨#[]⟩ : ByteArray).toList))))⟩, ⟨35, [], .s (.bool (((decide (i_1 < (ln r_1))) && (!(s_.toList == (⟨#[]⟩ : ByteArray).toList))) && (f_3 == 0)))⟩, ⟨38, [], .sl false r_1.length (cat nS r_1)⟩, ⟨39, [], .s (.int .i64 i_1)⟩, ⟨40, [], .ip ((cat nS r_1).drop ((i_1 : Int).toNat * 1))⟩, ⟨41, [], .s (.string (gt r_1 i_1))⟩, ⟨42, [], .s (.bool ((gt r_1 i_1).toList == (⟨#[68]⟩ : ByteArray).toList))⟩] ∧ L = []) ?_ ?_ BIG _ _ ⟨n_8, (0), hx1, FOk_of [0, 1, 4, 5, 6, 7, 8, 9, 10, 11, 12, 24, 25, 26, 27, 28, 31, 32, 35, 38, 39, 40, 41, 42] hf1 (by kernel_rfl), (by kernel_rfl)⟩
          · rintro f L ⟨n_10, k_7, h, _⟩
            cases (show (none : Option _) = some _ from h)
          · rintro n1 R1 ih f L ⟨n_10, k_7, h, hf, rfl⟩
            rw [spinetlaw17_ListsReads_l3] at h
            refine k_seq ?_
            refine k_seq ?_
            refine k_reg ?_
            refine mops_en hf (by kernel_rfl) fun f1 hf1 => ?_
            refine k_c ?_
            refine k_cond hf1 (t := (decide (k_7 < 8))) (by kernel_rfl) (fun hc5 => ?_) (fun hc5 => ?_)
            · have h := if_t h hc5
              refine k_skip ?_
              refine k_c ?_
              refine k_seq ?_
              refine k_block ?_
              refine k_seq ?_
              refine k_regq ?_
              refine mops_sg 3 hf1 (by kernel_rfl) fun f2 hf2 => ?_
              obtain ⟨r_18, hx_r_18, h⟩ := Option.bind_eq_some_iff.1 h
              refine mops_call rfl hf2 (av := [.s (.int .i64 k_7), .s (.bool (stack_ == 3))]) (by kernel_rfl) (v := .s (.int .i64 r_18)) (CalL.pure (spinetref17_Code_ok k_7 (stack_ == 3) r_18 hx_r_18) rfl rfl (Nat.le_of_ble_eq_true (by kernel_rfl))) (fun _ => rfl) fun f3 hf3 => ?_
              obtain ⟨r_19, hx_r_19, h⟩ := Option.bind_eq_some_iff.1 h
              refine mops_call rfl hf3 (av := [.s (.int .i64 r_18)]) (by kernel_rfl) (v := .s (.string r_19)) (CalL.pure (spinetref13_Reg_ok r_18 r_19 hx_r_19) rfl rfl (Nat.le_of_ble_eq_true (by kernel_rfl))) (fun _ => rfl) fun f4 hf4 => ?_
              refine mops_sg 2 hf4 (by kernel_rfl) fun f5 hf5 => ?_
              obtain ⟨c6, h⟩ := as_ok h
              refine mops_adv rfl (v := .ip ((cat nS r_1).drop ((i_1 : Int).toNat * 1))) hf5 (by kernel_rfl) (e_ias (n := r_1.length) (xv := .sl false r_1.length (cat nS r_1)) (k := .i64) (iv := i_1) (p := .ip ((cat nS r_1).drop ((i_1 : Int).toNat * 1))) (by kernel_rfl) (by kernel_rfl) (by kernel_rfl) (by kernel_rfl) c6) fun f6 hf6 => ?_
              refine mops_adv rfl (v := .s (.string (gt r_1 i_1))) hf6 (by kernel_rfl) (e_load_ip (g := nS) (l := r_1) (iv := i_1) [] (by kernel_rfl) c6 (by kernel_rfl) (by kernel_rfl)) fun f7 hf7 => ?_
              refine mops_en hf7 (by kernel_rfl) fun f8 hf8 => ?_
              refine k_c ?_
              refine k_cond hf8 (t := (r_19.toList == (gt r_1 i_1).toList)) (by kernel_rfl) (fun hc7 => ?_) (fun hc7 => ?_)
              · have h := if_t h hc7
                refine k_reg ?_
                refine mops_sg 1 hf8 (by kernel_rfl) fun f9 hf9 => ?_
                obtain ⟨c8, h⟩ := as_ok h
                refine mops_adv rfl (v := .s (.int .i64 (IntKind.wrap .i64 (1 * 2 ^ (min (k_7 : Int).toNat (IntKind.bits .i64)))))) hf9 (by kernel_rfl) (e_shl (k := .i64) (k' := .i64) (iv := 1) (jv := k_7) (by kernel_rfl) (by kernel_rfl) c8) fun f10 hf10 => ?_
                refine mops_en hf10 (by kernel_rfl) fun f11 hf11 => ?_
                refine k_b ?_
                refine k_c ?_
                refine k_reg ?_
                refine mops_en hf11 (by kernel_rfl) fun f12 hf12 => ?_
                refine k_l ?_
                exact ih _ _ ⟨(IntKind.wrap .i64 (1 * 2 ^ (min (k_7 : Int).toNat (IntKind.bits .i64)))), (IntKind.wrap .i64 (k_7 + 1)), h, FOk_of [0, 1, 4, 5, 6, 7, 8, 9, 10, 11, 12, 24, 25, 26, 27, 28, 31, 32, 35, 38, 39, 40, 41, 42] hf12 (by kernel_rfl), (by kernel_rfl)⟩
              · have h := if_f h hc7
                refine k_skip ?_
                refine k_b ?_
                refine k_c ?_
                refine k_reg ?_
                refine mops_en hf8 (by kernel_rfl) fun f9 hf9 => ?_
                refine k_l ?_
                exact ih _ _ ⟨n_10, (IntKind.wrap .i64 (k_7 + 1)), h, FOk_of [0, 1, 4, 5, 6, 7, 8, 9, 10, 11, 12, 24, 25, 26, 27, 28, 31, 32, 35, 38, 39, 40, 41, 42] hf9 (by kernel_rfl), (by kernel_rfl)⟩
            · have h := if_f h hc5
              refine k_exit ?_
              refine x_c nofun ?_
              refine x_l nofun ?_
              refine x_b ?_
              refine k_hp (L' := []) (by kernel_rfl) ?_
              exact hgo1 n_10 k_7 k_7 (decide (k_7 < 8)) (Option.some.inj h) _ (FOk_of [0, 1, 4, 5, 6, 7, 8, 9, 10, 11, 12, 24, 25, 26, 27, 28, 31, 32, 35, 38, 39, 40, 41, 42, 43, 44] hf1 (by kernel_rfl))
        refine k_cond hf6 (t := ((gt r_1 i_1).toList == (⟨#[68]⟩ : ByteArray).toList)) (by kernel_rfl) (fun hc4 => ?_) (fun hc4 => ?_)
        · have h := if_t h hc4
          refine k_reg ?_
          refine mops_en hf6 (by kernel_rfl) fun f7 hf7 => ?_
          refine k_hp (L' := []) (by kernel_rfl) ?_
          exact hj1 (6) h _ (FOk_of [0, 1, 4, 5, 6, 7, 8, 9, 10, 11, 24, 25, 26, 27, 28, 31, 32, 35, 38, 39, 40, 41, 42] hf7 (by kernel_rfl))
        · have h := if_f h hc4
          refine k_skip ?_
          refine k_hp (L' := []) (by kernel_rfl) ?_
          exact hj1 (0) h _ (FOk_of [0, 1, 4, 5, 6, 7, 8, 9, 10, 11, 24, 25, 26, 27, 28, 31, 32, 35, 38, 39, 40, 41, 42] hf6 (by kernel_rfl))
      · have h := if_f h hc2
        refine k_exit ?_
        refine x_c nofun ?_
        refine x_l nofun ?_
        refine x_b ?_
        refine k_hp (L' := []) (by kernel_rfl) ?_
        exact hgo0 want_1 f_3 (Option.some.inj h) _ (FOk_of [4, 5, 6, 7, 8] hf1 (by kernel_rfl))
end Go.Proofs.YtiedenhkailolaaDoorK
