/- The Go functions come to the functions over typed data. Printed by a program of this work. -/
import Derived.Test.YtnilppmpfklpbaaDoorF
import Derived.Test.YtnilppmpfklpbaaDoorProg
import Derived.Test.YtnilppmpfklpbaaDoorG2
import Derived.Test.YtnilppmpfklpbaaDoorG3
namespace Go.Proofs.YtnilppmpfklpbaaDoorK
set_option linter.unusedVariables false
set_option linter.unusedSimpArgs false
set_option maxHeartbeats 4000000
open Go.RowKit
attribute [local irreducible] dwv mops lops lqops lwops kont iter run runK rk okK ex E1 vals val chain chB sel resF
def spinetlaw50_WaveReads_i0 : List Op1 := [(oM 2 (.k (.bool false)) [])]
def spinetlaw50_WaveReads_i1 : List Op1 := [(oM 6 (.t 0) []), (oE 7 (.lens (.t 6)) [0]), (oE 8 (.bin .gtr (.t 7) (.k (.int .i64 400))) [1])]
def spinetlaw50_WaveReads_i2 : List Op1 := [(oM 2 (.k (.bool true)) [])]
def spinetlaw50_WaveReads_i3 : IR := .ret
def spinetlaw50_WaveReads_i4 : IR := (.cond (.t 8) (.seq (.reg false spinetlaw50_WaveReads_i2) spinetlaw50_WaveReads_i3) .skip)
def spinetlaw50_WaveReads_i5 : List Op1 := [(oM 10 (.t 0) []), (oC 11 5 [(.t 10)] [0]), (oM 9 (.t 11) [1]), (oE 12 (.ext 0 (.t 9)) [2]), (oE 13 (.ext 1 (.t 9)) [2]), (oM 3 (.t 12) [3, 1, 0, 1, 2, 3]), (oM 4 (.t 13) [4, 5, 0, 1, 2, 3, 4, 5])]
def spinetlaw50_WaveReads_i6 : List Op1 := [(oM 14 (.t 4) []), (oE 15 (.bin .neq (.t 14) (.k (.int .i64 0))) [0])]
def spinetlaw50_WaveReads_i7 : List Op1 := [(oM 16 (.t 3) []), (oE 17 (.len (.t 16)) [0]), (oE 18 (.bin .eql (.t 17) (.k (.int .i64 0))) [1]), (oM 19 (.t 18) [2]), (oG 20 (.mv (.t 4)) 19 true [3]), (oG 21 (.bin .eql (.t 20) (.k (.int .i64 21))) 19 true [4, 3]), (oE 22 (.pick (.t 19) (.t 21) (.k (.bool false))) [3, 5]), (oM 23 (.t 22) [6, 3]), (oG 24 (.mv (.t 0)) 23 true [7]), ⟨(some 25), (.call 6 [(.k (.slice none 0 0))]), (some (23, true)), [7, 7]⟩, (oG 26 (.bin .neq (.t 24) (.t 25)) 23 true [8, 9, 7]), (oE 27 (.pick (.t 23) (.t 26) (.k (.bool false))) [7, 10]), (oM 28 (.t 27) [11, 9]), ⟨(some 29), (.call 7 []), (some (28, true)), [12, 12]⟩, (oE 30 (.pick (.t 28) (.t 29) (.k (.bool false))) [12, 13]), (oM 2 (.t 30) [14, 13, 0, 1, 2, 3, 4, 5, 6, 7, 8, 9, 10, 11, 12, 13, 14])]
def spinetlaw50_WaveReads_i8 : IR := .ret
def spinetlaw50_WaveReads_i9 : IR := (.cond (.t 15) (.seq (.reg false spinetlaw50_WaveReads_i7) spinetlaw50_WaveReads_i8) .skip)
def spinetlaw50_WaveReads_i10 : List Op1 := [(oM 5 (.k (.int .i64 0)) [])]
def spinetlaw50_WaveReads_i11 : List Op1 := [(oM 31 (.t 5) []), (oM 32 (.t 3) []), (oE 33 (.len (.t 32)) [1]), (oE 34 (.bin .lss (.t 31) (.t 33)) [0, 2])]
def spinetlaw50_WaveReads_i12 : IR := (.cond (.t 34) .skip (.exit 0))
def spinetlaw50_WaveReads_i13 : List Op1 := [(oM 37 (.t 3) []), (oM 38 (.t 5) []), (oE 39 (.ias 9 (.t 37) (.t 38)) [0, 1]), (oE 40 (.fld 0 (.t 39)) [2]), (oE 41 (.load false 1 (.t 40)) [3]), (oE 42 (.bin .neq (.t 41) (.k (.int .u16 0))) [4]), (oM 43 (.t 42) [5]), (oG 44 (.mv (.t 3)) 43 false [6]), (oG 45 (.mv (.t 5)) 43 false [6]), (oG 46 (.ias 9 (.t 44) (.t 45)) 43 false [7, 8, 6]), (oG 47 (.fld 1 (.t 46)) 43 false [9, 6]), (oG 48 (.load false 1 (.t 47)) 43 false [10, 6]), (oG 49 (.bin .neq (.t 48) (.k (.int .u8 0))) 43 false [11, 6]), (oE 50 (.pick (.t 43) (.k (.bool true)) (.t 49)) [6, 12])]
def spinetlaw50_WaveReads_i14 : List Op1 := [(oM 2 (.k (.bool false)) [])]
def spinetlaw50_WaveReads_i15 : IR := .ret
def spinetlaw50_WaveReads_i16 : IR := (.cond (.t 50) (.seq (.reg false spinetlaw50_WaveReads_i14) spinetlaw50_WaveReads_i15) .skip)
def spinetlaw50_WaveReads_i17 : List Op1 := [(oM 35 (.t 5) []), (oE 36 (.bin .add (.t 35) (.k (.int .i64 1))) [0]), (oM 5 (.t 36) [1, 0, 1])]
def spinetlaw50_WaveReads_i18 : IR := (.reg false spinetlaw50_WaveReads_i17)
def spinetlaw50_WaveReads_i19 : IR := (.seq (.block 1 (.seq (.reg false spinetlaw50_WaveReads_i13) spinetlaw50_WaveReads_i16)) spinetlaw50_WaveReads_i18)
def spinetlaw50_WaveReads_i20 : IR := (.seq (.seq (.reg false spinetlaw50_WaveReads_i11) spinetlaw50_WaveReads_i12) spinetlaw50_WaveReads_i19)
def spinetlaw50_WaveReads_i21 : IR := (.block 0 (.loop spinetlaw50_WaveReads_i20))
def spinetlaw50_WaveReads_i22 : List Op1 := [(oM 51 (.t 3) []), (oC 52 6 [(.t 51)] [0]), (oM 53 (.t 0) []), (oE 54 (.bin .eql (.t 52) (.t 53)) [1, 2]), (oM 55 (.t 54) [3, 1]), ⟨(some 56), (.call 7 []), (some (55, true)), [4, 4]⟩, (oE 57 (.pick (.t 55) (.t 56) (.k (.bool false))) [4, 5]), (oM 2 (.t 57) [6, 5, 0, 1, 2, 3, 4, 5, 6])]
def spinetlaw50_WaveReads_i23 : IR := .ret
def spinetlaw50_WaveReads_i24 : IR := (.seq (.reg false spinetlaw50_WaveReads_i22) spinetlaw50_WaveReads_i23)
def spinetlaw50_WaveReads_i25 : IR := (.seq (.seq (.reg false spinetlaw50_WaveReads_i10) spinetlaw50_WaveReads_i21) spinetlaw50_WaveReads_i24)
def spinetlaw50_WaveReads_i26 : IR := (.seq (.seq (.reg false spinetlaw50_WaveReads_i6) spinetlaw50_WaveReads_i9) spinetlaw50_WaveReads_i25)
def spinetlaw50_WaveReads_i27 : IR := (.seq (.reg false spinetlaw50_WaveReads_i5) spinetlaw50_WaveReads_i26)
def spinetlaw50_WaveReads_i28 : IR := (.seq (.seq (.reg false spinetlaw50_WaveReads_i1) spinetlaw50_WaveReads_i4) spinetlaw50_WaveReads_i27)
def spinetlaw50_WaveReads_ir : IR := (.seq (.reg false spinetlaw50_WaveReads_i0) spinetlaw50_WaveReads_i28)
theorem spinetlaw50_WaveReads_cfn : cFn Tryd.prog 3 = some (spinetlaw50_WaveReads_ir, [(.t 2)], 58) := by kernel_rfl
def spinetlaw50_WaveReads_V (r : (Bool)) : V := .s (.bool r)
def spinetlaw50_WaveReads_C (r : (Bool)) : X → Fr → Hp → Prop := FinL [(.t 2)] [] (spinetlaw50_WaveReads_V r) []
theorem spinetlaw50_WaveReads_ok (s_ : ByteArray) (r : (Bool)) (h : spinetlaw50_WaveReads s_ = some r) : Pure Tryd.prog 3 [.s (.string s_)] (spinetlaw50_WaveReads_V r) := by
  refine ConL.of spinetlaw50_WaveReads_cfn (Nat.le_of_ble_eq_true (by kernel_rfl)) (Nat.le_of_ble_eq_true (by kernel_rfl)) ?_
  refine k_start ?_
  show dwv Tryd.prog [] spinetlaw50_WaveReads_ir (kont Tryd.prog [] (spinetlaw50_WaveReads_C r) []) (fr0 [.s (.string s_)]) []
  have hf : FOk (fr0 [.s (.string s_)]) [⟨0, [], .s (.string s_)⟩] := ⟨⟨fun _ => rfl, fun h => (h trivial).elim⟩, trivial⟩
  generalize fr0 [.s (.string s_)] = f at hf ⊢
  unfold spinetlaw50_WaveReads at h
  refine k_seq ?_
  refine k_reg ?_
  refine mops_en hf (by kernel_rfl) fun f1 hf1 => ?_
  refine k_c ?_
  refine k_seq ?_
  refine k_seq ?_
  refine k_reg ?_
  refine mops_en hf1 (by kernel_rfl) fun f2 hf2 => ?_
  refine k_c ?_
  refine k_cond hf2 (t := (decide (400 < (sln s_)))) (by kernel_rfl) (fun hc1 => ?_) (fun hc1 => ?_)
  · have h := if_t h hc1
    refine k_seq ?_
    refine k_reg ?_
    refine mops_en hf2 (by kernel_rfl) fun f3 hf3 => ?_
    refine k_c ?_
    refine k_ret ?_
    refine x_c nofun ?_
    obtain rfl := Option.some.inj h
    exact k_fin (fin_ret (.inl rfl) hf3 (vs := [.s (.bool true)]) (by kernel_rfl) (SettL.pure (FzL.stat rfl)))
  · have h := if_f h hc1
    refine k_skip ?_
    refine k_c ?_
    refine k_seq ?_
    refine k_reg ?_
    refine mops_sg 1 hf2 (by kernel_rfl) fun f3 hf3 => ?_
    obtain ⟨r_, hx_r_, h⟩ := Option.bind_eq_some_iff.1 h
    refine mops_call rfl hf3 (av := [.s (.string s_)]) (by kernel_rfl) (v := .tup [.sl false r_.1.length (cat api_Rec.v r_.1), .s (.int .i64 r_.2)]) (CalL.pure (wave_Read_ok s_ r_ hx_r_) rfl (by simp [V.static, statics, cat_stat, wave_Read_V]) (Nat.le_of_ble_eq_true (by kernel_rfl))) (fun _ => rfl) fun f4 hf4 => ?_
    refine mops_en hf4 (by kernel_rfl) fun f5 hf5 => ?_
    refine k_c ?_
    refine k_seq ?_
    refine k_seq ?_
    refine k_reg ?_
    refine mops_en hf5 (by kernel_rfl) fun f6 hf6 => ?_
    refine k_c ?_
    refine k_cond hf6 (t := (r_.2 != 0)) (by kernel_rfl) (fun hc2 => ?_) (fun hc2 => ?_)
    · have h := if_t h hc2
      refine k_seq ?_
      refine k_reg ?_
      refine mops_sg 9 hf6 (by kernel_rfl) fun f7 hf7 => ?_
      obtain ⟨r_1, hx_r_1, h⟩ := Option.bind_eq_some_iff.1 h
      refine mops_gcall (dst := (some 25)) (m := 6) (args := [(.k (.slice none 0 0))]) (aft := [7, 7]) (t := 23) (w := true) (ch := [(23, true)]) (b := (((ln r_.1) == 0) && (r_.2 == 21))) (by kernel_rfl) hf7 (by kernel_rfl) (by kernel_rfl) (av := [.s (.slice none 0 0)]) (by kernel_rfl) (v := .s (.string r_1)) (by kernel_rfl) (fun hb3 => (CalL.purew (wave_Text_ok ([] : List api_Rec) r_1 (if_t hx_r_1 hb3)) (Wks.cons Wk.nilsl Wks.nil) (by simp [V.static, statics, cat_stat]) rfl (by kernel_rfl))) fun f8 hf8 => ?_
      refine mops_sg 3 hf8 (by kernel_rfl) fun f9 hf9 => ?_
      obtain ⟨r_2, hx_r_2, h⟩ := Option.bind_eq_some_iff.1 h
      refine mops_gcall (dst := (some 29)) (m := 7) (args := []) (aft := [12, 12]) (t := 28) (w := true) (ch := [(28, true)]) (b := ((((ln r_.1) == 0) && (r_.2 == 21)) && (!(s_.toList == r_1.toList)))) (by kernel_rfl) hf9 (by kernel_rfl) (by kernel_rfl) (av := []) (by kernel_rfl) (v := .s (.bool r_2)) (by kernel_rfl) (fun hb4 => (CalL.pure (spinetlaw50_alive_ok  r_2 (if_t hx_r_2 hb4)) rfl rfl (Nat.le_of_ble_eq_true (by kernel_rfl)))) fun f10 hf10 => ?_
      refine mops_en hf10 (by kernel_rfl) fun f11 hf11 => ?_
      refine k_c ?_
      refine k_ret ?_
      refine x_c nofun ?_
      obtain rfl := Option.some.inj h
      exact k_fin (fin_ret (.inl rfl) hf11 (vs := [.s (.bool (((((ln r_.1) == 0) && (r_.2 == 21)) && (!(s_.toList == r_1.toList))) && r_2))]) (by kernel_rfl) (SettL.pure (FzL.stat rfl)))
    · have h := if_f h hc2
      refine k_skip ?_
      refine k_c ?_
      refine k_seq ?_
      refine k_seq ?_
      refine k_reg ?_
      refine mops_en hf6 (by kernel_rfl) fun f7 hf7 => ?_
      refine k_c ?_
      refine k_block ?_
      obtain ⟨o0, hx0, h⟩ := Option.bind_eq_some_iff.1 h
      have hret0 : ∀ r0, .ret r0 = o0 → r0 = r := fun r0 e => by subst e; exact Option.some.inj h
      have hgo0 : .go () = o0 → ∀ f, FOk f [⟨0, [], .s (.string s_)⟩, ⟨2, [], .s (.bool false)⟩, ⟨3, [], .sl false r_.1.length (cat api_Rec.v r_.1)⟩] → kont Tryd.prog [] (spinetlaw50_WaveReads_C r) ((.c spinetlaw50_WaveReads_i24) :: []) .normal f [] := by
        intro  e f hf
        subst e
        refine k_c ?_
        refine k_seq ?_
        refine k_reg ?_
        refine mops_sg 1 hf (by kernel_rfl) fun f1 hf1 => ?_
        obtain ⟨r_3, hx_r_3, h⟩ := Option.bind_eq_some_iff.1 h
        refine mops_call rfl hf1 (av := [.sl false r_.1.length (cat api_Rec.v r_.1)]) (by kernel_rfl) (v := .s (.string r_3)) (CalL.pure (wave_Text_ok r_.1 r_3 hx_r_3) (by simp [V.static, statics, cat_stat]) rfl (Nat.le_of_ble_eq_true (by kernel_rfl))) (fun _ => rfl) fun f2 hf2 => ?_
        refine mops_sg 3 hf2 (by kernel_rfl) fun f3 hf3 => ?_
        obtain ⟨r_4, hx_r_4, h⟩ := Option.bind_eq_some_iff.1 h
        refine mops_gcall (dst := (some 56)) (m := 7) (args := []) (aft := [4, 4]) (t := 55) (w := true) (ch := [(55, true)]) (b := (r_3.toList == s_.toList)) (by kernel_rfl) hf3 (by kernel_rfl) (by kernel_rfl) (av := []) (by kernel_rfl) (v := .s (.bool r_4)) (by kernel_rfl) (fun hb11 => (CalL.pure (spinetlaw50_alive_ok  r_4 (if_t hx_r_4 hb11)) rfl rfl (Nat.le_of_ble_eq_true (by kernel_rfl)))) fun f4 hf4 => ?_
        refine mops_en hf4 (by kernel_rfl) fun f5 hf5 => ?_
        refine k_c ?_
        refine k_ret ?_
        obtain rfl := Option.some.inj h
        exact k_fin (fin_ret (.inl rfl) hf5 (vs := [.s (.bool ((r_3.toList == s_.toList) && r_4))]) (by kernel_rfl) (SettL.pure (FzL.stat rfl)))
      refine k_loop BIG ?_
      refine loop_ind (fun n f L => ∃ (i_1 : Int), spinetlaw50_WaveReads_l0 r_ n i_1 = some o0 ∧ FOk f [⟨0, [], .s (.string s_)⟩, ⟨2, [], .s (.bool false)⟩, ⟨3, [], .sl false r_.1.length (cat api_Rec.v r_.1)⟩, ⟨5, [], .s (.int .i64 i_1)⟩] ∧ L = []) ?_ ?_ BIG _ _ ⟨(0), hx0, FOk_of [0, 2, 3, 5] hf7 (by kernel_rfl), (by kernel_rfl)⟩
      · rintro f L ⟨i_1, h, _⟩
        cases (show (none : Option _) = some _ from h)
      · rintro n0 R0 ih f L ⟨i_1, h, hf, rfl⟩
        rw [spinetlaw50_WaveReads_l0] at h
        refine k_seq ?_
        refine k_seq ?_
        refine k_reg ?_
        refine mops_en hf (by kernel_rfl) fun f1 hf1 => ?_
        refine k_c ?_
        refine k_cond hf1 (t := (decide (i_1 < (ln r_.1)))) (by kernel_rfl) (fun hc5 => ?_) (fun hc5 => ?_)
        · have h := if_t h hc5
          refine k_skip ?_
          refine k_c ?_
          refine k_seq ?_
          refine k_block ?_
          refine k_seq ?_
          refine k_reg ?_
          refine mops_sg 2 hf1 (by kernel_rfl) fun f2 hf2 => ?_
          obtain ⟨c6, h⟩ := as_ok h
          refine mops_adv rfl (v := .ip ((cat api_Rec.v r_.1).drop ((i_1 : Int).toNat * 9))) hf2 (by kernel_rfl) (e_ias (n := r_.1.length) (xv := .sl false r_.1.length (cat api_Rec.v r_.1)) (k := .i64) (iv := i_1) (p := .ip ((cat api_Rec.v r_.1).drop ((i_1 : Int).toNat * 9))) (by kernel_rfl) (by kernel_rfl) (by kernel_rfl) (by kernel_rfl) c6) fun f3 hf3 => ?_
          refine mops_sg 1 hf3 (by kernel_rfl) fun f4 hf4 => ?_
          refine mops_adv rfl (v := .s (.int .u16 (gt r_.1 i_1).Addr)) hf4 (by kernel_rfl) (e_load_ip (g := api_Rec.v) (l := r_.1) (iv := i_1) [0] (by kernel_rfl) c6 (by kernel_rfl) (by kernel_rfl)) fun f5 hf5 => ?_
          refine mops_sg 4 hf5 (by kernel_rfl) fun f6 hf6 => ?_
          obtain ⟨c7, h⟩ := as_ok h
          refine mops_gadv (dst := (some 46)) (op := (.ias 9 (.t 44) (.t 45))) (aft := [7, 8, 6]) (t := 43) (w := false) (ch := [(43, false)]) (b := (!((gt r_.1 i_1).Addr != 0))) (v := .ip ((cat api_Rec.v r_.1).drop ((i_1 : Int).toNat * 9))) (by kernel_rfl) hf6 (by kernel_rfl) (by kernel_rfl) (by kernel_rfl) (fun hb8 => e_ias (n := r_.1.length) (xv := .sl false r_.1.length (cat api_Rec.v r_.1)) (k := .i64) (iv := i_1) (p := .ip ((cat api_Rec.v r_.1).drop ((i_1 : Int).toNat * 9))) (by kernel_rfl) (by kernel_rfl) (by kernel_rfl) (by kernel_rfl) (c7 hb8)) fun f7 hf7 => ?_
          refine mops_sg 1 hf7 (by kernel_rfl) fun f8 hf8 => ?_
          refine mops_gadv (dst := (some 48)) (op := (.load false 1 (.t 47))) (aft := [10, 6]) (t := 43) (w := false) (ch := [(43, false)]) (b := (!((gt r_.1 i_1).Addr != 0))) (v := .s (.int .u8 (gt r_.1 i_1).Data)) (by kernel_rfl) hf8 (by kernel_rfl) (by kernel_rfl) (by kernel_rfl) (fun hb9 => e_load_ip (g := api_Rec.v) (l := r_.1) (iv := i_1) [1] (by kernel_rfl) (c7 hb9) (by kernel_rfl) (by kernel_rfl)) fun f9 hf9 => ?_
          refine mops_en hf9 (by kernel_rfl) fun f10 hf10 => ?_
          refine k_c ?_
          refine k_cond hf10 (t := (((gt r_.1 i_1).Addr != 0) || ((gt r_.1 i_1).Data != 0))) (by kernel_rfl) (fun hc10 => ?_) (fun hc10 => ?_)
          · have h := if_t h hc10
            refine k_seq ?_
            refine k_reg ?_
            refine mops_en hf10 (by kernel_rfl) fun f11 hf11 => ?_
            refine k_c ?_
            refine k_ret ?_
            refine x_br ?_
            refine x_c nofun ?_
            refine x_l nofun ?_
            refine x_br ?_
            refine x_c nofun ?_
            obtain rfl := hret0 _ (Option.some.inj h)
            exact k_fin (fin_ret (.inl rfl) hf11 (vs := [.s (.bool false)]) (by kernel_rfl) (SettL.pure (FzL.stat rfl)))
          · have h := if_f h hc10
            refine k_skip ?_
            refine k_b ?_
            refine k_c ?_
            refine k_reg ?_
            refine mops_en hf10 (by kernel_rfl) fun f11 hf11 => ?_
            refine k_l ?_
            exact ih _ _ ⟨(IntKind.wrap .i64 (i_1 + 1)), h, FOk_of [0, 2, 3, 5] hf11 (by kernel_rfl), (by kernel_rfl)⟩
        · have h := if_f h hc5
          refine k_exit ?_
          refine x_c nofun ?_
          refine x_l nofun ?_
          refine x_b ?_
          refine k_hp (L' := []) (by kernel_rfl) ?_
          exact hgo0  (Option.some.inj h) _ (FOk_of [0, 2, 3] hf1 (by kernel_rfl))
end Go.Proofs.YtnilppmpfklpbaaDoorK
