/- The Go functions come to the functions over typed data. Printed by a program of this work. -/
import Derived.Test.YthhjooegpjgicaaDoorF
import Derived.Test.YthhjooegpjgicaaDoorProg
import Derived.Test.YthhjooegpjgicaaDoorG1
import Derived.Test.YthhjooegpjgicaaDoorG2
namespace Go.Proofs.YthhjooegpjgicaaDoorK
set_option linter.unusedVariables false
set_option linter.unusedSimpArgs false
set_option maxHeartbeats 4000000
open Go.RowKit
attribute [local irreducible] dwv mops lops lqops lwops kont iter run runK rk okK ex E1 vals val chain chB sel resF
def pins_Text_i0 : List Op1 := [(oM 2 (.k (.string ⟨#[]⟩)) [])]
def pins_Text_i1 : List Op1 := [(oE 3 (.nilg 1) [])]
def pins_Text_i2 : List Op1 := [(oM 4 (.k (.int .i64 0)) [])]
def pins_Text_i3 : List Op1 := [(oM 7 (.t 4) []), (oM 8 (.t 0) []), (oE 9 (.len (.t 8)) [1]), (oE 10 (.bin .lss (.t 7) (.t 9)) [0, 2])]
def pins_Text_i4 : IR := (.cond (.t 10) .skip (.exit 0))
def pins_Text_i5 : List Op1 := [(oM 5 (.k (.int .i64 1)) [])]
def pins_Text_i6 : List Op1 := [(oM 11 (.t 4) []), (oM 12 (.t 5) []), (oE 13 (.bin .add (.t 11) (.t 12)) [0, 1]), (oM 14 (.t 0) []), (oE 15 (.len (.t 14)) [3]), (oE 16 (.bin .lss (.t 13) (.t 15)) [2, 4]), (oM 17 (.t 16) [5]), (oG 18 (.mv (.t 0)) 17 true [6]), (oG 19 (.mv (.t 4)) 17 true [6]), (oG 20 (.mv (.t 5)) 17 true [6]), (oG 21 (.bin .add (.t 19) (.t 20)) 17 true [8, 9, 6]), (oG 22 (.ias 6 (.t 18) (.t 21)) 17 true [7, 10, 6]), (oG 23 (.load true 6 (.t 22)) 17 true [11, 6]), (oG 24 (.mv (.t 0)) 17 true [6]), (oG 25 (.mv (.t 4)) 17 true [6]), (oG 26 (.ias 6 (.t 24) (.t 25)) 17 true [13, 14, 6]), (oG 27 (.load true 6 (.t 26)) 17 true [15, 6]), (oG 28 (.eqa false [.bool, .bool, .bool, .bool, .bool, .bool] (.t 23) (.t 27)) 17 true [12, 16, 6]), (oE 29 (.pick (.t 17) (.t 28) (.k (.bool false))) [6, 17])]
def pins_Text_i7 : IR := (.cond (.t 29) .skip (.exit 2))
def pins_Text_i8 : List Op1 := [(oM 30 (.t 5) []), (oE 31 (.bin .add (.t 30) (.k (.int .i64 1))) [0]), (oM 5 (.t 31) [1, 0, 1])]
def pins_Text_i9 : IR := (.block 3 (.reg false pins_Text_i8))
def pins_Text_i10 : IR := (.seq (.seq (.reg true pins_Text_i6) pins_Text_i7) pins_Text_i9)
def pins_Text_i11 : List Op1 := [(oM 32 (.t 0) []), (oM 33 (.t 4) []), (oE 34 (.ias 6 (.t 32) (.t 33)) [0, 1]), (oE 35 (.load true 6 (.t 34)) [2]), (oC 36 11 [(.t 35)] [3]), (oM 6 (.t 36) [4, 4, 0, 1, 2, 3, 4])]
def pins_Text_i12 : List Op1 := [(oM 37 (.t 5) []), (oE 38 (.bin .gtr (.t 37) (.k (.int .i64 1))) [0])]
def pins_Text_i13 : List Op1 := [(oM 39 (.t 6) []), (oM 40 (.t 5) []), (oE 41 (.cint .u64 (.t 40)) [1]), (oC 42 20 [(.t 41)] [2]), (oE 43 (.bin .add (.k (.string ⟨#[42]⟩)) (.t 42)) [3]), (oE 44 (.bin .add (.t 39) (.t 43)) [0, 4]), (oM 6 (.t 44) [5, 3, 0, 1, 2, 3, 4, 5])]
def pins_Text_i14 : IR := (.cond (.t 38) (.reg false pins_Text_i13) .skip)
def pins_Text_i15 : List Op1 := [(oM 45 (.t 3) []), (oM 46 (.t 6) []), (oE 47 (.bslo 1 1 [(.string ⟨#[]⟩)] [(0, (1, (.t 46)))]) [1]), (oE 48 (.app 9 1 16 (.t 45) (.t 47)) [0, 2]), (oM 3 (.t 48) [3, 3, 0, 1, 2, 3])]
def pins_Text_i16 : List Op1 := [(oM 49 (.t 4) []), (oM 50 (.t 5) []), (oE 51 (.bin .add (.t 49) (.t 50)) [0, 1]), (oM 4 (.t 51) [2, 0, 1, 2])]
def pins_Text_i17 : IR := (.reg false pins_Text_i16)
def pins_Text_i18 : IR := (.seq (.reg false pins_Text_i15) pins_Text_i17)
def pins_Text_i19 : IR := (.seq (.seq (.reg false pins_Text_i12) pins_Text_i14) pins_Text_i18)
def pins_Text_i20 : IR := (.seq (.reg false pins_Text_i11) pins_Text_i19)
def pins_Text_i21 : IR := (.seq (.block 2 (.loop pins_Text_i10)) pins_Text_i20)
def pins_Text_i22 : IR := (.block 1 (.seq (.reg false pins_Text_i5) pins_Text_i21))
def pins_Text_i23 : IR := (.seq (.seq (.reg false pins_Text_i3) pins_Text_i4) pins_Text_i22)
def pins_Text_i24 : IR := (.block 0 (.loop pins_Text_i23))
def pins_Text_i25 : List Op1 := [(oM 52 (.t 3) []), (oC 53 21 [(.t 52), (.k (.string ⟨#[32]⟩))] [0]), (oM 2 (.t 53) [1, 1, 0, 1])]
def pins_Text_i26 : IR := .ret
def pins_Text_i27 : IR := (.seq (.reg false pins_Text_i25) pins_Text_i26)
def pins_Text_i28 : IR := (.seq (.seq (.reg false pins_Text_i2) pins_Text_i24) pins_Text_i27)
def pins_Text_i29 : IR := (.seq (.reg false pins_Text_i1) pins_Text_i28)
def pins_Text_ir : IR := (.seq (.reg false pins_Text_i0) pins_Text_i29)
theorem pins_Text_cfn : cFn Tryd.prog 13 = some (pins_Text_ir, [(.t 2)], 54) := by kernel_rfl
def pins_Text_V (r : (ByteArray)) : V := .s (.string r)
def pins_Text_C (r : (ByteArray)) : X → Fr → Hp → Prop := FinL [(.t 2)] [] (pins_Text_V r) []
theorem pins_Text_ok (l_ : (List api_Pins)) (r : (ByteArray)) (h : pins_Text l_ = some r) : Pure Tryd.prog 13 [.sl false l_.length (cat api_Pins.v l_)] (pins_Text_V r) := by
  refine ConL.of pins_Text_cfn (Nat.le_of_ble_eq_true (by kernel_rfl)) (Nat.le_of_ble_eq_true (by kernel_rfl)) ?_
  refine k_start ?_
  show dwv Tryd.prog [] pins_Text_ir (kont Tryd.prog [] (pins_Text_C r) []) (fr0 [.sl false l_.length (cat api_Pins.v l_)]) []
  have hf : FOk (fr0 [.sl false l_.length (cat api_Pins.v l_)]) [⟨0, [], .sl false l_.length (cat api_Pins.v l_)⟩] := ⟨⟨fun _ => rfl, fun h => (h trivial).elim⟩, trivial⟩
  generalize fr0 [.sl false l_.length (cat api_Pins.v l_)] = f at hf ⊢
  unfold pins_Text at h
  refine k_seq ?_
  refine k_reg ?_
  refine mops_en hf (by kernel_rfl) fun f1 hf1 => ?_
  refine k_c ?_
  refine k_seq ?_
  refine k_reg ?_
  refine mops_en hf1 (by kernel_rfl) fun f2 hf2 => ?_
  refine k_c ?_
  refine k_seq ?_
  refine k_seq ?_
  refine k_reg ?_
  refine mops_en hf2 (by kernel_rfl) fun f3 hf3 => ?_
  refine k_c ?_
  refine k_block ?_
  obtain ⟨o0, hx0, h⟩ := Option.bind_eq_some_iff.1 h
  have hgo0 : ∀ (l_3 : (List ByteArray)) (v_2 : Nat), l_3 = o0 → ∀ f, FOk f [⟨2, [], .s (.string (⟨#[]⟩ : ByteArray))⟩, ⟨3, [], .ref 0 v_2 0 l_3.length⟩] → kont Tryd.prog [] (pins_Text_C r) ((.c pins_Text_i27) :: []) .normal f [⟨v_2, .grow, 1, cat nS l_3⟩] := by
    intro l_3 v_2 e f hf
    subst e
    refine k_c ?_
    refine k_seq ?_
    refine k_reg ?_
    refine mops_sg 1 hf (by kernel_rfl) fun f1 hf1 => ?_
    obtain ⟨r_6, hx_r_6, h⟩ := Option.bind_eq_some_iff.1 h
    refine mops_call rfl hf1 (av := [.ref 0 v_2 0 l_3.length, .s (.string (⟨#[32]⟩ : ByteArray))]) (by kernel_rfl) (v := .s (.string r_6)) (CalL.lend (strings_Join_ok l_3 (⟨#[32]⟩ : ByteArray) r_6 hx_r_6) rfl (Lends.cons (Lend.whole (g := nS) (kd := .grow) (l := l_3) rfl (live_grow (by kernel_rfl))) (Lends.cons (Lend.stat rfl) Lends.nil)) (by kernel_rfl)) (fun _ => rfl) fun f2 hf2 => ?_
    refine mops_en hf2 (by kernel_rfl) fun f3 hf3 => ?_
    refine k_c ?_
    refine k_ret ?_
    obtain rfl := Option.some.inj h
    exact k_fin (fin_ret (.inl rfl) hf3 (vs := [.s (.string r_6)]) (by kernel_rfl) (SettL.pure (FzL.stat rfl)))
  refine k_loop BIG ?_
  refine loop_ind (fun n f L => ∃ (l_2 : (List ByteArray)) (i_1 : Int) (v_1 : Nat), pins_Text_l2 l_ n l_2 i_1 = some o0 ∧ FOk f [⟨0, [], .sl false l_.length (cat api_Pins.v l_)⟩, ⟨2, [], .s (.string (⟨#[]⟩ : ByteArray))⟩, ⟨3, [], .ref 0 v_1 0 l_2.length⟩, ⟨4, [], .s (.int .i64 i_1)⟩] ∧ L = [⟨v_1, .grow, 1, cat nS l_2⟩]) ?_ ?_ BIG _ _ ⟨([] : List ByteArray), (0), (0), hx0, FOk_of [0, 2, 3, 4] hf3 (by kernel_rfl), (by kernel_rfl)⟩
  · rintro f L ⟨l_2, i_1, v_1, h, _⟩
    cases (show (none : Option _) = some _ from h)
  · rintro n0 R0 ih f L ⟨l_2, i_1, v_1, h, hf, rfl⟩
    rw [pins_Text_l2] at h
    refine k_seq ?_
    refine k_seq ?_
    refine k_reg ?_
    refine mops_en hf (by kernel_rfl) fun f1 hf1 => ?_
    refine k_c ?_
    refine k_cond hf1 (t := (decide (i_1 < (ln l_)))) (by kernel_rfl) (fun hc1 => ?_) (fun hc1 => ?_)
    · have h := if_t h hc1
      refine k_skip ?_
      refine k_c ?_
      refine k_block ?_
      refine k_seq ?_
      refine k_reg ?_
      refine mops_en hf1 (by kernel_rfl) fun f2 hf2 => ?_
      refine k_c ?_
      refine k_seq ?_
      refine k_block ?_
      obtain ⟨o1, hx1, h⟩ := Option.bind_eq_some_iff.1 h
      have hgo1 : ∀ (n_8 : Int) (t_10 : Int) (t_11 : Int) (t_12 : Bool) (t_13 : Bool) (t_14 : Bool), (n_8, t_10, t_11, t_12, t_13, t_14) = o1 → ∀ f, FOk f [⟨0, [], .sl false l_.length (cat api_Pins.v l_)⟩, ⟨2, [], .s (.string (⟨#[]⟩ : ByteArray))⟩, ⟨3, [], .ref 0 v_1 0 l_2.length⟩, ⟨4, [], .s (.int .i64 i_1)⟩, ⟨5, [], .s (.int .i64 n_8)⟩, ⟨7, [], .s (.int .i64 i_1)⟩, ⟨8, [], .sl false l_.length (cat api_Pins.v l_)⟩, ⟨9, [], .s (.int .i64 (ln l_))⟩, ⟨10, [], .s (.bool (decide (i_1 < (ln l_))))⟩, ⟨11, [], .s (.int .i64 i_1)⟩, ⟨12, [], .s (.int .i64 t_10)⟩, ⟨13, [], .s (.int .i64 t_11)⟩, ⟨14, [], .sl false l_.length (cat api_Pins.v l_)⟩, ⟨15, [], .s (.int .i64 (ln l_))⟩, ⟨16, [], .s (.bool t_12)⟩, ⟨17, [], .s (.bool t_13)⟩, ⟨29, [], .s (.bool t_14)⟩] → kont Tryd.prog [] (pins_Text_C r) ((.c pins_Text_i20) :: (.b 1) :: (.l R0) :: (.b 0) :: (.c pins_Text_i27) :: []) .normal f [⟨v_1, .grow, 1, cat nS l_2⟩] := by
        intro n_8 t_10 t_11 t_12 t_13 t_14 e f hf
        subst e
        refine k_c ?_
        refine k_seq ?_
        refine k_reg ?_
        refine mops_sg 2 hf (by kernel_rfl) fun f1 hf1 => ?_
        obtain ⟨c9, h⟩ := as_ok h
        refine mops_adv rfl (v := .ip ((cat api_Pins.v l_).drop ((i_1 : Int).toNat * 6))) hf1 (by kernel_rfl) (e_ias (n := l_.length) (xv := .sl false l_.length (cat api_Pins.v l_)) (k := .i64) (iv := i_1) (p := .ip ((cat api_Pins.v l_).drop ((i_1 : Int).toNat * 6))) (by kernel_rfl) (by kernel_rfl) (by kernel_rfl) (by kernel_rfl) c9) fun f2 hf2 => ?_
        refine mops_adv rfl (v := .agg [.s (.bool (gt l_ i_1).Reset), .s (.bool (gt l_ i_1).Nmi), .s (.bool (gt l_ i_1).Firq), .s (.bool (gt l_ i_1).Irq), .s (.bool (gt l_ i_1).Halt), .s (.bool (gt l_ i_1).Req)]) hf2 (by kernel_rfl) (e_load_ip (g := api_Pins.v) (l := l_) (iv := i_1) [] (by kernel_rfl) c9 (by kernel_rfl) (by kernel_rfl)) fun f3 hf3 => ?_
        obtain ⟨r_4, hx_r_4, h⟩ := Option.bind_eq_some_iff.1 h
        refine mops_call rfl hf3 (av := [.agg [.s (.bool (gt l_ i_1).Reset), .s (.bool (gt l_ i_1).Nmi), .s (.bool (gt l_ i_1).Firq), .s (.bool (gt l_ i_1).Irq), .s (.bool (gt l_ i_1).Halt), .s (.bool (gt l_ i_1).Req)]]) (by kernel_rfl) (v := .s (.string r_4)) (CalL.pure (pins_Word_ok (gt l_ i_1) r_4 hx_r_4) rfl rfl (Nat.le_of_ble_eq_true (by kernel_rfl))) (fun _ => rfl) fun f4 hf4 => ?_
        refine mops_en hf4 (by kernel_rfl) fun f5 hf5 => ?_
        refine k_c ?_
        refine k_seq ?_
        refine k_seq ?_
        refine k_reg ?_
        refine mops_en hf5 (by kernel_rfl) fun f6 hf6 => ?_
        refine k_c ?_
        have hj1 : ∀ (w_2 : ByteArray), pins_Text_j0 ((pins_Text_l2 l_ n0)) l_2 i_1 n_8 w_2 = some o0 → ∀ f, FOk f [⟨0, [], .sl false l_.length (cat api_Pins.v l_)⟩, ⟨2, [], .s (.string (⟨#[]⟩ : ByteArray))⟩, ⟨3, [], .ref 0 v_1 0 l_2.length⟩, ⟨4, [], .s (.int .i64 i_1)⟩, ⟨5, [], .s (.int .i64 n_8)⟩, ⟨6, [], .s (.string w_2)⟩, ⟨7, [], .s (.int .i64 i_1)⟩, ⟨8, [], .sl false l_.length (cat api_Pins.v l_)⟩, ⟨9, [], .s (.int .i64 (ln l_))⟩, ⟨10, [], .s (.bool (decide (i_1 < (ln l_))))⟩, ⟨11, [], .s (.int .i64 i_1)⟩, ⟨12, [], .s (.int .i64 t_10)⟩, ⟨13, [], .s (.int .i64 t_11)⟩, ⟨14, [], .sl false l_.length (cat api_Pins.v l_)⟩, ⟨15, [], .s (.int .i64 (ln l_))⟩, ⟨16, [], .s (.bool t_12)⟩, ⟨17, [], .s (.bool t_13)⟩, ⟨29, [], .s (.bool t_14)⟩, ⟨32, [], .sl false l_.length (cat api_Pins.v l_)⟩, ⟨33, [], .s (.int .i64 i_1)⟩, ⟨34, [], .ip ((cat api_Pins.v l_).drop ((i_1 : Int).toNat * 6))⟩, ⟨35, [], .agg [.s (.bool (gt l_ i_1).Reset), .s (.bool (gt l_ i_1).Nmi), .s (.bool (gt l_ i_1).Firq), .s (.bool (gt l_ i_1).Irq), .s (.bool (gt l_ i_1).Halt), .s (.bool (gt l_ i_1).Req)]⟩, ⟨36, [], .s (.string r_4)⟩, ⟨37, [], .s (.int .i64 n_8)⟩, ⟨38, [], .s (.bool (decide (1 < n_8)))⟩] → kont Tryd.prog [] (pins_Text_C r) ((.c pins_Text_i18) :: (.b 1) :: (.l R0) :: (.b 0) :: (.c pins_Text_i27) :: []) .normal f [⟨v_1, .grow, 1, cat nS l_2⟩] := by
          intro w_2 h f hf
          unfold pins_Text_j0 at h
          refine k_c ?_
          refine k_seq ?_
          refine k_reg ?_
          refine mops_sg 3 hf (by kernel_rfl) fun f1 hf1 => ?_
          obtain ⟨c13, h⟩ := as_ok h
          refine mops_adv rfl (v := .ref 0 (v_1 + 1) 0 (l_2 ++ [w_2]).length) hf1 (by kernel_rfl) (e_app (g := nS) (l := l_2) (l' := [w_2]) (b := 0) (ver := v_1) (n := l_2.length) rfl (by kernel_rfl) rfl (live_grow (by kernel_rfl)) (sll_ev (v := .ref 1 0 0 1) (by kernel_rfl) (sll_ref (B := ⟨0, .grow, 1, cat nS [w_2]⟩) (by kernel_rfl) (live_grow (by kernel_rfl)))) (slc_ev (v := .ref 1 0 0 1) (by kernel_rfl) (slc_ref (g := nS) (l := [w_2]) (kd := .grow) (q := 1) (by kernel_rfl) (live_grow (by kernel_rfl)))) c13) fun f2 hf2 => ?_
          refine mops_en hf2 (by kernel_rfl) fun f3 hf3 => ?_
          refine k_c ?_
          refine k_reg ?_
          refine mops_en hf3 (by kernel_rfl) fun f4 hf4 => ?_
          refine k_b ?_
          refine k_l' (vs_cut (l := [⟨0, [], .sl false l_.length (cat api_Pins.v l_)⟩, ⟨2, [], .s (.string (⟨#[]⟩ : ByteArray))⟩, ⟨3, [], .ref 0 (v_1 + 1) 0 (l_2 ++ [w_2]).length⟩, ⟨4, [], .s (.int .i64 (IntKind.wrap .i64 (i_1 + n_8)))⟩]) 1 (by kernel_rfl) (by kernel_rfl) (L' := [⟨(v_1 + 1), .grow, 1, cat nS (l_2 ++ [w_2])⟩]) (by kernel_rfl) ⟨⟨rfl, (static_under _ _ (by simp [V.static, statics, cat_stat, dropcat_stat]))⟩, ⟨rfl, rfl⟩, ⟨rfl, rfl⟩, ⟨rfl, rfl⟩, trivial⟩ ⟨.inr (.inr (statics_unders _ _ (cat_stat _))), trivial⟩ (FOk_of [0, 2, 3, 4] hf4 (by kernel_rfl)) fun f hf => ?_)
          exact ih _ _ ⟨(l_2 ++ [w_2]), (IntKind.wrap .i64 (i_1 + n_8)), (v_1 + 1), h, hf, rfl⟩
        refine k_cond hf6 (t := (decide (1 < n_8))) (by kernel_rfl) (fun hc10 => ?_) (fun hc10 => ?_)
        · have h := if_t h hc10
          refine k_reg ?_
          refine mops_sg 3 hf6 (by kernel_rfl) fun f7 hf7 => ?_
          obtain ⟨r_5, hx_r_5, h⟩ := Option.bind_eq_some_iff.1 h
          refine mops_call rfl hf7 (av := [.s (.int .u64 (IntKind.wrap .u64 n_8))]) (by kernel_rfl) (v := .s (.string r_5)) (CalL.pure (digit_Dec_ok (IntKind.wrap .u64 n_8) r_5 hx_r_5) rfl rfl (Nat.le_of_ble_eq_true (by kernel_rfl))) (fun _ => rfl) fun f8 hf8 => ?_
          obtain ⟨c11, h⟩ := as_ok h
          refine mops_adv rfl (v := .s (.string ((⟨#[42]⟩ : ByteArray) ++ r_5))) hf8 (by kernel_rfl) (e_sadd (t := (⟨#[42]⟩ : ByteArray)) (t' := r_5) (by kernel_rfl) (by kernel_rfl) c11) fun f9 hf9 => ?_
          obtain ⟨c12, h⟩ := as_ok h
          refine mops_adv rfl (v := .s (.string (r_4 ++ ((⟨#[42]⟩ : ByteArray) ++ r_5)))) hf9 (by kernel_rfl) (e_sadd (t := r_4) (t' := ((⟨#[42]⟩ : ByteArray) ++ r_5)) (by kernel_rfl) (by kernel_rfl) c12) fun f10 hf10 => ?_
          refine mops_en hf10 (by kernel_rfl) fun f11 hf11 => ?_
          refine k_hp (L' := [⟨v_1, .grow, 1, cat nS l_2⟩]) (by kernel_rfl) ?_
          exact hj1 (r_4 ++ ((⟨#[42]⟩ : ByteArray) ++ r_5)) h _ (FOk_of [0, 2, 3, 4, 5, 6, 7, 8, 9, 10, 11, 12, 13, 14, 15, 16, 17, 29, 32, 33, 34, 35, 36, 37, 38] hf11 (by kernel_rfl))
        · have h := if_f h hc10
          refine k_skip ?_
          refine k_hp (L' := [⟨v_1, .grow, 1, cat nS l_2⟩]) (by kernel_rfl) ?_
          exact hj1 r_4 h _ (FOk_of [0, 2, 3, 4, 5, 6, 7, 8, 9, 10, 11, 12, 13, 14, 15, 16, 17, 29, 32, 33, 34, 35, 36, 37, 38] hf6 (by kernel_rfl))
      refine k_loop BIG ?_
      refine loop_ind (fun n f L => ∃ (n_7 : Int), pins_Text_l3 l_ i_1 n n_7 = some o1 ∧ FOk f [⟨0, [], .sl false l_.length (cat api_Pins.v l_)⟩, ⟨2, [], .s (.string (⟨#[]⟩ : ByteArray))⟩, ⟨3, [], .ref 0 v_1 0 l_2.length⟩, ⟨4, [], .s (.int .i64 i_1)⟩, ⟨5, [], .s (.int .i64 n_7)⟩, ⟨7, [], .s (.int .i64 i_1)⟩, ⟨8, [], .sl false l_.length (cat api_Pins.v l_)⟩, ⟨9, [], .s (.int .i64 (ln l_))⟩, ⟨10, [], .s (.bool (decide (i_1 < (ln l_))))⟩] ∧ L = [⟨v_1, .grow, 1, cat nS l_2⟩]) ?_ ?_ BIG _ _ ⟨(1), hx1, FOk_of [0, 2, 3, 4, 5, 7, 8, 9, 10] hf2 (by kernel_rfl), (by kernel_rfl)⟩
      · rintro f L ⟨n_7, h, _⟩
        cases (show (none : Option _) = some _ from h)
      · rintro n1 R1 ih f L ⟨n_7, h, hf, rfl⟩
        rw [pins_Text_l3] at h
        refine k_seq ?_
        refine k_seq ?_
        refine k_regq ?_
        refine mops_sg 11 hf (by kernel_rfl) fun f1 hf1 => ?_
        obtain ⟨c2, h⟩ := as_ok h
        refine mops_gadv (dst := (some 22)) (op := (.ias 6 (.t 18) (.t 21))) (aft := [7, 10, 6]) (t := 17) (w := true) (ch := [(17, true)]) (b := (decide ((IntKind.wrap .i64 (i_1 + n_7)) < (ln l_)))) (v := .ip ((cat api_Pins.v l_).drop (((IntKind.wrap .i64 (i_1 + n_7)) : Int).toNat * 6))) (by kernel_rfl) hf1 (by kernel_rfl) (by kernel_rfl) (by kernel_rfl) (fun hb3 => e_ias (n := l_.length) (xv := .sl false l_.length (cat api_Pins.v l_)) (k := .i64) (iv := (IntKind.wrap .i64 (i_1 + n_7))) (p := .ip ((cat api_Pins.v l_).drop (((IntKind.wrap .i64 (i_1 + n_7)) : Int).toNat * 6))) (by kernel_rfl) (by kernel_rfl) (by kernel_rfl) (by kernel_rfl) (c2 hb3)) fun f2 hf2 => ?_
        refine mops_gadv (dst := (some 23)) (op := (.load true 6 (.t 22))) (aft := [11, 6]) (t := 17) (w := true) (ch := [(17, true)]) (b := (decide ((IntKind.wrap .i64 (i_1 + n_7)) < (ln l_)))) (v := .agg [.s (.bool (gt l_ (IntKind.wrap .i64 (i_1 + n_7))).Reset), .s (.bool (gt l_ (IntKind.wrap .i64 (i_1 + n_7))).Nmi), .s (.bool (gt l_ (IntKind.wrap .i64 (i_1 + n_7))).Firq), .s (.bool (gt l_ (IntKind.wrap .i64 (i_1 + n_7))).Irq), .s (.bool (gt l_ (IntKind.wrap .i64 (i_1 + n_7))).Halt), .s (.bool (gt l_ (IntKind.wrap .i64 (i_1 + n_7))).Req)]) (by kernel_rfl) hf2 (by kernel_rfl) (by kernel_rfl) (by kernel_rfl) (fun hb4 => e_load_ip (g := api_Pins.v) (l := l_) (iv := (IntKind.wrap .i64 (i_1 + n_7))) [] (by kernel_rfl) (c2 hb4) (by kernel_rfl) (by kernel_rfl)) fun f3 hf3 => ?_
        refine mops_sg 2 hf3 (by kernel_rfl) fun f4 hf4 => ?_
        obtain ⟨c5, h⟩ := as_ok h
        refine mops_gadv (dst := (some 26)) (op := (.ias 6 (.t 24) (.t 25))) (aft := [13, 14, 6]) (t := 17) (w := true) (ch := [(17, true)]) (b := (decide ((IntKind.wrap .i64 (i_1 + n_7)) < (ln l_)))) (v := .ip ((cat api_Pins.v l_).drop ((i_1 : Int).toNat * 6))) (by kernel_rfl) hf4 (by kernel_rfl) (by kernel_rfl) (by kernel_rfl) (fun hb6 => e_ias (n := l_.length) (xv := .sl false l_.length (cat api_Pins.v l_)) (k := .i64) (iv := i_1) (p := .ip ((cat api_Pins.v l_).drop ((i_1 : Int).toNat * 6))) (by kernel_rfl) (by kernel_rfl) (by kernel_rfl) (by kernel_rfl) (c5 hb6)) fun f5 hf5 => ?_
        refine mops_gadv (dst := (some 27)) (op := (.load true 6 (.t 26))) (aft := [15, 6]) (t := 17) (w := true) (ch := [(17, true)]) (b := (decide ((IntKind.wrap .i64 (i_1 + n_7)) < (ln l_)))) (v := .agg [.s (.bool (gt l_ i_1).Reset), .s (.bool (gt l_ i_1).Nmi), .s (.bool (gt l_ i_1).Firq), .s (.bool (gt l_ i_1).Irq), .s (.bool (gt l_ i_1).Halt), .s (.bool (gt l_ i_1).Req)]) (by kernel_rfl) hf5 (by kernel_rfl) (by kernel_rfl) (by kernel_rfl) (fun hb7 => e_load_ip (g := api_Pins.v) (l := l_) (iv := i_1) [] (by kernel_rfl) (c5 hb7) (by kernel_rfl) (by kernel_rfl)) fun f6 hf6 => ?_
        refine mops_en hf6 (by kernel_rfl) fun f7 hf7 => ?_
        refine k_c ?_
        refine k_cond hf7 (t := ((decide ((IntKind.wrap .i64 (i_1 + n_7)) < (ln l_))) && (((gt l_ (IntKind.wrap .i64 (i_1 + n_7))).Reset == (gt l_ i_1).Reset) && (((gt l_ (IntKind.wrap .i64 (i_1 + n_7))).Nmi == (gt l_ i_1).Nmi) && (((gt l_ (IntKind.wrap .i64 (i_1 + n_7))).Firq == (gt l_ i_1).Firq) && (((gt l_ (IntKind.wrap .i64 (i_1 + n_7))).Irq == (gt l_ i_1).Irq) && (((gt l_ (IntKind.wrap .i64 (i_1 + n_7))).Halt == (gt l_ i_1).Halt) && (((gt l_ (IntKind.wrap .i64 (i_1 + n_7))).Req == (gt l_ i_1).Req) && true)))))))) (by kernel_rfl) (fun hc8 => ?_) (fun hc8 => ?_)
        · have h := if_t h hc8
          refine k_skip ?_
          refine k_c ?_
          refine k_block ?_
          refine k_reg ?_
          refine mops_en hf7 (by kernel_rfl) fun f8 hf8 => ?_
          refine k_b ?_
          refine k_l ?_
          exact ih _ _ ⟨(IntKind.wrap .i64 (n_7 + 1)), h, FOk_of [0, 2, 3, 4, 5, 7, 8, 9, 10] hf8 (by kernel_rfl), (by kernel_rfl)⟩
        · have h := if_f h hc8
          refine k_exit ?_
          refine x_c nofun ?_
          refine x_l nofun ?_
          refine x_b ?_
          refine k_hp (L' := [⟨v_1, .grow, 1, cat nS l_2⟩]) (by kernel_rfl) ?_
          exact hgo1 n_7 n_7 (IntKind.wrap .i64 (i_1 + n_7)) (decide ((IntKind.wrap .i64 (i_1 + n_7)) < (ln l_))) (decide ((IntKind.wrap .i64 (i_1 + n_7)) < (ln l_))) ((decide ((IntKind.wrap .i64 (i_1 + n_7)) < (ln l_))) && (((gt l_ (IntKind.wrap .i64 (i_1 + n_7))).Reset == (gt l_ i_1).Reset) && (((gt l_ (IntKind.wrap .i64 (i_1 + n_7))).Nmi == (gt l_ i_1).Nmi) && (((gt l_ (IntKind.wrap .i64 (i_1 + n_7))).Firq == (gt l_ i_1).Firq) && (((gt l_ (IntKind.wrap .i64 (i_1 + n_7))).Irq == (gt l_ i_1).Irq) && (((gt l_ (IntKind.wrap .i64 (i_1 + n_7))).Halt == (gt l_ i_1).Halt) && (((gt l_ (IntKind.wrap .i64 (i_1 + n_7))).Req == (gt l_ i_1).Req) && true))))))) (Option.some.inj h) _ (FOk_of [0, 2, 3, 4, 5, 7, 8, 9, 10, 11, 12, 13, 14, 15, 16, 17, 29] hf7 (by kernel_rfl))
    · have h := if_f h hc1
      refine k_exit ?_
      refine x_c nofun ?_
      refine x_l nofun ?_
      refine x_b ?_
      refine k_hp (L' := [⟨v_1, .grow, 1, cat nS l_2⟩]) (by kernel_rfl) ?_
      exact hgo0 l_2 v_1 (Option.some.inj h) _ (FOk_of [2, 3] hf1 (by kernel_rfl))
end Go.Proofs.YthhjooegpjgicaaDoorK
