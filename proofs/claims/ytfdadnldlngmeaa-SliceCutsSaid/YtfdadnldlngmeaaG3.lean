/- The Go functions come to the functions over typed data. Printed by a program of this work. -/
import Derived.Test.YtfdadnldlngmeaaF
import Derived.Test.YtfdadnldlngmeaaProg
import Derived.Test.YtfdadnldlngmeaaSc
import Derived.Test.YtfdadnldlngmeaaSd
import Derived.Test.YtfdadnldlngmeaaSe
import Derived.Test.YtfdadnldlngmeaaG0
import Derived.Test.YtfdadnldlngmeaaG1
import Derived.Test.YtfdadnldlngmeaaG2
namespace Go.Proofs.YtfdadnldlngmeaaK
set_option linter.unusedVariables false
set_option linter.unusedSimpArgs false
set_option maxHeartbeats 4000000
open Go.RowKit
attribute [local irreducible] dwv mops lops lqops lwops kont iter run runK rk okK ex E1 vals val chain chB sel resF
def record_Lines_i0 : List Op1 := [(oM 2 (.k (.string ⟨#[]⟩)) [])]
def record_Lines_i1 : List Op1 := [(oE 3 (.zerob 99 5) [])]
def record_Lines_i2 : List Op1 := [(oM 6 (.t 0) []), (oE 7 (.len (.t 6)) [0]), (oM 8 (.k (.int .i64 0)) [])]
def record_Lines_i3 : List Op1 := [(oE 9 (.bin .lss (.t 8) (.t 7)) [])]
def record_Lines_i4 : List Op1 := [(oE 10 (.ias 9 (.t 6) (.t 8)) []), (oE 11 (.load true 9 (.t 10)) [0]), (oE 5 (.zero [(.int .u16 0), (.int .u8 0), (.bool false), (.bool false), (.bool false), (.bool false), (.bool false), (.bool false), (.bool false)]) []), (oN (.store 9 (.t 5) (.t 11)) [2, 1, 0, 1, 2])]
def record_Lines_i5 : List Op1 := [(oE 12 (.load true 9 (.t 5)) []), (oC 13 52 [(.t 12)] [0]), (oC 14 51 [(.t 3), (.t 13)] [1, 1])]
def record_Lines_i6 : List Op1 := [(oC 15 53 [(.t 3), (.k (.int .u8 10))] [])]
def record_Lines_i7 : IR := (.reg false record_Lines_i6)
def record_Lines_i8 : IR := (.seq (.reg false record_Lines_i5) record_Lines_i7)
def record_Lines_i9 : List Op1 := [(oE 16 (.bin .add (.t 8) (.k (.int .i64 1))) []), (oM 8 (.t 16) [0])]
def record_Lines_i10 : IR := (.reg false record_Lines_i9)
def record_Lines_i11 : IR := (.seq (.block 1 (.seq (.reg false record_Lines_i4) record_Lines_i8)) record_Lines_i10)
def record_Lines_i12 : IR := (.seq (.cond (.t 9) .skip (.exit 0)) record_Lines_i11)
def record_Lines_i13 : IR := (.seq (.reg false record_Lines_i3) record_Lines_i12)
def record_Lines_i14 : IR := (.block 0 (.loop record_Lines_i13))
def record_Lines_i15 : List Op1 := [(oC 17 54 [(.t 3)] []), (oM 2 (.t 17) [0, 0, 0])]
def record_Lines_i16 : IR := .ret
def record_Lines_i17 : IR := (.seq (.reg false record_Lines_i15) record_Lines_i16)
def record_Lines_i18 : IR := (.seq (.seq (.reg false record_Lines_i2) record_Lines_i14) record_Lines_i17)
def record_Lines_i19 : IR := (.seq (.reg false record_Lines_i1) record_Lines_i18)
def record_Lines_ir : IR := (.seq (.reg false record_Lines_i0) record_Lines_i19)
theorem record_Lines_cfn : cFn Try.prog 40 = some (record_Lines_ir, [(.t 2)], 18) := by kernel_rfl
def record_Lines_V (r : (ByteArray)) : V := .s (.string r)
def record_Lines_C (r : (ByteArray)) : X → Fr → Hp → Prop := FinL [(.t 2)] [] (record_Lines_V r) []
theorem record_Lines_ok (l_ : (List api_Rec)) (r : (ByteArray)) (h : record_Lines l_ = some r) : Pure Try.prog 40 [.sl false l_.length (cat api_Rec.v l_)] (record_Lines_V r) := by
  refine ConL.of record_Lines_cfn (Nat.le_of_ble_eq_true (by kernel_rfl)) (Nat.le_of_ble_eq_true (by kernel_rfl)) ?_
  refine k_start ?_
  show dwv Try.prog [] record_Lines_ir (kont Try.prog [] (record_Lines_C r) []) (fr0 [.sl false l_.length (cat api_Rec.v l_)]) []
  have hf : FOk (fr0 [.sl false l_.length (cat api_Rec.v l_)]) [⟨0, [], .sl false l_.length (cat api_Rec.v l_)⟩] := ⟨⟨fun _ => rfl, fun h => (h trivial).elim⟩, trivial⟩
  generalize fr0 [.sl false l_.length (cat api_Rec.v l_)] = f at hf ⊢
  unfold record_Lines at h
  refine k_seq ?_
  refine k_reg ?_
  refine mops_en hf (by kernel_rfl) fun f1 hf1 => ?_
  refine k_c ?_
  refine k_seq ?_
  refine k_reg ?_
  refine mops_en hf1 (by kernel_rfl) fun f2 hf2 => ?_
  refine k_c ?_
  refine k_seq ?_
  refine k_seq ?_
  refine k_reg ?_
  refine mops_en hf2 (by kernel_rfl) fun f3 hf3 => ?_
  refine k_c ?_
  refine k_block ?_
  obtain ⟨o0, hx0, h⟩ := Option.bind_eq_some_iff.1 h
  have hgo0 : ∀ (l_3 : (List Int)) (v_2 : Nat) (z_2 : Bool), l_3 = o0 → ∀ f, FOk f [⟨2, [], .s (.string (⟨#[]⟩ : ByteArray))⟩, ⟨3, [], .ptr 1 0 0⟩] → kont Try.prog [] (record_Lines_C r) ((.c record_Lines_i17) :: []) .normal f [⟨v_2, .buf BU, 1, cat (nI .u8) l_3⟩, ⟨0, .bld BT, 1, [sp z_2 1 0, .ref 0 v_2 0 l_3.length]⟩] := by
    intro l_3 v_2 z_2 e f hf
    subst e
    refine k_c ?_
    refine k_seq ?_
    refine k_reg ?_
    obtain ⟨c5, h⟩ := as_ok h
    refine mops_call rfl hf (av := [.ptr 1 0 0]) (by kernel_rfl) (v := .s (.string (bs l_3))) (L' := [⟨v_2, .dead, 1, []⟩, ⟨0, .bld BT, 1, [sp z_2 1 0, .ref 0 v_2 0 l_3.length]⟩]) (CalL.bldD 0 1 (str_con z_2 v_2 l_3 c5) (by kernel_rfl) rfl (by kernel_rfl) (by kernel_rfl)) (by intro h; cases h) fun f1 hf1 => ?_
    refine mops_en hf1 (by kernel_rfl) fun f2 hf2 => ?_
    refine k_c ?_
    refine k_ret ?_
    obtain rfl := Option.some.inj h
    exact k_fin (fin_ret (.inl rfl) hf2 (vs := [.s (.string (bs l_3))]) (by kernel_rfl) (SettL.pure (FzL.stat rfl)))
  refine k_loop BIG ?_
  refine loop_ind (fun n f L => ∃ (l_2 : (List Int)) (t_1 : Int) (v_1 : Nat) (z_1 : Bool), record_Lines_l0 l_ n l_2 t_1 = some o0 ∧ FOk f [⟨2, [], .s (.string (⟨#[]⟩ : ByteArray))⟩, ⟨3, [], .ptr 1 0 0⟩, ⟨6, [], .sl false l_.length (cat api_Rec.v l_)⟩, ⟨7, [], .s (.int .i64 (ln l_))⟩, ⟨8, [], .s (.int .i64 t_1)⟩] ∧ L = [⟨v_1, .buf BU, 1, cat (nI .u8) l_2⟩, ⟨0, .bld BT, 1, [sp z_1 1 0, .ref 0 v_1 0 l_2.length]⟩]) ?_ ?_ BIG _ _ ⟨([] : List Int), (0), (0), true, hx0, FOk_of [2, 3, 6, 7, 8] hf3 (by kernel_rfl), (by kernel_rfl)⟩
  · rintro f L ⟨l_2, t_1, v_1, z_1, h, _⟩
    cases (show (none : Option _) = some _ from h)
  · rintro n0 R0 ih f L ⟨l_2, t_1, v_1, z_1, h, hf, rfl⟩
    rw [record_Lines_l0] at h
    refine k_seq ?_
    refine k_reg ?_
    refine mops_en hf (by kernel_rfl) fun f1 hf1 => ?_
    refine k_c ?_
    refine k_seq ?_
    refine k_cond hf1 (t := (decide (t_1 < (ln l_)))) (by kernel_rfl) (fun hc1 => ?_) (fun hc1 => ?_)
    · have h := if_t h hc1
      refine k_skip ?_
      refine k_c ?_
      refine k_seq ?_
      refine k_block ?_
      refine k_seq ?_
      refine k_reg ?_
      obtain ⟨c2, h⟩ := as_ok h
      refine mops_adv rfl (v := .ip ((cat api_Rec.v l_).drop ((t_1 : Int).toNat * 9))) hf1 (by kernel_rfl) (e_ias (n := l_.length) (xv := .sl false l_.length (cat api_Rec.v l_)) (k := .i64) (iv := t_1) (p := .ip ((cat api_Rec.v l_).drop ((t_1 : Int).toNat * 9))) (by kernel_rfl) (by kernel_rfl) (by kernel_rfl) (by kernel_rfl) c2) fun f2 hf2 => ?_
      refine mops_adv rfl (v := .agg [.s (.int .u16 (gt l_ t_1).Addr), .s (.int .u8 (gt l_ t_1).Data), .s (.bool (gt l_ t_1).Read), .s (.bool (gt l_ t_1).BA), .s (.bool (gt l_ t_1).BS), .s (.bool (gt l_ t_1).LIC), .s (.bool (gt l_ t_1).AVMA), .s (.bool (gt l_ t_1).BUSY), .s (.bool (gt l_ t_1).Mine)]) hf2 (by kernel_rfl) (e_load_ip (g := api_Rec.v) (l := l_) (iv := t_1) [] (by kernel_rfl) c2 (by kernel_rfl) (by kernel_rfl)) fun f3 hf3 => ?_
      refine mops_en hf3 (by kernel_rfl) fun f4 hf4 => ?_
      refine k_c ?_
      refine k_seq ?_
      refine k_reg ?_
      refine mops_sg 1 hf4 (by kernel_rfl) fun f5 hf5 => ?_
      obtain ⟨r_2, hx_r_2, h⟩ := Option.bind_eq_some_iff.1 h
      refine mops_call rfl hf5 (av := [.agg [.s (.int .u16 (gt l_ t_1).Addr), .s (.int .u8 (gt l_ t_1).Data), .s (.bool (gt l_ t_1).Read), .s (.bool (gt l_ t_1).BA), .s (.bool (gt l_ t_1).BS), .s (.bool (gt l_ t_1).LIC), .s (.bool (gt l_ t_1).AVMA), .s (.bool (gt l_ t_1).BUSY), .s (.bool (gt l_ t_1).Mine)]]) (by kernel_rfl) (v := .s (.string r_2)) (CalL.pure (record_Text_ok (gt l_ t_1) r_2 hx_r_2) rfl rfl (Nat.le_of_ble_eq_true (by kernel_rfl))) (fun _ => rfl) fun f6 hf6 => ?_
      obtain ⟨c3, h⟩ := as_ok h
      refine mops_call rfl hf6 (av := [.ptr 1 0 0, .s (.string r_2)]) (by kernel_rfl) (v := .tup [.s (.int .i64 ((r_2.size : Nat) : Int)), .s .nilIface]) (L' := [⟨(v_1 + 1), .buf BU, 1, cat (nI .u8) (l_2 ++ (sbl r_2))⟩, ⟨0, .bld BT, 1, [sp false 1 0, .ref 0 (v_1 + 1) 0 (l_2 ++ (sbl r_2)).length]⟩, ⟨0, .mem, 1, [.s (.int .u16 (gt l_ t_1).Addr), .s (.int .u8 (gt l_ t_1).Data), .s (.bool (gt l_ t_1).Read), .s (.bool (gt l_ t_1).BA), .s (.bool (gt l_ t_1).BS), .s (.bool (gt l_ t_1).LIC), .s (.bool (gt l_ t_1).AVMA), .s (.bool (gt l_ t_1).BUSY), .s (.bool (gt l_ t_1).Mine)]⟩]) (CalL.bld (xs := [.string r_2]) 0 1 (ws_con z_1 v_1 l_2 r_2 c3) (by kernel_rfl) rfl (by kernel_rfl) (by kernel_rfl)) (by intro h; cases h) fun f7 hf7 => ?_
      refine mops_en hf7 (by kernel_rfl) fun f8 hf8 => ?_
      refine k_c ?_
      refine k_reg ?_
      obtain ⟨c4, h⟩ := as_ok h
      refine mops_call rfl hf8 (av := [.ptr 1 0 0, .s (.int .u8 10)]) (by kernel_rfl) (v := .s .nilIface) (L' := [⟨(((v_1 + 1)) + 1), .buf BU, 1, cat (nI .u8) ((l_2 ++ (sbl r_2)) ++ [10])⟩, ⟨0, .bld BT, 1, [sp false 1 0, .ref 0 (((v_1 + 1)) + 1) 0 ((l_2 ++ (sbl r_2)) ++ [10]).length]⟩, ⟨0, .mem, 1, [.s (.int .u16 (gt l_ t_1).Addr), .s (.int .u8 (gt l_ t_1).Data), .s (.bool (gt l_ t_1).Read), .s (.bool (gt l_ t_1).BA), .s (.bool (gt l_ t_1).BS), .s (.bool (gt l_ t_1).LIC), .s (.bool (gt l_ t_1).AVMA), .s (.bool (gt l_ t_1).BUSY), .s (.bool (gt l_ t_1).Mine)]⟩]) (CalL.bld (xs := [.int .u8 10]) 0 1 (wb_con false ((v_1 + 1)) (l_2 ++ (sbl r_2)) (10) c4) (by kernel_rfl) rfl (by kernel_rfl) (by kernel_rfl)) (by intro h; cases h) fun f9 hf9 => ?_
      refine mops_en hf9 (by kernel_rfl) fun f10 hf10 => ?_
      refine k_b ?_
      refine k_c ?_
      refine k_reg ?_
      refine mops_en hf10 (by kernel_rfl) fun f11 hf11 => ?_
      refine k_l' (vs_cut (l := [⟨2, [], .s (.string (⟨#[]⟩ : ByteArray))⟩, ⟨3, [], .ptr 1 0 0⟩, ⟨6, [], .sl false l_.length (cat api_Rec.v l_)⟩, ⟨7, [], .s (.int .i64 (ln l_))⟩, ⟨8, [], .s (.int .i64 (IntKind.wrap .i64 (t_1 + 1)))⟩]) 2 (by kernel_rfl) (by kernel_rfl) (L' := [⟨(((v_1 + 1)) + 1), .buf BU, 1, cat (nI .u8) ((l_2 ++ (sbl r_2)) ++ [10])⟩, ⟨0, .bld BT, 1, [sp false 1 0, .ref 0 (((v_1 + 1)) + 1) 0 ((l_2 ++ (sbl r_2)) ++ [10]).length]⟩]) (by kernel_rfl) ⟨⟨rfl, rfl⟩, ⟨rfl, rfl⟩, ⟨rfl, (static_under _ _ (by simp [V.static, statics, cat_stat, dropcat_stat]))⟩, ⟨rfl, rfl⟩, ⟨rfl, rfl⟩, trivial⟩ ⟨.inr (.inr (statics_unders _ _ (cat_stat _))), .inr (.inr (bld_under (by kernel_rfl) (by kernel_rfl))), trivial⟩ (FOk_of [2, 3, 6, 7, 8] hf11 (by kernel_rfl)) fun f hf => ?_)
      exact ih _ _ ⟨((l_2 ++ (sbl r_2)) ++ [10]), (IntKind.wrap .i64 (t_1 + 1)), (((v_1 + 1)) + 1), false, h, hf, rfl⟩
    · have h := if_f h hc1
      refine k_exit ?_
      refine x_c nofun ?_
      refine x_l nofun ?_
      refine x_b ?_
      refine k_hp (L' := [⟨v_1, .buf BU, 1, cat (nI .u8) l_2⟩, ⟨0, .bld BT, 1, [sp z_1 1 0, .ref 0 v_1 0 l_2.length]⟩]) (by kernel_rfl) ?_
      exact hgo0 l_2 v_1 z_1 (Option.some.inj h) _ (FOk_of [2, 3] hf1 (by kernel_rfl))
def slice_Part_Text_i0 : List Op1 := [(oE 1 (.box (.t 0)) []), (oM 2 (.k (.string ⟨#[]⟩)) [])]
def slice_Part_Text_i1 : List Op1 := [(oE 4 (.fld 0 (.t 1)) []), (oE 5 (.load false 1 (.t 4)) [0]), (oC 6 40 [(.t 5)] [1]), (oM 3 (.t 6) [2, 2, 0, 1, 2])]
def slice_Part_Text_i2 : List Op1 := [(oE 7 (.fld 1 (.t 1)) []), (oE 8 (.load false 1 (.t 7)) [0])]
def slice_Part_Text_i3 : List Op1 := [(oM 9 (.t 3) []), (oE 10 (.bin .add (.t 9) (.k (.string ⟨#[45, 10]⟩))) [0]), (oM 3 (.t 10) [1, 0, 1])]
def slice_Part_Text_i4 : IR := (.cond (.t 8) (.reg false slice_Part_Text_i3) .skip)
def slice_Part_Text_i5 : List Op1 := [(oM 11 (.t 3) []), (oM 2 (.t 11) [0, 0])]
def slice_Part_Text_i6 : IR := .ret
def slice_Part_Text_i7 : IR := (.seq (.reg false slice_Part_Text_i5) slice_Part_Text_i6)
def slice_Part_Text_i8 : IR := (.seq (.seq (.reg false slice_Part_Text_i2) slice_Part_Text_i4) slice_Part_Text_i7)
def slice_Part_Text_i9 : IR := (.seq (.reg false slice_Part_Text_i1) slice_Part_Text_i8)
def slice_Part_Text_ir : IR := (.seq (.reg false slice_Part_Text_i0) slice_Part_Text_i9)
theorem slice_Part_Text_cfn : cFn Try.prog 44 = some (slice_Part_Text_ir, [(.t 2)], 12) := by kernel_rfl
def slice_Part_Text_V (r : (ByteArray)) : V := .s (.string r)
def slice_Part_Text_C (r : (ByteArray)) : X → Fr → Hp → Prop := FinL [(.t 2)] [] (slice_Part_Text_V r) []
theorem slice_Part_Text_ok (p_ : slice_Part) (r : (ByteArray)) (h : slice_Part_Text p_ = some r) : Pure Try.prog 44 [.agg [.sl false p_.Recs.length (cat api_Rec.v p_.Recs), .s (.bool p_.Ended)]] (slice_Part_Text_V r) := by
  refine ConL.of slice_Part_Text_cfn (Nat.le_of_ble_eq_true (by kernel_rfl)) (Nat.le_of_ble_eq_true (by kernel_rfl)) ?_
  refine k_start ?_
  show dwv Try.prog [] slice_Part_Text_ir (kont Try.prog [] (slice_Part_Text_C r) []) (fr0 [.agg [.sl false p_.Recs.length (cat api_Rec.v p_.Recs), .s (.bool p_.Ended)]]) []
  have hf : FOk (fr0 [.agg [.sl false p_.Recs.length (cat api_Rec.v p_.Recs), .s (.bool p_.Ended)]]) [⟨0, [], .agg [.sl false p_.Recs.length (cat api_Rec.v p_.Recs), .s (.bool p_.Ended)]⟩] := ⟨⟨fun _ => rfl, fun h => (h trivial).elim⟩, trivial⟩
  generalize fr0 [.agg [.sl false p_.Recs.length (cat api_Rec.v p_.Recs), .s (.bool p_.Ended)]] = f at hf ⊢
  unfold slice_Part_Text at h
  refine k_seq ?_
  refine k_reg ?_
  refine mops_en hf (by kernel_rfl) fun f1 hf1 => ?_
  refine k_c ?_
  refine k_seq ?_
  refine k_reg ?_
  refine mops_sg 2 hf1 (by kernel_rfl) fun f2 hf2 => ?_
  obtain ⟨r_, hx_r_, h⟩ := Option.bind_eq_some_iff.1 h
  refine mops_call rfl hf2 (av := [.sl false p_.Recs.length (cat api_Rec.v p_.Recs)]) (by kernel_rfl) (v := .s (.string r_)) (CalL.pure (record_Lines_ok p_.Recs r_ hx_r_) (by simp [V.static, statics, cat_stat]) rfl (Nat.le_of_ble_eq_true (by kernel_rfl))) (fun _ => rfl) fun f3 hf3 => ?_
  refine mops_en hf3 (by kernel_rfl) fun f4 hf4 => ?_
  refine k_c ?_
  refine k_seq ?_
  refine k_seq ?_
  refine k_reg ?_
  refine mops_en hf4 (by kernel_rfl) fun f5 hf5 => ?_
  refine k_c ?_
  refine k_cond hf5 (t := p_.Ended) (by kernel_rfl) (fun hc1 => ?_) (fun hc1 => ?_)
  · have h := if_t h hc1
    refine k_reg ?_
    refine mops_sg 1 hf5 (by kernel_rfl) fun f6 hf6 => ?_
    obtain ⟨c2, h⟩ := as_ok h
    refine mops_adv rfl (v := .s (.string (r_ ++ (⟨#[45, 10]⟩ : ByteArray)))) hf6 (by kernel_rfl) (e_sadd (t := r_) (t' := (⟨#[45, 10]⟩ : ByteArray)) (by kernel_rfl) (by kernel_rfl) c2) fun f7 hf7 => ?_
    refine mops_en hf7 (by kernel_rfl) fun f8 hf8 => ?_
    refine k_c ?_
    refine k_seq ?_
    refine k_reg ?_
    refine mops_en hf8 (by kernel_rfl) fun f9 hf9 => ?_
    refine k_c ?_
    refine k_ret ?_
    obtain rfl := Option.some.inj h
    exact k_fin (fin_ret (.inl rfl) hf9 (vs := [.s (.string (r_ ++ (⟨#[45, 10]⟩ : ByteArray)))]) (by kernel_rfl) (SettL.pure (FzL.stat rfl)))
  · have h := if_f h hc1
    refine k_skip ?_
    refine k_c ?_
    refine k_seq ?_
    refine k_reg ?_
    refine mops_en hf5 (by kernel_rfl) fun f6 hf6 => ?_
    refine k_c ?_
    refine k_ret ?_
    obtain rfl := Option.some.inj h
    exact k_fin (fin_ret (.inl rfl) hf6 (vs := [.s (.string r_)]) (by kernel_rfl) (SettL.pure (FzL.stat rfl)))
def spinetlaw48_told_i0 : List Op1 := [(oE 1 (.box (.t 0)) []), (oM 2 (.k (.bool false)) [])]
def spinetlaw48_told_i1 : List Op1 := [(oM 3 (.k (.int .i64 0)) [])]
def spinetlaw48_told_i2 : List Op1 := [(oM 4 (.k (.int .u16 0)) []), (oM 5 (.k (.int .u16 0)) [0, 0])]
def spinetlaw48_told_i3 : List Op1 := [(oM 6 (.k (.bool false)) []), (oM 7 (.k (.bool false)) [0, 0])]
def spinetlaw48_told_i4 : List Op1 := [(oE 8 (.nilg 9) [])]
def spinetlaw48_told_i5 : List Op1 := [(oM 9 (.k (.int .i64 0)) [])]
def spinetlaw48_told_i6 : List Op1 := [(oM 16 (.t 9) []), (oE 17 (.fld 0 (.t 1)) []), (oE 18 (.load false 1 (.t 17)) [1]), (oE 19 (.len (.t 18)) [2]), (oE 20 (.bin .lss (.t 16) (.t 19)) [0, 3])]
def spinetlaw48_told_i7 : IR := (.cond (.t 20) .skip (.exit 0))
def spinetlaw48_told_i8 : List Op1 := [(oE 23 (.fld 0 (.t 1)) []), (oE 24 (.load false 1 (.t 23)) [0]), (oM 25 (.t 9) []), (oE 26 (.ias 9 (.t 24) (.t 25)) [1, 2]), (oE 27 (.load true 9 (.t 26)) [3]), (oE 10 (.zero [(.int .u16 0), (.int .u8 0), (.bool false), (.bool false), (.bool false), (.bool false), (.bool false), (.bool false), (.bool false)]) []), (oN (.store 9 (.t 10) (.t 27)) [5, 4, 0, 1, 2, 3, 4, 5])]
def spinetlaw48_told_i9 : List Op1 := [(oE 28 (.fld 8 (.t 10)) []), (oE 29 (.load false 1 (.t 28)) [0]), (oE 30 (.un .not (.t 29)) [1])]
def spinetlaw48_told_i10 : IR := (.cond (.t 30) (.exit 1) .skip)
def spinetlaw48_told_i11 : List Op1 := [(oM 31 (.t 3) []), (oE 32 (.bin .add (.t 31) (.k (.int .i64 1))) [0]), (oM 3 (.t 32) [1, 0, 1])]
def spinetlaw48_told_i12 : List Op1 := [(oM 33 (.t 6) []), (oE 34 (.un .not (.t 33)) [0])]
def spinetlaw48_told_i13 : List Op1 := [(oE 35 (.fld 0 (.t 10)) []), (oE 36 (.load false 1 (.t 35)) [0]), (oM 4 (.t 36) [1, 0, 1]), (oM 6 (.k (.bool true)) [2, 0, 1, 2])]
def spinetlaw48_told_i14 : IR := (.cond (.t 34) (.reg false spinetlaw48_told_i13) .skip)
def spinetlaw48_told_i15 : List Op1 := [(oE 37 (.fld 4 (.t 10)) []), (oE 38 (.load false 1 (.t 37)) [0]), (oM 39 (.t 38) [1]), (oG 40 (.fld 3 (.t 10)) 39 true [2]), (oG 41 (.load false 1 (.t 40)) 39 true [3, 2]), (oG 42 (.un .not (.t 41)) 39 true [4, 2]), (oE 43 (.pick (.t 39) (.t 42) (.k (.bool false))) [2, 5]), (oM 44 (.t 43) [6, 2]), (oG 45 (.mv (.t 7)) 44 true [7]), (oG 46 (.un .not (.t 45)) 44 true [8, 7]), (oE 47 (.pick (.t 44) (.t 46) (.k (.bool false))) [7, 9])]
def spinetlaw48_told_i16 : List Op1 := [(oE 48 (.fld 0 (.t 10)) []), (oE 49 (.load false 1 (.t 48)) [0]), (oM 5 (.t 49) [1, 0, 1]), (oM 7 (.k (.bool true)) [2, 0, 1, 2])]
def spinetlaw48_told_i17 : IR := (.cond (.t 47) (.reg false spinetlaw48_told_i16) .skip)
def spinetlaw48_told_i18 : List Op1 := [(oE 50 (.fld 2 (.t 10)) []), (oE 51 (.load false 1 (.t 50)) [0]), (oE 52 (.un .not (.t 51)) [1])]
def spinetlaw48_told_i19 : List Op1 := [(oM 53 (.t 8) []), (oE 54 (.load true 9 (.t 10)) []), (oE 55 (.bslo 9 1 [(.int .u16 0), (.int .u8 0), (.bool false), (.bool false), (.bool false), (.bool false), (.bool false), (.bool false), (.bool false)] [(0, (9, (.t 54)))]) [1]), (oE 56 (.app 25 9 10 (.t 53) (.t 55)) [0, 2]), (oM 8 (.t 56) [3, 3, 0, 1, 2, 3])]
def spinetlaw48_told_i20 : IR := (.cond (.t 52) (.reg false spinetlaw48_told_i19) .skip)
def spinetlaw48_told_i21 : IR := (.seq (.reg false spinetlaw48_told_i18) spinetlaw48_told_i20)
def spinetlaw48_told_i22 : IR := (.seq (.seq (.reg false spinetlaw48_told_i15) spinetlaw48_told_i17) spinetlaw48_told_i21)
def spinetlaw48_told_i23 : IR := (.seq (.seq (.reg false spinetlaw48_told_i12) spinetlaw48_told_i14) spinetlaw48_told_i22)
def spinetlaw48_told_i24 : IR := (.seq (.reg false spinetlaw48_told_i11) spinetlaw48_told_i23)
def spinetlaw48_told_i25 : IR := (.seq (.seq (.reg false spinetlaw48_told_i9) spinetlaw48_told_i10) spinetlaw48_told_i24)
def spinetlaw48_told_i26 : List Op1 := [(oM 21 (.t 9) []), (oE 22 (.bin .add (.t 21) (.k (.int .i64 1))) [0]), (oM 9 (.t 22) [1, 0, 1])]
def spinetlaw48_told_i27 : IR := (.reg false spinetlaw48_told_i26)
def spinetlaw48_told_i28 : IR := (.seq (.block 1 (.seq (.reg false spinetlaw48_told_i8) spinetlaw48_told_i25)) spinetlaw48_told_i27)
def spinetlaw48_told_i29 : IR := (.seq (.seq (.reg false spinetlaw48_told_i6) spinetlaw48_told_i7) spinetlaw48_told_i28)
def spinetlaw48_told_i30 : IR := (.block 0 (.loop spinetlaw48_told_i29))
def spinetlaw48_told_i31 : List Op1 := [(oE 58 (.load true 2 (.t 1)) []), (oC 59 38 [(.t 58)] [0]), (oM 57 (.t 59) [1]), (oE 60 (.ext 0 (.t 57)) [2]), (oE 61 (.ext 1 (.t 57)) [2]), (oM 11 (.t 60) [3, 1, 0, 1, 2, 3]), (oM 12 (.t 61) [4, 5, 0, 1, 2, 3, 4, 5])]
def spinetlaw48_told_i32 : List Op1 := [(oE 63 (.load true 2 (.t 1)) []), (oC 64 39 [(.t 63)] [0]), (oM 62 (.t 64) [1]), (oE 65 (.ext 0 (.t 62)) [2]), (oE 66 (.ext 1 (.t 62)) [2]), (oM 13 (.t 65) [3, 1, 0, 1, 2, 3]), (oM 14 (.t 66) [4, 5, 0, 1, 2, 3, 4, 5])]
def spinetlaw48_told_i33 : List Op1 := [(oE 67 (.fld 0 (.t 1)) []), (oE 68 (.load false 1 (.t 67)) [0]), (oC 69 40 [(.t 68)] [1]), (oM 15 (.t 69) [2, 2, 0, 1, 2])]
def spinetlaw48_told_i34 : List Op1 := [(oE 70 (.fld 1 (.t 1)) []), (oE 71 (.load false 1 (.t 70)) [0])]
def spinetlaw48_told_i35 : List Op1 := [(oM 72 (.t 15) []), (oE 73 (.bin .add (.t 72) (.k (.string ⟨#[45, 10]⟩))) [0]), (oM 15 (.t 73) [1, 0, 1])]
def spinetlaw48_told_i36 : IR := (.cond (.t 71) (.reg false spinetlaw48_told_i35) .skip)
def spinetlaw48_told_i37 : List Op1 := [(oE 74 (.load true 2 (.t 1)) []), (oC 75 41 [(.t 74)] [0]), (oM 76 (.t 3) []), (oE 77 (.bin .eql (.t 75) (.t 76)) [1, 2]), (oM 78 (.t 77) [3, 1]), (oG 79 (.load true 2 (.t 1)) 78 true [4]), ⟨(some 80), (.call 42 [(.t 79)]), (some (78, true)), [5, 4, 4]⟩, (oG 81 (.fld 0 (.t 1)) 78 true [4]), (oG 82 (.load false 1 (.t 81)) 78 true [7, 4]), (oG 83 (.len (.t 82)) 78 true [8, 4]), (oG 84 (.mv (.t 3)) 78 true [4]), (oG 85 (.bin .sub (.t 83) (.t 84)) 78 true [9, 10, 4]), (oG 86 (.bin .eql (.t 80) (.t 85)) 78 true [6, 11, 4]), (oE 87 (.pick (.t 78) (.t 86) (.k (.bool false))) [4, 12]), (oM 88 (.t 87) [13, 6]), (oG 89 (.mv (.t 11)) 88 true [14]), (oG 90 (.mv (.t 4)) 88 true [14]), (oG 91 (.bin .eql (.t 89) (.t 90)) 88 true [15, 16, 14]), (oE 92 (.pick (.t 88) (.t 91) (.k (.bool false))) [14, 17]), (oM 93 (.t 92) [18, 14]), (oG 94 (.mv (.t 12)) 93 true [19]), (oG 95 (.mv (.t 6)) 93 true [19]), (oG 96 (.bbin false (.t 94) (.t 95)) 93 true [20, 21, 19]), (oE 97 (.pick (.t 93) (.t 96) (.k (.bool false))) [19, 22]), (oM 98 (.t 97) [23, 19]), (oG 99 (.mv (.t 13)) 98 true [24]), (oG 100 (.mv (.t 5)) 98 true [24]), (oG 101 (.bin .eql (.t 99) (.t 100)) 98 true [25, 26, 24]), (oE 102 (.pick (.t 98) (.t 101) (.k (.bool false))) [24, 27]), (oM 103 (.t 102) [28, 24]), (oG 104 (.mv (.t 14)) 103 true [29]), (oG 105 (.mv (.t 7)) 103 true [29]), (oG 106 (.bbin false (.t 104) (.t 105)) 103 true [30, 31, 29]), (oE 107 (.pick (.t 103) (.t 106) (.k (.bool false))) [29, 32]), (oM 108 (.t 107) [33, 29]), (oG 109 (.load true 2 (.t 1)) 108 true [34]), ⟨(some 110), (.call 43 [(.t 109)]), (some (108, true)), [35, 34, 34]⟩, (oG 111 (.mv (.t 8)) 108 true [34]), ⟨(some 112), (.call 20 [(.t 110), (.t 111)]), (some (108, true)), [36, 37, 36, 34]⟩, (oE 113 (.pick (.t 108) (.t 112) (.k (.bool false))) [34, 38]), (oM 114 (.t 113) [39, 38]), (oG 115 (.load true 2 (.t 1)) 114 true [40]), ⟨(some 116), (.call 44 [(.t 115)]), (some (114, true)), [41, 40, 40]⟩, (oG 117 (.mv (.t 15)) 114 true [40]), (oG 118 (.bin .eql (.t 116) (.t 117)) 114 true [42, 43, 40]), (oE 119 (.pick (.t 114) (.t 118) (.k (.bool false))) [40, 44]), (oM 2 (.t 119) [45, 42, 0, 1, 2, 3, 4, 5, 6, 7, 8, 9, 10, 11, 12, 13, 14, 15, 16, 17, 18, 19, 20, 21, 22, 23, 24, 25, 26, 27, 28, 29, 30, 31, 32, 33, 34, 35, 36, 37, 38, 39, 40, 41, 42, 43, 44, 45])]
def spinetlaw48_told_i38 : IR := .ret
def spinetlaw48_told_i39 : IR := (.seq (.reg true spinetlaw48_told_i37) spinetlaw48_told_i38)
def spinetlaw48_told_i40 : IR := (.seq (.seq (.reg false spinetlaw48_told_i34) spinetlaw48_told_i36) spinetlaw48_told_i39)
def spinetlaw48_told_i41 : IR := (.seq (.reg false spinetlaw48_told_i33) spinetlaw48_told_i40)
def spinetlaw48_told_i42 : IR := (.seq (.reg false spinetlaw48_told_i32) spinetlaw48_told_i41)
def spinetlaw48_told_i43 : IR := (.seq (.reg false spinetlaw48_told_i31) spinetlaw48_told_i42)
def spinetlaw48_told_i44 : IR := (.seq (.seq (.reg false spinetlaw48_told_i5) spinetlaw48_told_i30) spinetlaw48_told_i43)
def spinetlaw48_told_i45 : IR := (.seq (.reg false spinetlaw48_told_i4) spinetlaw48_told_i44)
def spinetlaw48_told_i46 : IR := (.seq (.reg false spinetlaw48_told_i3) spinetlaw48_told_i45)
def spinetlaw48_told_i47 : IR := (.seq (.reg false spinetlaw48_told_i2) spinetlaw48_told_i46)
def spinetlaw48_told_i48 : IR := (.seq (.reg false spinetlaw48_told_i1) spinetlaw48_told_i47)
def spinetlaw48_told_ir : IR := (.seq (.reg false spinetlaw48_told_i0) spinetlaw48_told_i48)
theorem spinetlaw48_told_cfn : cFn Try.prog 19 = some (spinetlaw48_told_ir, [(.t 2)], 120) := by kernel_rfl
def spinetlaw48_told_V (r : (Bool)) : V := .s (.bool r)
def spinetlaw48_told_C (r : (Bool)) : X → Fr → Hp → Prop := FinL [(.t 2)] [] (spinetlaw48_told_V r) []
theorem spinetlaw48_told_ok (p_ : slice_Part) (r : (Bool)) (h : spinetlaw48_told p_ = some r) : Pure Try.prog 19 [.agg [.sl false p_.Recs.length (cat api_Rec.v p_.Recs), .s (.bool p_.Ended)]] (spinetlaw48_told_V r) := by
  refine ConL.of spinetlaw48_told_cfn (Nat.le_of_ble_eq_true (by kernel_rfl)) (Nat.le_of_ble_eq_true (by kernel_rfl)) ?_
  refine k_start ?_
  show dwv Try.prog [] spinetlaw48_told_ir (kont Try.prog [] (spinetlaw48_told_C r) []) (fr0 [.agg [.sl false p_.Recs.length (cat api_Rec.v p_.Recs), .s (.bool p_.Ended)]]) []
  have hf : FOk (fr0 [.agg [.sl false p_.Recs.length (cat api_Rec.v p_.Recs), .s (.bool p_.Ended)]]) [⟨0, [], .agg [.sl false p_.Recs.length (cat api_Rec.v p_.Recs), .s (.bool p_.Ended)]⟩] := ⟨⟨fun _ => rfl, fun h => (h trivial).elim⟩, trivial⟩
  generalize fr0 [.agg [.sl false p_.Recs.length (cat api_Rec.v p_.Recs), .s (.bool p_.Ended)]] = f at hf ⊢
  unfold spinetlaw48_told at h
  refine k_seq ?_
  refine k_reg ?_
  refine mops_en hf (by kernel_rfl) fun f1 hf1 => ?_
  refine k_c ?_
  refine k_seq ?_
  refine k_reg ?_
  refine mops_en hf1 (by kernel_rfl) fun f2 hf2 => ?_
  refine k_c ?_
  refine k_seq ?_
  refine k_reg ?_
  refine mops_en hf2 (by kernel_rfl) fun f3 hf3 => ?_
  refine k_c ?_
  refine k_seq ?_
  refine k_reg ?_
  refine mops_en hf3 (by kernel_rfl) fun f4 hf4 => ?_
  refine k_c ?_
  refine k_seq ?_
  refine k_reg ?_
  refine mops_en hf4 (by kernel_rfl) fun f5 hf5 => ?_
  refine k_c ?_
  refine k_seq ?_
  refine k_seq ?_
  refine k_reg ?_
  refine mops_en hf5 (by kernel_rfl) fun f6 hf6 => ?_
  refine k_c ?_
  refine k_block ?_
  obtain ⟨o0, hx0, h⟩ := Option.bind_eq_some_iff.1 h
  have hgo0 : ∀ (l_2 : (List api_Rec)) (own_2 : Int) (start_4 : Int) (vector_4 : Int) (some_4 : Bool) (reads_4 : Bool) (v_2 : Nat), (l_2, own_2, start_4, vector_4, some_4, reads_4) = o0 → ∀ f, FOk f [⟨1, [], .ptr 0 0 0⟩, ⟨2, [], .s (.bool false)⟩, ⟨3, [], .s (.int .i64 own_2)⟩, ⟨4, [], .s (.int .u16 start_4)⟩, ⟨5, [], .s (.int .u16 vector_4)⟩, ⟨6, [], .s (.bool some_4)⟩, ⟨7, [], .s (.bool reads_4)⟩, ⟨8, [], .ref 1 v_2 0 l_2.length⟩] → kont Try.prog [] (spinetlaw48_told_C r) ((.c spinetlaw48_told_i43) :: []) .normal f [⟨0, .mem, 1, [.sl false p_.Recs.length (cat api_Rec.v p_.Recs), .s (.bool p_.Ended)]⟩, ⟨v_2, .grow, 9, cat api_Rec.v l_2⟩] := by
    intro l_2 own_2 start_4 vector_4 some_4 reads_4 v_2 e f hf
    subst e
    refine k_c ?_
    refine k_seq ?_
    refine k_reg ?_
    refine mops_sg 1 hf (by kernel_rfl) fun f1 hf1 => ?_
    obtain ⟨r_, hx_r_, h⟩ := Option.bind_eq_some_iff.1 h
    refine mops_call rfl hf1 (av := [.agg [.sl false p_.Recs.length (cat api_Rec.v p_.Recs), .s (.bool p_.Ended)]]) (by kernel_rfl) (v := .tup [.s (.int .u16 r_.1), .s (.bool r_.2)]) (CalL.pure (slice_Part_Start_ok p_ r_ hx_r_) (by simp [V.static, statics, cat_stat]) rfl (Nat.le_of_ble_eq_true (by kernel_rfl))) (fun _ => rfl) fun f2 hf2 => ?_
    refine mops_en hf2 (by kernel_rfl) fun f3 hf3 => ?_
    refine k_c ?_
    refine k_seq ?_
    refine k_reg ?_
    refine mops_sg 1 hf3 (by kernel_rfl) fun f4 hf4 => ?_
    obtain ⟨r_1, hx_r_1, h⟩ := Option.bind_eq_some_iff.1 h
    refine mops_call rfl hf4 (av := [.agg [.sl false p_.Recs.length (cat api_Rec.v p_.Recs), .s (.bool p_.Ended)]]) (by kernel_rfl) (v := .tup [.s (.int .u16 r_1.1), .s (.bool r_1.2)]) (CalL.pure (slice_Part_Vector_ok p_ r_1 hx_r_1) (by simp [V.static, statics, cat_stat]) rfl (Nat.le_of_ble_eq_true (by kernel_rfl))) (fun _ => rfl) fun f5 hf5 => ?_
    refine mops_en hf5 (by kernel_rfl) fun f6 hf6 => ?_
    refine k_c ?_
    refine k_seq ?_
    refine k_reg ?_
    refine mops_sg 2 hf6 (by kernel_rfl) fun f7 hf7 => ?_
    obtain ⟨r_2, hx_r_2, h⟩ := Option.bind_eq_some_iff.1 h
    refine mops_call rfl hf7 (av := [.sl false p_.Recs.length (cat api_Rec.v p_.Recs)]) (by kernel_rfl) (v := .s (.string r_2)) (CalL.pure (record_Lines_ok p_.Recs r_2 hx_r_2) (by simp [V.static, statics, cat_stat]) rfl (Nat.le_of_ble_eq_true (by kernel_rfl))) (fun _ => rfl) fun f8 hf8 => ?_
    refine mops_en hf8 (by kernel_rfl) fun f9 hf9 => ?_
    refine k_c ?_
    refine k_seq ?_
    refine k_seq ?_
    refine k_reg ?_
    refine mops_en hf9 (by kernel_rfl) fun f10 hf10 => ?_
    refine k_c ?_
    have hj3 : ∀ (want_ : ByteArray), spinetlaw48_told_j2 p_ l_2 own_2 start_4 vector_4 some_4 reads_4 r_ r_1 want_ = some r → ∀ f, FOk f [⟨1, [], .ptr 0 0 0⟩, ⟨2, [], .s (.bool false)⟩, ⟨3, [], .s (.int .i64 own_2)⟩, ⟨4, [], .s (.int .u16 start_4)⟩, ⟨5, [], .s (.int .u16 vector_4)⟩, ⟨6, [], .s (.bool some_4)⟩, ⟨7, [], .s (.bool reads_4)⟩, ⟨8, [], .ref 1 v_2 0 l_2.length⟩, ⟨11, [], .s (.int .u16 r_.1)⟩, ⟨12, [], .s (.bool r_.2)⟩, ⟨13, [], .s (.int .u16 r_1.1)⟩, ⟨14, [], .s (.bool r_1.2)⟩, ⟨15, [], .s (.string want_)⟩] → kont Try.prog [] (spinetlaw48_told_C r) ((.c spinetlaw48_told_i39) :: []) .normal f [⟨0, .mem, 1, [.sl false p_.Recs.length (cat api_Rec.v p_.Recs), .s (.bool p_.Ended)]⟩, ⟨v_2, .grow, 9, cat api_Rec.v l_2⟩] := by
      intro want_ h f hf
      unfold spinetlaw48_told_j2 at h
      refine k_c ?_
      refine k_seq ?_
      refine k_regq ?_
      refine mops_sg 1 hf (by kernel_rfl) fun f1 hf1 => ?_
      obtain ⟨r_3, hx_r_3, h⟩ := Option.bind_eq_some_iff.1 h
      refine mops_call rfl hf1 (av := [.agg [.sl false p_.Recs.length (cat api_Rec.v p_.Recs), .s (.bool p_.Ended)]]) (by kernel_rfl) (v := .s (.int .i64 r_3)) (CalL.pure (slice_Part_Own_ok p_ r_3 hx_r_3) (by simp [V.static, statics, cat_stat]) rfl (Nat.le_of_ble_eq_true (by kernel_rfl))) (fun _ => rfl) fun f2 hf2 => ?_
      refine mops_sg 4 hf2 (by kernel_rfl) fun f3 hf3 => ?_
      obtain ⟨r_4, hx_r_4, h⟩ := Option.bind_eq_some_iff.1 h
      refine mops_gcall (dst := (some 80)) (m := 42) (args := [(.t 79)]) (aft := [5, 4, 4]) (t := 78) (w := true) (ch := [(78, true)]) (b := (r_3 == own_2)) (by kernel_rfl) hf3 (by kernel_rfl) (by kernel_rfl) (av := [.agg [.sl false p_.Recs.length (cat api_Rec.v p_.Recs), .s (.bool p_.Ended)]]) (by kernel_rfl) (v := .s (.int .i64 r_4)) (by kernel_rfl) (fun hb10 => (CalL.pure (slice_Part_Lost_ok p_ r_4 (if_t hx_r_4 hb10)) (by simp [V.static, statics, cat_stat]) rfl (Nat.le_of_ble_eq_true (by kernel_rfl)))) fun f4 hf4 => ?_
      refine mops_sg 29 hf4 (by kernel_rfl) fun f5 hf5 => ?_
      obtain ⟨r_5, hx_r_5, h⟩ := Option.bind_eq_some_iff.1 h
      refine mops_gcall (dst := (some 110)) (m := 43) (args := [(.t 109)]) (aft := [35, 34, 34]) (t := 108) (w := true) (ch := [(108, true)]) (b := ((((((r_3 == own_2) && (r_4 == (IntKind.wrap .i64 ((ln p_.Recs) - own_2)))) && (r_.1 == start_4)) && (r_.2 == some_4)) && (r_1.1 == vector_4)) && (r_1.2 == reads_4))) (by kernel_rfl) hf5 (by kernel_rfl) (by kernel_rfl) (av := [.agg [.sl false p_.Recs.length (cat api_Rec.v p_.Recs), .s (.bool p_.Ended)]]) (by kernel_rfl) (v := .sl false r_5.length (cat api_Rec.v r_5)) (by kernel_rfl) (fun hb11 => (CalL.pure (slice_Part_Writes_ok p_ r_5 (if_t hx_r_5 hb11)) (by simp [V.static, statics, cat_stat]) (by simp [V.static, statics, cat_stat, slice_Part_Writes_V]) (Nat.le_of_ble_eq_true (by kernel_rfl)))) fun f6 hf6 => ?_
      refine mops_seg [1, 2, 15, 108, 110, 111] 1 hf6 (l' := [⟨1, [], .ptr 0 0 0⟩, ⟨2, [], .s (.bool false)⟩, ⟨15, [], .s (.string want_)⟩, ⟨108, [], .s (.bool ((((((r_3 == own_2) && (r_4 == (IntKind.wrap .i64 ((ln p_.Recs) - own_2)))) && (r_.1 == start_4)) && (r_.2 == some_4)) && (r_1.1 == vector_4)) && (r_1.2 == reads_4)))⟩, ⟨110, [(108, true)], .sl false r_5.length (cat api_Rec.v r_5)⟩, ⟨111, [(108, true)], .ref 1 v_2 0 l_2.length⟩]) (L' := [⟨0, .mem, 1, [.sl false p_.Recs.length (cat api_Rec.v p_.Recs), .s (.bool p_.Ended)]⟩, ⟨v_2, .grow, 9, cat api_Rec.v l_2⟩]) (by kernel_rfl) fun f7 hf7 => ?_
      obtain ⟨r_6, hx_r_6, h⟩ := Option.bind_eq_some_iff.1 h
      refine mops_gcall (dst := (some 112)) (m := 20) (args := [(.t 110), (.t 111)]) (aft := [36, 37, 36, 34]) (t := 108) (w := true) (ch := [(108, true)]) (b := ((((((r_3 == own_2) && (r_4 == (IntKind.wrap .i64 ((ln p_.Recs) - own_2)))) && (r_.1 == start_4)) && (r_.2 == some_4)) && (r_1.1 == vector_4)) && (r_1.2 == reads_4))) (by kernel_rfl) hf7 (by kernel_rfl) (by kernel_rfl) (av := [.sl false r_5.length (cat api_Rec.v r_5), .ref 1 v_2 0 l_2.length]) (by kernel_rfl) (v := .s (.bool r_6)) (by kernel_rfl) (fun hb12 => (CalL.lend (slices_Equal_sl_api_Rec_api_Rec_ok r_5 l_2 r_6 (if_t hx_r_6 hb12)) rfl (Lends.cons (Lend.stat (by simp [V.static, cat_stat])) (Lends.cons (Lend.whole (g := api_Rec.v) (kd := .grow) (l := l_2) rfl (live_grow (by kernel_rfl))) Lends.nil)) (by kernel_rfl))) fun f8 hf8 => ?_
      refine mops_sg 3 hf8 (by kernel_rfl) fun f9 hf9 => ?_
      obtain ⟨r_7, hx_r_7, h⟩ := Option.bind_eq_some_iff.1 h
      refine mops_gcall (dst := (some 116)) (m := 44) (args := [(.t 115)]) (aft := [41, 40, 40]) (t := 114) (w := true) (ch := [(114, true)]) (b := (((((((r_3 == own_2) && (r_4 == (IntKind.wrap .i64 ((ln p_.Recs) - own_2)))) && (r_.1 == start_4)) && (r_.2 == some_4)) && (r_1.1 == vector_4)) && (r_1.2 == reads_4)) && r_6)) (by kernel_rfl) hf9 (by kernel_rfl) (by kernel_rfl) (av := [.agg [.sl false p_.Recs.length (cat api_Rec.v p_.Recs), .s (.bool p_.Ended)]]) (by kernel_rfl) (v := .s (.string r_7)) (by kernel_rfl) (fun hb13 => (CalL.pure (slice_Part_Text_ok p_ r_7 (if_t hx_r_7 hb13)) (by simp [V.static, statics, cat_stat]) rfl (Nat.le_of_ble_eq_true (by kernel_rfl)))) fun f10 hf10 => ?_
      refine mops_en hf10 (by kernel_rfl) fun f11 hf11 => ?_
      refine k_c ?_
      refine k_ret ?_
      obtain rfl := Option.some.inj h
      exact k_fin (fin_ret (.inl rfl) hf11 (vs := [.s (.bool ((((((((r_3 == own_2) && (r_4 == (IntKind.wrap .i64 ((ln p_.Recs) - own_2)))) && (r_.1 == start_4)) && (r_.2 == some_4)) && (r_1.1 == vector_4)) && (r_1.2 == reads_4)) && r_6) && (r_7.toList == want_.toList)))]) (by kernel_rfl) (SettL.pure (FzL.stat rfl)))
    refine k_cond hf10 (t := p_.Ended) (by kernel_rfl) (fun hc8 => ?_) (fun hc8 => ?_)
    · have h := if_t h hc8
      refine k_reg ?_
      refine mops_sg 1 hf10 (by kernel_rfl) fun f11 hf11 => ?_
      obtain ⟨c9, h⟩ := as_ok h
      refine mops_adv rfl (v := .s (.string (r_2 ++ (⟨#[45, 10]⟩ : ByteArray)))) hf11 (by kernel_rfl) (e_sadd (t := r_2) (t' := (⟨#[45, 10]⟩ : ByteArray)) (by kernel_rfl) (by kernel_rfl) c9) fun f12 hf12 => ?_
      refine mops_en hf12 (by kernel_rfl) fun f13 hf13 => ?_
      refine k_hp (L' := [⟨0, .mem, 1, [.sl false p_.Recs.length (cat api_Rec.v p_.Recs), .s (.bool p_.Ended)]⟩, ⟨v_2, .grow, 9, cat api_Rec.v l_2⟩]) (by kernel_rfl) ?_
      exact hj3 (r_2 ++ (⟨#[45, 10]⟩ : ByteArray)) h _ (FOk_of [1, 2, 3, 4, 5, 6, 7, 8, 11, 12, 13, 14, 15] hf13 (by kernel_rfl))
    · have h := if_f h hc8
      refine k_skip ?_
      refine k_hp (L' := [⟨0, .mem, 1, [.sl false p_.Recs.length (cat api_Rec.v p_.Recs), .s (.bool p_.Ended)]⟩, ⟨v_2, .grow, 9, cat api_Rec.v l_2⟩]) (by kernel_rfl) ?_
      exact hj3 r_2 h _ (FOk_of [1, 2, 3, 4, 5, 6, 7, 8, 11, 12, 13, 14, 15] hf10 (by kernel_rfl))
  refine k_loop BIG ?_
  refine loop_ind (fun n f L => ∃ (l_1 : (List api_Rec)) (own_1 : Int) (start_3 : Int) (vector_3 : Int) (some_3 : Bool) (reads_3 : Bool) (i_1 : Int) (v_1 : Nat), spinetlaw48_told_l0 p_ n l_1 own_1 start_3 vector_3 some_3 reads_3 i_1 = some o0 ∧ FOk f [⟨1, [], .ptr 0 0 0⟩, ⟨2, [], .s (.bool false)⟩, ⟨3, [], .s (.int .i64 own_1)⟩, ⟨4, [], .s (.int .u16 start_3)⟩, ⟨5, [], .s (.int .u16 vector_3)⟩, ⟨6, [], .s (.bool some_3)⟩, ⟨7, [], .s (.bool reads_3)⟩, ⟨8, [], .ref 1 v_1 0 l_1.length⟩, ⟨9, [], .s (.int .i64 i_1)⟩] ∧ L = [⟨0, .mem, 1, [.sl false p_.Recs.length (cat api_Rec.v p_.Recs), .s (.bool p_.Ended)]⟩, ⟨v_1, .grow, 9, cat api_Rec.v l_1⟩]) ?_ ?_ BIG _ _ ⟨([] : List api_Rec), (0), (0), (0), false, false, (0), (0), hx0, FOk_of [1, 2, 3, 4, 5, 6, 7, 8, 9] hf6 (by kernel_rfl), (by kernel_rfl)⟩
  · rintro f L ⟨l_1, own_1, start_3, vector_3, some_3, reads_3, i_1, v_1, h, _⟩
    cases (show (none : Option _) = some _ from h)
  · rintro n0 R0 ih f L ⟨l_1, own_1, start_3, vector_3, some_3, reads_3, i_1, v_1, h, hf, rfl⟩
    rw [spinetlaw48_told_l0] at h
    refine k_seq ?_
    refine k_seq ?_
    refine k_reg ?_
    refine mops_en hf (by kernel_rfl) fun f1 hf1 => ?_
    refine k_c ?_
    refine k_cond hf1 (t := (decide (i_1 < (ln p_.Recs)))) (by kernel_rfl) (fun hc1 => ?_) (fun hc1 => ?_)
    · have h := if_t h hc1
      refine k_skip ?_
      refine k_c ?_
      refine k_seq ?_
      refine k_block ?_
      refine k_seq ?_
      refine k_reg ?_
      refine mops_sg 3 hf1 (by kernel_rfl) fun f2 hf2 => ?_
      obtain ⟨c2, h⟩ := as_ok h
      refine mops_adv rfl (v := .ip ((cat api_Rec.v p_.Recs).drop ((i_1 : Int).toNat * 9))) hf2 (by kernel_rfl) (e_ias (n := p_.Recs.length) (xv := .sl false p_.Recs.length (cat api_Rec.v p_.Recs)) (k := .i64) (iv := i_1) (p := .ip ((cat api_Rec.v p_.Recs).drop ((i_1 : Int).toNat * 9))) (by kernel_rfl) (by kernel_rfl) (by kernel_rfl) (by kernel_rfl) c2) fun f3 hf3 => ?_
      refine mops_adv rfl (v := .agg [.s (.int .u16 (gt p_.Recs i_1).Addr), .s (.int .u8 (gt p_.Recs i_1).Data), .s (.bool (gt p_.Recs i_1).Read), .s (.bool (gt p_.Recs i_1).BA), .s (.bool (gt p_.Recs i_1).BS), .s (.bool (gt p_.Recs i_1).LIC), .s (.bool (gt p_.Recs i_1).AVMA), .s (.bool (gt p_.Recs i_1).BUSY), .s (.bool (gt p_.Recs i_1).Mine)]) hf3 (by kernel_rfl) (e_load_ip (g := api_Rec.v) (l := p_.Recs) (iv := i_1) [] (by kernel_rfl) c2 (by kernel_rfl) (by kernel_rfl)) fun f4 hf4 => ?_
      refine mops_en hf4 (by kernel_rfl) fun f5 hf5 => ?_
      refine k_c ?_
      refine k_seq ?_
      refine k_seq ?_
      refine k_reg ?_
      refine mops_en hf5 (by kernel_rfl) fun f6 hf6 => ?_
      refine k_c ?_
      refine k_cond hf6 (t := (!(gt p_.Recs i_1).Mine)) (by kernel_rfl) (fun hc3 => ?_) (fun hc3 => ?_)
      · have h := if_t h hc3
        refine k_exit ?_
        refine x_c nofun ?_
        refine x_b ?_
        refine k_c ?_
        refine k_reg ?_
        refine mops_en hf6 (by kernel_rfl) fun f7 hf7 => ?_
        refine k_l' (vs_cut (l := [⟨1, [], .ptr 0 0 0⟩, ⟨2, [], .s (.bool false)⟩, ⟨3, [], .s (.int .i64 own_1)⟩, ⟨4, [], .s (.int .u16 start_3)⟩, ⟨5, [], .s (.int .u16 vector_3)⟩, ⟨6, [], .s (.bool some_3)⟩, ⟨7, [], .s (.bool reads_3)⟩, ⟨8, [], .ref 1 v_1 0 l_1.length⟩, ⟨9, [], .s (.int .i64 (IntKind.wrap .i64 (i_1 + 1)))⟩]) 2 (by kernel_rfl) (by kernel_rfl) (L' := [⟨0, .mem, 1, [.sl false p_.Recs.length (cat api_Rec.v p_.Recs), .s (.bool p_.Ended)]⟩, ⟨v_1, .grow, 9, cat api_Rec.v l_1⟩]) (by kernel_rfl) ⟨⟨rfl, rfl⟩, ⟨rfl, rfl⟩, ⟨rfl, rfl⟩, ⟨rfl, rfl⟩, ⟨rfl, rfl⟩, ⟨rfl, rfl⟩, ⟨rfl, rfl⟩, ⟨rfl, rfl⟩, ⟨rfl, rfl⟩, trivial⟩ ⟨.inr (.inr (statics_unders _ _ (by simp [V.static, statics, cat_stat, dropcat_stat]))), .inr (.inr (statics_unders _ _ (cat_stat _))), trivial⟩ (FOk_of [1, 2, 3, 4, 5, 6, 7, 8, 9] hf7 (by kernel_rfl)) fun f hf => ?_)
        exact ih _ _ ⟨l_1, own_1, start_3, vector_3, some_3, reads_3, (IntKind.wrap .i64 (i_1 + 1)), v_1, h, hf, rfl⟩
      · have h := if_f h hc3
        refine k_skip ?_
        refine k_c ?_
        refine k_seq ?_
        refine k_reg ?_
        refine mops_en hf6 (by kernel_rfl) fun f7 hf7 => ?_
        refine k_c ?_
        refine k_seq ?_
        refine k_seq ?_
        refine k_reg ?_
        refine mops_en hf7 (by kernel_rfl) fun f8 hf8 => ?_
        refine k_c ?_
        have hj1 : ∀ (start_5 : Int) (some_5 : Bool), spinetlaw48_told_j1 ((spinetlaw48_told_l0 p_ n0)) p_ l_1 own_1 vector_3 reads_3 i_1 start_5 some_5 = some o0 → ∀ f, FOk f [⟨1, [], .ptr 0 0 0⟩, ⟨2, [], .s (.bool false)⟩, ⟨3, [], .s (.int .i64 (IntKind.wrap .i64 (own_1 + 1)))⟩, ⟨4, [], .s (.int .u16 start_5)⟩, ⟨5, [], .s (.int .u16 vector_3)⟩, ⟨6, [], .s (.bool some_5)⟩, ⟨7, [], .s (.bool reads_3)⟩, ⟨8, [], .ref 1 v_1 0 l_1.length⟩, ⟨9, [], .s (.int .i64 i_1)⟩, ⟨10, [], .ptr 2 0 0⟩, ⟨16, [], .s (.int .i64 i_1)⟩, ⟨17, [], .ptr 0 0 0⟩, ⟨18, [], .sl false p_.Recs.length (cat api_Rec.v p_.Recs)⟩, ⟨19, [], .s (.int .i64 (ln p_.Recs))⟩, ⟨20, [], .s (.bool (decide (i_1 < (ln p_.Recs))))⟩, ⟨23, [], .ptr 0 0 0⟩, ⟨24, [], .sl false p_.Recs.length (cat api_Rec.v p_.Recs)⟩, ⟨25, [], .s (.int .i64 i_1)⟩, ⟨26, [], .ip ((cat api_Rec.v p_.Recs).drop ((i_1 : Int).toNat * 9))⟩, ⟨27, [], .agg [.s (.int .u16 (gt p_.Recs i_1).Addr), .s (.int .u8 (gt p_.Recs i_1).Data), .s (.bool (gt p_.Recs i_1).Read), .s (.bool (gt p_.Recs i_1).BA), .s (.bool (gt p_.Recs i_1).BS), .s (.bool (gt p_.Recs i_1).LIC), .s (.bool (gt p_.Recs i_1).AVMA), .s (.bool (gt p_.Recs i_1).BUSY), .s (.bool (gt p_.Recs i_1).Mine)]⟩, ⟨28, [], .ptr 2 0 8⟩, ⟨29, [], .s (.bool (gt p_.Recs i_1).Mine)⟩, ⟨30, [], .s (.bool (!(gt p_.Recs i_1).Mine))⟩, ⟨31, [], .s (.int .i64 own_1)⟩, ⟨32, [], .s (.int .i64 (IntKind.wrap .i64 (own_1 + 1)))⟩, ⟨33, [], .s (.bool some_3)⟩, ⟨34, [], .s (.bool (!some_3))⟩] → kont Try.prog [] (spinetlaw48_told_C r) ((.c spinetlaw48_told_i22) :: (.b 1) :: (.c spinetlaw48_told_i27) :: (.l R0) :: (.b 0) :: (.c spinetlaw48_told_i43) :: []) .normal f [⟨0, .mem, 1, [.sl false p_.Recs.length (cat api_Rec.v p_.Recs), .s (.bool p_.Ended)]⟩, ⟨v_1, .grow, 9, cat api_Rec.v l_1⟩, ⟨0, .mem, 1, [.s (.int .u16 (gt p_.Recs i_1).Addr), .s (.int .u8 (gt p_.Recs i_1).Data), .s (.bool (gt p_.Recs i_1).Read), .s (.bool (gt p_.Recs i_1).BA), .s (.bool (gt p_.Recs i_1).BS), .s (.bool (gt p_.Recs i_1).LIC), .s (.bool (gt p_.Recs i_1).AVMA), .s (.bool (gt p_.Recs i_1).BUSY), .s (.bool (gt p_.Recs i_1).Mine)]⟩] := by
          intro start_5 some_5 h f hf
          unfold spinetlaw48_told_j1 at h
          refine k_c ?_
          refine k_seq ?_
          refine k_seq ?_
          refine k_reg ?_
          refine mops_en hf (by kernel_rfl) fun f1 hf1 => ?_
          refine k_c ?_
          have hj2 : ∀ (vector_5 : Int) (reads_5 : Bool), spinetlaw48_told_j0 ((spinetlaw48_told_l0 p_ n0)) p_ l_1 own_1 i_1 start_5 some_5 vector_5 reads_5 = some o0 → ∀ f, FOk f [⟨1, [], .ptr 0 0 0⟩, ⟨2, [], .s (.bool false)⟩, ⟨3, [], .s (.int .i64 (IntKind.wrap .i64 (own_1 + 1)))⟩, ⟨4, [], .s (.int .u16 start_5)⟩, ⟨5, [], .s (.int .u16 vector_5)⟩, ⟨6, [], .s (.bool some_5)⟩, ⟨7, [], .s (.bool reads_5)⟩, ⟨8, [], .ref 1 v_1 0 l_1.length⟩, ⟨9, [], .s (.int .i64 i_1)⟩, ⟨10, [], .ptr 2 0 0⟩, ⟨16, [], .s (.int .i64 i_1)⟩, ⟨17, [], .ptr 0 0 0⟩, ⟨18, [], .sl false p_.Recs.length (cat api_Rec.v p_.Recs)⟩, ⟨19, [], .s (.int .i64 (ln p_.Recs))⟩, ⟨20, [], .s (.bool (decide (i_1 < (ln p_.Recs))))⟩, ⟨23, [], .ptr 0 0 0⟩, ⟨24, [], .sl false p_.Recs.length (cat api_Rec.v p_.Recs)⟩, ⟨25, [], .s (.int .i64 i_1)⟩, ⟨26, [], .ip ((cat api_Rec.v p_.Recs).drop ((i_1 : Int).toNat * 9))⟩, ⟨27, [], .agg [.s (.int .u16 (gt p_.Recs i_1).Addr), .s (.int .u8 (gt p_.Recs i_1).Data), .s (.bool (gt p_.Recs i_1).Read), .s (.bool (gt p_.Recs i_1).BA), .s (.bool (gt p_.Recs i_1).BS), .s (.bool (gt p_.Recs i_1).LIC), .s (.bool (gt p_.Recs i_1).AVMA), .s (.bool (gt p_.Recs i_1).BUSY), .s (.bool (gt p_.Recs i_1).Mine)]⟩, ⟨28, [], .ptr 2 0 8⟩, ⟨29, [], .s (.bool (gt p_.Recs i_1).Mine)⟩, ⟨30, [], .s (.bool (!(gt p_.Recs i_1).Mine))⟩, ⟨31, [], .s (.int .i64 own_1)⟩, ⟨32, [], .s (.int .i64 (IntKind.wrap .i64 (own_1 + 1)))⟩, ⟨33, [], .s (.bool some_3)⟩, ⟨34, [], .s (.bool (!some_3))⟩, ⟨37, [], .ptr 2 0 4⟩, ⟨38, [], .s (.bool (gt p_.Recs i_1).BS)⟩, ⟨39, [], .s (.bool (gt p_.Recs i_1).BS)⟩, ⟨43, [], .s (.bool ((gt p_.Recs i_1).BS && (!(gt p_.Recs i_1).BA)))⟩, ⟨44, [], .s (.bool ((gt p_.Recs i_1).BS && (!(gt p_.Recs i_1).BA)))⟩, ⟨47, [], .s (.bool (((gt p_.Recs i_1).BS && (!(gt p_.Recs i_1).BA)) && (!reads_3)))⟩] → kont Try.prog [] (spinetlaw48_told_C r) ((.c spinetlaw48_told_i21) :: (.b 1) :: (.c spinetlaw48_told_i27) :: (.l R0) :: (.b 0) :: (.c spinetlaw48_told_i43) :: []) .normal f [⟨0, .mem, 1, [.sl false p_.Recs.length (cat api_Rec.v p_.Recs), .s (.bool p_.Ended)]⟩, ⟨v_1, .grow, 9, cat api_Rec.v l_1⟩, ⟨0, .mem, 1, [.s (.int .u16 (gt p_.Recs i_1).Addr), .s (.int .u8 (gt p_.Recs i_1).Data), .s (.bool (gt p_.Recs i_1).Read), .s (.bool (gt p_.Recs i_1).BA), .s (.bool (gt p_.Recs i_1).BS), .s (.bool (gt p_.Recs i_1).LIC), .s (.bool (gt p_.Recs i_1).AVMA), .s (.bool (gt p_.Recs i_1).BUSY), .s (.bool (gt p_.Recs i_1).Mine)]⟩] := by
            intro vector_5 reads_5 h f hf
            unfold spinetlaw48_told_j0 at h
            refine k_c ?_
            refine k_seq ?_
            refine k_reg ?_
            refine mops_en hf (by kernel_rfl) fun f1 hf1 => ?_
            refine k_c ?_
            refine k_cond hf1 (t := (!(gt p_.Recs i_1).Read)) (by kernel_rfl) (fun hc6 => ?_) (fun hc6 => ?_)
            · have h := if_t h hc6
              refine k_reg ?_
              refine mops_sg 3 hf1 (by kernel_rfl) fun f2 hf2 => ?_
              obtain ⟨c7, h⟩ := as_ok h
              refine mops_adv rfl (v := .ref 1 (v_1 + 1) 0 (l_1 ++ [(gt p_.Recs i_1)]).length) hf2 (by kernel_rfl) (e_app (g := api_Rec.v) (l := l_1) (l' := [(gt p_.Recs i_1)]) (b := 1) (ver := v_1) (n := l_1.length) rfl (by kernel_rfl) rfl (live_grow (by kernel_rfl)) (sll_ev (v := .ref 3 0 0 1) (by kernel_rfl) (sll_ref (B := ⟨0, .grow, 9, cat api_Rec.v [(gt p_.Recs i_1)]⟩) (by kernel_rfl) (live_grow (by kernel_rfl)))) (slc_ev (v := .ref 3 0 0 1) (by kernel_rfl) (slc_ref (g := api_Rec.v) (l := [(gt p_.Recs i_1)]) (kd := .grow) (q := 9) (by kernel_rfl) (live_grow (by kernel_rfl)))) c7) fun f3 hf3 => ?_
              refine mops_en hf3 (by kernel_rfl) fun f4 hf4 => ?_
              refine k_b ?_
              refine k_c ?_
              refine k_reg ?_
              refine mops_en hf4 (by kernel_rfl) fun f5 hf5 => ?_
              refine k_l' (vs_cut (l := [⟨1, [], .ptr 0 0 0⟩, ⟨2, [], .s (.bool false)⟩, ⟨3, [], .s (.int .i64 (IntKind.wrap .i64 (own_1 + 1)))⟩, ⟨4, [], .s (.int .u16 start_5)⟩, ⟨5, [], .s (.int .u16 vector_5)⟩, ⟨6, [], .s (.bool some_5)⟩, ⟨7, [], .s (.bool reads_5)⟩, ⟨8, [], .ref 1 (v_1 + 1) 0 (l_1 ++ [(gt p_.Recs i_1)]).length⟩, ⟨9, [], .s (.int .i64 (IntKind.wrap .i64 (i_1 + 1)))⟩]) 2 (by kernel_rfl) (by kernel_rfl) (L' := [⟨0, .mem, 1, [.sl false p_.Recs.length (cat api_Rec.v p_.Recs), .s (.bool p_.Ended)]⟩, ⟨(v_1 + 1), .grow, 9, cat api_Rec.v (l_1 ++ [(gt p_.Recs i_1)])⟩]) (by kernel_rfl) ⟨⟨rfl, rfl⟩, ⟨rfl, rfl⟩, ⟨rfl, rfl⟩, ⟨rfl, rfl⟩, ⟨rfl, rfl⟩, ⟨rfl, rfl⟩, ⟨rfl, rfl⟩, ⟨rfl, rfl⟩, ⟨rfl, rfl⟩, trivial⟩ ⟨.inr (.inr (statics_unders _ _ (by simp [V.static, statics, cat_stat, dropcat_stat]))), .inr (.inr (statics_unders _ _ (cat_stat _))), trivial⟩ (FOk_of [1, 2, 3, 4, 5, 6, 7, 8, 9] hf5 (by kernel_rfl)) fun f hf => ?_)
              exact ih _ _ ⟨(l_1 ++ [(gt p_.Recs i_1)]), (IntKind.wrap .i64 (own_1 + 1)), start_5, vector_5, some_5, reads_5, (IntKind.wrap .i64 (i_1 + 1)), (v_1 + 1), h, hf, rfl⟩
            · have h := if_f h hc6
              refine k_skip ?_
              refine k_b ?_
              refine k_c ?_
              refine k_reg ?_
              refine mops_en hf1 (by kernel_rfl) fun f2 hf2 => ?_
              refine k_l' (vs_cut (l := [⟨1, [], .ptr 0 0 0⟩, ⟨2, [], .s (.bool false)⟩, ⟨3, [], .s (.int .i64 (IntKind.wrap .i64 (own_1 + 1)))⟩, ⟨4, [], .s (.int .u16 start_5)⟩, ⟨5, [], .s (.int .u16 vector_5)⟩, ⟨6, [], .s (.bool some_5)⟩, ⟨7, [], .s (.bool reads_5)⟩, ⟨8, [], .ref 1 v_1 0 l_1.length⟩, ⟨9, [], .s (.int .i64 (IntKind.wrap .i64 (i_1 + 1)))⟩]) 2 (by kernel_rfl) (by kernel_rfl) (L' := [⟨0, .mem, 1, [.sl false p_.Recs.length (cat api_Rec.v p_.Recs), .s (.bool p_.Ended)]⟩, ⟨v_1, .grow, 9, cat api_Rec.v l_1⟩]) (by kernel_rfl) ⟨⟨rfl, rfl⟩, ⟨rfl, rfl⟩, ⟨rfl, rfl⟩, ⟨rfl, rfl⟩, ⟨rfl, rfl⟩, ⟨rfl, rfl⟩, ⟨rfl, rfl⟩, ⟨rfl, rfl⟩, ⟨rfl, rfl⟩, trivial⟩ ⟨.inr (.inr (statics_unders _ _ (by simp [V.static, statics, cat_stat, dropcat_stat]))), .inr (.inr (statics_unders _ _ (cat_stat _))), trivial⟩ (FOk_of [1, 2, 3, 4, 5, 6, 7, 8, 9] hf2 (by kernel_rfl)) fun f hf => ?_)
              exact ih _ _ ⟨l_1, (IntKind.wrap .i64 (own_1 + 1)), start_5, vector_5, some_5, reads_5, (IntKind.wrap .i64 (i_1 + 1)), v_1, h, hf, rfl⟩
          refine k_cond hf1 (t := (((gt p_.Recs i_1).BS && (!(gt p_.Recs i_1).BA)) && (!reads_3))) (by kernel_rfl) (fun hc5 => ?_) (fun hc5 => ?_)
          · have h := if_t h hc5
            refine k_reg ?_
            refine mops_en hf1 (by kernel_rfl) fun f2 hf2 => ?_
            refine k_hp (L' := [⟨0, .mem, 1, [.sl false p_.Recs.length (cat api_Rec.v p_.Recs), .s (.bool p_.Ended)]⟩, ⟨v_1, .grow, 9, cat api_Rec.v l_1⟩, ⟨0, .mem, 1, [.s (.int .u16 (gt p_.Recs i_1).Addr), .s (.int .u8 (gt p_.Recs i_1).Data), .s (.bool (gt p_.Recs i_1).Read), .s (.bool (gt p_.Recs i_1).BA), .s (.bool (gt p_.Recs i_1).BS), .s (.bool (gt p_.Recs i_1).LIC), .s (.bool (gt p_.Recs i_1).AVMA), .s (.bool (gt p_.Recs i_1).BUSY), .s (.bool (gt p_.Recs i_1).Mine)]⟩]) (by kernel_rfl) ?_
            exact hj2 ((gt p_.Recs i_1).Addr) true h _ (FOk_of [1, 2, 3, 4, 5, 6, 7, 8, 9, 10, 16, 17, 18, 19, 20, 23, 24, 25, 26, 27, 28, 29, 30, 31, 32, 33, 34, 37, 38, 39, 43, 44, 47] hf2 (by kernel_rfl))
          · have h := if_f h hc5
            refine k_skip ?_
            refine k_hp (L' := [⟨0, .mem, 1, [.sl false p_.Recs.length (cat api_Rec.v p_.Recs), .s (.bool p_.Ended)]⟩, ⟨v_1, .grow, 9, cat api_Rec.v l_1⟩, ⟨0, .mem, 1, [.s (.int .u16 (gt p_.Recs i_1).Addr), .s (.int .u8 (gt p_.Recs i_1).Data), .s (.bool (gt p_.Recs i_1).Read), .s (.bool (gt p_.Recs i_1).BA), .s (.bool (gt p_.Recs i_1).BS), .s (.bool (gt p_.Recs i_1).LIC), .s (.bool (gt p_.Recs i_1).AVMA), .s (.bool (gt p_.Recs i_1).BUSY), .s (.bool (gt p_.Recs i_1).Mine)]⟩]) (by kernel_rfl) ?_
            exact hj2 vector_3 reads_3 h _ (FOk_of [1, 2, 3, 4, 5, 6, 7, 8, 9, 10, 16, 17, 18, 19, 20, 23, 24, 25, 26, 27, 28, 29, 30, 31, 32, 33, 34, 37, 38, 39, 43, 44, 47] hf1 (by kernel_rfl))
        refine k_cond hf8 (t := (!some_3)) (by kernel_rfl) (fun hc4 => ?_) (fun hc4 => ?_)
        · have h := if_t h hc4
          refine k_reg ?_
          refine mops_en hf8 (by kernel_rfl) fun f9 hf9 => ?_
          refine k_hp (L' := [⟨0, .mem, 1, [.sl false p_.Recs.length (cat api_Rec.v p_.Recs), .s (.bool p_.Ended)]⟩, ⟨v_1, .grow, 9, cat api_Rec.v l_1⟩, ⟨0, .mem, 1, [.s (.int .u16 (gt p_.Recs i_1).Addr), .s (.int .u8 (gt p_.Recs i_1).Data), .s (.bool (gt p_.Recs i_1).Read), .s (.bool (gt p_.Recs i_1).BA), .s (.bool (gt p_.Recs i_1).BS), .s (.bool (gt p_.Recs i_1).LIC), .s (.bool (gt p_.Recs i_1).AVMA), .s (.bool (gt p_.Recs i_1).BUSY), .s (.bool (gt p_.Recs i_1).Mine)]⟩]) (by kernel_rfl) ?_
          exact hj1 ((gt p_.Recs i_1).Addr) true h _ (FOk_of [1, 2, 3, 4, 5, 6, 7, 8, 9, 10, 16, 17, 18, 19, 20, 23, 24, 25, 26, 27, 28, 29, 30, 31, 32, 33, 34] hf9 (by kernel_rfl))
        · have h := if_f h hc4
          refine k_skip ?_
          refine k_hp (L' := [⟨0, .mem, 1, [.sl false p_.Recs.length (cat api_Rec.v p_.Recs), .s (.bool p_.Ended)]⟩, ⟨v_1, .grow, 9, cat api_Rec.v l_1⟩, ⟨0, .mem, 1, [.s (.int .u16 (gt p_.Recs i_1).Addr), .s (.int .u8 (gt p_.Recs i_1).Data), .s (.bool (gt p_.Recs i_1).Read), .s (.bool (gt p_.Recs i_1).BA), .s (.bool (gt p_.Recs i_1).BS), .s (.bool (gt p_.Recs i_1).LIC), .s (.bool (gt p_.Recs i_1).AVMA), .s (.bool (gt p_.Recs i_1).BUSY), .s (.bool (gt p_.Recs i_1).Mine)]⟩]) (by kernel_rfl) ?_
          exact hj1 start_3 some_3 h _ (FOk_of [1, 2, 3, 4, 5, 6, 7, 8, 9, 10, 16, 17, 18, 19, 20, 23, 24, 25, 26, 27, 28, 29, 30, 31, 32, 33, 34] hf8 (by kernel_rfl))
    · have h := if_f h hc1
      refine k_exit ?_
      refine x_c nofun ?_
      refine x_l nofun ?_
      refine x_b ?_
      refine k_hp (L' := [⟨0, .mem, 1, [.sl false p_.Recs.length (cat api_Rec.v p_.Recs), .s (.bool p_.Ended)]⟩, ⟨v_1, .grow, 9, cat api_Rec.v l_1⟩]) (by kernel_rfl) ?_
      exact hgo0 l_1 own_1 start_3 vector_3 some_3 reads_3 v_1 (Option.some.inj h) _ (FOk_of [1, 2, 3, 4, 5, 6, 7, 8] hf1 (by kernel_rfl))
end Go.Proofs.YtfdadnldlngmeaaK
