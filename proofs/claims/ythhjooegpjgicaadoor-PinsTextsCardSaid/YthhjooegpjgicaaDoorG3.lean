/- The Go functions come to the functions over typed data. Printed by a program of this work. -/
import Derived.Test.YthhjooegpjgicaaDoorF
import Derived.Test.YthhjooegpjgicaaDoorProg
import Derived.Test.YthhjooegpjgicaaDoorG0
import Derived.Test.YthhjooegpjgicaaDoorG2
namespace Go.Proofs.YthhjooegpjgicaaDoorK
set_option linter.unusedVariables false
set_option linter.unusedSimpArgs false
set_option maxHeartbeats 4000000
open Go.RowKit
attribute [local irreducible] dwv mops lops lqops lwops kont iter run runK rk okK ex E1 vals val chain chB sel resF
def strings_Split_i0 : List Op1 := [(oE 4 (.nilg 1) [])]
def strings_Split_i1 : List Op1 := [(oM 5 (.t 0) []), (oM 6 (.t 1) []), (oC 7 23 [(.t 5), (.t 6), (.k (.int .i64 0)), (.k (.int .i64 (-1)))] [0, 1]), (oM 4 (.t 7) [2, 2, 0, 1, 2])]
def strings_Split_i2 : IR := .ret
def strings_Split_i3 : IR := (.seq (.reg false strings_Split_i1) strings_Split_i2)
def strings_Split_ir : IR := (.seq (.reg false strings_Split_i0) strings_Split_i3)
theorem strings_Split_cfn : cFn Tryd.prog 15 = some (strings_Split_ir, [(.t 4)], 8) := by kernel_rfl
def strings_Split_V (r : ((List ByteArray))) : V := .sl false r.length (cat nS r)
def strings_Split_C (r : ((List ByteArray))) : X → Fr → Hp → Prop := FinL [(.t 4)] [] (strings_Split_V r) []
theorem strings_Split_ok (s_ : ByteArray) (sep_ : ByteArray) (r : ((List ByteArray))) (h : strings_Split s_ sep_ = some r) : Pure Tryd.prog 15 [.s (.string s_), .s (.string sep_)] (strings_Split_V r) := by
  refine ConL.of strings_Split_cfn (Nat.le_of_ble_eq_true (by kernel_rfl)) (Nat.le_of_ble_eq_true (by kernel_rfl)) ?_
  refine k_start ?_
  show dwv Tryd.prog [] strings_Split_ir (kont Tryd.prog [] (strings_Split_C r) []) (fr0 [.s (.string s_), .s (.string sep_)]) []
  have hf : FOk (fr0 [.s (.string s_), .s (.string sep_)]) [⟨0, [], .s (.string s_)⟩, ⟨1, [], .s (.string sep_)⟩] := ⟨⟨fun _ => rfl, fun h => (h trivial).elim⟩, ⟨fun _ => rfl, fun h => (h trivial).elim⟩, trivial⟩
  generalize fr0 [.s (.string s_), .s (.string sep_)] = f at hf ⊢
  unfold strings_Split at h
  refine k_seq ?_
  refine k_reg ?_
  refine mops_en hf (by kernel_rfl) fun f1 hf1 => ?_
  refine k_c ?_
  refine k_seq ?_
  refine k_reg ?_
  refine mops_sg 2 hf1 (by kernel_rfl) fun f2 hf2 => ?_
  obtain ⟨r_, hx_r_, h⟩ := Option.bind_eq_some_iff.1 h
  refine mops_call rfl hf2 (av := [.s (.string s_), .s (.string sep_), .s (.int .i64 0), .s (.int .i64 (-1))]) (by kernel_rfl) (v := .sl false r_.length (cat nS r_)) (CalL.pure (strings_genSplit_ok s_ sep_ (0) (-1) r_ hx_r_) rfl (by simp [V.static, statics, cat_stat, strings_genSplit_V]) (Nat.le_of_ble_eq_true (by kernel_rfl))) (fun _ => rfl) fun f3 hf3 => ?_
  refine mops_en hf3 (by kernel_rfl) fun f4 hf4 => ?_
  refine k_c ?_
  refine k_ret ?_
  obtain rfl := Option.some.inj h
  exact k_fin (fin_ret (.inl rfl) hf4 (vs := [.sl false r_.length (cat nS r_)]) (by kernel_rfl) (SettL.pure (FzL.slf (g := nS))))
def pins_One_i0 : List Op1 := [(oE 2 (.zero [(.bool false), (.bool false), (.bool false), (.bool false), (.bool false), (.bool false)]) []), (oM 3 (.k (.bool false)) [])]
def pins_One_i1 : List Op1 := [(oE 4 (.zero [(.bool false), (.bool false), (.bool false), (.bool false), (.bool false), (.bool false)]) [])]
def pins_One_i2 : List Op1 := [(oM 7 (.k (.int .i64 0)) [])]
def pins_One_i3 : List Op1 := [(oE 8 (.bin .lss (.t 7) (.k (.int .i64 6))) [])]
def pins_One_i4 : List Op1 := [(oM 9 (.t 7) []), (oM 5 (.t 9) [0, 0])]
def pins_One_i5 : List Op1 := [(oM 10 (.t 5) []), (oM 11 (.t 0) []), (oM 12 (.t 5) []), (oE 13 (.ixs (.k (.string ⟨#[82, 78, 70, 73, 72, 81]⟩)) (.t 12)) [2]), (oC 14 18 [(.t 11), (.t 13)] [1, 3]), (oE 15 (.bin .geq (.t 14) (.k (.int .i64 0))) [4]), (oE 16 (.iaa 6 1 (.t 4) (.t 10)) [0, 0, 1, 2, 3, 4, 5]), (oN (.store 1 (.t 16) (.t 15)) [6, 5, 4, 0, 1, 2, 3, 4, 5])]
def pins_One_i6 : IR := (.reg false pins_One_i5)
def pins_One_i7 : List Op1 := [(oE 17 (.bin .add (.t 7) (.k (.int .i64 1))) []), (oM 7 (.t 17) [0])]
def pins_One_i8 : IR := (.reg false pins_One_i7)
def pins_One_i9 : IR := (.seq (.block 1 (.seq (.reg false pins_One_i4) pins_One_i6)) pins_One_i8)
def pins_One_i10 : IR := (.seq (.cond (.t 8) .skip (.exit 0)) pins_One_i9)
def pins_One_i11 : IR := (.seq (.reg false pins_One_i3) pins_One_i10)
def pins_One_i12 : IR := (.block 0 (.loop pins_One_i11))
def pins_One_i13 : List Op1 := [(oE 18 (.iaa 6 1 (.t 4) (.k (.int .i64 0))) []), (oE 19 (.load false 1 (.t 18)) [0]), (oE 20 (.iaa 6 1 (.t 4) (.k (.int .i64 1))) []), (oE 21 (.load false 1 (.t 20)) [2]), (oE 22 (.iaa 6 1 (.t 4) (.k (.int .i64 2))) []), (oE 23 (.load false 1 (.t 22)) [4]), (oE 24 (.iaa 6 1 (.t 4) (.k (.int .i64 3))) []), (oE 25 (.load false 1 (.t 24)) [6]), (oE 26 (.iaa 6 1 (.t 4) (.k (.int .i64 4))) []), (oE 27 (.load false 1 (.t 26)) [8]), (oE 28 (.iaa 6 1 (.t 4) (.k (.int .i64 5))) []), (oE 29 (.load false 1 (.t 28)) [10]), (oE 30 (.build [(.bool false), (.bool false), (.bool false), (.bool false), (.bool false), (.bool false)] [(0, (1, (.t 19))), (1, (1, (.t 21))), (2, (1, (.t 23))), (3, (1, (.t 25))), (4, (1, (.t 27))), (5, (1, (.t 29)))]) [1, 3, 5, 7, 9, 11]), (oE 6 (.zero [(.bool false), (.bool false), (.bool false), (.bool false), (.bool false), (.bool false)]) []), (oN (.store 6 (.t 6) (.t 30)) [13, 12, 0, 1, 2, 3, 4, 5, 6, 7, 8, 9, 10, 11, 12, 13])]
def pins_One_i14 : List Op1 := [(oE 31 (.load true 6 (.t 6)) []), (oC 32 11 [(.t 31)] [0]), (oM 33 (.t 0) []), (oE 34 (.bin .neq (.t 32) (.t 33)) [1, 2])]
def pins_One_i15 : List Op1 := [(oE 35 (.build [(.bool false), (.bool false), (.bool false), (.bool false), (.bool false), (.bool false)] []) []), (oN (.store 6 (.t 2) (.t 35)) [0, 0]), (oM 3 (.k (.bool false)) [1, 0, 1])]
def pins_One_i16 : IR := .ret
def pins_One_i17 : IR := (.cond (.t 34) (.seq (.reg false pins_One_i15) pins_One_i16) .skip)
def pins_One_i18 : List Op1 := [(oE 36 (.load true 6 (.t 6)) []), (oN (.store 6 (.t 2) (.t 36)) [0, 0]), (oM 3 (.k (.bool true)) [1, 0, 1])]
def pins_One_i19 : IR := .ret
def pins_One_i20 : IR := (.seq (.reg false pins_One_i18) pins_One_i19)
def pins_One_i21 : IR := (.seq (.seq (.reg false pins_One_i14) pins_One_i17) pins_One_i20)
def pins_One_i22 : IR := (.seq (.reg false pins_One_i13) pins_One_i21)
def pins_One_i23 : IR := (.seq (.seq (.reg false pins_One_i2) pins_One_i12) pins_One_i22)
def pins_One_i24 : IR := (.seq (.reg false pins_One_i1) pins_One_i23)
def pins_One_ir : IR := (.seq (.reg false pins_One_i0) pins_One_i24)
theorem pins_One_cfn : cFn Tryd.prog 7 = some (pins_One_ir, [(.c 2 true 6), (.t 3)], 37) := by kernel_rfl
def pins_One_V (r : (api_Pins × Bool)) : V := .tup [.agg [.s (.bool r.1.Reset), .s (.bool r.1.Nmi), .s (.bool r.1.Firq), .s (.bool r.1.Irq), .s (.bool r.1.Halt), .s (.bool r.1.Req)], .s (.bool r.2)]
def pins_One_C (r : (api_Pins × Bool)) : X → Fr → Hp → Prop := FinL [(.c 2 true 6), (.t 3)] [] (pins_One_V r) []
theorem pins_One_ok (s_ : ByteArray) (r : (api_Pins × Bool)) (h : pins_One s_ = some r) : Pure Tryd.prog 7 [.s (.string s_)] (pins_One_V r) := by
  refine ConL.of pins_One_cfn (Nat.le_of_ble_eq_true (by kernel_rfl)) (Nat.le_of_ble_eq_true (by kernel_rfl)) ?_
  refine k_start ?_
  show dwv Tryd.prog [] pins_One_ir (kont Tryd.prog [] (pins_One_C r) []) (fr0 [.s (.string s_)]) []
  have hf : FOk (fr0 [.s (.string s_)]) [⟨0, [], .s (.string s_)⟩] := ⟨⟨fun _ => rfl, fun h => (h trivial).elim⟩, trivial⟩
  generalize fr0 [.s (.string s_)] = f at hf ⊢
  unfold pins_One at h
  refine k_seq ?_
  refine k_reg ?_
  refine mops_en hf (by kernel_rfl) fun f1 hf1 => ?_
  refine k_c ?_
  refine k_seq ?_
  refine k_reg ?_
  refine mops_en hf1 (by kernel_rfl) fun f2 hf2 => ?_
  refine k_c ?_
  refine k_seq ?_
  refine k_seq ?_
  refine k_reg ?_
  refine mops_en hf2 (by kernel_rfl) fun f3 hf3 => ?_
  refine k_c ?_
  refine k_block ?_
  obtain ⟨o0, hx0, h⟩ := Option.bind_eq_some_iff.1 h
  have hgo0 : ∀ (l_2 : (List Bool)) (hn_2 : l_2.length = 6), l_2 = o0 → ∀ f, FOk f [⟨0, [], .s (.string s_)⟩, ⟨2, [], .ptr 0 0 0⟩, ⟨3, [], .s (.bool false)⟩, ⟨4, [], .ptr 1 0 0⟩] → kont Tryd.prog [] (pins_One_C r) ((.c pins_One_i22) :: []) .normal f [⟨0, .mem, 1, [.s (.bool false), .s (.bool false), .s (.bool false), .s (.bool false), .s (.bool false), .s (.bool false)]⟩, ⟨0, .mem, 1, cat nB l_2⟩] := by
    intro l_2 hn_2 e f hf
    subst e
    refine k_c ?_
    refine k_seq ?_
    refine k_reg ?_
    obtain ⟨c4, h⟩ := as_ok h
    refine mops_adv rfl (v := .ptr 1 0 (0 + (0 : Int).toNat * 1)) hf (by kernel_rfl) (e_iaa (n := 6) (xv := .ptr 1 0 0) (k := .i64) (iv := 0) (p := .ptr 1 0 (0 + (0 : Int).toNat * 1)) (by kernel_rfl) (by kernel_rfl) (by kernel_rfl) (by kernel_rfl) c4) fun f1 hf1 => ?_
    refine mops_adv rfl (v := .s (.bool (gt l_2 (0)))) hf1 (by kernel_rfl) (e_load_pe (g := nB) (l := l_2) (iv := 0) (kd := .mem) (q := 1) (b := 1) (ver := 0) [] (by kernel_rfl) (live_mem (by kernel_rfl)) (arr_h (l := l_2) c4 hn_2) (by kernel_rfl) (by kernel_rfl)) fun f2 hf2 => ?_
    obtain ⟨c5, h⟩ := as_ok h
    refine mops_adv rfl (v := .ptr 1 0 (0 + (1 : Int).toNat * 1)) hf2 (by kernel_rfl) (e_iaa (n := 6) (xv := .ptr 1 0 0) (k := .i64) (iv := 1) (p := .ptr 1 0 (0 + (1 : Int).toNat * 1)) (by kernel_rfl) (by kernel_rfl) (by kernel_rfl) (by kernel_rfl) c5) fun f3 hf3 => ?_
    refine mops_adv rfl (v := .s (.bool (gt l_2 (1)))) hf3 (by kernel_rfl) (e_load_pe (g := nB) (l := l_2) (iv := 1) (kd := .mem) (q := 1) (b := 1) (ver := 0) [] (by kernel_rfl) (live_mem (by kernel_rfl)) (arr_h (l := l_2) c5 hn_2) (by kernel_rfl) (by kernel_rfl)) fun f4 hf4 => ?_
    obtain ⟨c6, h⟩ := as_ok h
    refine mops_adv rfl (v := .ptr 1 0 (0 + (2 : Int).toNat * 1)) hf4 (by kernel_rfl) (e_iaa (n := 6) (xv := .ptr 1 0 0) (k := .i64) (iv := 2) (p := .ptr 1 0 (0 + (2 : Int).toNat * 1)) (by kernel_rfl) (by kernel_rfl) (by kernel_rfl) (by kernel_rfl) c6) fun f5 hf5 => ?_
    refine mops_adv rfl (v := .s (.bool (gt l_2 (2)))) hf5 (by kernel_rfl) (e_load_pe (g := nB) (l := l_2) (iv := 2) (kd := .mem) (q := 1) (b := 1) (ver := 0) [] (by kernel_rfl) (live_mem (by kernel_rfl)) (arr_h (l := l_2) c6 hn_2) (by kernel_rfl) (by kernel_rfl)) fun f6 hf6 => ?_
    obtain ⟨c7, h⟩ := as_ok h
    refine mops_adv rfl (v := .ptr 1 0 (0 + (3 : Int).toNat * 1)) hf6 (by kernel_rfl) (e_iaa (n := 6) (xv := .ptr 1 0 0) (k := .i64) (iv := 3) (p := .ptr 1 0 (0 + (3 : Int).toNat * 1)) (by kernel_rfl) (by kernel_rfl) (by kernel_rfl) (by kernel_rfl) c7) fun f7 hf7 => ?_
    refine mops_adv rfl (v := .s (.bool (gt l_2 (3)))) hf7 (by kernel_rfl) (e_load_pe (g := nB) (l := l_2) (iv := 3) (kd := .mem) (q := 1) (b := 1) (ver := 0) [] (by kernel_rfl) (live_mem (by kernel_rfl)) (arr_h (l := l_2) c7 hn_2) (by kernel_rfl) (by kernel_rfl)) fun f8 hf8 => ?_
    obtain ⟨c8, h⟩ := as_ok h
    refine mops_adv rfl (v := .ptr 1 0 (0 + (4 : Int).toNat * 1)) hf8 (by kernel_rfl) (e_iaa (n := 6) (xv := .ptr 1 0 0) (k := .i64) (iv := 4) (p := .ptr 1 0 (0 + (4 : Int).toNat * 1)) (by kernel_rfl) (by kernel_rfl) (by kernel_rfl) (by kernel_rfl) c8) fun f9 hf9 => ?_
    refine mops_adv rfl (v := .s (.bool (gt l_2 (4)))) hf9 (by kernel_rfl) (e_load_pe (g := nB) (l := l_2) (iv := 4) (kd := .mem) (q := 1) (b := 1) (ver := 0) [] (by kernel_rfl) (live_mem (by kernel_rfl)) (arr_h (l := l_2) c8 hn_2) (by kernel_rfl) (by kernel_rfl)) fun f10 hf10 => ?_
    obtain ⟨c9, h⟩ := as_ok h
    refine mops_adv rfl (v := .ptr 1 0 (0 + (5 : Int).toNat * 1)) hf10 (by kernel_rfl) (e_iaa (n := 6) (xv := .ptr 1 0 0) (k := .i64) (iv := 5) (p := .ptr 1 0 (0 + (5 : Int).toNat * 1)) (by kernel_rfl) (by kernel_rfl) (by kernel_rfl) (by kernel_rfl) c9) fun f11 hf11 => ?_
    refine mops_adv rfl (v := .s (.bool (gt l_2 (5)))) hf11 (by kernel_rfl) (e_load_pe (g := nB) (l := l_2) (iv := 5) (kd := .mem) (q := 1) (b := 1) (ver := 0) [] (by kernel_rfl) (live_mem (by kernel_rfl)) (arr_h (l := l_2) c9 hn_2) (by kernel_rfl) (by kernel_rfl)) fun f12 hf12 => ?_
    refine mops_en hf12 (by kernel_rfl) fun f13 hf13 => ?_
    refine k_c ?_
    refine k_seq ?_
    refine k_seq ?_
    refine k_reg ?_
    refine mops_sg 1 hf13 (by kernel_rfl) fun f14 hf14 => ?_
    obtain ⟨r_4, hx_r_4, h⟩ := Option.bind_eq_some_iff.1 h
    refine mops_call rfl hf14 (av := [.agg [.s (.bool (gt l_2 (0))), .s (.bool (gt l_2 (1))), .s (.bool (gt l_2 (2))), .s (.bool (gt l_2 (3))), .s (.bool (gt l_2 (4))), .s (.bool (gt l_2 (5)))]]) (by kernel_rfl) (v := .s (.string r_4)) (CalL.pure (pins_Word_ok (api_Pins.mk (gt l_2 (0)) (gt l_2 (1)) (gt l_2 (2)) (gt l_2 (3)) (gt l_2 (4)) (gt l_2 (5))) r_4 hx_r_4) rfl rfl (Nat.le_of_ble_eq_true (by kernel_rfl))) (fun _ => rfl) fun f15 hf15 => ?_
    refine mops_en hf15 (by kernel_rfl) fun f16 hf16 => ?_
    refine k_c ?_
    refine k_cond hf16 (t := (!(r_4.toList == s_.toList))) (by kernel_rfl) (fun hc10 => ?_) (fun hc10 => ?_)
    · have h := if_t h hc10
      refine k_seq ?_
      refine k_reg ?_
      refine mops_en hf16 (by kernel_rfl) fun f17 hf17 => ?_
      refine k_c ?_
      refine k_ret ?_
      refine x_c nofun ?_
      obtain rfl := Option.some.inj h
      exact k_fin (fin_ret (.inl rfl) hf17 (vs := [.agg [.s (.bool false), .s (.bool false), .s (.bool false), .s (.bool false), .s (.bool false), .s (.bool false)], .s (.bool false)]) (by kernel_rfl) (SettL.pure (FzL.tup (FzsL.cons (FzL.stat rfl) (FzsL.cons (FzL.stat rfl) FzsL.nil)))))
    · have h := if_f h hc10
      refine k_skip ?_
      refine k_c ?_
      refine k_seq ?_
      refine k_reg ?_
      refine mops_en hf16 (by kernel_rfl) fun f17 hf17 => ?_
      refine k_c ?_
      refine k_ret ?_
      obtain rfl := Option.some.inj h
      exact k_fin (fin_ret (.inl rfl) hf17 (vs := [.agg [.s (.bool (gt l_2 (0))), .s (.bool (gt l_2 (1))), .s (.bool (gt l_2 (2))), .s (.bool (gt l_2 (3))), .s (.bool (gt l_2 (4))), .s (.bool (gt l_2 (5)))], .s (.bool true)]) (by kernel_rfl) (SettL.pure (FzL.tup (FzsL.cons (FzL.stat rfl) (FzsL.cons (FzL.stat rfl) FzsL.nil)))))
  refine k_loop BIG ?_
  refine loop_ind (fun n f L => ∃ (l_1 : (List Bool)) (t_2 : Int) (hn_1 : l_1.length = 6), pins_One_l0 s_ n l_1 t_2 = some o0 ∧ FOk f [⟨0, [], .s (.string s_)⟩, ⟨2, [], .ptr 0 0 0⟩, ⟨3, [], .s (.bool false)⟩, ⟨4, [], .ptr 1 0 0⟩, ⟨7, [], .s (.int .i64 t_2)⟩] ∧ L = [⟨0, .mem, 1, [.s (.bool false), .s (.bool false), .s (.bool false), .s (.bool false), .s (.bool false), .s (.bool false)]⟩, ⟨0, .mem, 1, cat nB l_1⟩]) ?_ ?_ BIG _ _ ⟨[false, false, false, false, false, false], (0), (by kernel_rfl), hx0, FOk_of [0, 2, 3, 4, 7] hf3 (by kernel_rfl), (by kernel_rfl)⟩
  · rintro f L ⟨l_1, t_2, hn_1, h, _⟩
    cases (show (none : Option _) = some _ from h)
  · rintro n0 R0 ih f L ⟨l_1, t_2, hn_1, h, hf, rfl⟩
    rw [pins_One_l0] at h
    refine k_seq ?_
    refine k_reg ?_
    refine mops_en hf (by kernel_rfl) fun f1 hf1 => ?_
    refine k_c ?_
    refine k_seq ?_
    refine k_cond hf1 (t := (decide (t_2 < 6))) (by kernel_rfl) (fun hc1 => ?_) (fun hc1 => ?_)
    · have h := if_t h hc1
      refine k_skip ?_
      refine k_c ?_
      refine k_seq ?_
      refine k_block ?_
      refine k_seq ?_
      refine k_reg ?_
      refine mops_en hf1 (by kernel_rfl) fun f2 hf2 => ?_
      refine k_c ?_
      refine k_reg ?_
      refine mops_sg 3 hf2 (by kernel_rfl) fun f3 hf3 => ?_
      obtain ⟨c2, h⟩ := as_ok h
      refine mops_adv rfl (v := .s (.int .u8 (bt (⟨#[82, 78, 70, 73, 72, 81]⟩ : ByteArray) t_2))) hf3 (by kernel_rfl) (e_ixs (t := (⟨#[82, 78, 70, 73, 72, 81]⟩ : ByteArray)) (k := .i64) (iv := t_2) (by kernel_rfl) (by kernel_rfl) c2) fun f4 hf4 => ?_
      obtain ⟨r_3, hx_r_3, h⟩ := Option.bind_eq_some_iff.1 h
      refine mops_call rfl hf4 (av := [.s (.string s_), .s (.int .u8 (bt (⟨#[82, 78, 70, 73, 72, 81]⟩ : ByteArray) t_2))]) (by kernel_rfl) (v := .s (.int .i64 r_3)) (CalL.pure (strings_IndexByte_ok s_ (bt (⟨#[82, 78, 70, 73, 72, 81]⟩ : ByteArray) t_2) r_3 hx_r_3) rfl rfl (Nat.le_of_ble_eq_true (by kernel_rfl))) (fun _ => rfl) fun f5 hf5 => ?_
      refine mops_sg 1 hf5 (by kernel_rfl) fun f6 hf6 => ?_
      obtain ⟨c3, h⟩ := as_ok h
      refine mops_adv rfl (v := .ptr 1 0 (0 + (t_2 : Int).toNat * 1)) hf6 (by kernel_rfl) (e_iaa (n := 6) (xv := .ptr 1 0 0) (k := .i64) (iv := t_2) (p := .ptr 1 0 (0 + (t_2 : Int).toNat * 1)) (by kernel_rfl) (by kernel_rfl) (by kernel_rfl) (by kernel_rfl) c3) fun f7 hf7 => ?_
      refine mops_adv rfl (v := .s undef) hf7 (by kernel_rfl) (e_store_pe (g := nB) (l := l_1) (iv := t_2) (kd := .mem) (q := 1) (b := 1) (ver := 0) (ys := [.s (.bool (decide (0 ≤ r_3)))]) (a := (decide (0 ≤ r_3))) [] (by kernel_rfl) (live_mem (by kernel_rfl)) (by kernel_rfl) (by kernel_rfl) (by kernel_rfl) (arr_h (l := l_1) c3 hn_1) (by kernel_rfl) (by kernel_rfl)) fun f8 hf8 => ?_
      refine mops_en hf8 (by kernel_rfl) fun f9 hf9 => ?_
      refine k_b ?_
      refine k_c ?_
      refine k_reg ?_
      refine mops_en hf9 (by kernel_rfl) fun f10 hf10 => ?_
      refine k_l ?_
      exact ih _ _ ⟨(st l_1 t_2 (decide (0 ≤ r_3))), (IntKind.wrap .i64 (t_2 + 1)), (st_len.trans hn_1), h, FOk_of [0, 2, 3, 4, 7] hf10 (by kernel_rfl), (by kernel_rfl)⟩
    · have h := if_f h hc1
      refine k_exit ?_
      refine x_c nofun ?_
      refine x_l nofun ?_
      refine x_b ?_
      refine k_hp (L' := [⟨0, .mem, 1, [.s (.bool false), .s (.bool false), .s (.bool false), .s (.bool false), .s (.bool false), .s (.bool false)]⟩, ⟨0, .mem, 1, cat nB l_1⟩]) (by kernel_rfl) ?_
      exact hgo0 l_1 hn_1 (Option.some.inj h) _ (FOk_of [0, 2, 3, 4] hf1 (by kernel_rfl))
def spinetref31_Parse_i0 : List Op1 := [(oE 2 (.nilg 6) []), (oM 3 (.k (.int .i64 0)) [0])]
def spinetref31_Parse_i1 : List Op1 := [(oE 4 (.nilg 6) [])]
def spinetref31_Parse_i2 : List Op1 := [(oM 5 (.k (.string ⟨#[]⟩)) [])]
def spinetref31_Parse_i3 : List Op1 := [(oM 14 (.t 0) []), (oE 15 (.bin .add (.t 14) (.k (.string ⟨#[32]⟩))) [0]), (oM 0 (.t 15) [1, 0, 1])]
def spinetref31_Parse_i4 : List Op1 := [(oM 6 (.k (.int .i64 0)) [])]
def spinetref31_Parse_i5 : List Op1 := [(oM 16 (.t 6) []), (oM 17 (.t 0) []), (oE 18 (.lens (.t 17)) [1]), (oE 19 (.bin .lss (.t 16) (.t 18)) [0, 2])]
def spinetref31_Parse_i6 : IR := (.cond (.t 19) .skip (.exit 0))
def spinetref31_Parse_i7 : List Op1 := [(oM 22 (.t 0) []), (oM 23 (.t 6) []), (oE 24 (.ixs (.t 22) (.t 23)) [0, 1]), (oE 25 (.bin .neq (.t 24) (.k (.int .u8 32))) [2])]
def spinetref31_Parse_i8 : List Op1 := [(oM 26 (.t 5) []), (oM 27 (.t 0) []), (oM 28 (.t 6) []), (oM 29 (.t 6) []), (oE 30 (.bin .add (.t 29) (.k (.int .i64 1))) [3]), (oE 31 (.sstr (.t 27) (some (.t 28)) (some (.t 30))) [1, 2, 4]), (oE 32 (.bin .add (.t 26) (.t 31)) [0, 5]), (oM 5 (.t 32) [6, 0, 1, 2, 3, 4, 5, 6])]
def spinetref31_Parse_i9 : IR := (.exit 1)
def spinetref31_Parse_i10 : IR := (.cond (.t 25) (.seq (.reg false spinetref31_Parse_i8) spinetref31_Parse_i9) .skip)
def spinetref31_Parse_i11 : List Op1 := [(oM 33 (.t 5) []), (oE 34 (.bin .eql (.t 33) (.k (.string ⟨#[]⟩))) [0])]
def spinetref31_Parse_i12 : IR := (.cond (.t 34) (.exit 1) .skip)
def spinetref31_Parse_i13 : List Op1 := [(oM 7 (.k (.int .i64 0)) [])]
def spinetref31_Parse_i14 : List Op1 := [(oM 35 (.t 7) []), (oM 36 (.t 5) []), (oE 37 (.lens (.t 36)) [1]), (oE 38 (.bin .lss (.t 35) (.t 37)) [0, 2]), (oM 39 (.t 38) [3]), (oG 40 (.mv (.t 5)) 39 true [4]), (oG 41 (.mv (.t 7)) 39 true [4]), (oG 42 (.ixs (.t 40) (.t 41)) 39 true [5, 6, 4]), (oG 43 (.bin .neq (.t 42) (.k (.int .u8 42))) 39 true [7, 4]), (oE 44 (.pick (.t 39) (.t 43) (.k (.bool false))) [4, 8])]
def spinetref31_Parse_i15 : IR := (.cond (.t 44) .skip (.exit 2))
def spinetref31_Parse_i16 : List Op1 := [(oM 45 (.t 7) []), (oE 46 (.bin .add (.t 45) (.k (.int .i64 1))) [0]), (oM 7 (.t 46) [1, 0, 1])]
def spinetref31_Parse_i17 : IR := (.block 3 (.reg false spinetref31_Parse_i16))
def spinetref31_Parse_i18 : IR := (.seq (.seq (.reg false spinetref31_Parse_i14) spinetref31_Parse_i15) spinetref31_Parse_i17)
def spinetref31_Parse_i19 : List Op1 := [(oM 48 (.t 5) []), (oM 49 (.t 7) []), (oE 50 (.sstr (.t 48) none (some (.t 49))) [0, 1]), (oC 51 8 [(.t 50)] [2]), (oM 47 (.t 51) [3]), (oE 52 (.ext 0 (.t 47)) [4]), (oE 53 (.ext 1 (.t 47)) [4]), (oE 8 (.zero [(.bool false), (.bool false), (.bool false), (.bool false), (.bool false), (.bool false)]) []), (oN (.store 6 (.t 8) (.t 52)) [7, 5, 3, 0, 1, 2, 3, 4, 5, 7]), (oM 9 (.t 53) [6, 8, 0, 1, 2, 3, 4, 5, 6, 7, 8])]
def spinetref31_Parse_i20 : List Op1 := [(oM 10 (.k (.int .i64 1)) [])]
def spinetref31_Parse_i21 : List Op1 := [(oM 54 (.t 7) []), (oM 55 (.t 5) []), (oE 56 (.lens (.t 55)) [1]), (oE 57 (.bin .lss (.t 54) (.t 56)) [0, 2])]
def spinetref31_Parse_i22 : List Op1 := [(oM 59 (.t 5) []), (oM 60 (.t 7) []), (oE 61 (.bin .add (.t 60) (.k (.int .i64 1))) [1]), (oE 62 (.sstr (.t 59) (some (.t 61)) none) [0, 2]), (oC 63 17 [(.t 62)] [3]), (oM 58 (.t 63) [4]), (oE 64 (.ext 0 (.t 58)) [5]), (oE 65 (.ext 1 (.t 58)) [5]), (oM 11 (.t 64) [6, 4, 0, 1, 2, 3, 4, 5, 6]), (oM 12 (.t 65) [7, 8, 0, 1, 2, 3, 4, 5, 6, 7, 8])]
def spinetref31_Parse_i23 : List Op1 := [(oM 66 (.t 11) []), (oM 67 (.t 9) []), (oM 68 (.t 67) [1]), (oG 69 (.mv (.t 12)) 68 true [2]), (oE 70 (.pick (.t 68) (.t 69) (.k (.bool false))) [2, 3]), (oM 10 (.t 66) [0, 2, 0]), (oM 9 (.t 70) [4, 5, 0, 1, 2, 3, 4, 5])]
def spinetref31_Parse_i24 : IR := (.reg false spinetref31_Parse_i23)
def spinetref31_Parse_i25 : IR := (.cond (.t 57) (.seq (.reg false spinetref31_Parse_i22) spinetref31_Parse_i24) .skip)
def spinetref31_Parse_i26 : List Op1 := [(oM 71 (.t 9) []), (oE 72 (.un .not (.t 71)) [0])]
def spinetref31_Parse_i27 : List Op1 := [(oE 2 (.nilg 6) []), (oM 3 (.k (.int .i64 21)) [0, 0])]
def spinetref31_Parse_i28 : IR := .ret
def spinetref31_Parse_i29 : IR := (.cond (.t 72) (.seq (.reg false spinetref31_Parse_i27) spinetref31_Parse_i28) .skip)
def spinetref31_Parse_i30 : List Op1 := [(oM 73 (.t 10) []), (oE 74 (.bin .eql (.t 73) (.k (.int .i64 0))) [0])]
def spinetref31_Parse_i31 : List Op1 := [(oE 2 (.nilg 6) []), (oM 3 (.k (.int .i64 10)) [0, 0])]
def spinetref31_Parse_i32 : IR := .ret
def spinetref31_Parse_i33 : IR := (.cond (.t 74) (.seq (.reg false spinetref31_Parse_i31) spinetref31_Parse_i32) .skip)
def spinetref31_Parse_i34 : List Op1 := [(oM 75 (.t 10) []), (oM 76 (.t 4) []), (oE 77 (.len (.t 76)) [1]), (oE 78 (.bin .sub (.k (.int .i64 4096)) (.t 77)) [2]), (oE 79 (.bin .gtr (.t 75) (.t 78)) [0, 3])]
def spinetref31_Parse_i35 : List Op1 := [(oE 2 (.nilg 6) []), (oM 3 (.k (.int .i64 12)) [0, 0])]
def spinetref31_Parse_i36 : IR := .ret
def spinetref31_Parse_i37 : IR := (.cond (.t 79) (.seq (.reg false spinetref31_Parse_i35) spinetref31_Parse_i36) .skip)
def spinetref31_Parse_i38 : List Op1 := [(oM 13 (.k (.int .i64 0)) [])]
def spinetref31_Parse_i39 : List Op1 := [(oM 80 (.t 13) []), (oM 81 (.t 10) []), (oE 82 (.bin .lss (.t 80) (.t 81)) [0, 1])]
def spinetref31_Parse_i40 : IR := (.cond (.t 82) .skip (.exit 4))
def spinetref31_Parse_i41 : List Op1 := [(oM 85 (.t 4) []), (oE 86 (.load true 6 (.t 8)) []), (oE 87 (.bslo 6 1 [(.bool false), (.bool false), (.bool false), (.bool false), (.bool false), (.bool false)] [(0, (6, (.t 86)))]) [1]), (oE 88 (.app 29 6 6 (.t 85) (.t 87)) [0, 2]), (oM 4 (.t 88) [3, 3, 0, 1, 2, 3])]
def spinetref31_Parse_i42 : List Op1 := [(oM 83 (.t 13) []), (oE 84 (.bin .add (.t 83) (.k (.int .i64 1))) [0]), (oM 13 (.t 84) [1, 0, 1])]
def spinetref31_Parse_i43 : IR := (.reg false spinetref31_Parse_i42)
def spinetref31_Parse_i44 : IR := (.seq (.block 5 (.reg false spinetref31_Parse_i41)) spinetref31_Parse_i43)
def spinetref31_Parse_i45 : IR := (.seq (.seq (.reg false spinetref31_Parse_i39) spinetref31_Parse_i40) spinetref31_Parse_i44)
def spinetref31_Parse_i46 : IR := (.block 4 (.loop spinetref31_Parse_i45))
def spinetref31_Parse_i47 : List Op1 := [(oM 5 (.k (.string ⟨#[]⟩)) [])]
def spinetref31_Parse_i48 : IR := (.reg false spinetref31_Parse_i47)
def spinetref31_Parse_i49 : IR := (.seq (.seq (.reg false spinetref31_Parse_i38) spinetref31_Parse_i46) spinetref31_Parse_i48)
def spinetref31_Parse_i50 : IR := (.seq (.seq (.reg false spinetref31_Parse_i34) spinetref31_Parse_i37) spinetref31_Parse_i49)
def spinetref31_Parse_i51 : IR := (.seq (.seq (.reg false spinetref31_Parse_i30) spinetref31_Parse_i33) spinetref31_Parse_i50)
def spinetref31_Parse_i52 : IR := (.seq (.seq (.reg false spinetref31_Parse_i26) spinetref31_Parse_i29) spinetref31_Parse_i51)
def spinetref31_Parse_i53 : IR := (.seq (.seq (.reg false spinetref31_Parse_i21) spinetref31_Parse_i25) spinetref31_Parse_i52)
def spinetref31_Parse_i54 : IR := (.seq (.reg false spinetref31_Parse_i20) spinetref31_Parse_i53)
def spinetref31_Parse_i55 : IR := (.seq (.reg false spinetref31_Parse_i19) spinetref31_Parse_i54)
def spinetref31_Parse_i56 : IR := (.seq (.block 2 (.loop spinetref31_Parse_i18)) spinetref31_Parse_i55)
def spinetref31_Parse_i57 : IR := (.seq (.reg false spinetref31_Parse_i13) spinetref31_Parse_i56)
def spinetref31_Parse_i58 : IR := (.seq (.seq (.reg false spinetref31_Parse_i11) spinetref31_Parse_i12) spinetref31_Parse_i57)
def spinetref31_Parse_i59 : List Op1 := [(oM 20 (.t 6) []), (oE 21 (.bin .add (.t 20) (.k (.int .i64 1))) [0]), (oM 6 (.t 21) [1, 0, 1])]
def spinetref31_Parse_i60 : IR := (.reg false spinetref31_Parse_i59)
def spinetref31_Parse_i61 : IR := (.seq (.block 1 (.seq (.seq (.reg false spinetref31_Parse_i7) spinetref31_Parse_i10) spinetref31_Parse_i58)) spinetref31_Parse_i60)
def spinetref31_Parse_i62 : IR := (.seq (.seq (.reg false spinetref31_Parse_i5) spinetref31_Parse_i6) spinetref31_Parse_i61)
def spinetref31_Parse_i63 : IR := (.block 0 (.loop spinetref31_Parse_i62))
def spinetref31_Parse_i64 : List Op1 := [(oM 89 (.t 4) []), (oM 2 (.t 89) [0, 0]), (oM 3 (.k (.int .i64 0)) [1, 0, 1])]
def spinetref31_Parse_i65 : IR := .ret
def spinetref31_Parse_i66 : IR := (.seq (.reg false spinetref31_Parse_i64) spinetref31_Parse_i65)
def spinetref31_Parse_i67 : IR := (.seq (.seq (.reg false spinetref31_Parse_i4) spinetref31_Parse_i63) spinetref31_Parse_i66)
def spinetref31_Parse_i68 : IR := (.seq (.reg false spinetref31_Parse_i3) spinetref31_Parse_i67)
def spinetref31_Parse_i69 : IR := (.seq (.reg false spinetref31_Parse_i2) spinetref31_Parse_i68)
def spinetref31_Parse_i70 : IR := (.seq (.reg false spinetref31_Parse_i1) spinetref31_Parse_i69)
def spinetref31_Parse_ir : IR := (.seq (.reg false spinetref31_Parse_i0) spinetref31_Parse_i70)
theorem spinetref31_Parse_cfn : cFn Tryd.prog 6 = some (spinetref31_Parse_ir, [(.t 2), (.t 3)], 90) := by kernel_rfl
def spinetref31_Parse_V (r : ((List api_Pins) × Int)) : V := .tup [.sl false r.1.length (cat api_Pins.v r.1), .s (.int .i64 r.2)]
def spinetref31_Parse_C (r : ((List api_Pins) × Int)) : X → Fr → Hp → Prop := FinL [(.t 2), (.t 3)] [] (spinetref31_Parse_V r) []
theorem spinetref31_Parse_ok (s_ : ByteArray) (r : ((List api_Pins) × Int)) (h : spinetref31_Parse s_ = some r) : Pure Tryd.prog 6 [.s (.string s_)] (spinetref31_Parse_V r) := by
  refine ConL.of spinetref31_Parse_cfn (Nat.le_of_ble_eq_true (by kernel_rfl)) (Nat.le_of_ble_eq_true (by kernel_rfl)) ?_
  refine k_start ?_
  show dwv Tryd.prog [] spinetref31_Parse_ir (kont Tryd.prog [] (spinetref31_Parse_C r) []) (fr0 [.s (.string s_)]) []
  have hf : FOk (fr0 [.s (.string s_)]) [⟨0, [], .s (.string s_)⟩] := ⟨⟨fun _ => rfl, fun h => (h trivial).elim⟩, trivial⟩
  generalize fr0 [.s (.string s_)] = f at hf ⊢
  unfold spinetref31_Parse at h
  refine k_seq ?_
  refine k_reg ?_
  refine mops_en hf (by kernel_rfl) fun f1 hf1 => ?_
  refine k_c ?_
  refine k_seq ?_
  refine k_reg ?_
  refine mops_en hf1 (by kernel_rfl) fun f2 hf2 => ?_
  refine k_c ?_
  refine k_seq ?_
  refine k_reg ?_
  refine mops_en hf2 (by kernel_rfl) fun f3 hf3 => ?_
  refine k_c ?_
  refine k_seq ?_
  refine k_reg ?_
  refine mops_sg 1 hf3 (by kernel_rfl) fun f4 hf4 => ?_
  obtain ⟨c1, h⟩ := as_ok h
  refine mops_adv rfl (v := .s (.string (s_ ++ (⟨#[32]⟩ : ByteArray)))) hf4 (by kernel_rfl) (e_sadd (t := s_) (t' := (⟨#[32]⟩ : ByteArray)) (by kernel_rfl) (by kernel_rfl) c1) fun f5 hf5 => ?_
  refine mops_en hf5 (by kernel_rfl) fun f6 hf6 => ?_
  refine k_c ?_
  refine k_seq ?_
  refine k_seq ?_
  refine k_reg ?_
  refine mops_en hf6 (by kernel_rfl) fun f7 hf7 => ?_
  refine k_c ?_
  refine k_block ?_
  obtain ⟨o0, hx0, h⟩ := Option.bind_eq_some_iff.1 h
  have hret0 : ∀ r0, .ret r0 = o0 → r0 = r := fun r0 e => by subst e; exact Option.some.inj h
  have hgo0 : ∀ (l_8 : (List api_Pins)) (v_8 : Nat), .go l_8 = o0 → ∀ f, FOk f [⟨2, [], .ref 0 0 0 0⟩, ⟨3, [], .s (.int .i64 0)⟩, ⟨4, [], .ref 1 v_8 0 l_8.length⟩] → kont Tryd.prog [] (spinetref31_Parse_C r) ((.c spinetref31_Parse_i66) :: []) .normal f [⟨0, .grow, 6, cat api_Pins.v ([] : List api_Pins)⟩, ⟨v_8, .grow, 6, cat api_Pins.v l_8⟩] := by
    intro l_8 v_8 e f hf
    subst e
    refine k_c ?_
    refine k_seq ?_
    refine k_reg ?_
    refine mops_en hf (by kernel_rfl) fun f1 hf1 => ?_
    refine k_c ?_
    refine k_ret ?_
    obtain rfl := Option.some.inj h
    exact k_fin (fin_ret (.inl rfl) hf1 (vs := [.ref 1 v_8 0 l_8.length, .s (.int .i64 0)]) (by kernel_rfl) (SettL.pure (FzL.tup (FzsL.cons (FzL.whole (g := api_Pins.v) (kd := .grow) (l := l_8) (by kernel_rfl) rfl (live_grow (by kernel_rfl))) (FzsL.cons (FzL.stat rfl) FzsL.nil)))))
  refine k_loop BIG ?_
  refine loop_ind (fun n f L => ∃ (l_7 : (List api_Pins)) (word_1 : ByteArray) (i_1 : Int) (v_7 : Nat), spinetref31_Parse_l4 s_ n l_7 word_1 i_1 = some o0 ∧ FOk f [⟨0, [], .s (.string (s_ ++ (⟨#[32]⟩ : ByteArray)))⟩, ⟨2, [], .ref 0 0 0 0⟩, ⟨3, [], .s (.int .i64 0)⟩, ⟨4, [], .ref 1 v_7 0 l_7.length⟩, ⟨5, [], .s (.string word_1)⟩, ⟨6, [], .s (.int .i64 i_1)⟩] ∧ L = [⟨0, .grow, 6, cat api_Pins.v ([] : List api_Pins)⟩, ⟨v_7, .grow, 6, cat api_Pins.v l_7⟩]) ?_ ?_ BIG _ _ ⟨([] : List api_Pins), (⟨#[]⟩ : ByteArray), (0), (0), hx0, FOk_of [0, 2, 3, 4, 5, 6] hf7 (by kernel_rfl), (by kernel_rfl)⟩
  · rintro f L ⟨l_7, word_1, i_1, v_7, h, _⟩
    cases (show (none : Option _) = some _ from h)
  · rintro n0 R0 ih f L ⟨l_7, word_1, i_1, v_7, h, hf, rfl⟩
    rw [spinetref31_Parse_l4] at h
    refine k_seq ?_
    refine k_seq ?_
    refine k_reg ?_
    refine mops_en hf (by kernel_rfl) fun f1 hf1 => ?_
    refine k_c ?_
    refine k_cond hf1 (t := (decide (i_1 < (sln (s_ ++ (⟨#[32]⟩ : ByteArray)))))) (by kernel_rfl) (fun hc2 => ?_) (fun hc2 => ?_)
    · have h := if_t h hc2
      refine k_skip ?_
      refine k_c ?_
      refine k_seq ?_
      refine k_block ?_
      refine k_seq ?_
      refine k_seq ?_
      refine k_reg ?_
      refine mops_sg 2 hf1 (by kernel_rfl) fun f2 hf2 => ?_
      obtain ⟨c3, h⟩ := as_ok h
      refine mops_adv rfl (v := .s (.int .u8 (bt (s_ ++ (⟨#[32]⟩ : ByteArray)) i_1))) hf2 (by kernel_rfl) (e_ixs (t := (s_ ++ (⟨#[32]⟩ : ByteArray))) (k := .i64) (iv := i_1) (by kernel_rfl) (by kernel_rfl) c3) fun f3 hf3 => ?_
      refine mops_en hf3 (by kernel_rfl) fun f4 hf4 => ?_
      refine k_c ?_
      refine k_cond hf4 (t := ((bt (s_ ++ (⟨#[32]⟩ : ByteArray)) i_1) != 32)) (by kernel_rfl) (fun hc4 => ?_) (fun hc4 => ?_)
      · have h := if_t h hc4
        refine k_seq ?_
        refine k_reg ?_
        refine mops_sg 5 hf4 (by kernel_rfl) fun f5 hf5 => ?_
        obtain ⟨c5, h⟩ := as_ok h
        refine mops_adv rfl (v := .s (.string ((s_ ++ (⟨#[32]⟩ : ByteArray)).extract (i_1 : Int).toNat ((IntKind.wrap .i64 (i_1 + 1)) : Int).toNat))) hf5 (by kernel_rfl) (e_sstr (t := (s_ ++ (⟨#[32]⟩ : ByteArray))) (by kernel_rfl) (b_ss (k := .i64) (k' := .i64) (iv := i_1) (jv := (IntKind.wrap .i64 (i_1 + 1))) (by kernel_rfl) (by kernel_rfl) c5)) fun f6 hf6 => ?_
        obtain ⟨c6, h⟩ := as_ok h
        refine mops_adv rfl (v := .s (.string (word_1 ++ ((s_ ++ (⟨#[32]⟩ : ByteArray)).extract (i_1 : Int).toNat ((IntKind.wrap .i64 (i_1 + 1)) : Int).toNat)))) hf6 (by kernel_rfl) (e_sadd (t := word_1) (t' := ((s_ ++ (⟨#[32]⟩ : ByteArray)).extract (i_1 : Int).toNat ((IntKind.wrap .i64 (i_1 + 1)) : Int).toNat)) (by kernel_rfl) (by kernel_rfl) c6) fun f7 hf7 => ?_
        refine mops_en hf7 (by kernel_rfl) fun f8 hf8 => ?_
        refine k_c ?_
        refine k_exit ?_
        refine x_c nofun ?_
        refine x_b ?_
        refine k_c ?_
        refine k_reg ?_
        refine mops_en hf8 (by kernel_rfl) fun f9 hf9 => ?_
        refine k_l ?_
        exact ih _ _ ⟨l_7, (word_1 ++ ((s_ ++ (⟨#[32]⟩ : ByteArray)).extract (i_1 : Int).toNat ((IntKind.wrap .i64 (i_1 + 1)) : Int).toNat)), (IntKind.wrap .i64 (i_1 + 1)), v_7, h, FOk_of [0, 2, 3, 4, 5, 6] hf9 (by kernel_rfl), (by kernel_rfl)⟩
      · have h := if_f h hc4
        refine k_skip ?_
        refine k_c ?_
        refine k_seq ?_
        refine k_seq ?_
        refine k_reg ?_
        refine mops_en hf4 (by kernel_rfl) fun f5 hf5 => ?_
        refine k_c ?_
        refine k_cond hf5 (t := (word_1.toList == (⟨#[]⟩ : ByteArray).toList)) (by kernel_rfl) (fun hc7 => ?_) (fun hc7 => ?_)
        · have h := if_t h hc7
          refine k_exit ?_
          refine x_c nofun ?_
          refine x_b ?_
          refine k_c ?_
          refine k_reg ?_
          refine mops_en hf5 (by kernel_rfl) fun f6 hf6 => ?_
          refine k_l ?_
          exact ih _ _ ⟨l_7, word_1, (IntKind.wrap .i64 (i_1 + 1)), v_7, h, FOk_of [0, 2, 3, 4, 5, 6] hf6 (by kernel_rfl), (by kernel_rfl)⟩
        · have h := if_f h hc7
          refine k_skip ?_
          refine k_c ?_
          refine k_seq ?_
          refine k_reg ?_
          refine mops_en hf5 (by kernel_rfl) fun f6 hf6 => ?_
          refine k_c ?_
          refine k_seq ?_
          refine k_block ?_
          obtain ⟨o1, hx1, h⟩ := Option.bind_eq_some_iff.1 h
          have hgo1 : ∀ (star_8 : Int) (t_12 : Int) (t_13 : Bool) (t_14 : Bool) (t_15 : Bool), (star_8, t_12, t_13, t_14, t_15) = o1 → ∀ f, FOk f [⟨0, [], .s (.string (s_ ++ (⟨#[32]⟩ : ByteArray)))⟩, ⟨2, [], .ref 0 0 0 0⟩, ⟨3, [], .s (.int .i64 0)⟩, ⟨4, [], .ref 1 v_7 0 l_7.length⟩, ⟨5, [], .s (.string word_1)⟩, ⟨6, [], .s (.int .i64 i_1)⟩, ⟨7, [], .s (.int .i64 star_8)⟩, ⟨16, [], .s (.int .i64 i_1)⟩, ⟨17, [], .s (.string (s_ ++ (⟨#[32]⟩ : ByteArray)))⟩, ⟨18, [], .s (.int .i64 (sln (s_ ++ (⟨#[32]⟩ : ByteArray))))⟩, ⟨19, [], .s (.bool (decide (i_1 < (sln (s_ ++ (⟨#[32]⟩ : ByteArray))))))⟩, ⟨22, [], .s (.string (s_ ++ (⟨#[32]⟩ : ByteArray)))⟩, ⟨23, [], .s (.int .i64 i_1)⟩, ⟨24, [], .s (.int .u8 (bt (s_ ++ (⟨#[32]⟩ : ByteArray)) i_1))⟩, ⟨25, [], .s (.bool ((bt (s_ ++ (⟨#[32]⟩ : ByteArray)) i_1) != 32))⟩, ⟨33, [], .s (.string word_1)⟩, ⟨34, [], .s (.bool (word_1.toList == (⟨#[]⟩ : ByteArray).toList))⟩, ⟨35, [], .s (.int .i64 t_12)⟩, ⟨36, [], .s (.string word_1)⟩, ⟨37, [], .s (.int .i64 (sln word_1))⟩, ⟨38, [], .s (.bool t_13)⟩, ⟨39, [], .s (.bool t_14)⟩, ⟨44, [], .s (.bool t_15)⟩] → kont Tryd.prog [] (spinetref31_Parse_C r) ((.c spinetref31_Parse_i55) :: (.b 1) :: (.c spinetref31_Parse_i60) :: (.l R0) :: (.b 0) :: (.c spinetref31_Parse_i66) :: []) .normal f [⟨0, .grow, 6, cat api_Pins.v ([] : List api_Pins)⟩, ⟨v_7, .grow, 6, cat api_Pins.v l_7⟩] := by
            intro star_8 t_12 t_13 t_14 t_15 e f hf
            subst e
            refine k_c ?_
            refine k_seq ?_
            refine k_reg ?_
            refine mops_sg 2 hf (by kernel_rfl) fun f1 hf1 => ?_
            obtain ⟨c11, h⟩ := as_ok h
            refine mops_adv rfl (v := .s (.string (word_1.extract 0 (star_8 : Int).toNat))) hf1 (by kernel_rfl) (e_sstr (t := word_1) (by kernel_rfl) (b_ns (k := .i64) (iv := star_8) (by kernel_rfl) c11)) fun f2 hf2 => ?_
            obtain ⟨r_4, hx_r_4, h⟩ := Option.bind_eq_some_iff.1 h
            refine mops_call rfl hf2 (av := [.s (.string (word_1.extract 0 (star_8 : Int).toNat))]) (by kernel_rfl) (v := .tup [.agg [.s (.bool r_4.1.Reset), .s (.bool r_4.1.Nmi), .s (.bool r_4.1.Firq), .s (.bool r_4.1.Irq), .s (.bool r_4.1.Halt), .s (.bool r_4.1.Req)], .s (.bool r_4.2)]) (CalL.pure (spinetref31_One_ok (word_1.extract 0 (star_8 : Int).toNat) r_4 hx_r_4) rfl rfl (Nat.le_of_ble_eq_true (by kernel_rfl))) (fun _ => rfl) fun f3 hf3 => ?_
            refine mops_en hf3 (by kernel_rfl) fun f4 hf4 => ?_
            refine k_c ?_
            refine k_seq ?_
            refine k_reg ?_
            refine mops_en hf4 (by kernel_rfl) fun f5 hf5 => ?_
            refine k_c ?_
            refine k_seq ?_
            refine k_seq ?_
            refine k_reg ?_
            refine mops_en hf5 (by kernel_rfl) fun f6 hf6 => ?_
            refine k_c ?_
            have hj1 : ∀ (ok_2 : Bool) (n_2 : Int), spinetref31_Parse_j0 ((spinetref31_Parse_l4 s_ n0)) l_7 i_1 r_4 ok_2 n_2 = some o0 → ∀ f, FOk f [⟨0, [], .s (.string (s_ ++ (⟨#[32]⟩ : ByteArray)))⟩, ⟨2, [], .ref 0 0 0 0⟩, ⟨3, [], .s (.int .i64 0)⟩, ⟨4, [], .ref 1 v_7 0 l_7.length⟩, ⟨5, [], .s (.string word_1)⟩, ⟨6, [], .s (.int .i64 i_1)⟩, ⟨7, [], .s (.int .i64 star_8)⟩, ⟨8, [], .ptr 2 0 0⟩, ⟨9, [], .s (.bool ok_2)⟩, ⟨10, [], .s (.int .i64 n_2)⟩, ⟨16, [], .s (.int .i64 i_1)⟩, ⟨17, [], .s (.string (s_ ++ (⟨#[32]⟩ : ByteArray)))⟩, ⟨18, [], .s (.int .i64 (sln (s_ ++ (⟨#[32]⟩ : ByteArray))))⟩, ⟨19, [], .s (.bool (decide (i_1 < (sln (s_ ++ (⟨#[32]⟩ : ByteArray))))))⟩, ⟨22, [], .s (.string (s_ ++ (⟨#[32]⟩ : ByteArray)))⟩, ⟨23, [], .s (.int .i64 i_1)⟩, ⟨24, [], .s (.int .u8 (bt (s_ ++ (⟨#[32]⟩ : ByteArray)) i_1))⟩, ⟨25, [], .s (.bool ((bt (s_ ++ (⟨#[32]⟩ : ByteArray)) i_1) != 32))⟩, ⟨33, [], .s (.string word_1)⟩, ⟨34, [], .s (.bool (word_1.toList == (⟨#[]⟩ : ByteArray).toList))⟩, ⟨35, [], .s (.int .i64 t_12)⟩, ⟨36, [], .s (.string word_1)⟩, ⟨37, [], .s (.int .i64 (sln word_1))⟩, ⟨38, [], .s (.bool t_13)⟩, ⟨39, [], .s (.bool t_14)⟩, ⟨44, [], .s (.bool t_15)⟩, ⟨47, [], .tup [.agg [.s (.bool r_4.1.Reset), .s (.bool r_4.1.Nmi), .s (.bool r_4.1.Firq), .s (.bool r_4.1.Irq), .s (.bool r_4.1.Halt), .s (.bool r_4.1.Req)], .s (.bool r_4.2)]⟩, ⟨48, [], .s (.string word_1)⟩, ⟨49, [], .s (.int .i64 star_8)⟩, ⟨50, [], .s (.string (word_1.extract 0 (star_8 : Int).toNat))⟩, ⟨51, [], .tup [.agg [.s (.bool r_4.1.Reset), .s (.bool r_4.1.Nmi), .s (.bool r_4.1.Firq), .s (.bool r_4.1.Irq), .s (.bool r_4.1.Halt), .s (.bool r_4.1.Req)], .s (.bool r_4.2)]⟩, ⟨52, [], .agg [.s (.bool r_4.1.Reset), .s (.bool r_4.1.Nmi), .s (.bool r_4.1.Firq), .s (.bool r_4.1.Irq), .s (.bool r_4.1.Halt), .s (.bool r_4.1.Req)]⟩, ⟨53, [], .s (.bool r_4.2)⟩, ⟨54, [], .s (.int .i64 star_8)⟩, ⟨55, [], .s (.string word_1)⟩, ⟨56, [], .s (.int .i64 (sln word_1))⟩, ⟨57, [], .s (.bool (decide (star_8 < (sln word_1))))⟩] → kont Tryd.prog [] (spinetref31_Parse_C r) ((.c spinetref31_Parse_i52) :: (.b 1) :: (.c spinetref31_Parse_i60) :: (.l R0) :: (.b 0) :: (.c spinetref31_Parse_i66) :: []) .normal f [⟨0, .grow, 6, cat api_Pins.v ([] : List api_Pins)⟩, ⟨v_7, .grow, 6, cat api_Pins.v l_7⟩, ⟨0, .mem, 1, [.s (.bool r_4.1.Reset), .s (.bool r_4.1.Nmi), .s (.bool r_4.1.Firq), .s (.bool r_4.1.Irq), .s (.bool r_4.1.Halt), .s (.bool r_4.1.Req)]⟩] := by
              intro ok_2 n_2 h f hf
              unfold spinetref31_Parse_j0 at h
              refine k_c ?_
              refine k_seq ?_
              refine k_seq ?_
              refine k_reg ?_
              refine mops_en hf (by kernel_rfl) fun f1 hf1 => ?_
              refine k_c ?_
              refine k_cond hf1 (t := (!ok_2)) (by kernel_rfl) (fun hc14 => ?_) (fun hc14 => ?_)
              · have h := if_t h hc14
                refine k_seq ?_
                refine k_reg ?_
                refine mops_en hf1 (by kernel_rfl) fun f2 hf2 => ?_
                refine k_c ?_
                refine k_ret ?_
                refine x_c nofun ?_
                refine x_br ?_
                refine x_c nofun ?_
                refine x_l nofun ?_
                refine x_br ?_
                refine x_c nofun ?_
                obtain rfl := hret0 _ (Option.some.inj h)
                exact k_fin (fin_ret (.inl rfl) hf2 (vs := [.ref 3 0 0 0, .s (.int .i64 21)]) (by kernel_rfl) (SettL.pure (FzL.tup (FzsL.cons (FzL.whole (g := api_Pins.v) (kd := .grow) (l := ([] : List api_Pins)) (by kernel_rfl) rfl (live_grow (by kernel_rfl))) (FzsL.cons (FzL.stat rfl) FzsL.nil)))))
              · have h := if_f h hc14
                refine k_skip ?_
                refine k_c ?_
                refine k_seq ?_
                refine k_seq ?_
                refine k_reg ?_
                refine mops_en hf1 (by kernel_rfl) fun f2 hf2 => ?_
                refine k_c ?_
                refine k_cond hf2 (t := (n_2 == 0)) (by kernel_rfl) (fun hc15 => ?_) (fun hc15 => ?_)
                · have h := if_t h hc15
                  refine k_seq ?_
                  refine k_reg ?_
                  refine mops_en hf2 (by kernel_rfl) fun f3 hf3 => ?_
                  refine k_c ?_
                  refine k_ret ?_
                  refine x_c nofun ?_
                  refine x_br ?_
                  refine x_c nofun ?_
                  refine x_l nofun ?_
                  refine x_br ?_
                  refine x_c nofun ?_
                  obtain rfl := hret0 _ (Option.some.inj h)
                  exact k_fin (fin_ret (.inl rfl) hf3 (vs := [.ref 3 0 0 0, .s (.int .i64 10)]) (by kernel_rfl) (SettL.pure (FzL.tup (FzsL.cons (FzL.whole (g := api_Pins.v) (kd := .grow) (l := ([] : List api_Pins)) (by kernel_rfl) rfl (live_grow (by kernel_rfl))) (FzsL.cons (FzL.stat rfl) FzsL.nil)))))
                · have h := if_f h hc15
                  refine k_skip ?_
                  refine k_c ?_
                  refine k_seq ?_
                  refine k_seq ?_
                  refine k_reg ?_
                  refine mops_sg 2 hf2 (by kernel_rfl) fun f3 hf3 => ?_
                  refine mops_adv rfl (v := .s (.int .i64 (ln l_7))) hf3 (by kernel_rfl) (e_len_ref (l := l_7) (B := ⟨v_7, .grow, 6, cat api_Pins.v l_7⟩) (b := 1) (ver := v_7) (n := l_7.length) (by kernel_rfl) rfl (live_grow (by kernel_rfl))) fun f4 hf4 => ?_
                  refine mops_en hf4 (by kernel_rfl) fun f5 hf5 => ?_
                  refine k_c ?_
                  refine k_cond hf5 (t := (decide ((IntKind.wrap .i64 (4096 - (ln l_7))) < n_2))) (by kernel_rfl) (fun hc16 => ?_) (fun hc16 => ?_)
                  · have h := if_t h hc16
                    refine k_seq ?_
                    refine k_reg ?_
                    refine mops_en hf5 (by kernel_rfl) fun f6 hf6 => ?_
                    refine k_c ?_
                    refine k_ret ?_
                    refine x_c nofun ?_
                    refine x_br ?_
                    refine x_c nofun ?_
                    refine x_l nofun ?_
                    refine x_br ?_
                    refine x_c nofun ?_
                    obtain rfl := hret0 _ (Option.some.inj h)
                    exact k_fin (fin_ret (.inl rfl) hf6 (vs := [.ref 3 0 0 0, .s (.int .i64 12)]) (by kernel_rfl) (SettL.pure (FzL.tup (FzsL.cons (FzL.whole (g := api_Pins.v) (kd := .grow) (l := ([] : List api_Pins)) (by kernel_rfl) rfl (live_grow (by kernel_rfl))) (FzsL.cons (FzL.stat rfl) FzsL.nil)))))
                  · have h := if_f h hc16
                    refine k_skip ?_
                    refine k_c ?_
                    refine k_seq ?_
                    refine k_seq ?_
                    refine k_reg ?_
                    refine mops_en hf5 (by kernel_rfl) fun f6 hf6 => ?_
                    refine k_c ?_
                    refine k_block ?_
                    obtain ⟨o2, hx2, h⟩ := Option.bind_eq_some_iff.1 h
                    have hgo2 : ∀ (l_11 : (List api_Pins)) (k_8 : Int) (t_16 : Int) (t_17 : Bool) (v_11 : Nat), (l_11, k_8, t_16, t_17) = o2 → ∀ f, FOk f [⟨0, [], .s (.string (s_ ++ (⟨#[32]⟩ : ByteArray)))⟩, ⟨2, [], .ref 0 0 0 0⟩, ⟨3, [], .s (.int .i64 0)⟩, ⟨4, [], .ref 1 v_11 0 l_11.length⟩, ⟨5, [], .s (.string word_1)⟩, ⟨6, [], .s (.int .i64 i_1)⟩, ⟨7, [], .s (.int .i64 star_8)⟩, ⟨8, [], .ptr 2 0 0⟩, ⟨9, [], .s (.bool ok_2)⟩, ⟨10, [], .s (.int .i64 n_2)⟩, ⟨13, [], .s (.int .i64 k_8)⟩, ⟨16, [], .s (.int .i64 i_1)⟩, ⟨17, [], .s (.string (s_ ++ (⟨#[32]⟩ : ByteArray)))⟩, ⟨18, [], .s (.int .i64 (sln (s_ ++ (⟨#[32]⟩ : ByteArray))))⟩, ⟨19, [], .s (.bool (decide (i_1 < (sln (s_ ++ (⟨#[32]⟩ : ByteArray))))))⟩, ⟨22, [], .s (.string (s_ ++ (⟨#[32]⟩ : ByteArray)))⟩, ⟨23, [], .s (.int .i64 i_1)⟩, ⟨24, [], .s (.int .u8 (bt (s_ ++ (⟨#[32]⟩ : ByteArray)) i_1))⟩, ⟨25, [], .s (.bool ((bt (s_ ++ (⟨#[32]⟩ : ByteArray)) i_1) != 32))⟩, ⟨33, [], .s (.string word_1)⟩, ⟨34, [], .s (.bool (word_1.toList == (⟨#[]⟩ : ByteArray).toList))⟩, ⟨35, [], .s (.int .i64 t_12)⟩, ⟨36, [], .s (.string word_1)⟩, ⟨37, [], .s (.int .i64 (sln word_1))⟩, ⟨38, [], .s (.bool t_13)⟩, ⟨39, [], .s (.bool t_14)⟩, ⟨44, [], .s (.bool t_15)⟩, ⟨47, [], .tup [.agg [.s (.bool r_4.1.Reset), .s (.bool r_4.1.Nmi), .s (.bool r_4.1.Firq), .s (.bool r_4.1.Irq), .s (.bool r_4.1.Halt), .s (.bool r_4.1.Req)], .s (.bool r_4.2)]⟩, ⟨48, [], .s (.string word_1)⟩, ⟨49, [], .s (.int .i64 star_8)⟩, ⟨50, [], .s (.string (word_1.extract 0 (star_8 : Int).toNat))⟩, ⟨51, [], .tup [.agg [.s (.bool r_4.1.Reset), .s (.bool r_4.1.Nmi), .s (.bool r_4.1.Firq), .s (.bool r_4.1.Irq), .s (.bool r_4.1.Halt), .s (.bool r_4.1.Req)], .s (.bool r_4.2)]⟩, ⟨52, [], .agg [.s (.bool r_4.1.Reset), .s (.bool r_4.1.Nmi), .s (.bool r_4.1.Firq), .s (.bool r_4.1.Irq), .s (.bool r_4.1.Halt), .s (.bool r_4.1.Req)]⟩, ⟨53, [], .s (.bool r_4.2)⟩, ⟨54, [], .s (.int .i64 star_8)⟩, ⟨55, [], .s (.string word_1)⟩, ⟨56, [], .s (.int .i64 (sln word_1))⟩, ⟨57, [], .s (.bool (decide (star_8 < (sln word_1))))⟩, ⟨71, [], .s (.bool ok_2)⟩, ⟨72, [], .s (.bool (!ok_2))⟩, ⟨73, [], .s (.int .i64 n_2)⟩, ⟨74, [], .s (.bool (n_2 == 0))⟩, ⟨75, [], .s (.int .i64 n_2)⟩, ⟨77, [], .s (.int .i64 (ln l_7))⟩, ⟨78, [], .s (.int .i64 (IntKind.wrap .i64 (4096 - (ln l_7))))⟩, ⟨79, [], .s (.bool (decide ((IntKind.wrap .i64 (4096 - (ln l_7))) < n_2)))⟩, ⟨80, [], .s (.int .i64 t_16)⟩, ⟨81, [], .s (.int .i64 n_2)⟩, ⟨82, [], .s (.bool t_17)⟩] → kont Tryd.prog [] (spinetref31_Parse_C r) ((.c spinetref31_Parse_i48) :: (.b 1) :: (.c spinetref31_Parse_i60) :: (.l R0) :: (.b 0) :: (.c spinetref31_Parse_i66) :: []) .normal f [⟨0, .grow, 6, cat api_Pins.v ([] : List api_Pins)⟩, ⟨v_11, .grow, 6, cat api_Pins.v l_11⟩, ⟨0, .mem, 1, [.s (.bool r_4.1.Reset), .s (.bool r_4.1.Nmi), .s (.bool r_4.1.Firq), .s (.bool r_4.1.Irq), .s (.bool r_4.1.Halt), .s (.bool r_4.1.Req)]⟩] := by
                      intro l_11 k_8 t_16 t_17 v_11 e f hf
                      subst e
                      refine k_c ?_
                      refine k_reg ?_
                      refine mops_en hf (by kernel_rfl) fun f1 hf1 => ?_
                      refine k_b ?_
                      refine k_c ?_
                      refine k_reg ?_
                      refine mops_en hf1 (by kernel_rfl) fun f2 hf2 => ?_
                      refine k_l' (vs_cut (l := [⟨0, [], .s (.string (s_ ++ (⟨#[32]⟩ : ByteArray)))⟩, ⟨2, [], .ref 0 0 0 0⟩, ⟨3, [], .s (.int .i64 0)⟩, ⟨4, [], .ref 1 v_11 0 l_11.length⟩, ⟨5, [], .s (.string (⟨#[]⟩ : ByteArray))⟩, ⟨6, [], .s (.int .i64 (IntKind.wrap .i64 (i_1 + 1)))⟩]) 2 (by kernel_rfl) (by kernel_rfl) (L' := [⟨0, .grow, 6, cat api_Pins.v ([] : List api_Pins)⟩, ⟨v_11, .grow, 6, cat api_Pins.v l_11⟩]) (by kernel_rfl) ⟨⟨rfl, rfl⟩, ⟨rfl, rfl⟩, ⟨rfl, rfl⟩, ⟨rfl, rfl⟩, ⟨rfl, rfl⟩, ⟨rfl, rfl⟩, trivial⟩ ⟨.inr (.inr (statics_unders _ _ (cat_stat _))), .inr (.inr (statics_unders _ _ (cat_stat _))), trivial⟩ (FOk_of [0, 2, 3, 4, 5, 6] hf2 (by kernel_rfl)) fun f hf => ?_)
                      exact ih _ _ ⟨l_11, (⟨#[]⟩ : ByteArray), (IntKind.wrap .i64 (i_1 + 1)), v_11, h, hf, rfl⟩
                    refine k_loop BIG ?_
                    refine loop_ind (fun n f L => ∃ (l_10 : (List api_Pins)) (k_7 : Int) (v_10 : Nat), spinetref31_Parse_l6 r_4 n_2 n l_10 k_7 = some o2 ∧ FOk f [⟨0, [], .s (.string (s_ ++ (⟨#[32]⟩ : ByteArray)))⟩, ⟨2, [], .ref 0 0 0 0⟩, ⟨3, [], .s (.int .i64 0)⟩, ⟨4, [], .ref 1 v_10 0 l_10.length⟩, ⟨5, [], .s (.string word_1)⟩, ⟨6, [], .s (.int .i64 i_1)⟩, ⟨7, [], .s (.int .i64 star_8)⟩, ⟨8, [], .ptr 2 0 0⟩, ⟨9, [], .s (.bool ok_2)⟩, ⟨10, [], .s (.int .i64 n_2)⟩, ⟨13, [], .s (.int .i64 k_7)⟩, ⟨16, [], .s (.int .i64 i_1)⟩, ⟨17, [], .s (.string (s_ ++ (⟨#[32]⟩ : ByteArray)))⟩, ⟨18, [], .s (.int .i64 (sln (s_ ++ (⟨#[32]⟩ : ByteArray))))⟩, ⟨19, [], .s (.bool (decide (i_1 < (sln (s_ ++ (⟨#[32]⟩ : ByteArray))))))⟩, ⟨22, [], .s (.string (s_ ++ (⟨#[32]⟩ : ByteArray)))⟩, ⟨23, [], .s (.int .i64 i_1)⟩, ⟨24, [], .s (.int .u8 (bt (s_ ++ (⟨#[32]⟩ : ByteArray)) i_1))⟩, ⟨25, [], .s (.bool ((bt (s_ ++ (⟨#[32]⟩ : ByteArray)) i_1) != 32))⟩, ⟨33, [], .s (.string word_1)⟩, ⟨34, [], .s (.bool (word_1.toList == (⟨#[]⟩ : ByteArray).toList))⟩, ⟨35, [], .s (.int .i64 t_12)⟩, ⟨36, [], .s (.string word_1)⟩, ⟨37, [], .s (.int .i64 (sln word_1))⟩, ⟨38, [], .s (.bool t_13)⟩, ⟨39, [], .s (.bool t_14)⟩, ⟨44, [], .s (.bool t_15)⟩, ⟨47, [], .tup [.agg [.s (.bool r_4.1.Reset), .s (.bool r_4.1.Nmi), .s (.bool r_4.1.Firq), .s (.bool r_4.1.Irq), .s (.bool r_4.1.Halt), .s (.bool r_4.1.Req)], .s (.bool r_4.2)]⟩, ⟨48, [], .s (.string word_1)⟩, ⟨49, [], .s (.int .i64 star_8)⟩, ⟨50, [], .s (.string (word_1.extract 0 (star_8 : Int).toNat))⟩, ⟨51, [], .tup [.agg [.s (.bool r_4.1.Reset), .s (.bool r_4.1.Nmi), .s (.bool r_4.1.Firq), .s (.bool r_4.1.Irq), .s (.bool r_4.1.Halt), .s (.bool r_4.1.Req)], .s (.bool r_4.2)]⟩, ⟨52, [], .agg [.s (.bool r_4.1.Reset), .s (.bool r_4.1.Nmi), .s (.bool r_4.1.Firq), .s (.bool r_4.1.Irq), .s (.bool r_4.1.Halt), .s (.bool r_4.1.Req)]⟩, ⟨53, [], .s (.bool r_4.2)⟩, ⟨54, [], .s (.int .i64 star_8)⟩, ⟨55, [], .s (.string word_1)⟩, ⟨56, [], .s (.int .i64 (sln word_1))⟩, ⟨57, [], .s (.bool (decide (star_8 < (sln word_1))))⟩, ⟨71, [], .s (.bool ok_2)⟩, ⟨72, [], .s (.bool (!ok_2))⟩, ⟨73, [], .s (.int .i64 n_2)⟩, ⟨74, [], .s (.bool (n_2 == 0))⟩, ⟨75, [], .s (.int .i64 n_2)⟩, ⟨77, [], .s (.int .i64 (ln l_7))⟩, ⟨78, [], .s (.int .i64 (IntKind.wrap .i64 (4096 - (ln l_7))))⟩, ⟨79, [], .s (.bool (decide ((IntKind.wrap .i64 (4096 - (ln l_7))) < n_2)))⟩] ∧ L = [⟨0, .grow, 6, cat api_Pins.v ([] : List api_Pins)⟩, ⟨v_10, .grow, 6, cat api_Pins.v l_10⟩, ⟨0, .mem, 1, [.s (.bool r_4.1.Reset), .s (.bool r_4.1.Nmi), .s (.bool r_4.1.Firq), .s (.bool r_4.1.Irq), .s (.bool r_4.1.Halt), .s (.bool r_4.1.Req)]⟩]) ?_ ?_ BIG _ _ ⟨l_7, (0), v_7, hx2, FOk_of [0, 2, 3, 4, 5, 6, 7, 8, 9, 10, 13, 16, 17, 18, 19, 22, 23, 24, 25, 33, 34, 35, 36, 37, 38, 39, 44, 47, 48, 49, 50, 51, 52, 53, 54, 55, 56, 57, 71, 72, 73, 74, 75, 77, 78, 79] hf6 (by kernel_rfl), (by kernel_rfl)⟩
                    · rintro f L ⟨l_10, k_7, v_10, h, _⟩
                      cases (show (none : Option _) = some _ from h)
                    · rintro n2 R2 ih f L ⟨l_10, k_7, v_10, h, hf, rfl⟩
                      rw [spinetref31_Parse_l6] at h
                      refine k_seq ?_
                      refine k_seq ?_
                      refine k_reg ?_
                      refine mops_en hf (by kernel_rfl) fun f1 hf1 => ?_
                      refine k_c ?_
                      refine k_cond hf1 (t := (decide (k_7 < n_2))) (by kernel_rfl) (fun hc17 => ?_) (fun hc17 => ?_)
                      · have h := if_t h hc17
                        refine k_skip ?_
                        refine k_c ?_
                        refine k_seq ?_
                        refine k_block ?_
                        refine k_reg ?_
                        refine mops_sg 3 hf1 (by kernel_rfl) fun f2 hf2 => ?_
                        obtain ⟨c18, h⟩ := as_ok h
                        refine mops_adv rfl (v := .ref 1 (v_10 + 1) 0 (l_10 ++ [r_4.1]).length) hf2 (by kernel_rfl) (e_app (g := api_Pins.v) (l := l_10) (l' := [r_4.1]) (b := 1) (ver := v_10) (n := l_10.length) rfl (by kernel_rfl) rfl (live_grow (by kernel_rfl)) (sll_ev (v := .ref 3 0 0 1) (by kernel_rfl) (sll_ref (B := ⟨0, .grow, 6, cat api_Pins.v [r_4.1]⟩) (by kernel_rfl) (live_grow (by kernel_rfl)))) (slc_ev (v := .ref 3 0 0 1) (by kernel_rfl) (slc_ref (g := api_Pins.v) (l := [r_4.1]) (kd := .grow) (q := 6) (by kernel_rfl) (live_grow (by kernel_rfl)))) c18) fun f3 hf3 => ?_
                        refine mops_en hf3 (by kernel_rfl) fun f4 hf4 => ?_
                        refine k_b ?_
                        refine k_c ?_
                        refine k_reg ?_
                        refine mops_en hf4 (by kernel_rfl) fun f5 hf5 => ?_
                        refine k_l' (vs_cut (l := [⟨0, [], .s (.string (s_ ++ (⟨#[32]⟩ : ByteArray)))⟩, ⟨2, [], .ref 0 0 0 0⟩, ⟨3, [], .s (.int .i64 0)⟩, ⟨4, [], .ref 1 (v_10 + 1) 0 (l_10 ++ [r_4.1]).length⟩, ⟨5, [], .s (.string word_1)⟩, ⟨6, [], .s (.int .i64 i_1)⟩, ⟨7, [], .s (.int .i64 star_8)⟩, ⟨8, [], .ptr 2 0 0⟩, ⟨9, [], .s (.bool ok_2)⟩, ⟨10, [], .s (.int .i64 n_2)⟩, ⟨13, [], .s (.int .i64 (IntKind.wrap .i64 (k_7 + 1)))⟩, ⟨16, [], .s (.int .i64 i_1)⟩, ⟨17, [], .s (.string (s_ ++ (⟨#[32]⟩ : ByteArray)))⟩, ⟨18, [], .s (.int .i64 (sln (s_ ++ (⟨#[32]⟩ : ByteArray))))⟩, ⟨19, [], .s (.bool (decide (i_1 < (sln (s_ ++ (⟨#[32]⟩ : ByteArray))))))⟩, ⟨22, [], .s (.string (s_ ++ (⟨#[32]⟩ : ByteArray)))⟩, ⟨23, [], .s (.int .i64 i_1)⟩, ⟨24, [], .s (.int .u8 (bt (s_ ++ (⟨#[32]⟩ : ByteArray)) i_1))⟩, ⟨25, [], .s (.bool ((bt (s_ ++ (⟨#[32]⟩ : ByteArray)) i_1) != 32))⟩, ⟨33, [], .s (.string word_1)⟩, ⟨34, [], .s (.bool (word_1.toList == (⟨#[]⟩ : ByteArray).toList))⟩, ⟨35, [], .s (.int .i64 t_12)⟩, ⟨36, [], .s (.string word_1)⟩, ⟨37, [], .s (.int .i64 (sln word_1))⟩, ⟨38, [], .s (.bool t_13)⟩, ⟨39, [], .s (.bool t_14)⟩, ⟨44, [], .s (.bool t_15)⟩, ⟨47, [], .tup [.agg [.s (.bool r_4.1.Reset), .s (.bool r_4.1.Nmi), .s (.bool r_4.1.Firq), .s (.bool r_4.1.Irq), .s (.bool r_4.1.Halt), .s (.bool r_4.1.Req)], .s (.bool r_4.2)]⟩, ⟨48, [], .s (.string word_1)⟩, ⟨49, [], .s (.int .i64 star_8)⟩, ⟨50, [], .s (.string (word_1.extract 0 (star_8 : Int).toNat))⟩, ⟨51, [], .tup [.agg [.s (.bool r_4.1.Reset), .s (.bool r_4.1.Nmi), .s (.bool r_4.1.Firq), .s (.bool r_4.1.Irq), .s (.bool r_4.1.Halt), .s (.bool r_4.1.Req)], .s (.bool r_4.2)]⟩, ⟨52, [], .agg [.s (.bool r_4.1.Reset), .s (.bool r_4.1.Nmi), .s (.bool r_4.1.Firq), .s (.bool r_4.1.Irq), .s (.bool r_4.1.Halt), .s (.bool r_4.1.Req)]⟩, ⟨53, [], .s (.bool r_4.2)⟩, ⟨54, [], .s (.int .i64 star_8)⟩, ⟨55, [], .s (.string word_1)⟩, ⟨56, [], .s (.int .i64 (sln word_1))⟩, ⟨57, [], .s (.bool (decide (star_8 < (sln word_1))))⟩, ⟨71, [], .s (.bool ok_2)⟩, ⟨72, [], .s (.bool (!ok_2))⟩, ⟨73, [], .s (.int .i64 n_2)⟩, ⟨74, [], .s (.bool (n_2 == 0))⟩, ⟨75, [], .s (.int .i64 n_2)⟩, ⟨77, [], .s (.int .i64 (ln l_7))⟩, ⟨78, [], .s (.int .i64 (IntKind.wrap .i64 (4096 - (ln l_7))))⟩, ⟨79, [], .s (.bool (decide ((IntKind.wrap .i64 (4096 - (ln l_7))) < n_2)))⟩]) 3 (by kernel_rfl) (by kernel_rfl) (L' := [⟨0, .grow, 6, cat api_Pins.v ([] : List api_Pins)⟩, ⟨(v_10 + 1), .grow, 6, cat api_Pins.v (l_10 ++ [r_4.1])⟩, ⟨0, .mem, 1, [.s (.bool r_4.1.Reset), .s (.bool r_4.1.Nmi), .s (.bool r_4.1.Firq), .s (.bool r_4.1.Irq), .s (.bool r_4.1.Halt), .s (.bool r_4.1.Req)]⟩]) (by kernel_rfl) ⟨⟨rfl, rfl⟩, ⟨rfl, rfl⟩, ⟨rfl, rfl⟩, ⟨rfl, rfl⟩, ⟨rfl, rfl⟩, ⟨rfl, rfl⟩, ⟨rfl, rfl⟩, ⟨rfl, rfl⟩, ⟨rfl, rfl⟩, ⟨rfl, rfl⟩, ⟨rfl, rfl⟩, ⟨rfl, rfl⟩, ⟨rfl, rfl⟩, ⟨rfl, rfl⟩, ⟨rfl, rfl⟩, ⟨rfl, rfl⟩, ⟨rfl, rfl⟩, ⟨rfl, rfl⟩, ⟨rfl, rfl⟩, ⟨rfl, rfl⟩, ⟨rfl, rfl⟩, ⟨rfl, rfl⟩, ⟨rfl, rfl⟩, ⟨rfl, rfl⟩, ⟨rfl, rfl⟩, ⟨rfl, rfl⟩, ⟨rfl, rfl⟩, ⟨rfl, rfl⟩, ⟨rfl, rfl⟩, ⟨rfl, rfl⟩, ⟨rfl, rfl⟩, ⟨rfl, rfl⟩, ⟨rfl, rfl⟩, ⟨rfl, rfl⟩, ⟨rfl, rfl⟩, ⟨rfl, rfl⟩, ⟨rfl, rfl⟩, ⟨rfl, rfl⟩, ⟨rfl, rfl⟩, ⟨rfl, rfl⟩, ⟨rfl, rfl⟩, ⟨rfl, rfl⟩, ⟨rfl, rfl⟩, ⟨rfl, rfl⟩, ⟨rfl, rfl⟩, ⟨rfl, rfl⟩, trivial⟩ ⟨.inr (.inr (statics_unders _ _ (cat_stat _))), .inr (.inr (statics_unders _ _ (cat_stat _))), .inr (.inr rfl), trivial⟩ (FOk_of [0, 2, 3, 4, 5, 6, 7, 8, 9, 10, 13, 16, 17, 18, 19, 22, 23, 24, 25, 33, 34, 35, 36, 37, 38, 39, 44, 47, 48, 49, 50, 51, 52, 53, 54, 55, 56, 57, 71, 72, 73, 74, 75, 77, 78, 79] hf5 (by kernel_rfl)) fun f hf => ?_)
                        exact ih _ _ ⟨(l_10 ++ [r_4.1]), (IntKind.wrap .i64 (k_7 + 1)), (v_10 + 1), h, hf, rfl⟩
                      · have h := if_f h hc17
                        refine k_exit ?_
                        refine x_c nofun ?_
                        refine x_l nofun ?_
                        refine x_b ?_
                        refine k_hp (L' := [⟨0, .grow, 6, cat api_Pins.v ([] : List api_Pins)⟩, ⟨v_10, .grow, 6, cat api_Pins.v l_10⟩, ⟨0, .mem, 1, [.s (.bool r_4.1.Reset), .s (.bool r_4.1.Nmi), .s (.bool r_4.1.Firq), .s (.bool r_4.1.Irq), .s (.bool r_4.1.Halt), .s (.bool r_4.1.Req)]⟩]) (by kernel_rfl) ?_
                        exact hgo2 l_10 k_7 k_7 (decide (k_7 < n_2)) v_10 (Option.some.inj h) _ (FOk_of [0, 2, 3, 4, 5, 6, 7, 8, 9, 10, 13, 16, 17, 18, 19, 22, 23, 24, 25, 33, 34, 35, 36, 37, 38, 39, 44, 47, 48, 49, 50, 51, 52, 53, 54, 55, 56, 57, 71, 72, 73, 74, 75, 77, 78, 79, 80, 81, 82] hf1 (by kernel_rfl))
            refine k_cond hf6 (t := (decide (star_8 < (sln word_1)))) (by kernel_rfl) (fun hc12 => ?_) (fun hc12 => ?_)
            · have h := if_t h hc12
              refine k_seq ?_
              refine k_reg ?_
              refine mops_sg 3 hf6 (by kernel_rfl) fun f7 hf7 => ?_
              obtain ⟨c13, h⟩ := as_ok h
              refine mops_adv rfl (v := .s (.string (word_1.extract ((IntKind.wrap .i64 (star_8 + 1)) : Int).toNat word_1.size))) hf7 (by kernel_rfl) (e_sstr (t := word_1) (by kernel_rfl) (b_sn (k := .i64) (iv := (IntKind.wrap .i64 (star_8 + 1))) (by kernel_rfl) c13)) fun f8 hf8 => ?_
              obtain ⟨r_5, hx_r_5, h⟩ := Option.bind_eq_some_iff.1 h
              refine mops_call rfl hf8 (av := [.s (.string (word_1.extract ((IntKind.wrap .i64 (star_8 + 1)) : Int).toNat word_1.size))]) (by kernel_rfl) (v := .tup [.s (.int .i64 r_5.1), .s (.bool r_5.2)]) (CalL.pure (spinetref31_count_ok (word_1.extract ((IntKind.wrap .i64 (star_8 + 1)) : Int).toNat word_1.size) r_5 hx_r_5) rfl rfl (Nat.le_of_ble_eq_true (by kernel_rfl))) (fun _ => rfl) fun f9 hf9 => ?_
              refine mops_en hf9 (by kernel_rfl) fun f10 hf10 => ?_
              refine k_c ?_
              refine k_reg ?_
              refine mops_en hf10 (by kernel_rfl) fun f11 hf11 => ?_
              refine k_hp (L' := [⟨0, .grow, 6, cat api_Pins.v ([] : List api_Pins)⟩, ⟨v_7, .grow, 6, cat api_Pins.v l_7⟩, ⟨0, .mem, 1, [.s (.bool r_4.1.Reset), .s (.bool r_4.1.Nmi), .s (.bool r_4.1.Firq), .s (.bool r_4.1.Irq), .s (.bool r_4.1.Halt), .s (.bool r_4.1.Req)]⟩]) (by kernel_rfl) ?_
              exact hj1 (r_4.2 && r_5.2) r_5.1 h _ (FOk_of [0, 2, 3, 4, 5, 6, 7, 8, 9, 10, 16, 17, 18, 19, 22, 23, 24, 25, 33, 34, 35, 36, 37, 38, 39, 44, 47, 48, 49, 50, 51, 52, 53, 54, 55, 56, 57] hf11 (by kernel_rfl))
            · have h := if_f h hc12
              refine k_skip ?_
              refine k_hp (L' := [⟨0, .grow, 6, cat api_Pins.v ([] : List api_Pins)⟩, ⟨v_7, .grow, 6, cat api_Pins.v l_7⟩, ⟨0, .mem, 1, [.s (.bool r_4.1.Reset), .s (.bool r_4.1.Nmi), .s (.bool r_4.1.Firq), .s (.bool r_4.1.Irq), .s (.bool r_4.1.Halt), .s (.bool r_4.1.Req)]⟩]) (by kernel_rfl) ?_
              exact hj1 r_4.2 (1) h _ (FOk_of [0, 2, 3, 4, 5, 6, 7, 8, 9, 10, 16, 17, 18, 19, 22, 23, 24, 25, 33, 34, 35, 36, 37, 38, 39, 44, 47, 48, 49, 50, 51, 52, 53, 54, 55, 56, 57] hf6 (by kernel_rfl))
          refine k_loop BIG ?_
          refine loop_ind (fun n f L => ∃ (star_7 : Int), spinetref31_Parse_l5 word_1 n star_7 = some o1 ∧ FOk f [⟨0, [], .s (.string (s_ ++ (⟨#[32]⟩ : ByteArray)))⟩, ⟨2, [], .ref 0 0 0 0⟩, ⟨3, [], .s (.int .i64 0)⟩, ⟨4, [], .ref 1 v_7 0 l_7.length⟩, ⟨5, [], .s (.string word_1)⟩, ⟨6, [], .s (.int .i64 i_1)⟩, ⟨7, [], .s (.int .i64 star_7)⟩, ⟨16, [], .s (.int .i64 i_1)⟩, ⟨17, [], .s (.string (s_ ++ (⟨#[32]⟩ : ByteArray)))⟩, ⟨18, [], .s (.int .i64 (sln (s_ ++ (⟨#[32]⟩ : ByteArray))))⟩, ⟨19, [], .s (.bool (decide (i_1 < (sln (s_ ++ (⟨#[32]⟩ : ByteArray))))))⟩, ⟨22, [], .s (.string (s_ ++ (⟨#[32]⟩ : ByteArray)))⟩, ⟨23, [], .s (.int .i64 i_1)⟩, ⟨24, [], .s (.int .u8 (bt (s_ ++ (⟨#[32]⟩ : ByteArray)) i_1))⟩, ⟨25, [], .s (.bool ((bt (s_ ++ (⟨#[32]⟩ : ByteArray)) i_1) != 32))⟩, ⟨33, [], .s (.string word_1)⟩, ⟨34, [], .s (.bool (word_1.toList == (⟨#[]⟩ : ByteArray).toList))⟩] ∧ L = [⟨0, .grow, 6, cat api_Pins.v ([] : List api_Pins)⟩, ⟨v_7, .grow, 6, cat api_Pins.v l_7⟩]) ?_ ?_ BIG _ _ ⟨(0), hx1, FOk_of [0, 2, 3, 4, 5, 6, 7, 16, 17, 18, 19, 22, 23, 24, 25, 33, 34] hf6 (by kernel_rfl), (by kernel_rfl)⟩
          · rintro f L ⟨star_7, h, _⟩
            cases (show (none : Option _) = some _ from h)
          · rintro n1 R1 ih f L ⟨star_7, h, hf, rfl⟩
            rw [spinetref31_Parse_l5] at h
            refine k_seq ?_
            refine k_seq ?_
            refine k_reg ?_
            refine mops_sg 7 hf (by kernel_rfl) fun f1 hf1 => ?_
            obtain ⟨c8, h⟩ := as_ok h
            refine mops_gadv (dst := (some 42)) (op := (.ixs (.t 40) (.t 41))) (aft := [5, 6, 4]) (t := 39) (w := true) (ch := [(39, true)]) (b := (decide (star_7 < (sln word_1)))) (v := .s (.int .u8 (bt word_1 star_7))) (by kernel_rfl) hf1 (by kernel_rfl) (by kernel_rfl) (by kernel_rfl) (fun hb9 => e_ixs (t := word_1) (k := .i64) (iv := star_7) (by kernel_rfl) (by kernel_rfl) (c8 hb9)) fun f2 hf2 => ?_
            refine mops_en hf2 (by kernel_rfl) fun f3 hf3 => ?_
            refine k_c ?_
            refine k_cond hf3 (t := ((decide (star_7 < (sln word_1))) && ((bt word_1 star_7) != 42))) (by kernel_rfl) (fun hc10 => ?_) (fun hc10 => ?_)
            · have h := if_t h hc10
              refine k_skip ?_
              refine k_c ?_
              refine k_block ?_
              refine k_reg ?_
              refine mops_en hf3 (by kernel_rfl) fun f4 hf4 => ?_
              refine k_b ?_
              refine k_l ?_
              exact ih _ _ ⟨(IntKind.wrap .i64 (star_7 + 1)), h, FOk_of [0, 2, 3, 4, 5, 6, 7, 16, 17, 18, 19, 22, 23, 24, 25, 33, 34] hf4 (by kernel_rfl), (by kernel_rfl)⟩
            · have h := if_f h hc10
              refine k_exit ?_
              refine x_c nofun ?_
              refine x_l nofun ?_
              refine x_b ?_
              refine k_hp (L' := [⟨0, .grow, 6, cat api_Pins.v ([] : List api_Pins)⟩, ⟨v_7, .grow, 6, cat api_Pins.v l_7⟩]) (by kernel_rfl) ?_
              exact hgo1 star_7 star_7 (decide (star_7 < (sln word_1))) (decide (star_7 < (sln word_1))) ((decide (star_7 < (sln word_1))) && ((bt word_1 star_7) != 42)) (Option.some.inj h) _ (FOk_of [0, 2, 3, 4, 5, 6, 7, 16, 17, 18, 19, 22, 23, 24, 25, 33, 34, 35, 36, 37, 38, 39, 44] hf3 (by kernel_rfl))
    · have h := if_f h hc2
      refine k_exit ?_
      refine x_c nofun ?_
      refine x_l nofun ?_
      refine x_b ?_
      refine k_hp (L' := [⟨0, .grow, 6, cat api_Pins.v ([] : List api_Pins)⟩, ⟨v_7, .grow, 6, cat api_Pins.v l_7⟩]) (by kernel_rfl) ?_
      exact hgo0 l_7 v_7 (Option.some.inj h) _ (FOk_of [2, 3, 4] hf1 (by kernel_rfl))
end Go.Proofs.YthhjooegpjgicaaDoorK
