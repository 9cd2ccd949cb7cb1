/- The Go functions come to the functions over typed data. Printed by a program of this work. -/
import Derived.Test.YtfdadnldlngmeaaF
import Derived.Test.YtfdadnldlngmeaaProg
import Derived.Test.YtfdadnldlngmeaaG0
namespace Go.Proofs.YtfdadnldlngmeaaK
set_option linter.unusedVariables false
set_option linter.unusedSimpArgs false
set_option maxHeartbeats 4000000
open Go.RowKit
attribute [local irreducible] dwv mops lops lqops lwops kont iter run runK rk okK ex E1 vals val chain chB sel resF
def digit_Unpair_i0 : List Op1 := [(oE 2 (.nilg 1) []), (oM 3 (.k (.int .i64 0)) [0])]
def digit_Unpair_i1 : List Op1 := [(oM 10 (.t 0) []), (oE 11 (.lens (.t 10)) [0]), (oE 12 (.bin .rem (.t 11) (.k (.int .i64 2))) [1]), (oE 13 (.bin .neq (.t 12) (.k (.int .i64 0))) [2])]
def digit_Unpair_i2 : List Op1 := [(oE 2 (.nilg 1) []), (oM 3 (.k (.int .i64 21)) [0, 0])]
def digit_Unpair_i3 : IR := .ret
def digit_Unpair_i4 : IR := (.cond (.t 13) (.seq (.reg false digit_Unpair_i2) digit_Unpair_i3) .skip)
def digit_Unpair_i5 : List Op1 := [(oE 4 (.nilg 1) [])]
def digit_Unpair_i6 : List Op1 := [(oM 5 (.k (.int .i64 0)) [])]
def digit_Unpair_i7 : List Op1 := [(oM 14 (.t 5) []), (oM 15 (.t 0) []), (oE 16 (.lens (.t 15)) [1]), (oE 17 (.bin .lss (.t 14) (.t 16)) [0, 2])]
def digit_Unpair_i8 : IR := (.cond (.t 17) .skip (.exit 0))
def digit_Unpair_i9 : List Op1 := [(oM 21 (.t 0) []), (oM 22 (.t 5) []), (oE 23 (.ixs (.t 21) (.t 22)) [0, 1]), (oC 24 48 [(.t 23)] [2]), (oM 20 (.t 24) [3]), (oE 25 (.ext 0 (.t 20)) [4]), (oE 26 (.ext 1 (.t 20)) [4]), (oM 6 (.t 25) [5, 3, 0, 1, 2, 3, 4, 5]), (oM 7 (.t 26) [6, 7, 0, 1, 2, 3, 4, 5, 6, 7])]
def digit_Unpair_i10 : List Op1 := [(oM 28 (.t 0) []), (oM 29 (.t 5) []), (oE 30 (.bin .add (.t 29) (.k (.int .i64 1))) [1]), (oE 31 (.ixs (.t 28) (.t 30)) [0, 2]), (oC 32 48 [(.t 31)] [3]), (oM 27 (.t 32) [4]), (oE 33 (.ext 0 (.t 27)) [5]), (oE 34 (.ext 1 (.t 27)) [5]), (oM 8 (.t 33) [6, 4, 0, 1, 2, 3, 4, 5, 6]), (oM 9 (.t 34) [7, 8, 0, 1, 2, 3, 4, 5, 6, 7, 8])]
def digit_Unpair_i11 : List Op1 := [(oM 35 (.t 7) []), (oE 36 (.un .not (.t 35)) [0]), (oM 37 (.t 36) [1]), (oG 38 (.mv (.t 9)) 37 false [2]), (oG 39 (.un .not (.t 38)) 37 false [3, 2]), (oE 40 (.pick (.t 37) (.k (.bool true)) (.t 39)) [2, 4])]
def digit_Unpair_i12 : List Op1 := [(oE 2 (.nilg 1) []), (oM 3 (.k (.int .i64 21)) [0, 0])]
def digit_Unpair_i13 : IR := .ret
def digit_Unpair_i14 : IR := (.cond (.t 40) (.seq (.reg false digit_Unpair_i12) digit_Unpair_i13) .skip)
def digit_Unpair_i15 : List Op1 := [(oM 41 (.t 4) []), (oM 42 (.t 6) []), (oE 43 (.bin .shl (.t 42) (.k (.int .u64 4))) [1]), (oM 44 (.t 8) []), (oE 45 (.bin .or (.t 43) (.t 44)) [2, 3]), (oE 46 (.bslo 1 1 [(.int .u8 0)] [(0, (1, (.t 45)))]) [4]), (oE 47 (.app 1 1 (.t 41) (.t 46)) [0, 5]), (oM 4 (.t 47) [6, 6, 0, 1, 2, 3, 4, 5, 6])]
def digit_Unpair_i16 : IR := (.reg false digit_Unpair_i15)
def digit_Unpair_i17 : IR := (.seq (.seq (.reg false digit_Unpair_i11) digit_Unpair_i14) digit_Unpair_i16)
def digit_Unpair_i18 : IR := (.seq (.reg false digit_Unpair_i10) digit_Unpair_i17)
def digit_Unpair_i19 : List Op1 := [(oM 18 (.t 5) []), (oE 19 (.bin .add (.t 18) (.k (.int .i64 2))) [0]), (oM 5 (.t 19) [1, 0, 1])]
def digit_Unpair_i20 : IR := (.reg false digit_Unpair_i19)
def digit_Unpair_i21 : IR := (.seq (.block 1 (.seq (.reg false digit_Unpair_i9) digit_Unpair_i18)) digit_Unpair_i20)
def digit_Unpair_i22 : IR := (.seq (.seq (.reg false digit_Unpair_i7) digit_Unpair_i8) digit_Unpair_i21)
def digit_Unpair_i23 : IR := (.block 0 (.loop digit_Unpair_i22))
def digit_Unpair_i24 : List Op1 := [(oM 48 (.t 4) []), (oM 2 (.t 48) [0, 0]), (oM 3 (.k (.int .i64 0)) [1, 0, 1])]
def digit_Unpair_i25 : IR := .ret
def digit_Unpair_i26 : IR := (.seq (.reg false digit_Unpair_i24) digit_Unpair_i25)
def digit_Unpair_i27 : IR := (.seq (.seq (.reg false digit_Unpair_i6) digit_Unpair_i23) digit_Unpair_i26)
def digit_Unpair_i28 : IR := (.seq (.reg false digit_Unpair_i5) digit_Unpair_i27)
def digit_Unpair_i29 : IR := (.seq (.seq (.reg false digit_Unpair_i1) digit_Unpair_i4) digit_Unpair_i28)
def digit_Unpair_ir : IR := (.seq (.reg false digit_Unpair_i0) digit_Unpair_i29)
theorem digit_Unpair_cfn : cFn Try.prog 27 = some (digit_Unpair_ir, [(.t 2), (.t 3)], 49) := by kernel_rfl
def digit_Unpair_V (r : ((List Int) × Int)) : V := .tup [.sl false r.1.length (cat (nI .u8) r.1), .s (.int .i64 r.2)]
def digit_Unpair_C (r : ((List Int) × Int)) : X → Fr → Hp → Prop := FinL [(.t 2), (.t 3)] [] (digit_Unpair_V r) []
theorem digit_Unpair_ok (s_ : ByteArray) (r : ((List Int) × Int)) (h : digit_Unpair s_ = some r) : Pure Try.prog 27 [.s (.string s_)] (digit_Unpair_V r) := by
  refine ConL.of digit_Unpair_cfn (Nat.le_of_ble_eq_true (by kernel_rfl)) (Nat.le_of_ble_eq_true (by kernel_rfl)) ?_
  refine k_start ?_
  show dwv Try.prog [] digit_Unpair_ir (kont Try.prog [] (digit_Unpair_C r) []) (fr0 [.s (.string s_)]) []
  have hf : FOk (fr0 [.s (.string s_)]) [⟨0, [], .s (.string s_)⟩] := ⟨⟨fun _ => rfl, fun h => (h trivial).elim⟩, trivial⟩
  generalize fr0 [.s (.string s_)] = f at hf ⊢
  unfold digit_Unpair at h
  refine k_seq ?_
  refine k_reg ?_
  refine mops_en hf (by kernel_rfl) fun f1 hf1 => ?_
  refine k_c ?_
  refine k_seq ?_
  refine k_seq ?_
  refine k_reg ?_
  refine mops_en hf1 (by kernel_rfl) fun f2 hf2 => ?_
  refine k_c ?_
  refine k_cond hf2 (t := ((Int.tmod (sln s_) 2) != 0)) (by kernel_rfl) (fun hc1 => ?_) (fun hc1 => ?_)
  · have h := if_t h hc1
    refine k_seq ?_
    refine k_reg ?_
    refine mops_en hf2 (by kernel_rfl) fun f3 hf3 => ?_
    refine k_c ?_
    refine k_ret ?_
    refine x_c nofun ?_
    obtain rfl := Option.some.inj h
    exact k_fin (fin_ret (.inl rfl) hf3 (vs := [.ref 1 0 0 0, .s (.int .i64 21)]) (by kernel_rfl) (SettL.pure (FzL.tup (FzsL.cons (FzL.whole (g := (nI .u8)) (kd := .grow) (l := ([] : List Int)) (by kernel_rfl) rfl (live_grow (by kernel_rfl))) (FzsL.cons (FzL.stat rfl) FzsL.nil)))))
  · have h := if_f h hc1
    refine k_skip ?_
    refine k_c ?_
    refine k_seq ?_
    refine k_reg ?_
    refine mops_en hf2 (by kernel_rfl) fun f3 hf3 => ?_
    refine k_c ?_
    refine k_seq ?_
    refine k_seq ?_
    refine k_reg ?_
    refine mops_en hf3 (by kernel_rfl) fun f4 hf4 => ?_
    refine k_c ?_
    refine k_block ?_
    obtain ⟨o0, hx0, h⟩ := Option.bind_eq_some_iff.1 h
    have hret0 : ∀ r0, .ret r0 = o0 → r0 = r := fun r0 e => by subst e; exact Option.some.inj h
    have hgo0 : ∀ (l_2 : (List Int)) (v_2 : Nat), .go l_2 = o0 → ∀ f, FOk f [⟨2, [], .ref 0 0 0 0⟩, ⟨3, [], .s (.int .i64 0)⟩, ⟨4, [], .ref 1 v_2 0 l_2.length⟩] → kont Try.prog [] (digit_Unpair_C r) ((.c digit_Unpair_i26) :: []) .normal f [⟨0, .grow, 1, cat (nI .u8) ([] : List Int)⟩, ⟨v_2, .grow, 1, cat (nI .u8) l_2⟩] := by
      intro l_2 v_2 e f hf
      subst e
      refine k_c ?_
      refine k_seq ?_
      refine k_reg ?_
      refine mops_en hf (by kernel_rfl) fun f1 hf1 => ?_
      refine k_c ?_
      refine k_ret ?_
      obtain rfl := Option.some.inj h
      exact k_fin (fin_ret (.inl rfl) hf1 (vs := [.ref 1 v_2 0 l_2.length, .s (.int .i64 0)]) (by kernel_rfl) (SettL.pure (FzL.tup (FzsL.cons (FzL.whole (g := (nI .u8)) (kd := .grow) (l := l_2) (by kernel_rfl) rfl (live_grow (by kernel_rfl))) (FzsL.cons (FzL.stat rfl) FzsL.nil)))))
    refine k_loop BIG ?_
    refine loop_ind (fun n f L => ∃ (l_1 : (List Int)) (i_1 : Int) (v_1 : Nat), digit_Unpair_l0 s_ n l_1 i_1 = some o0 ∧ FOk f [⟨0, [], .s (.string s_)⟩, ⟨2, [], .ref 0 0 0 0⟩, ⟨3, [], .s (.int .i64 0)⟩, ⟨4, [], .ref 1 v_1 0 l_1.length⟩, ⟨5, [], .s (.int .i64 i_1)⟩] ∧ L = [⟨0, .grow, 1, cat (nI .u8) ([] : List Int)⟩, ⟨v_1, .grow, 1, cat (nI .u8) l_1⟩]) ?_ ?_ BIG _ _ ⟨([] : List Int), (0), (0), hx0, FOk_of [0, 2, 3, 4, 5] hf4 (by kernel_rfl), (by kernel_rfl)⟩
    · rintro f L ⟨l_1, i_1, v_1, h, _⟩
      cases (show (none : Option _) = some _ from h)
    · rintro n0 R0 ih f L ⟨l_1, i_1, v_1, h, hf, rfl⟩
      rw [digit_Unpair_l0] at h
      refine k_seq ?_
      refine k_seq ?_
      refine k_reg ?_
      refine mops_en hf (by kernel_rfl) fun f1 hf1 => ?_
      refine k_c ?_
      refine k_cond hf1 (t := (decide (i_1 < (sln s_)))) (by kernel_rfl) (fun hc2 => ?_) (fun hc2 => ?_)
      · have h := if_t h hc2
        refine k_skip ?_
        refine k_c ?_
        refine k_seq ?_
        refine k_block ?_
        refine k_seq ?_
        refine k_reg ?_
        refine mops_sg 2 hf1 (by kernel_rfl) fun f2 hf2 => ?_
        obtain ⟨c3, h⟩ := as_ok h
        refine mops_adv rfl (v := .s (.int .u8 (bt s_ i_1))) hf2 (by kernel_rfl) (e_ixs (t := s_) (k := .i64) (iv := i_1) (by kernel_rfl) (by kernel_rfl) c3) fun f3 hf3 => ?_
        obtain ⟨r_4, hx_r_4, h⟩ := Option.bind_eq_some_iff.1 h
        refine mops_call rfl hf3 (av := [.s (.int .u8 (bt s_ i_1))]) (by kernel_rfl) (v := .tup [.s (.int .u8 r_4.1), .s (.bool r_4.2)]) (CalL.pure (digit_value_ok (bt s_ i_1) r_4 hx_r_4) rfl rfl (Nat.le_of_ble_eq_true (by kernel_rfl))) (fun _ => rfl) fun f4 hf4 => ?_
        refine mops_en hf4 (by kernel_rfl) fun f5 hf5 => ?_
        refine k_c ?_
        refine k_seq ?_
        refine k_reg ?_
        refine mops_sg 3 hf5 (by kernel_rfl) fun f6 hf6 => ?_
        obtain ⟨c4, h⟩ := as_ok h
        refine mops_adv rfl (v := .s (.int .u8 (bt s_ (IntKind.wrap .i64 (i_1 + 1))))) hf6 (by kernel_rfl) (e_ixs (t := s_) (k := .i64) (iv := (IntKind.wrap .i64 (i_1 + 1))) (by kernel_rfl) (by kernel_rfl) c4) fun f7 hf7 => ?_
        obtain ⟨r_5, hx_r_5, h⟩ := Option.bind_eq_some_iff.1 h
        refine mops_call rfl hf7 (av := [.s (.int .u8 (bt s_ (IntKind.wrap .i64 (i_1 + 1))))]) (by kernel_rfl) (v := .tup [.s (.int .u8 r_5.1), .s (.bool r_5.2)]) (CalL.pure (digit_value_ok (bt s_ (IntKind.wrap .i64 (i_1 + 1))) r_5 hx_r_5) rfl rfl (Nat.le_of_ble_eq_true (by kernel_rfl))) (fun _ => rfl) fun f8 hf8 => ?_
        refine mops_en hf8 (by kernel_rfl) fun f9 hf9 => ?_
        refine k_c ?_
        refine k_seq ?_
        refine k_seq ?_
        refine k_reg ?_
        refine mops_en hf9 (by kernel_rfl) fun f10 hf10 => ?_
        refine k_c ?_
        refine k_cond hf10 (t := ((!r_4.2) || (!r_5.2))) (by kernel_rfl) (fun hc5 => ?_) (fun hc5 => ?_)
        · have h := if_t h hc5
          refine k_seq ?_
          refine k_reg ?_
          refine mops_en hf10 (by kernel_rfl) fun f11 hf11 => ?_
          refine k_c ?_
          refine k_ret ?_
          refine x_c nofun ?_
          refine x_br ?_
          refine x_c nofun ?_
          refine x_l nofun ?_
          refine x_br ?_
          refine x_c nofun ?_
          obtain rfl := hret0 _ (Option.some.inj h)
          exact k_fin (fin_ret (.inl rfl) hf11 (vs := [.ref 2 0 0 0, .s (.int .i64 21)]) (by kernel_rfl) (SettL.pure (FzL.tup (FzsL.cons (FzL.whole (g := (nI .u8)) (kd := .grow) (l := ([] : List Int)) (by kernel_rfl) rfl (live_grow (by kernel_rfl))) (FzsL.cons (FzL.stat rfl) FzsL.nil)))))
        · have h := if_f h hc5
          refine k_skip ?_
          refine k_c ?_
          refine k_reg ?_
          refine mops_seg [0, 2, 3, 4, 5, 6, 7, 8, 9, 14, 15, 16, 17, 20, 21, 22, 23, 24, 25, 26, 27, 28, 29, 30, 31, 32, 33, 34, 35, 36, 37, 38, 39, 40, 41, 42, 43, 44, 45, 46] 6 hf10 (l' := [⟨0, [], .s (.string s_)⟩, ⟨2, [], .ref 0 0 0 0⟩, ⟨3, [], .s (.int .i64 0)⟩, ⟨4, [], .ref 1 v_1 0 l_1.length⟩, ⟨5, [], .s (.int .i64 i_1)⟩, ⟨6, [], .s (.int .u8 r_4.1)⟩, ⟨7, [], .s (.bool r_4.2)⟩, ⟨8, [], .s (.int .u8 r_5.1)⟩, ⟨9, [], .s (.bool r_5.2)⟩, ⟨14, [], .s (.int .i64 i_1)⟩, ⟨15, [], .s (.string s_)⟩, ⟨16, [], .s (.int .i64 (sln s_))⟩, ⟨17, [], .s (.bool (decide (i_1 < (sln s_))))⟩, ⟨20, [], .tup [.s (.int .u8 r_4.1), .s (.bool r_4.2)]⟩, ⟨21, [], .s (.string s_)⟩, ⟨22, [], .s (.int .i64 i_1)⟩, ⟨23, [], .s (.int .u8 (bt s_ i_1))⟩, ⟨24, [], .tup [.s (.int .u8 r_4.1), .s (.bool r_4.2)]⟩, ⟨25, [], .s (.int .u8 r_4.1)⟩, ⟨26, [], .s (.bool r_4.2)⟩, ⟨27, [], .tup [.s (.int .u8 r_5.1), .s (.bool r_5.2)]⟩, ⟨28, [], .s (.string s_)⟩, ⟨29, [], .s (.int .i64 i_1)⟩, ⟨30, [], .s (.int .i64 (IntKind.wrap .i64 (i_1 + 1)))⟩, ⟨31, [], .s (.int .u8 (bt s_ (IntKind.wrap .i64 (i_1 + 1))))⟩, ⟨32, [], .tup [.s (.int .u8 r_5.1), .s (.bool r_5.2)]⟩, ⟨33, [], .s (.int .u8 r_5.1)⟩, ⟨34, [], .s (.bool r_5.2)⟩, ⟨35, [], .s (.bool r_4.2)⟩, ⟨36, [], .s (.bool (!r_4.2))⟩, ⟨37, [], .s (.bool (!r_4.2))⟩, ⟨38, [(37, false)], .s (.bool r_5.2)⟩, ⟨39, [(37, false)], .s (.bool (!r_5.2))⟩, ⟨40, [], .s (.bool ((!r_4.2) || (!r_5.2)))⟩, ⟨41, [], .ref 1 v_1 0 l_1.length⟩, ⟨42, [], .s (.int .u8 r_4.1)⟩, ⟨43, [], .s (.int .u8 (IntKind.wrap .u8 (r_4.1 * 2 ^ (4))))⟩, ⟨44, [], .s (.int .u8 r_5.1)⟩, ⟨45, [], .s (.int .u8 (bits .or .u8 (IntKind.wrap .u8 (r_4.1 * 2 ^ (4))) r_5.1))⟩, ⟨46, [], .ref 2 0 0 1⟩]) (L' := [⟨0, .grow, 1, cat (nI .u8) ([] : List Int)⟩, ⟨v_1, .grow, 1, cat (nI .u8) l_1⟩, ⟨0, .grow, 1, cat (nI .u8) [(bits .or .u8 (IntKind.wrap .u8 (r_4.1 * 2 ^ (4))) r_5.1)]⟩]) (by kernel_rfl) fun f11 hf11 => ?_
          obtain ⟨c6, h⟩ := as_ok h
          refine mops_adv rfl (v := .ref 1 (v_1 + 1) 0 (l_1 ++ [(bits .or .u8 (IntKind.wrap .u8 (r_4.1 * 2 ^ (4))) r_5.1)]).length) hf11 (by kernel_rfl) (e_app (g := (nI .u8)) (l := l_1) (l' := [(bits .or .u8 (IntKind.wrap .u8 (r_4.1 * 2 ^ (4))) r_5.1)]) (b := 1) (ver := v_1) (n := l_1.length) (by kernel_rfl) rfl (live_grow (by kernel_rfl)) (sll_ev (v := .ref 2 0 0 1) (by kernel_rfl) (sll_ref (B := ⟨0, .grow, 1, cat (nI .u8) [(bits .or .u8 (IntKind.wrap .u8 (r_4.1 * 2 ^ (4))) r_5.1)]⟩) (by kernel_rfl) (live_grow (by kernel_rfl)))) (slc_ev (v := .ref 2 0 0 1) (by kernel_rfl) (slc_ref (g := (nI .u8)) (l := [(bits .or .u8 (IntKind.wrap .u8 (r_4.1 * 2 ^ (4))) r_5.1)]) (kd := .grow) (q := 1) (by kernel_rfl) (live_grow (by kernel_rfl)))) c6) fun f12 hf12 => ?_
          refine mops_en hf12 (by kernel_rfl) fun f13 hf13 => ?_
          refine k_b ?_
          refine k_c ?_
          refine k_reg ?_
          refine mops_en hf13 (by kernel_rfl) fun f14 hf14 => ?_
          refine k_l' (vs_cut (l := [⟨0, [], .s (.string s_)⟩, ⟨2, [], .ref 0 0 0 0⟩, ⟨3, [], .s (.int .i64 0)⟩, ⟨4, [], .ref 1 (v_1 + 1) 0 (l_1 ++ [(bits .or .u8 (IntKind.wrap .u8 (r_4.1 * 2 ^ (4))) r_5.1)]).length⟩, ⟨5, [], .s (.int .i64 (IntKind.wrap .i64 (i_1 + 2)))⟩]) 2 (by kernel_rfl) (by kernel_rfl) (L' := [⟨0, .grow, 1, cat (nI .u8) ([] : List Int)⟩, ⟨(v_1 + 1), .grow, 1, cat (nI .u8) (l_1 ++ [(bits .or .u8 (IntKind.wrap .u8 (r_4.1 * 2 ^ (4))) r_5.1)])⟩]) (by kernel_rfl) ⟨⟨rfl, rfl⟩, ⟨rfl, rfl⟩, ⟨rfl, rfl⟩, ⟨rfl, rfl⟩, ⟨rfl, rfl⟩, trivial⟩ ⟨.inr (.inr (statics_unders _ _ (cat_stat _))), .inr (.inr (statics_unders _ _ (cat_stat _))), trivial⟩ (FOk_of [0, 2, 3, 4, 5] hf14 (by kernel_rfl)) fun f hf => ?_)
          exact ih _ _ ⟨(l_1 ++ [(bits .or .u8 (IntKind.wrap .u8 (r_4.1 * 2 ^ (4))) r_5.1)]), (IntKind.wrap .i64 (i_1 + 2)), (v_1 + 1), h, hf, rfl⟩
      · have h := if_f h hc2
        refine k_exit ?_
        refine x_c nofun ?_
        refine x_l nofun ?_
        refine x_b ?_
        refine k_hp (L' := [⟨0, .grow, 1, cat (nI .u8) ([] : List Int)⟩, ⟨v_1, .grow, 1, cat (nI .u8) l_1⟩]) (by kernel_rfl) ?_
        exact hgo0 l_1 v_1 (Option.some.inj h) _ (FOk_of [2, 3, 4] hf1 (by kernel_rfl))
def spinetref02_Read_i0 : List Op1 := [(oM 6 (.k (.int .u64 0)) []), (oM 7 (.k (.int .i64 0)) [0])]
def spinetref02_Read_i1 : List Op1 := [(oM 12 (.t 0) []), (oE 13 (.bin .eql (.t 12) (.k (.string ⟨#[]⟩))) [0])]
def spinetref02_Read_i2 : List Op1 := [(oM 6 (.k (.int .u64 0)) []), (oM 7 (.k (.int .i64 21)) [0, 0])]
def spinetref02_Read_i3 : IR := .ret
def spinetref02_Read_i4 : IR := (.cond (.t 13) (.seq (.reg false spinetref02_Read_i2) spinetref02_Read_i3) .skip)
def spinetref02_Read_i5 : List Op1 := [(oM 8 (.k (.int .i64 0)) [])]
def spinetref02_Read_i6 : List Op1 := [(oM 14 (.t 8) []), (oM 15 (.t 0) []), (oE 16 (.lens (.t 15)) [1]), (oE 17 (.bin .lss (.t 14) (.t 16)) [0, 2])]
def spinetref02_Read_i7 : IR := (.cond (.t 17) .skip (.exit 0))
def spinetref02_Read_i8 : List Op1 := [(oM 20 (.t 0) []), (oM 21 (.t 8) []), (oE 22 (.ixs (.t 20) (.t 21)) [0, 1]), (oC 23 56 [(.t 22)] [2]), (oM 24 (.t 1) []), (oE 25 (.cint .i64 (.t 24)) [4]), (oE 26 (.bin .geq (.t 23) (.t 25)) [3, 5])]
def spinetref02_Read_i9 : List Op1 := [(oM 6 (.k (.int .u64 0)) []), (oM 7 (.k (.int .i64 21)) [0, 0])]
def spinetref02_Read_i10 : IR := .ret
def spinetref02_Read_i11 : IR := (.cond (.t 26) (.seq (.reg false spinetref02_Read_i9) spinetref02_Read_i10) .skip)
def spinetref02_Read_i12 : List Op1 := [(oM 18 (.t 8) []), (oE 19 (.bin .add (.t 18) (.k (.int .i64 1))) [0]), (oM 8 (.t 19) [1, 0, 1])]
def spinetref02_Read_i13 : IR := (.reg false spinetref02_Read_i12)
def spinetref02_Read_i14 : IR := (.seq (.block 1 (.seq (.reg false spinetref02_Read_i8) spinetref02_Read_i11)) spinetref02_Read_i13)
def spinetref02_Read_i15 : IR := (.seq (.seq (.reg false spinetref02_Read_i6) spinetref02_Read_i7) spinetref02_Read_i14)
def spinetref02_Read_i16 : IR := (.block 0 (.loop spinetref02_Read_i15))
def spinetref02_Read_i17 : List Op1 := [(oM 27 (.t 0) []), (oE 28 (.lens (.t 27)) [0]), (oM 29 (.t 2) []), (oE 30 (.bin .gtr (.t 28) (.t 29)) [1, 2])]
def spinetref02_Read_i18 : List Op1 := [(oM 6 (.k (.int .u64 0)) []), (oM 7 (.k (.int .i64 12)) [0, 0])]
def spinetref02_Read_i19 : IR := .ret
def spinetref02_Read_i20 : IR := (.cond (.t 30) (.seq (.reg false spinetref02_Read_i18) spinetref02_Read_i19) .skip)
def spinetref02_Read_i21 : List Op1 := [(oM 9 (.k (.int .u64 0)) [])]
def spinetref02_Read_i22 : List Op1 := [(oM 10 (.k (.int .i64 0)) [])]
def spinetref02_Read_i23 : List Op1 := [(oM 31 (.t 10) []), (oM 32 (.t 0) []), (oE 33 (.lens (.t 32)) [1]), (oE 34 (.bin .lss (.t 31) (.t 33)) [0, 2])]
def spinetref02_Read_i24 : IR := (.cond (.t 34) .skip (.exit 2))
def spinetref02_Read_i25 : List Op1 := [(oM 37 (.t 0) []), (oM 38 (.t 10) []), (oE 39 (.ixs (.t 37) (.t 38)) [0, 1]), (oC 40 56 [(.t 39)] [2]), (oE 41 (.cint .u64 (.t 40)) [3]), (oM 11 (.t 41) [4, 3, 0, 1, 2, 3, 4])]
def spinetref02_Read_i26 : List Op1 := [(oM 42 (.t 9) []), (oM 43 (.t 11) []), (oE 44 (.bin .sub (.k (.int .u64 18446744073709551615)) (.t 43)) [1]), (oM 45 (.t 1) []), (oE 46 (.bin .quo (.t 44) (.t 45)) [2, 3]), (oE 47 (.bin .gtr (.t 42) (.t 46)) [0, 4])]
def spinetref02_Read_i27 : List Op1 := [(oM 6 (.k (.int .u64 0)) []), (oM 7 (.k (.int .i64 50)) [0, 0])]
def spinetref02_Read_i28 : IR := .ret
def spinetref02_Read_i29 : IR := (.cond (.t 47) (.seq (.reg false spinetref02_Read_i27) spinetref02_Read_i28) .skip)
def spinetref02_Read_i30 : List Op1 := [(oM 48 (.t 1) []), (oM 49 (.t 9) []), (oE 50 (.bin .mul (.t 48) (.t 49)) [0, 1]), (oM 51 (.t 11) []), (oE 52 (.bin .add (.t 50) (.t 51)) [2, 3]), (oM 9 (.t 52) [4, 0, 1, 2, 3, 4])]
def spinetref02_Read_i31 : IR := (.reg false spinetref02_Read_i30)
def spinetref02_Read_i32 : IR := (.seq (.seq (.reg false spinetref02_Read_i26) spinetref02_Read_i29) spinetref02_Read_i31)
def spinetref02_Read_i33 : List Op1 := [(oM 35 (.t 10) []), (oE 36 (.bin .add (.t 35) (.k (.int .i64 1))) [0]), (oM 10 (.t 36) [1, 0, 1])]
def spinetref02_Read_i34 : IR := (.reg false spinetref02_Read_i33)
def spinetref02_Read_i35 : IR := (.seq (.block 3 (.seq (.reg false spinetref02_Read_i25) spinetref02_Read_i32)) spinetref02_Read_i34)
def spinetref02_Read_i36 : IR := (.seq (.seq (.reg false spinetref02_Read_i23) spinetref02_Read_i24) spinetref02_Read_i35)
def spinetref02_Read_i37 : IR := (.block 2 (.loop spinetref02_Read_i36))
def spinetref02_Read_i38 : List Op1 := [(oM 53 (.t 9) []), (oM 6 (.t 53) [0, 0]), (oM 7 (.k (.int .i64 0)) [1, 0, 1])]
def spinetref02_Read_i39 : IR := .ret
def spinetref02_Read_i40 : IR := (.seq (.reg false spinetref02_Read_i38) spinetref02_Read_i39)
def spinetref02_Read_i41 : IR := (.seq (.seq (.reg false spinetref02_Read_i22) spinetref02_Read_i37) spinetref02_Read_i40)
def spinetref02_Read_i42 : IR := (.seq (.reg false spinetref02_Read_i21) spinetref02_Read_i41)
def spinetref02_Read_i43 : IR := (.seq (.seq (.reg false spinetref02_Read_i17) spinetref02_Read_i20) spinetref02_Read_i42)
def spinetref02_Read_i44 : IR := (.seq (.seq (.reg false spinetref02_Read_i5) spinetref02_Read_i16) spinetref02_Read_i43)
def spinetref02_Read_i45 : IR := (.seq (.seq (.reg false spinetref02_Read_i1) spinetref02_Read_i4) spinetref02_Read_i44)
def spinetref02_Read_ir : IR := (.seq (.reg false spinetref02_Read_i0) spinetref02_Read_i45)
theorem spinetref02_Read_cfn : cFn Try.prog 49 = some (spinetref02_Read_ir, [(.t 6), (.t 7)], 54) := by kernel_rfl
def spinetref02_Read_V (r : (Int × Int)) : V := .tup [.s (.int .u64 r.1), .s (.int .i64 r.2)]
def spinetref02_Read_C (r : (Int × Int)) : X → Fr → Hp → Prop := FinL [(.t 6), (.t 7)] [] (spinetref02_Read_V r) []
theorem spinetref02_Read_ok (s_ : ByteArray) (base_ : Int) (most_ : Int) (r : (Int × Int)) (h : spinetref02_Read s_ base_ most_ = some r) : Pure Try.prog 49 [.s (.string s_), .s (.int .u64 base_), .s (.int .i64 most_)] (spinetref02_Read_V r) := by
  refine ConL.of spinetref02_Read_cfn (Nat.le_of_ble_eq_true (by kernel_rfl)) (Nat.le_of_ble_eq_true (by kernel_rfl)) ?_
  refine k_start ?_
  show dwv Try.prog [] spinetref02_Read_ir (kont Try.prog [] (spinetref02_Read_C r) []) (fr0 [.s (.string s_), .s (.int .u64 base_), .s (.int .i64 most_)]) []
  have hf : FOk (fr0 [.s (.string s_), .s (.int .u64 base_), .s (.int .i64 most_)]) [⟨0, [], .s (.string s_)⟩, ⟨1, [], .s (.int .u64 base_)⟩, ⟨2, [], .s (.int .i64 most_)⟩] := ⟨⟨fun _ => rfl, fun h => (h trivial).elim⟩, ⟨fun _ => rfl, fun h => (h trivial).elim⟩, ⟨fun _ => rfl, fun h => (h trivial).elim⟩, trivial⟩
  generalize fr0 [.s (.string s_), .s (.int .u64 base_), .s (.int .i64 most_)] = f at hf ⊢
  unfold spinetref02_Read at h
  refine k_seq ?_
  refine k_reg ?_
  refine mops_en hf (by kernel_rfl) fun f1 hf1 => ?_
  refine k_c ?_
  refine k_seq ?_
  refine k_seq ?_
  refine k_reg ?_
  refine mops_en hf1 (by kernel_rfl) fun f2 hf2 => ?_
  refine k_c ?_
  refine k_cond hf2 (t := (s_.toList == (⟨#[]⟩ : ByteArray).toList)) (by kernel_rfl) (fun hc1 => ?_) (fun hc1 => ?_)
  · have h := if_t h hc1
    refine k_seq ?_
    refine k_reg ?_
    refine mops_en hf2 (by kernel_rfl) fun f3 hf3 => ?_
    refine k_c ?_
    refine k_ret ?_
    refine x_c nofun ?_
    obtain rfl := Option.some.inj h
    exact k_fin (fin_ret (.inl rfl) hf3 (vs := [.s (.int .u64 0), .s (.int .i64 21)]) (by kernel_rfl) (SettL.pure (FzL.tup (FzsL.cons (FzL.stat rfl) (FzsL.cons (FzL.stat rfl) FzsL.nil)))))
  · have h := if_f h hc1
    refine k_skip ?_
    refine k_c ?_
    refine k_seq ?_
    refine k_seq ?_
    refine k_reg ?_
    refine mops_en hf2 (by kernel_rfl) fun f3 hf3 => ?_
    refine k_c ?_
    refine k_block ?_
    obtain ⟨o0, hx0, h⟩ := Option.bind_eq_some_iff.1 h
    have hret0 : ∀ r0, .ret r0 = o0 → r0 = r := fun r0 e => by subst e; exact Option.some.inj h
    have hgo0 : .go () = o0 → ∀ f, FOk f [⟨0, [], .s (.string s_)⟩, ⟨1, [], .s (.int .u64 base_)⟩, ⟨2, [], .s (.int .i64 most_)⟩, ⟨6, [], .s (.int .u64 0)⟩, ⟨7, [], .s (.int .i64 0)⟩] → kont Try.prog [] (spinetref02_Read_C r) ((.c spinetref02_Read_i43) :: []) .normal f [] := by
      intro  e f hf
      subst e
      refine k_c ?_
      refine k_seq ?_
      refine k_seq ?_
      refine k_reg ?_
      refine mops_en hf (by kernel_rfl) fun f1 hf1 => ?_
      refine k_c ?_
      refine k_cond hf1 (t := (decide (most_ < (sln s_)))) (by kernel_rfl) (fun hc5 => ?_) (fun hc5 => ?_)
      · have h := if_t h hc5
        refine k_seq ?_
        refine k_reg ?_
        refine mops_en hf1 (by kernel_rfl) fun f2 hf2 => ?_
        refine k_c ?_
        refine k_ret ?_
        refine x_c nofun ?_
        obtain rfl := Option.some.inj h
        exact k_fin (fin_ret (.inl rfl) hf2 (vs := [.s (.int .u64 0), .s (.int .i64 12)]) (by kernel_rfl) (SettL.pure (FzL.tup (FzsL.cons (FzL.stat rfl) (FzsL.cons (FzL.stat rfl) FzsL.nil)))))
      · have h := if_f h hc5
        refine k_skip ?_
        refine k_c ?_
        refine k_seq ?_
        refine k_reg ?_
        refine mops_en hf1 (by kernel_rfl) fun f2 hf2 => ?_
        refine k_c ?_
        refine k_seq ?_
        refine k_seq ?_
        refine k_reg ?_
        refine mops_en hf2 (by kernel_rfl) fun f3 hf3 => ?_
        refine k_c ?_
        refine k_block ?_
        obtain ⟨o1, hx1, h⟩ := Option.bind_eq_some_iff.1 h
        have hret1 : ∀ r0, .ret r0 = o1 → r0 = r := fun r0 e => by subst e; exact Option.some.inj h
        have hgo1 : ∀ (n_2 : Int), .go n_2 = o1 → ∀ f, FOk f [⟨6, [], .s (.int .u64 0)⟩, ⟨7, [], .s (.int .i64 0)⟩, ⟨9, [], .s (.int .u64 n_2)⟩] → kont Try.prog [] (spinetref02_Read_C r) ((.c spinetref02_Read_i40) :: []) .normal f [] := by
          intro n_2 e f hf
          subst e
          refine k_c ?_
          refine k_seq ?_
          refine k_reg ?_
          refine mops_en hf (by kernel_rfl) fun f1 hf1 => ?_
          refine k_c ?_
          refine k_ret ?_
          obtain rfl := Option.some.inj h
          exact k_fin (fin_ret (.inl rfl) hf1 (vs := [.s (.int .u64 n_2), .s (.int .i64 0)]) (by kernel_rfl) (SettL.pure (FzL.tup (FzsL.cons (FzL.stat rfl) (FzsL.cons (FzL.stat rfl) FzsL.nil)))))
        refine k_loop BIG ?_
        refine loop_ind (fun n f L => ∃ (n_1 : Int) (i_3 : Int), spinetref02_Read_l1 s_ base_ n n_1 i_3 = some o1 ∧ FOk f [⟨0, [], .s (.string s_)⟩, ⟨1, [], .s (.int .u64 base_)⟩, ⟨6, [], .s (.int .u64 0)⟩, ⟨7, [], .s (.int .i64 0)⟩, ⟨9, [], .s (.int .u64 n_1)⟩, ⟨10, [], .s (.int .i64 i_3)⟩] ∧ L = []) ?_ ?_ BIG _ _ ⟨(0), (0), hx1, FOk_of [0, 1, 6, 7, 9, 10] hf3 (by kernel_rfl), (by kernel_rfl)⟩
        · rintro f L ⟨n_1, i_3, h, _⟩
          cases (show (none : Option _) = some _ from h)
        · rintro n1 R1 ih f L ⟨n_1, i_3, h, hf, rfl⟩
          rw [spinetref02_Read_l1] at h
          refine k_seq ?_
          refine k_seq ?_
          refine k_reg ?_
          refine mops_en hf (by kernel_rfl) fun f1 hf1 => ?_
          refine k_c ?_
          refine k_cond hf1 (t := (decide (i_3 < (sln s_)))) (by kernel_rfl) (fun hc6 => ?_) (fun hc6 => ?_)
          · have h := if_t h hc6
            refine k_skip ?_
            refine k_c ?_
            refine k_seq ?_
            refine k_block ?_
            refine k_seq ?_
            refine k_reg ?_
            refine mops_sg 2 hf1 (by kernel_rfl) fun f2 hf2 => ?_
            obtain ⟨c7, h⟩ := as_ok h
            refine mops_adv rfl (v := .s (.int .u8 (bt s_ i_3))) hf2 (by kernel_rfl) (e_ixs (t := s_) (k := .i64) (iv := i_3) (by kernel_rfl) (by kernel_rfl) c7) fun f3 hf3 => ?_
            obtain ⟨r_5, hx_r_5, h⟩ := Option.bind_eq_some_iff.1 h
            refine mops_call rfl hf3 (av := [.s (.int .u8 (bt s_ i_3))]) (by kernel_rfl) (v := .s (.int .i64 r_5)) (CalL.pure (spinetref02_Value_ok (bt s_ i_3) r_5 hx_r_5) rfl rfl (Nat.le_of_ble_eq_true (by kernel_rfl))) (fun _ => rfl) fun f4 hf4 => ?_
            refine mops_en hf4 (by kernel_rfl) fun f5 hf5 => ?_
            refine k_c ?_
            refine k_seq ?_
            refine k_seq ?_
            refine k_reg ?_
            refine mops_sg 4 hf5 (by kernel_rfl) fun f6 hf6 => ?_
            obtain ⟨c8, h⟩ := as_ok h
            refine mops_adv rfl (v := .s (.int .u64 (IntKind.wrap .u64 (Int.tdiv (IntKind.wrap .u64 (18446744073709551615 - (IntKind.wrap .u64 r_5))) base_)))) hf6 (by kernel_rfl) (e_quo (k := .u64) (iv := (IntKind.wrap .u64 (18446744073709551615 - (IntKind.wrap .u64 r_5)))) (jv := base_) (by kernel_rfl) (by kernel_rfl) c8) fun f7 hf7 => ?_
            refine mops_en hf7 (by kernel_rfl) fun f8 hf8 => ?_
            refine k_c ?_
            refine k_cond hf8 (t := (decide ((IntKind.wrap .u64 (Int.tdiv (IntKind.wrap .u64 (18446744073709551615 - (IntKind.wrap .u64 r_5))) base_)) < n_1))) (by kernel_rfl) (fun hc9 => ?_) (fun hc9 => ?_)
            · have h := if_t h hc9
              refine k_seq ?_
              refine k_reg ?_
              refine mops_en hf8 (by kernel_rfl) fun f9 hf9 => ?_
              refine k_c ?_
              refine k_ret ?_
              refine x_c nofun ?_
              refine x_br ?_
              refine x_c nofun ?_
              refine x_l nofun ?_
              refine x_br ?_
              refine x_c nofun ?_
              obtain rfl := hret1 _ (Option.some.inj h)
              exact k_fin (fin_ret (.inl rfl) hf9 (vs := [.s (.int .u64 0), .s (.int .i64 50)]) (by kernel_rfl) (SettL.pure (FzL.tup (FzsL.cons (FzL.stat rfl) (FzsL.cons (FzL.stat rfl) FzsL.nil)))))
            · have h := if_f h hc9
              refine k_skip ?_
              refine k_c ?_
              refine k_reg ?_
              refine mops_en hf8 (by kernel_rfl) fun f9 hf9 => ?_
              refine k_b ?_
              refine k_c ?_
              refine k_reg ?_
              refine mops_en hf9 (by kernel_rfl) fun f10 hf10 => ?_
              refine k_l ?_
              exact ih _ _ ⟨(IntKind.wrap .u64 ((IntKind.wrap .u64 (base_ * n_1)) + (IntKind.wrap .u64 r_5))), (IntKind.wrap .i64 (i_3 + 1)), h, FOk_of [0, 1, 6, 7, 9, 10] hf10 (by kernel_rfl), (by kernel_rfl)⟩
          · have h := if_f h hc6
            refine k_exit ?_
            refine x_c nofun ?_
            refine x_l nofun ?_
            refine x_b ?_
            refine k_hp (L' := []) (by kernel_rfl) ?_
            exact hgo1 n_1 (Option.some.inj h) _ (FOk_of [6, 7, 9] hf1 (by kernel_rfl))
    refine k_loop BIG ?_
    refine loop_ind (fun n f L => ∃ (i_1 : Int), spinetref02_Read_l0 s_ base_ n i_1 = some o0 ∧ FOk f [⟨0, [], .s (.string s_)⟩, ⟨1, [], .s (.int .u64 base_)⟩, ⟨2, [], .s (.int .i64 most_)⟩, ⟨6, [], .s (.int .u64 0)⟩, ⟨7, [], .s (.int .i64 0)⟩, ⟨8, [], .s (.int .i64 i_1)⟩] ∧ L = []) ?_ ?_ BIG _ _ ⟨(0), hx0, FOk_of [0, 1, 2, 6, 7, 8] hf3 (by kernel_rfl), (by kernel_rfl)⟩
    · rintro f L ⟨i_1, h, _⟩
      cases (show (none : Option _) = some _ from h)
    · rintro n0 R0 ih f L ⟨i_1, h, hf, rfl⟩
      rw [spinetref02_Read_l0] at h
      refine k_seq ?_
      refine k_seq ?_
      refine k_reg ?_
      refine mops_en hf (by kernel_rfl) fun f1 hf1 => ?_
      refine k_c ?_
      refine k_cond hf1 (t := (decide (i_1 < (sln s_)))) (by kernel_rfl) (fun hc2 => ?_) (fun hc2 => ?_)
      · have h := if_t h hc2
        refine k_skip ?_
        refine k_c ?_
        refine k_seq ?_
        refine k_block ?_
        refine k_seq ?_
        refine k_reg ?_
        refine mops_sg 2 hf1 (by kernel_rfl) fun f2 hf2 => ?_
        obtain ⟨c3, h⟩ := as_ok h
        refine mops_adv rfl (v := .s (.int .u8 (bt s_ i_1))) hf2 (by kernel_rfl) (e_ixs (t := s_) (k := .i64) (iv := i_1) (by kernel_rfl) (by kernel_rfl) c3) fun f3 hf3 => ?_
        obtain ⟨r_2, hx_r_2, h⟩ := Option.bind_eq_some_iff.1 h
        refine mops_call rfl hf3 (av := [.s (.int .u8 (bt s_ i_1))]) (by kernel_rfl) (v := .s (.int .i64 r_2)) (CalL.pure (spinetref02_Value_ok (bt s_ i_1) r_2 hx_r_2) rfl rfl (Nat.le_of_ble_eq_true (by kernel_rfl))) (fun _ => rfl) fun f4 hf4 => ?_
        refine mops_en hf4 (by kernel_rfl) fun f5 hf5 => ?_
        refine k_c ?_
        refine k_cond hf5 (t := (decide ((IntKind.wrap .i64 base_) ≤ r_2))) (by kernel_rfl) (fun hc4 => ?_) (fun hc4 => ?_)
        · have h := if_t h hc4
          refine k_seq ?_
          refine k_reg ?_
          refine mops_en hf5 (by kernel_rfl) fun f6 hf6 => ?_
          refine k_c ?_
          refine k_ret ?_
          refine x_br ?_
          refine x_c nofun ?_
          refine x_l nofun ?_
          refine x_br ?_
          refine x_c nofun ?_
          obtain rfl := hret0 _ (Option.some.inj h)
          exact k_fin (fin_ret (.inl rfl) hf6 (vs := [.s (.int .u64 0), .s (.int .i64 21)]) (by kernel_rfl) (SettL.pure (FzL.tup (FzsL.cons (FzL.stat rfl) (FzsL.cons (FzL.stat rfl) FzsL.nil)))))
        · have h := if_f h hc4
          refine k_skip ?_
          refine k_b ?_
          refine k_c ?_
          refine k_reg ?_
          refine mops_en hf5 (by kernel_rfl) fun f6 hf6 => ?_
          refine k_l ?_
          exact ih _ _ ⟨(IntKind.wrap .i64 (i_1 + 1)), h, FOk_of [0, 1, 2, 6, 7, 8] hf6 (by kernel_rfl), (by kernel_rfl)⟩
      · have h := if_f h hc2
        refine k_exit ?_
        refine x_c nofun ?_
        refine x_l nofun ?_
        refine x_b ?_
        refine k_hp (L' := []) (by kernel_rfl) ?_
        exact hgo0  (Option.some.inj h) _ (FOk_of [0, 1, 2, 6, 7] hf1 (by kernel_rfl))
def digit_Dec_i0 : List Op1 := [(oM 2 (.k (.string ⟨#[]⟩)) [])]
def digit_Dec_i1 : List Op1 := [(oE 3 (.zero [(.int .u8 0), (.int .u8 0), (.int .u8 0), (.int .u8 0), (.int .u8 0), (.int .u8 0), (.int .u8 0), (.int .u8 0), (.int .u8 0), (.int .u8 0), (.int .u8 0), (.int .u8 0), (.int .u8 0), (.int .u8 0), (.int .u8 0), (.int .u8 0), (.int .u8 0), (.int .u8 0), (.int .u8 0), (.int .u8 0)]) [])]
def digit_Dec_i2 : List Op1 := [(oM 4 (.k (.int .i64 20)) [])]
def digit_Dec_i3 : List Op1 := [(oM 5 (.t 0) []), (oE 6 (.bin .gtr (.t 5) (.k (.int .u64 0))) [0]), (oM 7 (.t 6) [1]), (oG 8 (.mv (.t 4)) 7 false [2]), (oG 9 (.bin .eql (.t 8) (.k (.int .i64 20))) 7 false [3, 2]), (oE 10 (.pick (.t 7) (.k (.bool true)) (.t 9)) [2, 4])]
def digit_Dec_i4 : IR := (.cond (.t 10) .skip (.exit 0))
def digit_Dec_i5 : List Op1 := [(oM 11 (.t 4) []), (oE 12 (.bin .sub (.t 11) (.k (.int .i64 1))) [0]), (oM 4 (.t 12) [1, 0, 1])]
def digit_Dec_i6 : List Op1 := [(oM 13 (.t 4) []), (oM 14 (.t 0) []), (oE 15 (.bin .rem (.t 14) (.k (.int .u64 10))) [1]), (oE 16 (.cint .u8 (.t 15)) [2]), (oC 17 50 [(.t 16)] [3]), (oE 18 (.iaa 20 1 (.t 3) (.t 13)) [0, 0, 1, 2, 3, 4]), (oN (.store 1 (.t 18) (.t 17)) [5, 4, 4, 0, 1, 2, 3, 4])]
def digit_Dec_i7 : List Op1 := [(oM 19 (.t 0) []), (oE 20 (.bin .quo (.t 19) (.k (.int .u64 10))) [0]), (oM 0 (.t 20) [1, 0, 1])]
def digit_Dec_i8 : IR := (.reg false digit_Dec_i7)
def digit_Dec_i9 : IR := (.seq (.reg false digit_Dec_i6) digit_Dec_i8)
def digit_Dec_i10 : IR := (.block 1 (.seq (.reg false digit_Dec_i5) digit_Dec_i9))
def digit_Dec_i11 : IR := (.seq (.seq (.reg false digit_Dec_i3) digit_Dec_i4) digit_Dec_i10)
def digit_Dec_i12 : List Op1 := [(oM 21 (.t 4) []), (oE 22 (.sarr 20 1 (.t 3) (some (.t 21)) none) [0]), (oE 23 (.bstr (.t 22)) [1]), (oM 2 (.t 23) [2, 0, 1, 2])]
def digit_Dec_i13 : IR := .ret
def digit_Dec_i14 : IR := (.seq (.reg false digit_Dec_i12) digit_Dec_i13)
def digit_Dec_i15 : IR := (.seq (.block 0 (.loop digit_Dec_i11)) digit_Dec_i14)
def digit_Dec_i16 : IR := (.seq (.reg false digit_Dec_i2) digit_Dec_i15)
def digit_Dec_i17 : IR := (.seq (.reg false digit_Dec_i1) digit_Dec_i16)
def digit_Dec_ir : IR := (.seq (.reg false digit_Dec_i0) digit_Dec_i17)
theorem digit_Dec_cfn : cFn Try.prog 34 = some (digit_Dec_ir, [(.t 2)], 24) := by kernel_rfl
def digit_Dec_V (r : (ByteArray)) : V := .s (.string r)
def digit_Dec_C (r : (ByteArray)) : X → Fr → Hp → Prop := FinL [(.t 2)] [] (digit_Dec_V r) []
theorem digit_Dec_ok (n_ : Int) (r : (ByteArray)) (h : digit_Dec n_ = some r) : Pure Try.prog 34 [.s (.int .u64 n_)] (digit_Dec_V r) := by
  refine ConL.of digit_Dec_cfn (Nat.le_of_ble_eq_true (by kernel_rfl)) (Nat.le_of_ble_eq_true (by kernel_rfl)) ?_
  refine k_start ?_
  show dwv Try.prog [] digit_Dec_ir (kont Try.prog [] (digit_Dec_C r) []) (fr0 [.s (.int .u64 n_)]) []
  have hf : FOk (fr0 [.s (.int .u64 n_)]) [⟨0, [], .s (.int .u64 n_)⟩] := ⟨⟨fun _ => rfl, fun h => (h trivial).elim⟩, trivial⟩
  generalize fr0 [.s (.int .u64 n_)] = f at hf ⊢
  unfold digit_Dec at h
  refine k_seq ?_
  refine k_reg ?_
  refine mops_en hf (by kernel_rfl) fun f1 hf1 => ?_
  refine k_c ?_
  refine k_seq ?_
  refine k_reg ?_
  refine mops_en hf1 (by kernel_rfl) fun f2 hf2 => ?_
  refine k_c ?_
  refine k_seq ?_
  refine k_reg ?_
  refine mops_en hf2 (by kernel_rfl) fun f3 hf3 => ?_
  refine k_c ?_
  refine k_seq ?_
  refine k_block ?_
  obtain ⟨o0, hx0, h⟩ := Option.bind_eq_some_iff.1 h
  have hgo0 : ∀ (l_2 : (List Int)) (i_2 : Int) (hn_2 : l_2.length = 20), (l_2, i_2) = o0 → ∀ f, FOk f [⟨2, [], .s (.string (⟨#[]⟩ : ByteArray))⟩, ⟨3, [], .ptr 0 0 0⟩, ⟨4, [], .s (.int .i64 i_2)⟩] → kont Try.prog [] (digit_Dec_C r) ((.c digit_Dec_i14) :: []) .normal f [⟨0, .mem, 1, cat (nI .u8) l_2⟩] := by
    intro l_2 i_2 hn_2 e f hf
    subst e
    refine k_c ?_
    refine k_seq ?_
    refine k_reg ?_
    refine mops_sg 1 hf (by kernel_rfl) fun f1 hf1 => ?_
    obtain ⟨c3, h⟩ := as_ok h
    refine mops_adv rfl (v := .ref 0 0 (0 + (i_2 : Int).toNat * 1) (20 - (i_2 : Int).toNat)) hf1 (by kernel_rfl) (e_sarr (g := (nI .u8)) (l := l_2) (q := 0) (ver := 0) (n := 20) (kd := .mem) (by kernel_rfl) (live_mem (by kernel_rfl)) hn_2 (b_sn (k := .i64) (iv := i_2) (by kernel_rfl) c3)) fun f2 hf2 => ?_
    refine mops_adv rfl (v := .s (.string (bs ((l_2.drop (i_2 : Int).toNat).take (20 - (i_2 : Int).toNat))))) hf2 (by kernel_rfl) (e_bstr (q := ((l_2.drop (i_2 : Int).toNat).take (20 - (i_2 : Int).toNat))) (slc_ev (v := .ref 0 0 (0 + (i_2 : Int).toNat * 1) (20 - (i_2 : Int).toNat)) (by kernel_rfl) (slc_refp (g := (nI .u8)) (l := l_2) (q := 0) (n := 20) (a := (i_2 : Int).toNat) (b := 20) (kd := .mem) (z := 1) (cut_sn (n := 20) c3) hn_2 (live_mem (by kernel_rfl))))) fun f3 hf3 => ?_
    refine mops_en hf3 (by kernel_rfl) fun f4 hf4 => ?_
    refine k_c ?_
    refine k_ret ?_
    obtain rfl := Option.some.inj h
    exact k_fin (fin_ret (.inl rfl) hf4 (vs := [.s (.string (bs ((l_2.drop (i_2 : Int).toNat).take (20 - (i_2 : Int).toNat))))]) (by kernel_rfl) (SettL.pure (FzL.stat rfl)))
  refine k_loop BIG ?_
  refine loop_ind (fun n f L => ∃ (l_1 : (List Int)) (t_1 : Int) (i_1 : Int) (hn_1 : l_1.length = 20), digit_Dec_l0 n l_1 t_1 i_1 = some o0 ∧ FOk f [⟨0, [], .s (.int .u64 t_1)⟩, ⟨2, [], .s (.string (⟨#[]⟩ : ByteArray))⟩, ⟨3, [], .ptr 0 0 0⟩, ⟨4, [], .s (.int .i64 i_1)⟩] ∧ L = [⟨0, .mem, 1, cat (nI .u8) l_1⟩]) ?_ ?_ BIG _ _ ⟨[0, 0, 0, 0, 0, 0, 0, 0, 0, 0, 0, 0, 0, 0, 0, 0, 0, 0, 0, 0], n_, (20), (by kernel_rfl), hx0, FOk_of [0, 2, 3, 4] hf3 (by kernel_rfl), (by kernel_rfl)⟩
  · rintro f L ⟨l_1, t_1, i_1, hn_1, h, _⟩
    cases (show (none : Option _) = some _ from h)
  · rintro n0 R0 ih f L ⟨l_1, t_1, i_1, hn_1, h, hf, rfl⟩
    rw [digit_Dec_l0] at h
    refine k_seq ?_
    refine k_seq ?_
    refine k_reg ?_
    refine mops_en hf (by kernel_rfl) fun f1 hf1 => ?_
    refine k_c ?_
    refine k_cond hf1 (t := ((decide (0 < t_1)) || (i_1 == 20))) (by kernel_rfl) (fun hc1 => ?_) (fun hc1 => ?_)
    · have h := if_t h hc1
      refine k_skip ?_
      refine k_c ?_
      refine k_block ?_
      refine k_seq ?_
      refine k_reg ?_
      refine mops_en hf1 (by kernel_rfl) fun f2 hf2 => ?_
      refine k_c ?_
      refine k_seq ?_
      refine k_reg ?_
      refine mops_sg 4 hf2 (by kernel_rfl) fun f3 hf3 => ?_
      obtain ⟨r_2, hx_r_2, h⟩ := Option.bind_eq_some_iff.1 h
      refine mops_call rfl hf3 (av := [.s (.int .u8 (IntKind.wrap .u8 (Int.tmod t_1 10)))]) (by kernel_rfl) (v := .s (.int .u8 r_2)) (CalL.pure (digit_sign_ok (IntKind.wrap .u8 (Int.tmod t_1 10)) r_2 hx_r_2) rfl rfl (Nat.le_of_ble_eq_true (by kernel_rfl))) (fun _ => rfl) fun f4 hf4 => ?_
      obtain ⟨c2, h⟩ := as_ok h
      refine mops_adv rfl (v := .ptr 0 0 (0 + ((IntKind.wrap .i64 (i_1 - 1)) : Int).toNat * 1)) hf4 (by kernel_rfl) (e_iaa (n := 20) (xv := .ptr 0 0 0) (k := .i64) (iv := (IntKind.wrap .i64 (i_1 - 1))) (p := .ptr 0 0 (0 + ((IntKind.wrap .i64 (i_1 - 1)) : Int).toNat * 1)) (by kernel_rfl) (by kernel_rfl) (by kernel_rfl) (by kernel_rfl) c2) fun f5 hf5 => ?_
      refine mops_adv rfl (v := .s undef) hf5 (by kernel_rfl) (e_store_pe (g := (nI .u8)) (l := l_1) (iv := (IntKind.wrap .i64 (i_1 - 1))) (kd := .mem) (q := 1) (b := 0) (ver := 0) (ys := [.s (.int .u8 r_2)]) (a := r_2) [] (by kernel_rfl) (live_mem (by kernel_rfl)) (by kernel_rfl) (by kernel_rfl) (by kernel_rfl) (arr_h (l := l_1) c2 hn_1) (by kernel_rfl) (by kernel_rfl)) fun f6 hf6 => ?_
      refine mops_en hf6 (by kernel_rfl) fun f7 hf7 => ?_
      refine k_c ?_
      refine k_reg ?_
      refine mops_en hf7 (by kernel_rfl) fun f8 hf8 => ?_
      refine k_b ?_
      refine k_l ?_
      exact ih _ _ ⟨(st l_1 (IntKind.wrap .i64 (i_1 - 1)) r_2), (IntKind.wrap .u64 (Int.tdiv t_1 10)), (IntKind.wrap .i64 (i_1 - 1)), (st_len.trans hn_1), h, FOk_of [0, 2, 3, 4] hf8 (by kernel_rfl), (by kernel_rfl)⟩
    · have h := if_f h hc1
      refine k_exit ?_
      refine x_c nofun ?_
      refine x_l nofun ?_
      refine x_b ?_
      refine k_hp (L' := [⟨0, .mem, 1, cat (nI .u8) l_1⟩]) (by kernel_rfl) ?_
      exact hgo0 l_1 i_1 hn_1 (Option.some.inj h) _ (FOk_of [2, 3, 4] hf1 (by kernel_rfl))
def digit_Pairs_i0 : List Op1 := [(oM 2 (.k (.string ⟨#[]⟩)) [])]
def digit_Pairs_i1 : List Op1 := [(oM 6 (.t 0) []), (oE 7 (.len (.t 6)) [0]), (oE 8 (.bin .mul (.k (.int .i64 2)) (.t 7)) [1]), (oE 9 (.mks [(.int .u8 0)] 1 (.k (.int .i64 0)) (.t 8)) [2]), (oM 3 (.t 9) [3, 0, 1, 2, 3])]
def digit_Pairs_i2 : List Op1 := [(oM 10 (.t 0) []), (oE 11 (.len (.t 10)) [0]), (oM 12 (.k (.int .i64 0)) [])]
def digit_Pairs_i3 : List Op1 := [(oE 13 (.bin .lss (.t 12) (.t 11)) [])]
def digit_Pairs_i4 : List Op1 := [(oE 14 (.ias 1 (.t 10) (.t 12)) []), (oE 15 (.load false 1 (.t 14)) [0]), (oM 5 (.t 15) [1, 0, 1])]
def digit_Pairs_i5 : List Op1 := [(oM 16 (.t 3) []), (oM 17 (.t 5) []), (oE 18 (.bin .shr (.t 17) (.k (.int .u64 4))) [1]), (oC 19 50 [(.t 18)] [2]), (oM 20 (.t 5) []), (oE 21 (.bin .and (.t 20) (.k (.int .u8 15))) [4]), (oC 22 50 [(.t 21)] [5, 3]), (oE 23 (.bslo 1 2 [(.int .u8 0), (.int .u8 0)] [(0, (1, (.t 19))), (1, (1, (.t 22)))]) [3, 6]), (oE 24 (.app 1 1 (.t 16) (.t 23)) [0, 7, 6]), (oM 3 (.t 24) [8, 8, 0, 1, 2, 3, 4, 5, 6, 7, 8])]
def digit_Pairs_i6 : IR := (.reg false digit_Pairs_i5)
def digit_Pairs_i7 : List Op1 := [(oE 25 (.bin .add (.t 12) (.k (.int .i64 1))) []), (oM 12 (.t 25) [0])]
def digit_Pairs_i8 : IR := (.reg false digit_Pairs_i7)
def digit_Pairs_i9 : IR := (.seq (.block 1 (.seq (.reg false digit_Pairs_i4) digit_Pairs_i6)) digit_Pairs_i8)
def digit_Pairs_i10 : IR := (.seq (.cond (.t 13) .skip (.exit 0)) digit_Pairs_i9)
def digit_Pairs_i11 : IR := (.seq (.reg false digit_Pairs_i3) digit_Pairs_i10)
def digit_Pairs_i12 : IR := (.block 0 (.loop digit_Pairs_i11))
def digit_Pairs_i13 : List Op1 := [(oM 26 (.t 3) []), (oE 27 (.bstr (.t 26)) [0]), (oM 2 (.t 27) [1, 0, 1])]
def digit_Pairs_i14 : IR := .ret
def digit_Pairs_i15 : IR := (.seq (.reg false digit_Pairs_i13) digit_Pairs_i14)
def digit_Pairs_i16 : IR := (.seq (.seq (.reg false digit_Pairs_i2) digit_Pairs_i12) digit_Pairs_i15)
def digit_Pairs_i17 : IR := (.seq (.reg false digit_Pairs_i1) digit_Pairs_i16)
def digit_Pairs_ir : IR := (.seq (.reg false digit_Pairs_i0) digit_Pairs_i17)
theorem digit_Pairs_cfn : cFn Try.prog 35 = some (digit_Pairs_ir, [(.t 2)], 28) := by kernel_rfl
def digit_Pairs_V (r : (ByteArray)) : V := .s (.string r)
def digit_Pairs_C (r : (ByteArray)) : X → Fr → Hp → Prop := FinL [(.t 2)] [] (digit_Pairs_V r) []
theorem digit_Pairs_ok (b_ : (List Int)) (r : (ByteArray)) (h : digit_Pairs b_ = some r) : Pure Try.prog 35 [.sl false b_.length (cat (nI .u8) b_)] (digit_Pairs_V r) := by
  refine ConL.of digit_Pairs_cfn (Nat.le_of_ble_eq_true (by kernel_rfl)) (Nat.le_of_ble_eq_true (by kernel_rfl)) ?_
  refine k_start ?_
  show dwv Try.prog [] digit_Pairs_ir (kont Try.prog [] (digit_Pairs_C r) []) (fr0 [.sl false b_.length (cat (nI .u8) b_)]) []
  have hf : FOk (fr0 [.sl false b_.length (cat (nI .u8) b_)]) [⟨0, [], .sl false b_.length (cat (nI .u8) b_)⟩] := ⟨⟨fun _ => rfl, fun h => (h trivial).elim⟩, trivial⟩
  generalize fr0 [.sl false b_.length (cat (nI .u8) b_)] = f at hf ⊢
  unfold digit_Pairs at h
  refine k_seq ?_
  refine k_reg ?_
  refine mops_en hf (by kernel_rfl) fun f1 hf1 => ?_
  refine k_c ?_
  refine k_seq ?_
  refine k_reg ?_
  refine mops_sg 3 hf1 (by kernel_rfl) fun f2 hf2 => ?_
  obtain ⟨c1, h⟩ := as_ok h
  refine mops_adv rfl (v := .ref 0 0 0 (rp (0) (0 : Int)).length) hf2 (by kernel_rfl) (e_mks (g := (nI .u8)) (a := 0) (k := .i64) (k' := .i64) (iv := 0) (jv := (IntKind.wrap .i64 (2 * (ln b_)))) (by kernel_rfl) (by kernel_rfl) (by kernel_rfl) c1 (by kernel_rfl)) fun f3 hf3 => ?_
  refine mops_en hf3 (by kernel_rfl) fun f4 hf4 => ?_
  refine k_c ?_
  refine k_seq ?_
  refine k_seq ?_
  refine k_reg ?_
  refine mops_en hf4 (by kernel_rfl) fun f5 hf5 => ?_
  refine k_c ?_
  refine k_block ?_
  obtain ⟨o0, hx0, h⟩ := Option.bind_eq_some_iff.1 h
  have hgo0 : ∀ (l_2 : (List Int)) (v_2 : Nat), l_2 = o0 → ∀ f, FOk f [⟨2, [], .s (.string (⟨#[]⟩ : ByteArray))⟩, ⟨3, [], .ref 0 v_2 0 l_2.length⟩] → kont Try.prog [] (digit_Pairs_C r) ((.c digit_Pairs_i15) :: []) .normal f [⟨v_2, .grow, 1, cat (nI .u8) l_2⟩] := by
    intro l_2 v_2 e f hf
    subst e
    refine k_c ?_
    refine k_seq ?_
    refine k_reg ?_
    refine mops_sg 1 hf (by kernel_rfl) fun f1 hf1 => ?_
    refine mops_adv rfl (v := .s (.string (bs l_2))) hf1 (by kernel_rfl) (e_bstr (q := l_2) (slc_ev (v := .ref 0 v_2 0 l_2.length) (by kernel_rfl) (slc_ref (g := (nI .u8)) (l := l_2) (kd := .grow) (q := 1) rfl (live_grow (by kernel_rfl))))) fun f2 hf2 => ?_
    refine mops_en hf2 (by kernel_rfl) fun f3 hf3 => ?_
    refine k_c ?_
    refine k_ret ?_
    obtain rfl := Option.some.inj h
    exact k_fin (fin_ret (.inl rfl) hf3 (vs := [.s (.string (bs l_2))]) (by kernel_rfl) (SettL.pure (FzL.stat rfl)))
  refine k_loop BIG ?_
  refine loop_ind (fun n f L => ∃ (l_1 : (List Int)) (t_1 : Int) (v_1 : Nat), digit_Pairs_l0 b_ n l_1 t_1 = some o0 ∧ FOk f [⟨2, [], .s (.string (⟨#[]⟩ : ByteArray))⟩, ⟨3, [], .ref 0 v_1 0 l_1.length⟩, ⟨10, [], .sl false b_.length (cat (nI .u8) b_)⟩, ⟨11, [], .s (.int .i64 (ln b_))⟩, ⟨12, [], .s (.int .i64 t_1)⟩] ∧ L = [⟨v_1, .grow, 1, cat (nI .u8) l_1⟩]) ?_ ?_ BIG _ _ ⟨(rp (0) (0 : Int)), (0), (0), hx0, FOk_of [2, 3, 10, 11, 12] hf5 (by kernel_rfl), (by kernel_rfl)⟩
  · rintro f L ⟨l_1, t_1, v_1, h, _⟩
    cases (show (none : Option _) = some _ from h)
  · rintro n0 R0 ih f L ⟨l_1, t_1, v_1, h, hf, rfl⟩
    rw [digit_Pairs_l0] at h
    refine k_seq ?_
    refine k_reg ?_
    refine mops_en hf (by kernel_rfl) fun f1 hf1 => ?_
    refine k_c ?_
    refine k_seq ?_
    refine k_cond hf1 (t := (decide (t_1 < (ln b_)))) (by kernel_rfl) (fun hc2 => ?_) (fun hc2 => ?_)
    · have h := if_t h hc2
      refine k_skip ?_
      refine k_c ?_
      refine k_seq ?_
      refine k_block ?_
      refine k_seq ?_
      refine k_reg ?_
      obtain ⟨c3, h⟩ := as_ok h
      refine mops_adv rfl (v := .ip ((cat (nI .u8) b_).drop ((t_1 : Int).toNat * 1))) hf1 (by kernel_rfl) (e_ias (n := b_.length) (xv := .sl false b_.length (cat (nI .u8) b_)) (k := .i64) (iv := t_1) (p := .ip ((cat (nI .u8) b_).drop ((t_1 : Int).toNat * 1))) (by kernel_rfl) (by kernel_rfl) (by kernel_rfl) (by kernel_rfl) c3) fun f2 hf2 => ?_
      refine mops_adv rfl (v := .s (.int .u8 (gt b_ t_1))) hf2 (by kernel_rfl) (e_load_ip (g := (nI .u8)) (l := b_) (iv := t_1) [] (by kernel_rfl) c3 (by kernel_rfl) (by kernel_rfl)) fun f3 hf3 => ?_
      refine mops_en hf3 (by kernel_rfl) fun f4 hf4 => ?_
      refine k_c ?_
      refine k_reg ?_
      refine mops_sg 3 hf4 (by kernel_rfl) fun f5 hf5 => ?_
      obtain ⟨r_4, hx_r_4, h⟩ := Option.bind_eq_some_iff.1 h
      refine mops_call rfl hf5 (av := [.s (.int .u8 (Int.fdiv (gt b_ t_1) (2 ^ (4))))]) (by kernel_rfl) (v := .s (.int .u8 r_4)) (CalL.pure (digit_sign_ok (Int.fdiv (gt b_ t_1) (2 ^ (4))) r_4 hx_r_4) rfl rfl (Nat.le_of_ble_eq_true (by kernel_rfl))) (fun _ => rfl) fun f6 hf6 => ?_
      refine mops_sg 2 hf6 (by kernel_rfl) fun f7 hf7 => ?_
      obtain ⟨r_5, hx_r_5, h⟩ := Option.bind_eq_some_iff.1 h
      refine mops_call rfl hf7 (av := [.s (.int .u8 (bits .and .u8 (gt b_ t_1) 15))]) (by kernel_rfl) (v := .s (.int .u8 r_5)) (CalL.pure (digit_sign_ok (bits .and .u8 (gt b_ t_1) 15) r_5 hx_r_5) rfl rfl (Nat.le_of_ble_eq_true (by kernel_rfl))) (fun _ => rfl) fun f8 hf8 => ?_
      refine mops_sg 1 hf8 (by kernel_rfl) fun f9 hf9 => ?_
      obtain ⟨c4, h⟩ := as_ok h
      refine mops_adv rfl (v := .ref 0 (v_1 + 1) 0 (l_1 ++ [r_4, r_5]).length) hf9 (by kernel_rfl) (e_app (g := (nI .u8)) (l := l_1) (l' := [r_4, r_5]) (b := 0) (ver := v_1) (n := l_1.length) (by kernel_rfl) rfl (live_grow (by kernel_rfl)) (sll_ev (v := .ref 1 0 0 2) (by kernel_rfl) (sll_ref (B := ⟨0, .grow, 1, cat (nI .u8) [r_4, r_5]⟩) (by kernel_rfl) (live_grow (by kernel_rfl)))) (slc_ev (v := .ref 1 0 0 2) (by kernel_rfl) (slc_ref (g := (nI .u8)) (l := [r_4, r_5]) (kd := .grow) (q := 1) (by kernel_rfl) (live_grow (by kernel_rfl)))) c4) fun f10 hf10 => ?_
      refine mops_en hf10 (by kernel_rfl) fun f11 hf11 => ?_
      refine k_b ?_
      refine k_c ?_
      refine k_reg ?_
      refine mops_en hf11 (by kernel_rfl) fun f12 hf12 => ?_
      refine k_l' (vs_cut (l := [⟨2, [], .s (.string (⟨#[]⟩ : ByteArray))⟩, ⟨3, [], .ref 0 (v_1 + 1) 0 (l_1 ++ [r_4, r_5]).length⟩, ⟨10, [], .sl false b_.length (cat (nI .u8) b_)⟩, ⟨11, [], .s (.int .i64 (ln b_))⟩, ⟨12, [], .s (.int .i64 (IntKind.wrap .i64 (t_1 + 1)))⟩]) 1 (by kernel_rfl) (by kernel_rfl) (L' := [⟨(v_1 + 1), .grow, 1, cat (nI .u8) (l_1 ++ [r_4, r_5])⟩]) (by kernel_rfl) ⟨⟨rfl, rfl⟩, ⟨rfl, rfl⟩, ⟨rfl, (static_under _ _ (by simp [V.static, statics, cat_stat]))⟩, ⟨rfl, rfl⟩, ⟨rfl, rfl⟩, trivial⟩ ⟨.inr (.inr (statics_unders _ _ (cat_stat _))), trivial⟩ (FOk_of [2, 3, 10, 11, 12] hf12 (by kernel_rfl)) fun f hf => ?_)
      exact ih _ _ ⟨(l_1 ++ [r_4, r_5]), (IntKind.wrap .i64 (t_1 + 1)), (v_1 + 1), h, hf, rfl⟩
    · have h := if_f h hc2
      refine k_exit ?_
      refine x_c nofun ?_
      refine x_l nofun ?_
      refine x_b ?_
      refine k_hp (L' := [⟨v_1, .grow, 1, cat (nI .u8) l_1⟩]) (by kernel_rfl) ?_
      exact hgo0 l_1 v_1 (Option.some.inj h) _ (FOk_of [2, 3] hf1 (by kernel_rfl))
def spinetref02_Pairs_i0 : List Op1 := [(oM 2 (.k (.string ⟨#[]⟩)) [])]
def spinetref02_Pairs_i1 : List Op1 := [(oM 3 (.k (.string ⟨#[]⟩)) [])]
def spinetref02_Pairs_i2 : List Op1 := [(oM 4 (.k (.int .i64 0)) [])]
def spinetref02_Pairs_i3 : List Op1 := [(oM 5 (.t 4) []), (oM 6 (.t 0) []), (oE 7 (.len (.t 6)) [1]), (oE 8 (.bin .lss (.t 5) (.t 7)) [0, 2])]
def spinetref02_Pairs_i4 : IR := (.cond (.t 8) .skip (.exit 0))
def spinetref02_Pairs_i5 : List Op1 := [(oM 11 (.t 3) []), (oM 12 (.t 0) []), (oM 13 (.t 4) []), (oE 14 (.ias 1 (.t 12) (.t 13)) [1, 2]), (oE 15 (.load false 1 (.t 14)) [3]), (oE 16 (.cint .u64 (.t 15)) [4]), (oC 17 36 [(.t 16), (.k (.int .u64 16)), (.k (.int .i64 2))] [5]), (oE 18 (.bin .add (.t 11) (.t 17)) [0, 6]), (oM 3 (.t 18) [7, 6, 0, 1, 2, 3, 4, 5, 6, 7])]
def spinetref02_Pairs_i6 : List Op1 := [(oM 9 (.t 4) []), (oE 10 (.bin .add (.t 9) (.k (.int .i64 1))) [0]), (oM 4 (.t 10) [1, 0, 1])]
def spinetref02_Pairs_i7 : IR := (.reg false spinetref02_Pairs_i6)
def spinetref02_Pairs_i8 : IR := (.seq (.block 1 (.reg false spinetref02_Pairs_i5)) spinetref02_Pairs_i7)
def spinetref02_Pairs_i9 : IR := (.seq (.seq (.reg false spinetref02_Pairs_i3) spinetref02_Pairs_i4) spinetref02_Pairs_i8)
def spinetref02_Pairs_i10 : IR := (.block 0 (.loop spinetref02_Pairs_i9))
def spinetref02_Pairs_i11 : List Op1 := [(oM 19 (.t 3) []), (oM 2 (.t 19) [0, 0])]
def spinetref02_Pairs_i12 : IR := .ret
def spinetref02_Pairs_i13 : IR := (.seq (.reg false spinetref02_Pairs_i11) spinetref02_Pairs_i12)
def spinetref02_Pairs_i14 : IR := (.seq (.seq (.reg false spinetref02_Pairs_i2) spinetref02_Pairs_i10) spinetref02_Pairs_i13)
def spinetref02_Pairs_i15 : IR := (.seq (.reg false spinetref02_Pairs_i1) spinetref02_Pairs_i14)
def spinetref02_Pairs_ir : IR := (.seq (.reg false spinetref02_Pairs_i0) spinetref02_Pairs_i15)
theorem spinetref02_Pairs_cfn : cFn Try.prog 37 = some (spinetref02_Pairs_ir, [(.t 2)], 20) := by kernel_rfl
def spinetref02_Pairs_V (r : (ByteArray)) : V := .s (.string r)
def spinetref02_Pairs_C (r : (ByteArray)) : X → Fr → Hp → Prop := FinL [(.t 2)] [] (spinetref02_Pairs_V r) []
theorem spinetref02_Pairs_ok (b_ : (List Int)) (r : (ByteArray)) (h : spinetref02_Pairs b_ = some r) : Pure Try.prog 37 [.sl false b_.length (cat (nI .u8) b_)] (spinetref02_Pairs_V r) := by
  refine ConL.of spinetref02_Pairs_cfn (Nat.le_of_ble_eq_true (by kernel_rfl)) (Nat.le_of_ble_eq_true (by kernel_rfl)) ?_
  refine k_start ?_
  show dwv Try.prog [] spinetref02_Pairs_ir (kont Try.prog [] (spinetref02_Pairs_C r) []) (fr0 [.sl false b_.length (cat (nI .u8) b_)]) []
  have hf : FOk (fr0 [.sl false b_.length (cat (nI .u8) b_)]) [⟨0, [], .sl false b_.length (cat (nI .u8) b_)⟩] := ⟨⟨fun _ => rfl, fun h => (h trivial).elim⟩, trivial⟩
  generalize fr0 [.sl false b_.length (cat (nI .u8) b_)] = f at hf ⊢
  unfold spinetref02_Pairs at h
  refine k_seq ?_
  refine k_reg ?_
  refine mops_en hf (by kernel_rfl) fun f1 hf1 => ?_
  refine k_c ?_
  refine k_seq ?_
  refine k_reg ?_
  refine mops_en hf1 (by kernel_rfl) fun f2 hf2 => ?_
  refine k_c ?_
  refine k_seq ?_
  refine k_seq ?_
  refine k_reg ?_
  refine mops_en hf2 (by kernel_rfl) fun f3 hf3 => ?_
  refine k_c ?_
  refine k_block ?_
  obtain ⟨o0, hx0, h⟩ := Option.bind_eq_some_iff.1 h
  have hgo0 : ∀ (s_2 : ByteArray), s_2 = o0 → ∀ f, FOk f [⟨2, [], .s (.string (⟨#[]⟩ : ByteArray))⟩, ⟨3, [], .s (.string s_2)⟩] → kont Try.prog [] (spinetref02_Pairs_C r) ((.c spinetref02_Pairs_i13) :: []) .normal f [] := by
    intro s_2 e f hf
    subst e
    refine k_c ?_
    refine k_seq ?_
    refine k_reg ?_
    refine mops_en hf (by kernel_rfl) fun f1 hf1 => ?_
    refine k_c ?_
    refine k_ret ?_
    obtain rfl := Option.some.inj h
    exact k_fin (fin_ret (.inl rfl) hf1 (vs := [.s (.string s_2)]) (by kernel_rfl) (SettL.pure (FzL.stat rfl)))
  refine k_loop BIG ?_
  refine loop_ind (fun n f L => ∃ (s_1 : ByteArray) (i_1 : Int), spinetref02_Pairs_l0 b_ n s_1 i_1 = some o0 ∧ FOk f [⟨0, [], .sl false b_.length (cat (nI .u8) b_)⟩, ⟨2, [], .s (.string (⟨#[]⟩ : ByteArray))⟩, ⟨3, [], .s (.string s_1)⟩, ⟨4, [], .s (.int .i64 i_1)⟩] ∧ L = []) ?_ ?_ BIG _ _ ⟨(⟨#[]⟩ : ByteArray), (0), hx0, FOk_of [0, 2, 3, 4] hf3 (by kernel_rfl), (by kernel_rfl)⟩
  · rintro f L ⟨s_1, i_1, h, _⟩
    cases (show (none : Option _) = some _ from h)
  · rintro n0 R0 ih f L ⟨s_1, i_1, h, hf, rfl⟩
    rw [spinetref02_Pairs_l0] at h
    refine k_seq ?_
    refine k_seq ?_
    refine k_reg ?_
    refine mops_en hf (by kernel_rfl) fun f1 hf1 => ?_
    refine k_c ?_
    refine k_cond hf1 (t := (decide (i_1 < (ln b_)))) (by kernel_rfl) (fun hc1 => ?_) (fun hc1 => ?_)
    · have h := if_t h hc1
      refine k_skip ?_
      refine k_c ?_
      refine k_seq ?_
      refine k_block ?_
      refine k_reg ?_
      refine mops_sg 3 hf1 (by kernel_rfl) fun f2 hf2 => ?_
      obtain ⟨c2, h⟩ := as_ok h
      refine mops_adv rfl (v := .ip ((cat (nI .u8) b_).drop ((i_1 : Int).toNat * 1))) hf2 (by kernel_rfl) (e_ias (n := b_.length) (xv := .sl false b_.length (cat (nI .u8) b_)) (k := .i64) (iv := i_1) (p := .ip ((cat (nI .u8) b_).drop ((i_1 : Int).toNat * 1))) (by kernel_rfl) (by kernel_rfl) (by kernel_rfl) (by kernel_rfl) c2) fun f3 hf3 => ?_
      refine mops_adv rfl (v := .s (.int .u8 (gt b_ i_1))) hf3 (by kernel_rfl) (e_load_ip (g := (nI .u8)) (l := b_) (iv := i_1) [] (by kernel_rfl) c2 (by kernel_rfl) (by kernel_rfl)) fun f4 hf4 => ?_
      refine mops_sg 1 hf4 (by kernel_rfl) fun f5 hf5 => ?_
      obtain ⟨r_2, hx_r_2, h⟩ := Option.bind_eq_some_iff.1 h
      refine mops_call rfl hf5 (av := [.s (.int .u64 (IntKind.wrap .u64 (gt b_ i_1))), .s (.int .u64 16), .s (.int .i64 2)]) (by kernel_rfl) (v := .s (.string r_2)) (CalL.pure (spinetref02_Digits_ok (IntKind.wrap .u64 (gt b_ i_1)) (16) (2) r_2 hx_r_2) rfl rfl (Nat.le_of_ble_eq_true (by kernel_rfl))) (fun _ => rfl) fun f6 hf6 => ?_
      obtain ⟨c3, h⟩ := as_ok h
      refine mops_adv rfl (v := .s (.string (s_1 ++ r_2))) hf6 (by kernel_rfl) (e_sadd (t := s_1) (t' := r_2) (by kernel_rfl) (by kernel_rfl) c3) fun f7 hf7 => ?_
      refine mops_en hf7 (by kernel_rfl) fun f8 hf8 => ?_
      refine k_b ?_
      refine k_c ?_
      refine k_reg ?_
      refine mops_en hf8 (by kernel_rfl) fun f9 hf9 => ?_
      refine k_l ?_
      exact ih _ _ ⟨(s_1 ++ r_2), (IntKind.wrap .i64 (i_1 + 1)), h, FOk_of [0, 2, 3, 4] hf9 (by kernel_rfl), (by kernel_rfl)⟩
    · have h := if_f h hc1
      refine k_exit ?_
      refine x_c nofun ?_
      refine x_l nofun ?_
      refine x_b ?_
      refine k_hp (L' := []) (by kernel_rfl) ?_
      exact hgo0 s_1 (Option.some.inj h) _ (FOk_of [2, 3] hf1 (by kernel_rfl))
end Go.Proofs.YtfdadnldlngmeaaK
