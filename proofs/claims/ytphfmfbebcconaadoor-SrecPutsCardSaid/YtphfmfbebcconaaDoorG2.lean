/- The Go functions come to the functions over typed data. Printed by a program of this work. -/
import Derived.Test.YtphfmfbebcconaaDoorF
import Derived.Test.YtphfmfbebcconaaDoorProg
import Derived.Test.YtphfmfbebcconaaDoorG0
import Derived.Test.YtphfmfbebcconaaDoorG1
namespace Go.Proofs.YtphfmfbebcconaaDoorK
set_option linter.unusedVariables false
set_option linter.unusedSimpArgs false
set_option maxHeartbeats 4000000
open Go.RowKit
attribute [local irreducible] dwv mops lops lqops lwops kont iter run runK rk okK ex E1 vals val chain chB sel resF
def digit_Unpair_i0 : List Op1 := [(oE 2 (.nilg 1) []), (oM 3 (.k (.int .i64 0)) [0])]
def digit_Unpair_i1 : List Op1 := [(oM 10 (.t 0) []), (oE 11 (.lens (.t 10)) [0]), (oE 12 (.bin .rem (.t 11) (.k (.int .i64 2))) [1]), (oE 13 (.bin .neq (.t 12) (.k (.int .i64 0))) [2])]
def digit_Unpair_i2 : List Op1 := [(oE 2 (.nilg 1) []), (oM 3 (.k (.int .i64 21)) [0, 0])]
def digit_Unpair_i3 : IR := .ret
def digit_Unpair_i4 : IR := (.cond (.t 13) (.seq (.reg false digit_Unpair_i2) digit_Unpair_i3) .skip)
def digit_Unpair_i5 : List Op1 := [(oE 4 (.nilg 1) [])]
def digit_Unpair_i6 : List Op1 := [(oM 5 (.k (.int .i64 0)) [])]
def digit_Unpair_i7 : List Op1 := [(oM 14 (.t 5) []), (oM 15 (.t 0) []), (oE 16 (.lens (.t 15)) [1]), (oE 17 (.bin .lss (.t 14) (.t 16)) [0, 2])]
def digit_Unpair_i8 : IR := (.cond (.t 17) .skip (.exit 0))
def digit_Unpair_i9 : List Op1 := [(oM 21 (.t 0) []), (oM 22 (.t 5) []), (oE 23 (.ixs (.t 21) (.t 22)) [0, 1]), (oC 24 33 [(.t 23)] [2]), (oM 20 (.t 24) [3]), (oE 25 (.ext 0 (.t 20)) [4]), (oE 26 (.ext 1 (.t 20)) [4]), (oM 6 (.t 25) [5, 3, 0, 1, 2, 3, 4, 5]), (oM 7 (.t 26) [6, 7, 0, 1, 2, 3, 4, 5, 6, 7])]
def digit_Unpair_i10 : List Op1 := [(oM 28 (.t 0) []), (oM 29 (.t 5) []), (oE 30 (.bin .add (.t 29) (.k (.int .i64 1))) [1]), (oE 31 (.ixs (.t 28) (.t 30)) [0, 2]), (oC 32 33 [(.t 31)] [3]), (oM 27 (.t 32) [4]), (oE 33 (.ext 0 (.t 27)) [5]), (oE 34 (.ext 1 (.t 27)) [5]), (oM 8 (.t 33) [6, 4, 0, 1, 2, 3, 4, 5, 6]), (oM 9 (.t 34) [7, 8, 0, 1, 2, 3, 4, 5, 6, 7, 8])]
def digit_Unpair_i11 : List Op1 := [(oM 35 (.t 7) []), (oE 36 (.un .not (.t 35)) [0]), (oM 37 (.t 36) [1]), (oG 38 (.mv (.t 9)) 37 false [2]), (oG 39 (.un .not (.t 38)) 37 false [3, 2]), (oE 40 (.pick (.t 37) (.k (.bool true)) (.t 39)) [2, 4])]
def digit_Unpair_i12 : List Op1 := [(oE 2 (.nilg 1) []), (oM 3 (.k (.int .i64 21)) [0, 0])]
def digit_Unpair_i13 : IR := .ret
def digit_Unpair_i14 : IR := (.cond (.t 40) (.seq (.reg false digit_Unpair_i12) digit_Unpair_i13) .skip)
def digit_Unpair_i15 : List Op1 := [(oM 41 (.t 4) []), (oM 42 (.t 6) []), (oE 43 (.bin .shl (.t 42) (.k (.int .u64 4))) [1]), (oM 44 (.t 8) []), (oE 45 (.bin .or (.t 43) (.t 44)) [2, 3]), (oE 46 (.bslo 1 1 [(.int .u8 0)] [(0, (1, (.t 45)))]) [4]), (oE 47 (.app 5 1 1 (.t 41) (.t 46)) [0, 5]), (oM 4 (.t 47) [6, 6, 0, 1, 2, 3, 4, 5, 6])]
def digit_Unpair_i16 : IR := (.reg false digit_Unpair_i15)
def digit_Unpair_i17 : IR := (.seq (.seq (.reg false digit_Unpair_i11) digit_Unpair_i14) digit_Unpair_i16)
def digit_Unpair_i18 : IR := (.seq (.reg false digit_Unpair_i10) digit_Unpair_i17)
def digit_Unpair_i19 : List Op1 := [(oM 18 (.t 5) []), (oE 19 (.bin .add (.t 18) (.k (.int .i64 2))) [0]), (oM 5 (.t 19) [1, 0, 1])]
def digit_Unpair_i20 : IR := (.reg false digit_Unpair_i19)
def digit_Unpair_i21 : IR := (.seq (.block 1 (.seq (.reg false digit_Unpair_i9) digit_Unpair_i18)) digit_Unpair_i20)
def digit_Unpair_i22 : IR := (.seq (.seq (.reg false digit_Unpair_i7) digit_Unpair_i8) digit_Unpair_i21)
def digit_Unpair_i23 : IR := (.block 0 (.loop digit_Unpair_i22))
def digit_Unpair_i24 : List Op1 := [(oM 48 (.t 4) []), (oM 2 (.t 48) [0, 0]), (oM 3 (.k (.int .i64 0)) [1, 0, 1])]
def digit_Unpair_i25 : IR := .ret
def digit_Unpair_i26 : IR := (.seq (.reg false digit_Unpair_i24) digit_Unpair_i25)
def digit_Unpair_i27 : IR := (.seq (.seq (.reg false digit_Unpair_i6) digit_Unpair_i23) digit_Unpair_i26)
def digit_Unpair_i28 : IR := (.seq (.reg false digit_Unpair_i5) digit_Unpair_i27)
def digit_Unpair_i29 : IR := (.seq (.seq (.reg false digit_Unpair_i1) digit_Unpair_i4) digit_Unpair_i28)
def digit_Unpair_ir : IR := (.seq (.reg false digit_Unpair_i0) digit_Unpair_i29)
theorem digit_Unpair_cfn : cFn Tryd.prog 25 = some (digit_Unpair_ir, [(.t 2), (.t 3)], 49) := by kernel_rfl
def digit_Unpair_V (r : ((List Int) × Int)) : V := .tup [.sl false r.1.length (cat (nI .u8) r.1), .s (.int .i64 r.2)]
def digit_Unpair_C (r : ((List Int) × Int)) : X → Fr → Hp → Prop := FinL [(.t 2), (.t 3)] [] (digit_Unpair_V r) []
theorem digit_Unpair_ok (s_ : ByteArray) (r : ((List Int) × Int)) (h : digit_Unpair s_ = some r) : Pure Tryd.prog 25 [.s (.string s_)] (digit_Unpair_V r) := by
  refine ConL.of digit_Unpair_cfn (Nat.le_of_ble_eq_true (by kernel_rfl)) (Nat.le_of_ble_eq_true (by kernel_rfl)) ?_
  refine k_start ?_
  show dwv Tryd.prog [] digit_Unpair_ir (kont Tryd.prog [] (digit_Unpair_C r) []) (fr0 [.s (.string s_)]) []
  have hf : FOk (fr0 [.s (.string s_)]) [⟨0, [], .s (.string s_)⟩] := ⟨⟨fun _ => rfl, fun h => (h trivial).elim⟩, trivial⟩
  generalize fr0 [.s (.string s_)] = f at hf ⊢
  unfold digit_Unpair at h
  refine k_seq ?_
  refine k_reg ?_
  refine mops_en hf (by kernel_rfl) fun f1 hf1 => ?_
  refine k_c ?_
  refine k_seq ?_
  refine k_seq ?_
  refine k_reg ?_
  refine mops_en hf1 (by kernel_rfl) fun f2 hf2 => ?_
  refine k_c ?_
  refine k_cond hf2 (t := ((Int.tmod (sln s_) 2) != 0)) (by kernel_rfl) (fun hc1 => ?_) (fun hc1 => ?_)
  · have h := if_t h hc1
    refine k_seq ?_
    refine k_reg ?_
    refine mops_en hf2 (by kernel_rfl) fun f3 hf3 => ?_
    refine k_c ?_
    refine k_ret ?_
    refine x_c nofun ?_
    obtain rfl := Option.some.inj h
    exact k_fin (fin_ret (.inl rfl) hf3 (vs := [.ref 1 0 0 0, .s (.int .i64 21)]) (by kernel_rfl) (SettL.pure (FzL.tup (FzsL.cons (FzL.whole (g := (nI .u8)) (kd := .grow) (l := ([] : List Int)) (by kernel_rfl) rfl (live_grow (by kernel_rfl))) (FzsL.cons (FzL.stat rfl) FzsL.nil)))))
  · have h := if_f h hc1
    refine k_skip ?_
    refine k_c ?_
    refine k_seq ?_
    refine k_reg ?_
    refine mops_en hf2 (by kernel_rfl) fun f3 hf3 => ?_
    refine k_c ?_
    refine k_seq ?_
    refine k_seq ?_
    refine k_reg ?_
    refine mops_en hf3 (by kernel_rfl) fun f4 hf4 => ?_
    refine k_c ?_
    refine k_block ?_
    obtain ⟨o0, hx0, h⟩ := Option.bind_eq_some_iff.1 h
    have hret0 : ∀ r0, .ret r0 = o0 → r0 = r := fun r0 e => by subst e; exact Option.some.inj h
    have hgo0 : ∀ (l_2 : (List Int)) (v_2 : Nat), .go l_2 = o0 → ∀ f, FOk f [⟨2, [], .ref 0 0 0 0⟩, ⟨3, [], .s (.int .i64 0)⟩, ⟨4, [], .ref 1 v_2 0 l_2.length⟩] → kont Tryd.prog [] (digit_Unpair_C r) ((.c digit_Unpair_i26) :: []) .normal f [⟨0, .grow, 1, cat (nI .u8) ([] : List Int)⟩, ⟨v_2, .grow, 1, cat (nI .u8) l_2⟩] := by
      intro l_2 v_2 e f hf
      subst e
      refine k_c ?_
      refine k_seq ?_
      refine k_reg ?_
      refine mops_en hf (by kernel_rfl) fun f1 hf1 => ?_
      refine k_c ?_
      refine k_ret ?_
      obtain rfl := Option.some.inj h
      exact k_fin (fin_ret (.inl rfl) hf1 (vs := [.ref 1 v_2 0 l_2.length, .s (.int .i64 0)]) (by kernel_rfl) (SettL.pure (FzL.tup (FzsL.cons (FzL.whole (g := (nI .u8)) (kd := .grow) (l := l_2) (by kernel_rfl) rfl (live_grow (by kernel_rfl))) (FzsL.cons (FzL.stat rfl) FzsL.nil)))))
    refine k_loop BIG ?_
    refine loop_ind (fun n f L => ∃ (l_1 : (List Int)) (i_1 : Int) (v_1 : Nat), digit_Unpair_l0 s_ n l_1 i_1 = some o0 ∧ FOk f [⟨0, [], .s (.string s_)⟩, ⟨2, [], .ref 0 0 0 0⟩, ⟨3, [], .s (.int .i64 0)⟩, ⟨4, [], .ref 1 v_1 0 l_1.length⟩, ⟨5, [], .s (.int .i64 i_1)⟩] ∧ L = [⟨0, .grow, 1, cat (nI .u8) ([] : List Int)⟩, ⟨v_1, .grow, 1, cat (nI .u8) l_1⟩]) ?_ ?_ BIG _ _ ⟨([] : List Int), (0), (0), hx0, FOk_of [0, 2, 3, 4, 5] hf4 (by kernel_rfl), (by kernel_rfl)⟩
    · rintro f L ⟨l_1, i_1, v_1, h, _⟩
      cases (show (none : Option _) = some _ from h)
    · rintro n0 R0 ih f L ⟨l_1, i_1, v_1, h, hf, rfl⟩
      rw [digit_Unpair_l0] at h
      refine k_seq ?_
      refine k_seq ?_
      refine k_reg ?_
      refine mops_en hf (by kernel_rfl) fun f1 hf1 => ?_
      refine k_c ?_
      refine k_cond hf1 (t := (decide (i_1 < (sln s_)))) (by kernel_rfl) (fun hc2 => ?_) (fun hc2 => ?_)
      · have h := if_t h hc2
        refine k_skip ?_
        refine k_c ?_
        refine k_seq ?_
        refine k_block ?_
        refine k_seq ?_
        refine k_reg ?_
        refine mops_sg 2 hf1 (by kernel_rfl) fun f2 hf2 => ?_
        obtain ⟨c3, h⟩ := as_ok h
        refine mops_adv rfl (v := .s (.int .u8 (bt s_ i_1))) hf2 (by kernel_rfl) (e_ixs (t := s_) (k := .i64) (iv := i_1) (by kernel_rfl) (by kernel_rfl) c3) fun f3 hf3 => ?_
        obtain ⟨r_4, hx_r_4, h⟩ := Option.bind_eq_some_iff.1 h
        refine mops_call rfl hf3 (av := [.s (.int .u8 (bt s_ i_1))]) (by kernel_rfl) (v := .tup [.s (.int .u8 r_4.1), .s (.bool r_4.2)]) (CalL.pure (digit_value_ok (bt s_ i_1) r_4 hx_r_4) rfl rfl (Nat.le_of_ble_eq_true (by kernel_rfl))) (fun _ => rfl) fun f4 hf4 => ?_
        refine mops_en hf4 (by kernel_rfl) fun f5 hf5 => ?_
        refine k_c ?_
        refine k_seq ?_
        refine k_reg ?_
        refine mops_sg 3 hf5 (by kernel_rfl) fun f6 hf6 => ?_
        obtain ⟨c4, h⟩ := as_ok h
        refine mops_adv rfl (v := .s (.int .u8 (bt s_ (IntKind.wrap .i64 (i_1 + 1))))) hf6 (by kernel_rfl) (e_ixs (t := s_) (k := .i64) (iv := (IntKind.wrap .i64 (i_1 + 1))) (by kernel_rfl) (by kernel_rfl) c4) fun f7 hf7 => ?_
        obtain ⟨r_5, hx_r_5, h⟩ := Option.bind_eq_some_iff.1 h
        refine mops_call rfl hf7 (av := [.s (.int .u8 (bt s_ (IntKind.wrap .i64 (i_1 + 1))))]) (by kernel_rfl) (v := .tup [.s (.int .u8 r_5.1), .s (.bool r_5.2)]) (CalL.pure (digit_value_ok (bt s_ (IntKind.wrap .i64 (i_1 + 1))) r_5 hx_r_5) rfl rfl (Nat.le_of_ble_eq_true (by kernel_rfl))) (fun _ => rfl) fun f8 hf8 => ?_
        refine mops_en hf8 (by kernel_rfl) fun f9 hf9 => ?_
        refine k_c ?_
        refine k_seq ?_
        refine k_seq ?_
        refine k_reg ?_
        refine mops_en hf9 (by kernel_rfl) fun f10 hf10 => ?_
        refine k_c ?_
        refine k_cond hf10 (t := ((!r_4.2) || (!r_5.2))) (by kernel_rfl) (fun hc5 => ?_) (fun hc5 => ?_)
        · have h := if_t h hc5
          refine k_seq ?_
          refine k_reg ?_
          refine mops_en hf10 (by kernel_rfl) fun f11 hf11 => ?_
          refine k_c ?_
          refine k_ret ?_
          refine x_c nofun ?_
          refine x_br ?_
          refine x_c nofun ?_
          refine x_l nofun ?_
          refine x_br ?_
          refine x_c nofun ?_
          obtain rfl := hret0 _ (Option.some.inj h)
          exact k_fin (fin_ret (.inl rfl) hf11 (vs := [.ref 2 0 0 0, .s (.int .i64 21)]) (by kernel_rfl) (SettL.pure (FzL.tup (FzsL.cons (FzL.whole (g := (nI .u8)) (kd := .grow) (l := ([] : List Int)) (by kernel_rfl) rfl (live_grow (by kernel_rfl))) (FzsL.cons (FzL.stat rfl) FzsL.nil)))))
        · have h := if_f h hc5
          refine k_skip ?_
          refine k_c ?_
          refine k_reg ?_
          refine mops_seg [0, 2, 3, 4, 5, 6, 7, 8, 9, 14, 15, 16, 17, 20, 21, 22, 23, 24, 25, 26, 27, 28, 29, 30, 31, 32, 33, 34, 35, 36, 37, 38, 39, 40, 41, 42, 43, 44, 45, 46] 6 hf10 (l' := [⟨0, [], .s (.string s_)⟩, ⟨2, [], .ref 0 0 0 0⟩, ⟨3, [], .s (.int .i64 0)⟩, ⟨4, [], .ref 1 v_1 0 l_1.length⟩, ⟨5, [], .s (.int .i64 i_1)⟩, ⟨6, [], .s (.int .u8 r_4.1)⟩, ⟨7, [], .s (.bool r_4.2)⟩, ⟨8, [], .s (.int .u8 r_5.1)⟩, ⟨9, [], .s (.bool r_5.2)⟩, ⟨14, [], .s (.int .i64 i_1)⟩, ⟨15, [], .s (.string s_)⟩, ⟨16, [], .s (.int .i64 (sln s_))⟩, ⟨17, [], .s (.bool (decide (i_1 < (sln s_))))⟩, ⟨20, [], .tup [.s (.int .u8 r_4.1), .s (.bool r_4.2)]⟩, ⟨21, [], .s (.string s_)⟩, ⟨22, [], .s (.int .i64 i_1)⟩, ⟨23, [], .s (.int .u8 (bt s_ i_1))⟩, ⟨24, [], .tup [.s (.int .u8 r_4.1), .s (.bool r_4.2)]⟩, ⟨25, [], .s (.int .u8 r_4.1)⟩, ⟨26, [], .s (.bool r_4.2)⟩, ⟨27, [], .tup [.s (.int .u8 r_5.1), .s (.bool r_5.2)]⟩, ⟨28, [], .s (.string s_)⟩, ⟨29, [], .s (.int .i64 i_1)⟩, ⟨30, [], .s (.int .i64 (IntKind.wrap .i64 (i_1 + 1)))⟩, ⟨31, [], .s (.int .u8 (bt s_ (IntKind.wrap .i64 (i_1 + 1))))⟩, ⟨32, [], .tup [.s (.int .u8 r_5.1), .s (.bool r_5.2)]⟩, ⟨33, [], .s (.int .u8 r_5.1)⟩, ⟨34, [], .s (.bool r_5.2)⟩, ⟨35, [], .s (.bool r_4.2)⟩, ⟨36, [], .s (.bool (!r_4.2))⟩, ⟨37, [], .s (.bool (!r_4.2))⟩, ⟨38, [(37, false)], .s (.bool r_5.2)⟩, ⟨39, [(37, false)], .s (.bool (!r_5.2))⟩, ⟨40, [], .s (.bool ((!r_4.2) || (!r_5.2)))⟩, ⟨41, [], .ref 1 v_1 0 l_1.length⟩, ⟨42, [], .s (.int .u8 r_4.1)⟩, ⟨43, [], .s (.int .u8 (IntKind.wrap .u8 (r_4.1 * 2 ^ (4))))⟩, ⟨44, [], .s (.int .u8 r_5.1)⟩, ⟨45, [], .s (.int .u8 (bits .or .u8 (IntKind.wrap .u8 (r_4.1 * 2 ^ (4))) r_5.1))⟩, ⟨46, [], .ref 2 0 0 1⟩]) (L' := [⟨0, .grow, 1, cat (nI .u8) ([] : List Int)⟩, ⟨v_1, .grow, 1, cat (nI .u8) l_1⟩, ⟨0, .grow, 1, cat (nI .u8) [(bits .or .u8 (IntKind.wrap .u8 (r_4.1 * 2 ^ (4))) r_5.1)]⟩]) (by kernel_rfl) fun f11 hf11 => ?_
          obtain ⟨c6, h⟩ := as_ok h
          refine mops_adv rfl (v := .ref 1 (v_1 + 1) 0 (l_1 ++ [(bits .or .u8 (IntKind.wrap .u8 (r_4.1 * 2 ^ (4))) r_5.1)]).length) hf11 (by kernel_rfl) (e_app (g := (nI .u8)) (l := l_1) (l' := [(bits .or .u8 (IntKind.wrap .u8 (r_4.1 * 2 ^ (4))) r_5.1)]) (b := 1) (ver := v_1) (n := l_1.length) rfl (by kernel_rfl) rfl (live_grow (by kernel_rfl)) (sll_ev (v := .ref 2 0 0 1) (by kernel_rfl) (sll_ref (B := ⟨0, .grow, 1, cat (nI .u8) [(bits .or .u8 (IntKind.wrap .u8 (r_4.1 * 2 ^ (4))) r_5.1)]⟩) (by kernel_rfl) (live_grow (by kernel_rfl)))) (slc_ev (v := .ref 2 0 0 1) (by kernel_rfl) (slc_ref (g := (nI .u8)) (l := [(bits .or .u8 (IntKind.wrap .u8 (r_4.1 * 2 ^ (4))) r_5.1)]) (kd := .grow) (q := 1) (by kernel_rfl) (live_grow (by kernel_rfl)))) c6) fun f12 hf12 => ?_
          refine mops_en hf12 (by kernel_rfl) fun f13 hf13 => ?_
          refine k_b ?_
          refine k_c ?_
          refine k_reg ?_
          refine mops_en hf13 (by kernel_rfl) fun f14 hf14 => ?_
          refine k_l' (vs_cut (l := [⟨0, [], .s (.string s_)⟩, ⟨2, [], .ref 0 0 0 0⟩, ⟨3, [], .s (.int .i64 0)⟩, ⟨4, [], .ref 1 (v_1 + 1) 0 (l_1 ++ [(bits .or .u8 (IntKind.wrap .u8 (r_4.1 * 2 ^ (4))) r_5.1)]).length⟩, ⟨5, [], .s (.int .i64 (IntKind.wrap .i64 (i_1 + 2)))⟩]) 2 (by kernel_rfl) (by kernel_rfl) (L' := [⟨0, .grow, 1, cat (nI .u8) ([] : List Int)⟩, ⟨(v_1 + 1), .grow, 1, cat (nI .u8) (l_1 ++ [(bits .or .u8 (IntKind.wrap .u8 (r_4.1 * 2 ^ (4))) r_5.1)])⟩]) (by kernel_rfl) ⟨⟨rfl, rfl⟩, ⟨rfl, rfl⟩, ⟨rfl, rfl⟩, ⟨rfl, rfl⟩, ⟨rfl, rfl⟩, trivial⟩ ⟨.inr (.inr (statics_unders _ _ (cat_stat _))), .inr (.inr (statics_unders _ _ (cat_stat _))), trivial⟩ (FOk_of [0, 2, 3, 4, 5] hf14 (by kernel_rfl)) fun f hf => ?_)
          exact ih _ _ ⟨(l_1 ++ [(bits .or .u8 (IntKind.wrap .u8 (r_4.1 * 2 ^ (4))) r_5.1)]), (IntKind.wrap .i64 (i_1 + 2)), (v_1 + 1), h, hf, rfl⟩
      · have h := if_f h hc2
        refine k_exit ?_
        refine x_c nofun ?_
        refine x_l nofun ?_
        refine x_b ?_
        refine k_hp (L' := [⟨0, .grow, 1, cat (nI .u8) ([] : List Int)⟩, ⟨v_1, .grow, 1, cat (nI .u8) l_1⟩]) (by kernel_rfl) ?_
        exact hgo0 l_1 v_1 (Option.some.inj h) _ (FOk_of [2, 3, 4] hf1 (by kernel_rfl))
def spinetref40_Text_i0 : List Op1 := [(oE 1 (.box (.t 0)) []), (oM 2 (.k (.string ⟨#[]⟩)) [])]
def spinetref40_Text_i1 : List Op1 := [(oE 6 (.fld 2 (.t 1)) []), (oE 7 (.load false 1 (.t 6)) [0]), (oE 8 (.len (.t 7)) [1]), (oE 9 (.bin .add (.t 8) (.k (.int .i64 3))) [2]), (oE 10 (.cint .u8 (.t 9)) [3]), (oE 11 (.fld 1 (.t 1)) []), (oE 12 (.load false 1 (.t 11)) [5]), (oE 13 (.bin .quo (.t 12) (.k (.int .u16 256))) [6]), (oE 14 (.cint .u8 (.t 13)) [7]), (oE 15 (.fld 1 (.t 1)) []), (oE 16 (.load false 1 (.t 15)) [9]), (oE 17 (.bin .rem (.t 16) (.k (.int .u16 256))) [10]), (oE 18 (.cint .u8 (.t 17)) [11]), (oE 19 (.bslo 1 3 [(.int .u8 0), (.int .u8 0), (.int .u8 0)] [(0, (1, (.t 10))), (1, (1, (.t 14))), (2, (1, (.t 18)))]) [4, 8, 12]), (oE 20 (.fld 2 (.t 1)) []), (oE 21 (.load false 1 (.t 20)) [14]), (oE 22 (.app 5 1 1 (.t 19) (.t 21)) [13, 15]), (oM 3 (.t 22) [16, 16, 0, 1, 2, 3, 4, 5, 6, 7, 8, 9, 10, 11, 12, 13, 14, 15, 16])]
def spinetref40_Text_i2 : List Op1 := [(oM 4 (.k (.int .i64 0)) [])]
def spinetref40_Text_i3 : List Op1 := [(oM 5 (.k (.int .i64 0)) [])]
def spinetref40_Text_i4 : List Op1 := [(oM 23 (.t 5) []), (oM 24 (.t 3) []), (oE 25 (.len (.t 24)) [1]), (oE 26 (.bin .lss (.t 23) (.t 25)) [0, 2])]
def spinetref40_Text_i5 : IR := (.cond (.t 26) .skip (.exit 0))
def spinetref40_Text_i6 : List Op1 := [(oM 29 (.t 4) []), (oM 30 (.t 3) []), (oM 31 (.t 5) []), (oE 32 (.ias 1 (.t 30) (.t 31)) [1, 2]), (oE 33 (.load false 1 (.t 32)) [3]), (oE 34 (.cint .i64 (.t 33)) [4]), (oE 35 (.bin .add (.t 29) (.t 34)) [0, 5]), (oM 4 (.t 35) [6, 0, 1, 2, 3, 4, 5, 6])]
def spinetref40_Text_i7 : List Op1 := [(oM 27 (.t 5) []), (oE 28 (.bin .add (.t 27) (.k (.int .i64 1))) [0]), (oM 5 (.t 28) [1, 0, 1])]
def spinetref40_Text_i8 : IR := (.reg false spinetref40_Text_i7)
def spinetref40_Text_i9 : IR := (.seq (.block 1 (.reg false spinetref40_Text_i6)) spinetref40_Text_i8)
def spinetref40_Text_i10 : IR := (.seq (.seq (.reg false spinetref40_Text_i4) spinetref40_Text_i5) spinetref40_Text_i9)
def spinetref40_Text_i11 : IR := (.block 0 (.loop spinetref40_Text_i10))
def spinetref40_Text_i12 : List Op1 := [(oE 36 (.fld 0 (.t 1)) []), (oE 37 (.load false 1 (.t 36)) [0]), (oE 38 (.cint .u64 (.t 37)) [1]), (oC 39 11 [(.t 38), (.k (.int .u64 10)), (.k (.int .i64 1))] [2]), (oE 40 (.bin .add (.k (.string ⟨#[83]⟩)) (.t 39)) [3]), (oM 41 (.t 3) []), (oM 42 (.t 4) []), (oE 43 (.bin .rem (.t 42) (.k (.int .i64 256))) [6]), (oE 44 (.bin .sub (.k (.int .i64 255)) (.t 43)) [7]), (oE 45 (.cint .u8 (.t 44)) [8]), (oE 46 (.bslo 1 1 [(.int .u8 0)] [(0, (1, (.t 45)))]) [9]), (oE 47 (.app 5 1 1 (.t 41) (.t 46)) [5, 10, 3]), (oC 48 12 [(.t 47)] [11, 11]), (oE 49 (.bin .add (.t 40) (.t 48)) [4, 12]), (oM 2 (.t 49) [13, 12, 0, 1, 2, 3, 4, 5, 6, 7, 8, 9, 10, 11, 12, 13])]
def spinetref40_Text_i13 : IR := .ret
def spinetref40_Text_i14 : IR := (.seq (.reg false spinetref40_Text_i12) spinetref40_Text_i13)
def spinetref40_Text_i15 : IR := (.seq (.seq (.reg false spinetref40_Text_i3) spinetref40_Text_i11) spinetref40_Text_i14)
def spinetref40_Text_i16 : IR := (.seq (.reg false spinetref40_Text_i2) spinetref40_Text_i15)
def spinetref40_Text_i17 : IR := (.seq (.reg false spinetref40_Text_i1) spinetref40_Text_i16)
def spinetref40_Text_ir : IR := (.seq (.reg false spinetref40_Text_i0) spinetref40_Text_i17)
theorem spinetref40_Text_cfn : cFn Tryd.prog 5 = some (spinetref40_Text_ir, [(.t 2)], 50) := by kernel_rfl
def spinetref40_Text_V (r : (ByteArray)) : V := .s (.string r)
def spinetref40_Text_C (r : (ByteArray)) : X → Fr → Hp → Prop := FinL [(.t 2)] [] (spinetref40_Text_V r) []
theorem spinetref40_Text_ok (l_ : spinetref40_Line) (r : (ByteArray)) (h : spinetref40_Text l_ = some r) : Pure Tryd.prog 5 [.agg [.s (.int .i64 l_.Kind), .s (.int .u16 l_.At), .sl false l_.B.length (cat (nI .u8) l_.B)]] (spinetref40_Text_V r) := by
  refine ConL.of spinetref40_Text_cfn (Nat.le_of_ble_eq_true (by kernel_rfl)) (Nat.le_of_ble_eq_true (by kernel_rfl)) ?_
  refine k_start ?_
  show dwv Tryd.prog [] spinetref40_Text_ir (kont Tryd.prog [] (spinetref40_Text_C r) []) (fr0 [.agg [.s (.int .i64 l_.Kind), .s (.int .u16 l_.At), .sl false l_.B.length (cat (nI .u8) l_.B)]]) []
  have hf : FOk (fr0 [.agg [.s (.int .i64 l_.Kind), .s (.int .u16 l_.At), .sl false l_.B.length (cat (nI .u8) l_.B)]]) [⟨0, [], .agg [.s (.int .i64 l_.Kind), .s (.int .u16 l_.At), .sl false l_.B.length (cat (nI .u8) l_.B)]⟩] := ⟨⟨fun _ => rfl, fun h => (h trivial).elim⟩, trivial⟩
  generalize fr0 [.agg [.s (.int .i64 l_.Kind), .s (.int .u16 l_.At), .sl false l_.B.length (cat (nI .u8) l_.B)]] = f at hf ⊢
  unfold spinetref40_Text at h
  refine k_seq ?_
  refine k_reg ?_
  refine mops_en hf (by kernel_rfl) fun f1 hf1 => ?_
  refine k_c ?_
  refine k_seq ?_
  refine k_reg ?_
  refine mops_sg 16 hf1 (by kernel_rfl) fun f2 hf2 => ?_
  obtain ⟨c1, h⟩ := as_ok h
  refine mops_adv rfl (v := .ref 1 1 0 ([(IntKind.wrap .u8 (IntKind.wrap .i64 ((ln l_.B) + 3))), (IntKind.wrap .u8 (IntKind.wrap .u16 (Int.tdiv l_.At 256))), (IntKind.wrap .u8 (Int.tmod l_.At 256))] ++ l_.B).length) hf2 (by kernel_rfl) (e_app (g := (nI .u8)) (l := [(IntKind.wrap .u8 (IntKind.wrap .i64 ((ln l_.B) + 3))), (IntKind.wrap .u8 (IntKind.wrap .u16 (Int.tdiv l_.At 256))), (IntKind.wrap .u8 (Int.tmod l_.At 256))]) (l' := l_.B) (b := 1) (ver := 0) (n := 3) rfl (by kernel_rfl) (by kernel_rfl) (live_grow (by kernel_rfl)) (by kernel_rfl) (slc_ev (v := .sl false l_.B.length (cat (nI .u8) l_.B)) (by kernel_rfl) (slc_sl (g := (nI .u8)) l_.B)) c1) fun f3 hf3 => ?_
  refine mops_en hf3 (by kernel_rfl) fun f4 hf4 => ?_
  refine k_c ?_
  refine k_seq ?_
  refine k_reg ?_
  refine mops_en hf4 (by kernel_rfl) fun f5 hf5 => ?_
  refine k_c ?_
  refine k_seq ?_
  refine k_seq ?_
  refine k_reg ?_
  refine mops_en hf5 (by kernel_rfl) fun f6 hf6 => ?_
  refine k_c ?_
  refine k_block ?_
  obtain ⟨o0, hx0, h⟩ := Option.bind_eq_some_iff.1 h
  have hgo0 : ∀ (sum_2 : Int), sum_2 = o0 → ∀ f, FOk f [⟨1, [], .ptr 0 0 0⟩, ⟨2, [], .s (.string (⟨#[]⟩ : ByteArray))⟩, ⟨3, [], .ref 1 1 0 ([(IntKind.wrap .u8 (IntKind.wrap .i64 ((ln l_.B) + 3))), (IntKind.wrap .u8 (IntKind.wrap .u16 (Int.tdiv l_.At 256))), (IntKind.wrap .u8 (Int.tmod l_.At 256))] ++ l_.B).length⟩, ⟨4, [], .s (.int .i64 sum_2)⟩] → kont Tryd.prog [] (spinetref40_Text_C r) ((.c spinetref40_Text_i14) :: []) .normal f [⟨0, .mem, 1, [.s (.int .i64 l_.Kind), .s (.int .u16 l_.At), .sl false l_.B.length (cat (nI .u8) l_.B)]⟩, ⟨1, .grow, 1, cat (nI .u8) ([(IntKind.wrap .u8 (IntKind.wrap .i64 ((ln l_.B) + 3))), (IntKind.wrap .u8 (IntKind.wrap .u16 (Int.tdiv l_.At 256))), (IntKind.wrap .u8 (Int.tmod l_.At 256))] ++ l_.B)⟩] := by
    intro sum_2 e f hf
    subst e
    refine k_c ?_
    refine k_seq ?_
    refine k_reg ?_
    refine mops_sg 3 hf (by kernel_rfl) fun f1 hf1 => ?_
    obtain ⟨r_, hx_r_, h⟩ := Option.bind_eq_some_iff.1 h
    refine mops_call rfl hf1 (av := [.s (.int .u64 (IntKind.wrap .u64 l_.Kind)), .s (.int .u64 10), .s (.int .i64 1)]) (by kernel_rfl) (v := .s (.string r_)) (CalL.pure (spinetref02_Digits_ok (IntKind.wrap .u64 l_.Kind) (10) (1) r_ hx_r_) rfl rfl (Nat.le_of_ble_eq_true (by kernel_rfl))) (fun _ => rfl) fun f2 hf2 => ?_
    obtain ⟨c4, h⟩ := as_ok h
    refine mops_adv rfl (v := .s (.string ((⟨#[83]⟩ : ByteArray) ++ r_))) hf2 (by kernel_rfl) (e_sadd (t := (⟨#[83]⟩ : ByteArray)) (t' := r_) (by kernel_rfl) (by kernel_rfl) c4) fun f3 hf3 => ?_
    refine mops_sg 6 hf3 (by kernel_rfl) fun f4 hf4 => ?_
    obtain ⟨c5, h⟩ := as_ok h
    refine mops_adv rfl (v := .ref 1 2 0 (([(IntKind.wrap .u8 (IntKind.wrap .i64 ((ln l_.B) + 3))), (IntKind.wrap .u8 (IntKind.wrap .u16 (Int.tdiv l_.At 256))), (IntKind.wrap .u8 (Int.tmod l_.At 256))] ++ l_.B) ++ [(IntKind.wrap .u8 (IntKind.wrap .i64 (255 - (Int.tmod sum_2 256))))]).length) hf4 (by kernel_rfl) (e_app (g := (nI .u8)) (l := ([(IntKind.wrap .u8 (IntKind.wrap .i64 ((ln l_.B) + 3))), (IntKind.wrap .u8 (IntKind.wrap .u16 (Int.tdiv l_.At 256))), (IntKind.wrap .u8 (Int.tmod l_.At 256))] ++ l_.B)) (l' := [(IntKind.wrap .u8 (IntKind.wrap .i64 (255 - (Int.tmod sum_2 256))))]) (b := 1) (ver := 1) (n := ([(IntKind.wrap .u8 (IntKind.wrap .i64 ((ln l_.B) + 3))), (IntKind.wrap .u8 (IntKind.wrap .u16 (Int.tdiv l_.At 256))), (IntKind.wrap .u8 (Int.tmod l_.At 256))] ++ l_.B).length) rfl (by kernel_rfl) rfl (live_grow (by kernel_rfl)) (sll_ev (v := .ref 2 0 0 1) (by kernel_rfl) (sll_ref (B := ⟨0, .grow, 1, cat (nI .u8) [(IntKind.wrap .u8 (IntKind.wrap .i64 (255 - (Int.tmod sum_2 256))))]⟩) (by kernel_rfl) (live_grow (by kernel_rfl)))) (slc_ev (v := .ref 2 0 0 1) (by kernel_rfl) (slc_ref (g := (nI .u8)) (l := [(IntKind.wrap .u8 (IntKind.wrap .i64 (255 - (Int.tmod sum_2 256))))]) (kd := .grow) (q := 1) (by kernel_rfl) (live_grow (by kernel_rfl)))) c5) fun f5 hf5 => ?_
    obtain ⟨r_1, hx_r_1, h⟩ := Option.bind_eq_some_iff.1 h
    refine mops_call rfl hf5 (av := [.ref 1 2 0 (([(IntKind.wrap .u8 (IntKind.wrap .i64 ((ln l_.B) + 3))), (IntKind.wrap .u8 (IntKind.wrap .u16 (Int.tdiv l_.At 256))), (IntKind.wrap .u8 (Int.tmod l_.At 256))] ++ l_.B) ++ [(IntKind.wrap .u8 (IntKind.wrap .i64 (255 - (Int.tmod sum_2 256))))]).length]) (by kernel_rfl) (v := .s (.string r_1)) (CalL.lend (spinetref02_Pairs_ok (([(IntKind.wrap .u8 (IntKind.wrap .i64 ((ln l_.B) + 3))), (IntKind.wrap .u8 (IntKind.wrap .u16 (Int.tdiv l_.At 256))), (IntKind.wrap .u8 (Int.tmod l_.At 256))] ++ l_.B) ++ [(IntKind.wrap .u8 (IntKind.wrap .i64 (255 - (Int.tmod sum_2 256))))]) r_1 hx_r_1) rfl (Lends.cons (Lend.whole (g := (nI .u8)) (kd := .grow) (l := (([(IntKind.wrap .u8 (IntKind.wrap .i64 ((ln l_.B) + 3))), (IntKind.wrap .u8 (IntKind.wrap .u16 (Int.tdiv l_.At 256))), (IntKind.wrap .u8 (Int.tmod l_.At 256))] ++ l_.B) ++ [(IntKind.wrap .u8 (IntKind.wrap .i64 (255 - (Int.tmod sum_2 256))))])) rfl (live_grow (by kernel_rfl))) Lends.nil) (by kernel_rfl)) (fun _ => rfl) fun f6 hf6 => ?_
    obtain ⟨c6, h⟩ := as_ok h
    refine mops_adv rfl (v := .s (.string (((⟨#[83]⟩ : ByteArray) ++ r_) ++ r_1))) hf6 (by kernel_rfl) (e_sadd (t := ((⟨#[83]⟩ : ByteArray) ++ r_)) (t' := r_1) (by kernel_rfl) (by kernel_rfl) c6) fun f7 hf7 => ?_
    refine mops_en hf7 (by kernel_rfl) fun f8 hf8 => ?_
    refine k_c ?_
    refine k_ret ?_
    obtain rfl := Option.some.inj h
    exact k_fin (fin_ret (.inl rfl) hf8 (vs := [.s (.string (((⟨#[83]⟩ : ByteArray) ++ r_) ++ r_1))]) (by kernel_rfl) (SettL.pure (FzL.stat rfl)))
  refine k_loop BIG ?_
  refine loop_ind (fun n f L => ∃ (sum_1 : Int) (i_1 : Int), spinetref40_Text_l0 l_ n sum_1 i_1 = some o0 ∧ FOk f [⟨1, [], .ptr 0 0 0⟩, ⟨2, [], .s (.string (⟨#[]⟩ : ByteArray))⟩, ⟨3, [], .ref 1 1 0 ([(IntKind.wrap .u8 (IntKind.wrap .i64 ((ln l_.B) + 3))), (IntKind.wrap .u8 (IntKind.wrap .u16 (Int.tdiv l_.At 256))), (IntKind.wrap .u8 (Int.tmod l_.At 256))] ++ l_.B).length⟩, ⟨4, [], .s (.int .i64 sum_1)⟩, ⟨5, [], .s (.int .i64 i_1)⟩] ∧ L = [⟨0, .mem, 1, [.s (.int .i64 l_.Kind), .s (.int .u16 l_.At), .sl false l_.B.length (cat (nI .u8) l_.B)]⟩, ⟨1, .grow, 1, cat (nI .u8) ([(IntKind.wrap .u8 (IntKind.wrap .i64 ((ln l_.B) + 3))), (IntKind.wrap .u8 (IntKind.wrap .u16 (Int.tdiv l_.At 256))), (IntKind.wrap .u8 (Int.tmod l_.At 256))] ++ l_.B)⟩]) ?_ ?_ BIG _ _ ⟨(0), (0), hx0, FOk_of [1, 2, 3, 4, 5] hf6 (by kernel_rfl), (by kernel_rfl)⟩
  · rintro f L ⟨sum_1, i_1, h, _⟩
    cases (show (none : Option _) = some _ from h)
  · rintro n0 R0 ih f L ⟨sum_1, i_1, h, hf, rfl⟩
    rw [spinetref40_Text_l0] at h
    refine k_seq ?_
    refine k_seq ?_
    refine k_reg ?_
    refine mops_sg 2 hf (by kernel_rfl) fun f1 hf1 => ?_
    refine mops_adv rfl (v := .s (.int .i64 (ln ([(IntKind.wrap .u8 (IntKind.wrap .i64 ((ln l_.B) + 3))), (IntKind.wrap .u8 (IntKind.wrap .u16 (Int.tdiv l_.At 256))), (IntKind.wrap .u8 (Int.tmod l_.At 256))] ++ l_.B)))) hf1 (by kernel_rfl) (e_len_ref (l := ([(IntKind.wrap .u8 (IntKind.wrap .i64 ((ln l_.B) + 3))), (IntKind.wrap .u8 (IntKind.wrap .u16 (Int.tdiv l_.At 256))), (IntKind.wrap .u8 (Int.tmod l_.At 256))] ++ l_.B)) (B := ⟨1, .grow, 1, cat (nI .u8) ([(IntKind.wrap .u8 (IntKind.wrap .i64 ((ln l_.B) + 3))), (IntKind.wrap .u8 (IntKind.wrap .u16 (Int.tdiv l_.At 256))), (IntKind.wrap .u8 (Int.tmod l_.At 256))] ++ l_.B)⟩) (b := 1) (ver := 1) (n := ([(IntKind.wrap .u8 (IntKind.wrap .i64 ((ln l_.B) + 3))), (IntKind.wrap .u8 (IntKind.wrap .u16 (Int.tdiv l_.At 256))), (IntKind.wrap .u8 (Int.tmod l_.At 256))] ++ l_.B).length) (by kernel_rfl) rfl (live_grow (by kernel_rfl))) fun f2 hf2 => ?_
    refine mops_en hf2 (by kernel_rfl) fun f3 hf3 => ?_
    refine k_c ?_
    refine k_cond hf3 (t := (decide (i_1 < (ln ([(IntKind.wrap .u8 (IntKind.wrap .i64 ((ln l_.B) + 3))), (IntKind.wrap .u8 (IntKind.wrap .u16 (Int.tdiv l_.At 256))), (IntKind.wrap .u8 (Int.tmod l_.At 256))] ++ l_.B))))) (by kernel_rfl) (fun hc2 => ?_) (fun hc2 => ?_)
    · have h := if_t h hc2
      refine k_skip ?_
      refine k_c ?_
      refine k_seq ?_
      refine k_block ?_
      refine k_reg ?_
      refine mops_sg 3 hf3 (by kernel_rfl) fun f4 hf4 => ?_
      obtain ⟨c3, h⟩ := as_ok h
      refine mops_adv rfl (v := .ptr 1 1 (0 + (i_1 : Int).toNat * 1)) hf4 (by kernel_rfl) (e_ias_ref (l := ([(IntKind.wrap .u8 (IntKind.wrap .i64 ((ln l_.B) + 3))), (IntKind.wrap .u8 (IntKind.wrap .u16 (Int.tdiv l_.At 256))), (IntKind.wrap .u8 (Int.tmod l_.At 256))] ++ l_.B)) (B := ⟨1, .grow, 1, cat (nI .u8) ([(IntKind.wrap .u8 (IntKind.wrap .i64 ((ln l_.B) + 3))), (IntKind.wrap .u8 (IntKind.wrap .u16 (Int.tdiv l_.At 256))), (IntKind.wrap .u8 (Int.tmod l_.At 256))] ++ l_.B)⟩) (b := 1) (ver := 1) (n := ([(IntKind.wrap .u8 (IntKind.wrap .i64 ((ln l_.B) + 3))), (IntKind.wrap .u8 (IntKind.wrap .u16 (Int.tdiv l_.At 256))), (IntKind.wrap .u8 (Int.tmod l_.At 256))] ++ l_.B).length) (k := .i64) (iv := i_1) (by kernel_rfl) (by kernel_rfl) rfl (live_grow (by kernel_rfl)) c3) fun f5 hf5 => ?_
      refine mops_adv rfl (v := .s (.int .u8 (gt ([(IntKind.wrap .u8 (IntKind.wrap .i64 ((ln l_.B) + 3))), (IntKind.wrap .u8 (IntKind.wrap .u16 (Int.tdiv l_.At 256))), (IntKind.wrap .u8 (Int.tmod l_.At 256))] ++ l_.B) i_1))) hf5 (by kernel_rfl) (e_load_pe (g := (nI .u8)) (l := ([(IntKind.wrap .u8 (IntKind.wrap .i64 ((ln l_.B) + 3))), (IntKind.wrap .u8 (IntKind.wrap .u16 (Int.tdiv l_.At 256))), (IntKind.wrap .u8 (Int.tmod l_.At 256))] ++ l_.B)) (iv := i_1) (kd := .grow) (q := 1) (b := 1) (ver := 1) [] (by kernel_rfl) (live_grow (by kernel_rfl)) c3 (by kernel_rfl) (by kernel_rfl)) fun f6 hf6 => ?_
      refine mops_en hf6 (by kernel_rfl) fun f7 hf7 => ?_
      refine k_b ?_
      refine k_c ?_
      refine k_reg ?_
      refine mops_en hf7 (by kernel_rfl) fun f8 hf8 => ?_
      refine k_l ?_
      exact ih _ _ ⟨(IntKind.wrap .i64 (sum_1 + (IntKind.wrap .i64 (gt ([(IntKind.wrap .u8 (IntKind.wrap .i64 ((ln l_.B) + 3))), (IntKind.wrap .u8 (IntKind.wrap .u16 (Int.tdiv l_.At 256))), (IntKind.wrap .u8 (Int.tmod l_.At 256))] ++ l_.B) i_1)))), (IntKind.wrap .i64 (i_1 + 1)), h, FOk_of [1, 2, 3, 4, 5] hf8 (by kernel_rfl), (by kernel_rfl)⟩
    · have h := if_f h hc2
      refine k_exit ?_
      refine x_c nofun ?_
      refine x_l nofun ?_
      refine x_b ?_
      refine k_hp (L' := [⟨0, .mem, 1, [.s (.int .i64 l_.Kind), .s (.int .u16 l_.At), .sl false l_.B.length (cat (nI .u8) l_.B)]⟩, ⟨1, .grow, 1, cat (nI .u8) ([(IntKind.wrap .u8 (IntKind.wrap .i64 ((ln l_.B) + 3))), (IntKind.wrap .u8 (IntKind.wrap .u16 (Int.tdiv l_.At 256))), (IntKind.wrap .u8 (Int.tmod l_.At 256))] ++ l_.B)⟩]) (by kernel_rfl) ?_
      exact hgo0 sum_1 (Option.some.inj h) _ (FOk_of [1, 2, 3, 4] hf3 (by kernel_rfl))
def srec_Line_Text_i0 : List Op1 := [(oE 1 (.box (.t 0)) []), (oM 2 (.k (.string ⟨#[]⟩)) [])]
def srec_Line_Text_i1 : List An := [(aO (oE 4 (.fld 2 (.t 1)) []) false 0 0), (aO (oE 5 (.load false 1 (.t 4)) [0]) false 0 0), (aO (oE 6 (.len (.t 5)) [1]) false 0 0), (aO (oE 7 (.bin .add (.t 6) (.k (.int .i64 3))) [2]) false 0 0), (aO (oE 8 (.cint .u8 (.t 7)) [3]) false 0 0), (aO (oE 9 (.fld 1 (.t 1)) []) false 0 0), (aO (oE 10 (.load false 1 (.t 9)) [5]) false 0 0), (aO (oC 11 19 [(.t 10)] [6]) false 0 0), (aO (oE 12 (.fld 1 (.t 1)) []) false 0 0), (aO (oE 13 (.load false 1 (.t 12)) [8]) false 0 0), (aO (oC 14 20 [(.t 13)] [9, 7]) false 0 0), (aO (oE 15 (.bslo 1 3 [(.int .u8 0), (.int .u8 0), (.int .u8 0)] [(0, (1, (.t 8))), (1, (1, (.t 11))), (2, (1, (.t 14)))]) [4, 7, 10]) true 0 1), (aO (oE 16 (.fld 2 (.t 1)) []) false 0 1), (aO (oE 17 (.load false 1 (.t 16)) [12]) false 0 1), (aO (oE 18 (.app 5 1 1 (.t 15) (.t 17)) [11, 13, 10]) true 1 2), (aO (oM 3 (.t 18) [14, 14, 0, 1, 2, 3, 4, 5, 6, 7, 8, 9, 10, 11, 12, 13, 14]) false 2 2)]
def srec_Line_Text_i2 : List Op1 := [(oE 19 (.fld 0 (.t 1)) []), (oE 20 (.load false 1 (.t 19)) [0]), (oE 21 (.cint .u64 (.t 20)) [1]), (oC 22 21 [(.t 21)] [2]), (oE 23 (.bin .add (.k (.string ⟨#[83]⟩)) (.t 22)) [3]), (oM 24 (.t 3) []), (oM 25 (.t 3) []), (oC 26 23 [(.t 25)] [6, 3]), (oE 27 (.un .xor (.t 26)) [7]), (oE 28 (.bslo 1 1 [(.int .u8 0)] [(0, (1, (.t 27)))]) [8]), (oE 29 (.app 5 1 1 (.t 24) (.t 28)) [5, 9, 7]), (oC 30 22 [(.t 29)] [10, 10]), (oE 31 (.bin .add (.t 23) (.t 30)) [4, 11]), (oM 2 (.t 31) [12, 11, 0, 1, 2, 3, 4, 5, 6, 7, 8, 9, 10, 11, 12])]
def srec_Line_Text_i3 : IR := .ret
def srec_Line_Text_i4 : IR := (.seq (.reg false srec_Line_Text_i2) srec_Line_Text_i3)
def srec_Line_Text_i5 : IR := (.seq (.regw srec_Line_Text_i1) srec_Line_Text_i4)
def srec_Line_Text_ir : IR := (.seq (.reg false srec_Line_Text_i0) srec_Line_Text_i5)
theorem srec_Line_Text_cfn : cFn Tryd.prog 14 = some (srec_Line_Text_ir, [(.t 2)], 32) := by kernel_rfl
def srec_Line_Text_V (r : (ByteArray)) : V := .s (.string r)
def srec_Line_Text_C (r : (ByteArray)) : X → Fr → Hp → Prop := FinL [(.t 2)] [] (srec_Line_Text_V r) []
theorem srec_Line_Text_ok (l_ : srec_Line) (r : (ByteArray)) (h : srec_Line_Text l_ = some r) : Pure Tryd.prog 14 [.agg [.s (.int .i64 l_.Kind), .s (.int .u16 l_.At), .sl false l_.B.length (cat (nI .u8) l_.B)]] (srec_Line_Text_V r) := by
  refine ConL.of srec_Line_Text_cfn (Nat.le_of_ble_eq_true (by kernel_rfl)) (Nat.le_of_ble_eq_true (by kernel_rfl)) ?_
  refine k_start ?_
  show dwv Tryd.prog [] srec_Line_Text_ir (kont Tryd.prog [] (srec_Line_Text_C r) []) (fr0 [.agg [.s (.int .i64 l_.Kind), .s (.int .u16 l_.At), .sl false l_.B.length (cat (nI .u8) l_.B)]]) []
  have hf : FOk (fr0 [.agg [.s (.int .i64 l_.Kind), .s (.int .u16 l_.At), .sl false l_.B.length (cat (nI .u8) l_.B)]]) [⟨0, [], .agg [.s (.int .i64 l_.Kind), .s (.int .u16 l_.At), .sl false l_.B.length (cat (nI .u8) l_.B)]⟩] := ⟨⟨fun _ => rfl, fun h => (h trivial).elim⟩, trivial⟩
  generalize fr0 [.agg [.s (.int .i64 l_.Kind), .s (.int .u16 l_.At), .sl false l_.B.length (cat (nI .u8) l_.B)]] = f at hf ⊢
  unfold srec_Line_Text at h
  refine k_seq ?_
  refine k_reg ?_
  refine mops_en hf (by kernel_rfl) fun f1 hf1 => ?_
  refine k_c ?_
  refine k_seq ?_
  refine k_regw ?_
  refine lw_tight 11 (by kernel_rfl) ?_
  refine mops_seg [1, 2, 8, 10] 7 hf1 (l' := [⟨1, [], .ptr 0 0 0⟩, ⟨2, [], .s (.string (⟨#[]⟩ : ByteArray))⟩, ⟨8, [], .s (.int .u8 (IntKind.wrap .u8 (IntKind.wrap .i64 ((ln l_.B) + 3))))⟩, ⟨10, [], .s (.int .u16 l_.At)⟩]) (L' := [⟨0, .mem, 1, [.s (.int .i64 l_.Kind), .s (.int .u16 l_.At), .sl false l_.B.length (cat (nI .u8) l_.B)]⟩]) (by kernel_rfl) fun f2 hf2 => ?_
  obtain ⟨r_, hx_r_, h⟩ := Option.bind_eq_some_iff.1 h
  refine mops_call rfl hf2 (av := [.s (.int .u16 l_.At)]) (by kernel_rfl) (v := .s (.int .u8 r_)) (CalL.pure (octet_High_ok l_.At r_ hx_r_) rfl rfl (Nat.le_of_ble_eq_true (by kernel_rfl))) (fun _ => rfl) fun f3 hf3 => ?_
  refine mops_seg [1, 2, 8, 11, 13] 2 hf3 (l' := [⟨1, [], .ptr 0 0 0⟩, ⟨2, [], .s (.string (⟨#[]⟩ : ByteArray))⟩, ⟨8, [], .s (.int .u8 (IntKind.wrap .u8 (IntKind.wrap .i64 ((ln l_.B) + 3))))⟩, ⟨11, [], .s (.int .u8 r_)⟩, ⟨13, [], .s (.int .u16 l_.At)⟩]) (L' := [⟨0, .mem, 1, [.s (.int .i64 l_.Kind), .s (.int .u16 l_.At), .sl false l_.B.length (cat (nI .u8) l_.B)]⟩]) (by kernel_rfl) fun f4 hf4 => ?_
  obtain ⟨r_1, hx_r_1, h⟩ := Option.bind_eq_some_iff.1 h
  refine mops_call rfl hf4 (av := [.s (.int .u16 l_.At)]) (by kernel_rfl) (v := .s (.int .u8 r_1)) (CalL.pure (octet_Low_ok l_.At r_1 hx_r_1) rfl rfl (Nat.le_of_ble_eq_true (by kernel_rfl))) (fun _ => rfl) fun f5 hf5 => ?_
  refine mops_end [1, 2, 8, 11, 14] hf5 (l' := [⟨1, [], .ptr 0 0 0⟩, ⟨2, [], .s (.string (⟨#[]⟩ : ByteArray))⟩, ⟨8, [], .s (.int .u8 (IntKind.wrap .u8 (IntKind.wrap .i64 ((ln l_.B) + 3))))⟩, ⟨11, [], .s (.int .u8 r_)⟩, ⟨14, [], .s (.int .u8 r_1)⟩]) (L' := [⟨0, .mem, 1, [.s (.int .i64 l_.Kind), .s (.int .u16 l_.At), .sl false l_.B.length (cat (nI .u8) l_.B)]⟩]) (by kernel_rfl) fun f6 hf6 => ?_
  intro _
  refine lw_w (a := ⟨⟨(some 15), (.e (.bslo 1 3 [(.int .u8 0), (.int .u8 0), (.int .u8 0)] [(0, (1, (.t 8))), (1, (1, (.t 11))), (2, (1, (.t 14)))])), none, [4, 7, 10]⟩, true, 0, 1⟩) (by kernel_rfl) rfl rfl ?_
  refine mops_end [1, 2, 15] hf6 (l' := [⟨1, [], .ptr 0 0 0⟩, ⟨2, [], .s (.string (⟨#[]⟩ : ByteArray))⟩, ⟨15, [], .ref 1 0 0 3⟩]) (L' := [⟨0, .mem, 1, [.s (.int .i64 l_.Kind), .s (.int .u16 l_.At), .sl false l_.B.length (cat (nI .u8) l_.B)]⟩, ⟨0, .grow, 1, cat (nI .u8) [(IntKind.wrap .u8 (IntKind.wrap .i64 ((ln l_.B) + 3))), r_, r_1]⟩]) (by kernel_rfl) fun f7 hf7 => ?_
  refine ⟨trivial, ?_⟩
  refine lw_free (dst := (some 16)) (op := (.fld 2 (.t 1))) (aft := []) (lo := 0) (hi := 1) (v := .ptr 0 0 2) (by kernel_rfl) (by kernel_rfl) hf7 (by kernel_rfl) (by kernel_rfl) (old_ok hf7 (by kernel_rfl) (by kernel_rfl) trivial) fun f8 hf8 => ?_
  refine lw_free (dst := (some 17)) (op := (.load false 1 (.t 16))) (aft := [12]) (lo := 0) (hi := 1) (v := .sl false l_.B.length (cat (nI .u8) l_.B)) (by kernel_rfl) (by kernel_rfl) hf8 (by kernel_rfl) (by kernel_rfl) (old_ok hf8 (by kernel_rfl) (by kernel_rfl) trivial) fun f9 hf9 => ?_
  refine lw_w (a := ⟨⟨(some 18), (.e (.app 5 1 1 (.t 15) (.t 17))), none, [11, 13, 10]⟩, true, 1, 2⟩) (by kernel_rfl) rfl rfl ?_
  obtain ⟨c1, h⟩ := as_ok h
  refine mops_adv rfl (v := .ref 1 1 0 ([(IntKind.wrap .u8 (IntKind.wrap .i64 ((ln l_.B) + 3))), r_, r_1] ++ l_.B).length) hf9 (by kernel_rfl) (e_app (g := (nI .u8)) (l := [(IntKind.wrap .u8 (IntKind.wrap .i64 ((ln l_.B) + 3))), r_, r_1]) (l' := l_.B) (b := 1) (ver := 0) (n := 3) rfl (by kernel_rfl) (by kernel_rfl) (live_grow (by kernel_rfl)) (by kernel_rfl) (slc_ev (v := .sl false l_.B.length (cat (nI .u8) l_.B)) (by kernel_rfl) (slc_sl (g := (nI .u8)) l_.B)) c1) fun f10 hf10 => ?_
  refine mops_end [1, 2, 18] hf10 (l' := [⟨1, [], .ptr 0 0 0⟩, ⟨2, [], .s (.string (⟨#[]⟩ : ByteArray))⟩, ⟨18, [], .ref 1 1 0 ([(IntKind.wrap .u8 (IntKind.wrap .i64 ((ln l_.B) + 3))), r_, r_1] ++ l_.B).length⟩]) (L' := [⟨0, .mem, 1, [.s (.int .i64 l_.Kind), .s (.int .u16 l_.At), .sl false l_.B.length (cat (nI .u8) l_.B)]⟩, ⟨1, .grow, 1, cat (nI .u8) ([(IntKind.wrap .u8 (IntKind.wrap .i64 ((ln l_.B) + 3))), r_, r_1] ++ l_.B)⟩]) (by kernel_rfl) fun f11 hf11 => ?_
  refine ⟨trivial, ?_⟩
  refine lw_tight 1 (by kernel_rfl) ?_
  refine mops_end [1, 2, 3] hf11 (l' := [⟨1, [], .ptr 0 0 0⟩, ⟨2, [], .s (.string (⟨#[]⟩ : ByteArray))⟩, ⟨3, [], .ref 1 1 0 ([(IntKind.wrap .u8 (IntKind.wrap .i64 ((ln l_.B) + 3))), r_, r_1] ++ l_.B).length⟩]) (L' := [⟨0, .mem, 1, [.s (.int .i64 l_.Kind), .s (.int .u16 l_.At), .sl false l_.B.length (cat (nI .u8) l_.B)]⟩, ⟨1, .grow, 1, cat (nI .u8) ([(IntKind.wrap .u8 (IntKind.wrap .i64 ((ln l_.B) + 3))), r_, r_1] ++ l_.B)⟩]) (by kernel_rfl) fun f12 hf12 => ?_
  intro _
  refine lw_end (by kernel_rfl) ?_
  refine k_c ?_
  refine k_seq ?_
  refine k_reg ?_
  refine mops_sg 3 hf12 (by kernel_rfl) fun f13 hf13 => ?_
  obtain ⟨r_2, hx_r_2, h⟩ := Option.bind_eq_some_iff.1 h
  refine mops_call rfl hf13 (av := [.s (.int .u64 (IntKind.wrap .u64 l_.Kind))]) (by kernel_rfl) (v := .s (.string r_2)) (CalL.pure (digit_Dec_ok (IntKind.wrap .u64 l_.Kind) r_2 hx_r_2) rfl rfl (Nat.le_of_ble_eq_true (by kernel_rfl))) (fun _ => rfl) fun f14 hf14 => ?_
  obtain ⟨c2, h⟩ := as_ok h
  refine mops_adv rfl (v := .s (.string ((⟨#[83]⟩ : ByteArray) ++ r_2))) hf14 (by kernel_rfl) (e_sadd (t := (⟨#[83]⟩ : ByteArray)) (t' := r_2) (by kernel_rfl) (by kernel_rfl) c2) fun f15 hf15 => ?_
  refine mops_sg 2 hf15 (by kernel_rfl) fun f16 hf16 => ?_
  obtain ⟨r_3, hx_r_3, h⟩ := Option.bind_eq_some_iff.1 h
  refine mops_call rfl hf16 (av := [.ref 1 1 0 ([(IntKind.wrap .u8 (IntKind.wrap .i64 ((ln l_.B) + 3))), r_, r_1] ++ l_.B).length]) (by kernel_rfl) (v := .s (.int .u8 r_3)) (CalL.lend (octet_Sum_ok ([(IntKind.wrap .u8 (IntKind.wrap .i64 ((ln l_.B) + 3))), r_, r_1] ++ l_.B) r_3 hx_r_3) rfl (Lends.cons (Lend.whole (g := (nI .u8)) (kd := .grow) (l := ([(IntKind.wrap .u8 (IntKind.wrap .i64 ((ln l_.B) + 3))), r_, r_1] ++ l_.B)) rfl (live_grow (by kernel_rfl))) Lends.nil) (by kernel_rfl)) (fun _ => rfl) fun f17 hf17 => ?_
  refine mops_sg 2 hf17 (by kernel_rfl) fun f18 hf18 => ?_
  obtain ⟨c3, h⟩ := as_ok h
  refine mops_adv rfl (v := .ref 1 2 0 (([(IntKind.wrap .u8 (IntKind.wrap .i64 ((ln l_.B) + 3))), r_, r_1] ++ l_.B) ++ [(bits .xor .u8 (IntKind.max .u8) r_3)]).length) hf18 (by kernel_rfl) (e_app (g := (nI .u8)) (l := ([(IntKind.wrap .u8 (IntKind.wrap .i64 ((ln l_.B) + 3))), r_, r_1] ++ l_.B)) (l' := [(bits .xor .u8 (IntKind.max .u8) r_3)]) (b := 1) (ver := 1) (n := ([(IntKind.wrap .u8 (IntKind.wrap .i64 ((ln l_.B) + 3))), r_, r_1] ++ l_.B).length) rfl (by kernel_rfl) rfl (live_grow (by kernel_rfl)) (sll_ev (v := .ref 2 0 0 1) (by kernel_rfl) (sll_ref (B := ⟨0, .grow, 1, cat (nI .u8) [(bits .xor .u8 (IntKind.max .u8) r_3)]⟩) (by kernel_rfl) (live_grow (by kernel_rfl)))) (slc_ev (v := .ref 2 0 0 1) (by kernel_rfl) (slc_ref (g := (nI .u8)) (l := [(bits .xor .u8 (IntKind.max .u8) r_3)]) (kd := .grow) (q := 1) (by kernel_rfl) (live_grow (by kernel_rfl)))) c3) fun f19 hf19 => ?_
  obtain ⟨r_4, hx_r_4, h⟩ := Option.bind_eq_some_iff.1 h
  refine mops_call rfl hf19 (av := [.ref 1 2 0 (([(IntKind.wrap .u8 (IntKind.wrap .i64 ((ln l_.B) + 3))), r_, r_1] ++ l_.B) ++ [(bits .xor .u8 (IntKind.max .u8) r_3)]).length]) (by kernel_rfl) (v := .s (.string r_4)) (CalL.lend (digit_Pairs_ok (([(IntKind.wrap .u8 (IntKind.wrap .i64 ((ln l_.B) + 3))), r_, r_1] ++ l_.B) ++ [(bits .xor .u8 (IntKind.max .u8) r_3)]) r_4 hx_r_4) rfl (Lends.cons (Lend.whole (g := (nI .u8)) (kd := .grow) (l := (([(IntKind.wrap .u8 (IntKind.wrap .i64 ((ln l_.B) + 3))), r_, r_1] ++ l_.B) ++ [(bits .xor .u8 (IntKind.max .u8) r_3)])) rfl (live_grow (by kernel_rfl))) Lends.nil) (by kernel_rfl)) (fun _ => rfl) fun f20 hf20 => ?_
  obtain ⟨c4, h⟩ := as_ok h
  refine mops_adv rfl (v := .s (.string (((⟨#[83]⟩ : ByteArray) ++ r_2) ++ r_4))) hf20 (by kernel_rfl) (e_sadd (t := ((⟨#[83]⟩ : ByteArray) ++ r_2)) (t' := r_4) (by kernel_rfl) (by kernel_rfl) c4) fun f21 hf21 => ?_
  refine mops_en hf21 (by kernel_rfl) fun f22 hf22 => ?_
  refine k_c ?_
  refine k_ret ?_
  obtain rfl := Option.some.inj h
  exact k_fin (fin_ret (.inl rfl) hf22 (vs := [.s (.string (((⟨#[83]⟩ : ByteArray) ++ r_2) ++ r_4))]) (by kernel_rfl) (SettL.pure (FzL.stat rfl)))
def strings_Split_i0 : List Op1 := [(oE 4 (.nilg 1) [])]
def strings_Split_i1 : List Op1 := [(oM 5 (.t 0) []), (oM 6 (.t 1) []), (oC 7 24 [(.t 5), (.t 6), (.k (.int .i64 0)), (.k (.int .i64 (-1)))] [0, 1]), (oM 4 (.t 7) [2, 2, 0, 1, 2])]
def strings_Split_i2 : IR := .ret
def strings_Split_i3 : IR := (.seq (.reg false strings_Split_i1) strings_Split_i2)
def strings_Split_ir : IR := (.seq (.reg false strings_Split_i0) strings_Split_i3)
theorem strings_Split_cfn : cFn Tryd.prog 16 = some (strings_Split_ir, [(.t 4)], 8) := by kernel_rfl
def strings_Split_V (r : ((List ByteArray))) : V := .sl false r.length (cat nS r)
def strings_Split_C (r : ((List ByteArray))) : X → Fr → Hp → Prop := FinL [(.t 4)] [] (strings_Split_V r) []
theorem strings_Split_ok (s_ : ByteArray) (sep_ : ByteArray) (r : ((List ByteArray))) (h : strings_Split s_ sep_ = some r) : Pure Tryd.prog 16 [.s (.string s_), .s (.string sep_)] (strings_Split_V r) := by
  refine ConL.of strings_Split_cfn (Nat.le_of_ble_eq_true (by kernel_rfl)) (Nat.le_of_ble_eq_true (by kernel_rfl)) ?_
  refine k_start ?_
  show dwv Tryd.prog [] strings_Split_ir (kont Tryd.prog [] (strings_Split_C r) []) (fr0 [.s (.string s_), .s (.string sep_)]) []
  have hf : FOk (fr0 [.s (.string s_), .s (.string sep_)]) [⟨0, [], .s (.string s_)⟩, ⟨1, [], .s (.string sep_)⟩] := ⟨⟨fun _ => rfl, fun h => (h trivial).elim⟩, ⟨fun _ => rfl, fun h => (h trivial).elim⟩, trivial⟩
  generalize fr0 [.s (.string s_), .s (.string sep_)] = f at hf ⊢
  unfold strings_Split at h
  refine k_seq ?_
  refine k_reg ?_
  refine mops_en hf (by kernel_rfl) fun f1 hf1 => ?_
  refine k_c ?_
  refine k_seq ?_
  refine k_reg ?_
  refine mops_sg 2 hf1 (by kernel_rfl) fun f2 hf2 => ?_
  obtain ⟨r_, hx_r_, h⟩ := Option.bind_eq_some_iff.1 h
  refine mops_call rfl hf2 (av := [.s (.string s_), .s (.string sep_), .s (.int .i64 0), .s (.int .i64 (-1))]) (by kernel_rfl) (v := .sl false r_.length (cat nS r_)) (CalL.pure (strings_genSplit_ok s_ sep_ (0) (-1) r_ hx_r_) rfl (by simp [V.static, statics, cat_stat, strings_genSplit_V]) (Nat.le_of_ble_eq_true (by kernel_rfl))) (fun _ => rfl) fun f3 hf3 => ?_
  refine mops_en hf3 (by kernel_rfl) fun f4 hf4 => ?_
  refine k_c ?_
  refine k_ret ?_
  obtain rfl := Option.some.inj h
  exact k_fin (fin_ret (.inl rfl) hf4 (vs := [.sl false r_.length (cat nS r_)]) (by kernel_rfl) (SettL.pure (FzL.slf (g := nS))))
def srec_Read_i0 : List Op1 := [(oE 2 (.zero [(.int .i64 0), (.int .u16 0), (.slice none 0 0)]) []), (oM 3 (.k (.int .i64 0)) [])]
def srec_Read_i1 : List Op1 := [(oM 7 (.t 0) []), (oE 8 (.lens (.t 7)) [0]), (oE 9 (.bin .lss (.t 8) (.k (.int .i64 2))) [1]), (oM 10 (.t 9) [2]), (oG 11 (.mv (.t 0)) 10 false [3]), (oG 12 (.ixs (.t 11) (.k (.int .i64 0))) 10 false [4, 3]), (oG 13 (.bin .neq (.t 12) (.k (.int .u8 83))) 10 false [5, 3]), (oE 14 (.pick (.t 10) (.k (.bool true)) (.t 13)) [3, 6]), (oM 15 (.t 14) [7, 3]), (oG 16 (.mv (.t 0)) 15 false [8]), (oG 17 (.ixs (.t 16) (.k (.int .i64 1))) 15 false [9, 8]), (oG 18 (.bin .neq (.t 17) (.k (.int .u8 48))) 15 false [10, 8]), (oG 19 (.mv (.t 18)) 15 false [11, 8, 8]), (oG 20 (.mv (.t 0)) 19 true [12]), (oG 21 (.ixs (.t 20) (.k (.int .i64 1))) 19 true [13, 12]), (oG 22 (.bin .neq (.t 21) (.k (.int .u8 49))) 19 true [14, 12]), (oG 23 (.pick (.t 19) (.t 22) (.k (.bool false))) 15 false [12, 15, 8]), (oG 24 (.mv (.t 23)) 15 false [16, 12, 8]), (oG 25 (.mv (.t 0)) 24 true [17]), (oG 26 (.ixs (.t 25) (.k (.int .i64 1))) 24 true [18, 17]), (oG 27 (.bin .neq (.t 26) (.k (.int .u8 57))) 24 true [19, 17]), (oG 28 (.pick (.t 24) (.t 27) (.k (.bool false))) 15 false [17, 20, 8]), (oE 29 (.pick (.t 15) (.k (.bool true)) (.t 28)) [8, 21])]
def srec_Read_i2 : List Op1 := [(oE 30 (.build [(.int .i64 0), (.int .u16 0), (.slice none 0 0)] []) []), (oN (.store 3 (.t 2) (.t 30)) [0, 0]), (oM 3 (.k (.int .i64 21)) [1, 0, 1])]
def srec_Read_i3 : IR := .ret
def srec_Read_i4 : IR := (.cond (.t 29) (.seq (.reg false srec_Read_i2) srec_Read_i3) .skip)
def srec_Read_i5 : List Op1 := [(oM 32 (.t 0) []), (oE 33 (.sstr (.t 32) (some (.k (.int .i64 2))) none) [0]), (oC 34 25 [(.t 33)] [1]), (oM 31 (.t 34) [2]), (oE 35 (.ext 0 (.t 31)) [3]), (oE 36 (.ext 1 (.t 31)) [3]), (oM 4 (.t 35) [4, 2, 0, 1, 2, 3, 4]), (oM 5 (.t 36) [5, 6, 0, 1, 2, 3, 4, 5, 6])]
def srec_Read_i6 : List Op1 := [(oM 37 (.t 5) []), (oE 38 (.bin .neq (.t 37) (.k (.int .i64 0))) [0]), (oM 39 (.t 38) [1]), (oG 40 (.mv (.t 4)) 39 false [2]), (oG 41 (.len (.t 40)) 39 false [3, 2]), (oG 42 (.bin .lss (.t 41) (.k (.int .i64 4))) 39 false [4, 2]), (oE 43 (.pick (.t 39) (.k (.bool true)) (.t 42)) [2, 5])]
def srec_Read_i7 : List Op1 := [(oE 44 (.build [(.int .i64 0), (.int .u16 0), (.slice none 0 0)] []) []), (oN (.store 3 (.t 2) (.t 44)) [0, 0]), (oM 3 (.k (.int .i64 21)) [1, 0, 1])]
def srec_Read_i8 : IR := .ret
def srec_Read_i9 : IR := (.cond (.t 43) (.seq (.reg false srec_Read_i7) srec_Read_i8) .skip)
def srec_Read_i10 : List Op1 := [(oM 45 (.t 4) []), (oE 46 (.ias 1 (.t 45) (.k (.int .i64 0))) [0]), (oE 47 (.load false 1 (.t 46)) [1]), (oE 48 (.cint .i64 (.t 47)) [2]), (oM 49 (.t 4) []), (oE 50 (.len (.t 49)) [4]), (oE 51 (.bin .sub (.t 50) (.k (.int .i64 1))) [5]), (oE 52 (.bin .neq (.t 48) (.t 51)) [3, 6])]
def srec_Read_i11 : List Op1 := [(oE 53 (.build [(.int .i64 0), (.int .u16 0), (.slice none 0 0)] []) []), (oN (.store 3 (.t 2) (.t 53)) [0, 0]), (oM 3 (.k (.int .i64 12)) [1, 0, 1])]
def srec_Read_i12 : IR := .ret
def srec_Read_i13 : IR := (.cond (.t 52) (.seq (.reg false srec_Read_i11) srec_Read_i12) .skip)
def srec_Read_i14 : List Op1 := [(oM 54 (.t 4) []), (oC 55 23 [(.t 54)] [0]), (oE 56 (.bin .neq (.t 55) (.k (.int .u8 255))) [1])]
def srec_Read_i15 : List Op1 := [(oE 57 (.build [(.int .i64 0), (.int .u16 0), (.slice none 0 0)] []) []), (oN (.store 3 (.t 2) (.t 57)) [0, 0]), (oM 3 (.k (.int .i64 22)) [1, 0, 1])]
def srec_Read_i16 : IR := .ret
def srec_Read_i17 : IR := (.cond (.t 56) (.seq (.reg false srec_Read_i15) srec_Read_i16) .skip)
def srec_Read_i18 : List An := [(aO (oM 58 (.t 0) []) false 0 1), (aO (oE 59 (.ixs (.t 58) (.k (.int .i64 1))) [0]) false 0 1), (aO (oE 60 (.bin .sub (.t 59) (.k (.int .u8 48))) [1]) false 0 1), (aO (oE 61 (.cint .i64 (.t 60)) [2]) false 0 1), (aO (oM 62 (.t 4) []) false 0 1), (aO (oE 63 (.ias 1 (.t 62) (.k (.int .i64 1))) [4]) false 0 1), (aO (oE 64 (.load false 1 (.t 63)) [5]) false 0 1), (aO (oM 65 (.t 4) []) false 0 1), (aO (oE 66 (.ias 1 (.t 65) (.k (.int .i64 2))) [7]) false 0 1), (aO (oE 67 (.load false 1 (.t 66)) [8]) false 0 1), (aO (oC 68 26 [(.t 64), (.t 67)] [6, 9]) false 0 1), (aO (oM 69 (.t 4) []) false 0 1), (aO (oM 70 (.t 4) []) false 0 1), (aO (oE 71 (.len (.t 70)) [12]) false 0 1), (aO (oE 72 (.bin .sub (.t 71) (.k (.int .i64 1))) [13]) false 0 1), (aO (oM 73 (.t 4) []) false 0 1), (aO (oE 74 (.len (.t 73)) [15]) false 0 1), (aO (oE 75 (.bin .sub (.t 74) (.k (.int .i64 1))) [16]) false 0 1), (aO (oE 76 (.sl3 1 (.t 69) (some (.k (.int .i64 3))) (.t 72) (.t 75)) [11, 14, 17]) false 0 1), (aO (oE 77 (.build [(.int .i64 0), (.int .u16 0), (.slice none 0 0)] [(0, (1, (.t 61))), (1, (1, (.t 68))), (2, (1, (.t 76)))]) [3, 10, 18]) false 0 1), (aO (oE 6 (.zero [(.int .i64 0), (.int .u16 0), (.slice none 0 0)]) []) true 0 1), (aO (oN (.store 3 (.t 6) (.t 77)) [20, 19, 10, 0, 1, 2, 3, 4, 5, 6, 7, 8, 9, 10, 11, 12, 13, 14, 15, 16, 17, 18, 19, 20]) true 1 2)]
def srec_Read_i19 : List Op1 := [(oE 78 (.load true 3 (.t 6)) []), (oC 79 27 [(.t 78)] [0]), (oE 80 (.un .not (.t 79)) [1])]
def srec_Read_i20 : List Op1 := [(oE 81 (.build [(.int .i64 0), (.int .u16 0), (.slice none 0 0)] []) []), (oN (.store 3 (.t 2) (.t 81)) [0, 0]), (oM 3 (.k (.int .i64 21)) [1, 0, 1])]
def srec_Read_i21 : IR := .ret
def srec_Read_i22 : IR := (.cond (.t 80) (.seq (.reg false srec_Read_i20) srec_Read_i21) .skip)
def srec_Read_i23 : List Op1 := [(oE 82 (.load true 3 (.t 6)) []), (oN (.store 3 (.t 2) (.t 82)) [0, 0]), (oM 3 (.k (.int .i64 0)) [1, 0, 1])]
def srec_Read_i24 : IR := .ret
def srec_Read_i25 : IR := (.seq (.reg false srec_Read_i23) srec_Read_i24)
def srec_Read_i26 : IR := (.seq (.seq (.reg false srec_Read_i19) srec_Read_i22) srec_Read_i25)
def srec_Read_i27 : IR := (.seq (.regw srec_Read_i18) srec_Read_i26)
def srec_Read_i28 : IR := (.seq (.seq (.reg false srec_Read_i14) srec_Read_i17) srec_Read_i27)
def srec_Read_i29 : IR := (.seq (.seq (.reg false srec_Read_i10) srec_Read_i13) srec_Read_i28)
def srec_Read_i30 : IR := (.seq (.seq (.reg false srec_Read_i6) srec_Read_i9) srec_Read_i29)
def srec_Read_i31 : IR := (.seq (.reg false srec_Read_i5) srec_Read_i30)
def srec_Read_i32 : IR := (.seq (.seq (.reg false srec_Read_i1) srec_Read_i4) srec_Read_i31)
def srec_Read_ir : IR := (.seq (.reg false srec_Read_i0) srec_Read_i32)
theorem srec_Read_cfn : cFn Tryd.prog 17 = some (srec_Read_ir, [(.c 2 true 3), (.t 3)], 83) := by kernel_rfl
def srec_Read_V (r : (srec_Line × Int)) : V := .tup [.agg [.s (.int .i64 r.1.Kind), .s (.int .u16 r.1.At), .sl false r.1.B.length (cat (nI .u8) r.1.B)], .s (.int .i64 r.2)]
def srec_Read_C (r : (srec_Line × Int)) : X → Fr → Hp → Prop := FinL [(.c 2 true 3), (.t 3)] [] (srec_Read_V r) []
theorem srec_Read_ok (s_ : ByteArray) (r : (srec_Line × Int)) (h : srec_Read s_ = some r) : Pure Tryd.prog 17 [.s (.string s_)] (srec_Read_V r) := by
  refine ConL.of srec_Read_cfn (Nat.le_of_ble_eq_true (by kernel_rfl)) (Nat.le_of_ble_eq_true (by kernel_rfl)) ?_
  refine k_start ?_
  show dwv Tryd.prog [] srec_Read_ir (kont Tryd.prog [] (srec_Read_C r) []) (fr0 [.s (.string s_)]) []
  have hf : FOk (fr0 [.s (.string s_)]) [⟨0, [], .s (.string s_)⟩] := ⟨⟨fun _ => rfl, fun h => (h trivial).elim⟩, trivial⟩
  generalize fr0 [.s (.string s_)] = f at hf ⊢
  unfold srec_Read at h
  refine k_seq ?_
  refine k_reg ?_
  refine mops_en hf (by kernel_rfl) fun f1 hf1 => ?_
  refine k_c ?_
  refine k_seq ?_
  refine k_seq ?_
  refine k_reg ?_
  refine mops_sg 5 hf1 (by kernel_rfl) fun f2 hf2 => ?_
  obtain ⟨c1, h⟩ := as_ok h
  refine mops_gadv (dst := (some 12)) (op := (.ixs (.t 11) (.k (.int .i64 0)))) (aft := [4, 3]) (t := 10) (w := false) (ch := [(10, false)]) (b := (!(decide ((sln s_) < 2)))) (v := .s (.int .u8 (bt s_ (0)))) (by kernel_rfl) hf2 (by kernel_rfl) (by kernel_rfl) (by kernel_rfl) (fun hb2 => e_ixs (t := s_) (k := .i64) (iv := 0) (by kernel_rfl) (by kernel_rfl) (c1 hb2)) fun f3 hf3 => ?_
  refine mops_sg 4 hf3 (by kernel_rfl) fun f4 hf4 => ?_
  obtain ⟨c3, h⟩ := as_ok h
  refine mops_gadv (dst := (some 17)) (op := (.ixs (.t 16) (.k (.int .i64 1)))) (aft := [9, 8]) (t := 15) (w := false) (ch := [(15, false)]) (b := (!((decide ((sln s_) < 2)) || ((bt s_ (0)) != 83)))) (v := .s (.int .u8 (bt s_ (1)))) (by kernel_rfl) hf4 (by kernel_rfl) (by kernel_rfl) (by kernel_rfl) (fun hb4 => e_ixs (t := s_) (k := .i64) (iv := 1) (by kernel_rfl) (by kernel_rfl) (c3 hb4)) fun f5 hf5 => ?_
  refine mops_sg 3 hf5 (by kernel_rfl) fun f6 hf6 => ?_
  obtain ⟨c5, h⟩ := as_ok h
  refine mops_gadv (dst := (some 21)) (op := (.ixs (.t 20) (.k (.int .i64 1)))) (aft := [13, 12]) (t := 19) (w := true) (ch := [(19, true), (15, false)]) (b := (((bt s_ (1)) != 48) && (!((decide ((sln s_) < 2)) || ((bt s_ (0)) != 83))))) (v := .s (.int .u8 (bt s_ (1)))) (by kernel_rfl) hf6 (by kernel_rfl) (by kernel_rfl) (by kernel_rfl) (fun hb6 => e_ixs (t := s_) (k := .i64) (iv := 1) (by kernel_rfl) (by kernel_rfl) (c5 hb6)) fun f7 hf7 => ?_
  refine mops_sg 4 hf7 (by kernel_rfl) fun f8 hf8 => ?_
  obtain ⟨c7, h⟩ := as_ok h
  refine mops_gadv (dst := (some 26)) (op := (.ixs (.t 25) (.k (.int .i64 1)))) (aft := [18, 17]) (t := 24) (w := true) (ch := [(24, true), (15, false)]) (b := ((((bt s_ (1)) != 48) && ((bt s_ (1)) != 49)) && (!((decide ((sln s_) < 2)) || ((bt s_ (0)) != 83))))) (v := .s (.int .u8 (bt s_ (1)))) (by kernel_rfl) hf8 (by kernel_rfl) (by kernel_rfl) (by kernel_rfl) (fun hb8 => e_ixs (t := s_) (k := .i64) (iv := 1) (by kernel_rfl) (by kernel_rfl) (c7 hb8)) fun f9 hf9 => ?_
  refine mops_en hf9 (by kernel_rfl) fun f10 hf10 => ?_
  refine k_c ?_
  refine k_cond hf10 (t := (((decide ((sln s_) < 2)) || ((bt s_ (0)) != 83)) || ((((bt s_ (1)) != 48) && ((bt s_ (1)) != 49)) && ((bt s_ (1)) != 57)))) (by kernel_rfl) (fun hc9 => ?_) (fun hc9 => ?_)
  · have h := if_t h hc9
    refine k_seq ?_
    refine k_reg ?_
    refine mops_en hf10 (by kernel_rfl) fun f11 hf11 => ?_
    refine k_c ?_
    refine k_ret ?_
    refine x_c nofun ?_
    obtain rfl := Option.some.inj h
    exact k_fin (fin_ret (.inl rfl) hf11 (vs := [.agg [.s (.int .i64 0), .s (.int .u16 0), .s (.slice none 0 0)], .s (.int .i64 21)]) (by kernel_rfl) (SettL.pure (FzL.tup (FzsL.cons (FzL.agg (FzsL.cons (FzL.stat rfl) (FzsL.cons (FzL.stat rfl) (FzsL.cons FzL.nilsl FzsL.nil)))) (FzsL.cons (FzL.stat rfl) FzsL.nil)))))
  · have h := if_f h hc9
    refine k_skip ?_
    refine k_c ?_
    refine k_seq ?_
    refine k_reg ?_
    refine mops_sg 1 hf10 (by kernel_rfl) fun f11 hf11 => ?_
    obtain ⟨c10, h⟩ := as_ok h
    refine mops_adv rfl (v := .s (.string (s_.extract (2 : Int).toNat s_.size))) hf11 (by kernel_rfl) (e_sstr (t := s_) (by kernel_rfl) (b_sn (k := .i64) (iv := 2) (by kernel_rfl) c10)) fun f12 hf12 => ?_
    obtain ⟨r_, hx_r_, h⟩ := Option.bind_eq_some_iff.1 h
    refine mops_call rfl hf12 (av := [.s (.string (s_.extract (2 : Int).toNat s_.size))]) (by kernel_rfl) (v := .tup [.sl false r_.1.length (cat (nI .u8) r_.1), .s (.int .i64 r_.2)]) (CalL.pure (digit_Unpair_ok (s_.extract (2 : Int).toNat s_.size) r_ hx_r_) rfl (by simp [V.static, statics, cat_stat, digit_Unpair_V]) (Nat.le_of_ble_eq_true (by kernel_rfl))) (fun _ => rfl) fun f13 hf13 => ?_
    refine mops_en hf13 (by kernel_rfl) fun f14 hf14 => ?_
    refine k_c ?_
    refine k_seq ?_
    refine k_seq ?_
    refine k_reg ?_
    refine mops_end [0, 2, 3, 4, 43] hf14 (l' := [⟨0, [], .s (.string s_)⟩, ⟨2, [], .ptr 0 0 0⟩, ⟨3, [], .s (.int .i64 0)⟩, ⟨4, [], .sl false r_.1.length (cat (nI .u8) r_.1)⟩, ⟨43, [], .s (.bool ((r_.2 != 0) || (decide ((ln r_.1) < 4))))⟩]) (L' := [⟨0, .mem, 1, [.s (.int .i64 0), .s (.int .u16 0), .s (.slice none 0 0)]⟩]) (by kernel_rfl) fun f15 hf15 => ?_
    refine k_c ?_
    refine k_cond hf15 (t := ((r_.2 != 0) || (decide ((ln r_.1) < 4)))) (by kernel_rfl) (fun hc11 => ?_) (fun hc11 => ?_)
    · have h := if_t h hc11
      refine k_seq ?_
      refine k_reg ?_
      refine mops_en hf15 (by kernel_rfl) fun f16 hf16 => ?_
      refine k_c ?_
      refine k_ret ?_
      refine x_c nofun ?_
      obtain rfl := Option.some.inj h
      exact k_fin (fin_ret (.inl rfl) hf16 (vs := [.agg [.s (.int .i64 0), .s (.int .u16 0), .s (.slice none 0 0)], .s (.int .i64 21)]) (by kernel_rfl) (SettL.pure (FzL.tup (FzsL.cons (FzL.agg (FzsL.cons (FzL.stat rfl) (FzsL.cons (FzL.stat rfl) (FzsL.cons FzL.nilsl FzsL.nil)))) (FzsL.cons (FzL.stat rfl) FzsL.nil)))))
    · have h := if_f h hc11
      refine k_skip ?_
      refine k_c ?_
      refine k_seq ?_
      refine k_seq ?_
      refine k_reg ?_
      refine mops_sg 1 hf15 (by kernel_rfl) fun f16 hf16 => ?_
      obtain ⟨c12, h⟩ := as_ok h
      refine mops_adv rfl (v := .ip ((cat (nI .u8) r_.1).drop ((0 : Int).toNat * 1))) hf16 (by kernel_rfl) (e_ias (n := r_.1.length) (xv := .sl false r_.1.length (cat (nI .u8) r_.1)) (k := .i64) (iv := 0) (p := .ip ((cat (nI .u8) r_.1).drop ((0 : Int).toNat * 1))) (by kernel_rfl) (by kernel_rfl) (by kernel_rfl) (by kernel_rfl) c12) fun f17 hf17 => ?_
      refine mops_adv rfl (v := .s (.int .u8 (gt r_.1 (0)))) hf17 (by kernel_rfl) (e_load_ip (g := (nI .u8)) (l := r_.1) (iv := 0) [] (by kernel_rfl) c12 (by kernel_rfl) (by kernel_rfl)) fun f18 hf18 => ?_
      refine mops_en hf18 (by kernel_rfl) fun f19 hf19 => ?_
      refine k_c ?_
      refine k_cond hf19 (t := ((IntKind.wrap .i64 (gt r_.1 (0))) != (IntKind.wrap .i64 ((ln r_.1) - 1)))) (by kernel_rfl) (fun hc13 => ?_) (fun hc13 => ?_)
      · have h := if_t h hc13
        refine k_seq ?_
        refine k_reg ?_
        refine mops_en hf19 (by kernel_rfl) fun f20 hf20 => ?_
        refine k_c ?_
        refine k_ret ?_
        refine x_c nofun ?_
        obtain rfl := Option.some.inj h
        exact k_fin (fin_ret (.inl rfl) hf20 (vs := [.agg [.s (.int .i64 0), .s (.int .u16 0), .s (.slice none 0 0)], .s (.int .i64 12)]) (by kernel_rfl) (SettL.pure (FzL.tup (FzsL.cons (FzL.agg (FzsL.cons (FzL.stat rfl) (FzsL.cons (FzL.stat rfl) (FzsL.cons FzL.nilsl FzsL.nil)))) (FzsL.cons (FzL.stat rfl) FzsL.nil)))))
      · have h := if_f h hc13
        refine k_skip ?_
        refine k_c ?_
        refine k_seq ?_
        refine k_seq ?_
        refine k_reg ?_
        refine mops_sg 1 hf19 (by kernel_rfl) fun f20 hf20 => ?_
        obtain ⟨r_1, hx_r_1, h⟩ := Option.bind_eq_some_iff.1 h
        refine mops_call rfl hf20 (av := [.sl false r_.1.length (cat (nI .u8) r_.1)]) (by kernel_rfl) (v := .s (.int .u8 r_1)) (CalL.pure (octet_Sum_ok r_.1 r_1 hx_r_1) (by simp [V.static, statics, cat_stat]) rfl (Nat.le_of_ble_eq_true (by kernel_rfl))) (fun _ => rfl) fun f21 hf21 => ?_
        refine mops_en hf21 (by kernel_rfl) fun f22 hf22 => ?_
        refine k_c ?_
        refine k_cond hf22 (t := (r_1 != 255)) (by kernel_rfl) (fun hc14 => ?_) (fun hc14 => ?_)
        · have h := if_t h hc14
          refine k_seq ?_
          refine k_reg ?_
          refine mops_en hf22 (by kernel_rfl) fun f23 hf23 => ?_
          refine k_c ?_
          refine k_ret ?_
          refine x_c nofun ?_
          obtain rfl := Option.some.inj h
          exact k_fin (fin_ret (.inl rfl) hf23 (vs := [.agg [.s (.int .i64 0), .s (.int .u16 0), .s (.slice none 0 0)], .s (.int .i64 22)]) (by kernel_rfl) (SettL.pure (FzL.tup (FzsL.cons (FzL.agg (FzsL.cons (FzL.stat rfl) (FzsL.cons (FzL.stat rfl) (FzsL.cons FzL.nilsl FzsL.nil)))) (FzsL.cons (FzL.stat rfl) FzsL.nil)))))
        · have h := if_f h hc14
          refine k_skip ?_
          refine k_c ?_
          refine k_seq ?_
          refine k_regw ?_
          refine lw_free' (dst := (some 58)) (op := (.mv (.t 0))) (aft := []) (lo := 0) (hi := 1) (v := .s (.string s_)) (by kernel_rfl) (by kernel_rfl) hf22 (by kernel_rfl) (by kernel_rfl) trivial fun f23 hf23 => ?_
          obtain ⟨c15, h⟩ := as_ok h
          refine lw_free' (dst := (some 59)) (op := (.ixs (.t 58) (.k (.int .i64 1)))) (aft := [0]) (lo := 0) (hi := 1) (v := .s (.int .u8 (bt s_ (1)))) (by kernel_rfl) (by kernel_rfl) hf23 (by kernel_rfl) (e_ixs (t := s_) (k := .i64) (iv := 1) (by kernel_rfl) (by kernel_rfl) c15) trivial fun f24 hf24 => ?_
          refine lw_free' (dst := (some 60)) (op := (.bin .sub (.t 59) (.k (.int .u8 48)))) (aft := [1]) (lo := 0) (hi := 1) (v := .s (.int .u8 (IntKind.wrap .u8 ((bt s_ (1)) - 48)))) (by kernel_rfl) (by kernel_rfl) hf24 (by kernel_rfl) (by kernel_rfl) trivial fun f25 hf25 => ?_
          refine lw_free' (dst := (some 61)) (op := (.cint .i64 (.t 60))) (aft := [2]) (lo := 0) (hi := 1) (v := .s (.int .i64 (IntKind.wrap .i64 (IntKind.wrap .u8 ((bt s_ (1)) - 48))))) (by kernel_rfl) (by kernel_rfl) hf25 (by kernel_rfl) (by kernel_rfl) trivial fun f26 hf26 => ?_
          refine lw_free' (dst := (some 62)) (op := (.mv (.t 4))) (aft := []) (lo := 0) (hi := 1) (v := .sl false r_.1.length (cat (nI .u8) r_.1)) (by kernel_rfl) (by kernel_rfl) hf26 (by kernel_rfl) (by kernel_rfl) trivial fun f27 hf27 => ?_
          obtain ⟨c16, h⟩ := as_ok h
          refine lw_free' (dst := (some 63)) (op := (.ias 1 (.t 62) (.k (.int .i64 1)))) (aft := [4]) (lo := 0) (hi := 1) (v := .ip ((cat (nI .u8) r_.1).drop ((1 : Int).toNat * 1))) (by kernel_rfl) (by kernel_rfl) hf27 (by kernel_rfl) (e_ias (n := r_.1.length) (xv := .sl false r_.1.length (cat (nI .u8) r_.1)) (k := .i64) (iv := 1) (p := .ip ((cat (nI .u8) r_.1).drop ((1 : Int).toNat * 1))) (by kernel_rfl) (by kernel_rfl) (by kernel_rfl) (by kernel_rfl) c16) trivial fun f28 hf28 => ?_
          refine lw_free' (dst := (some 64)) (op := (.load false 1 (.t 63))) (aft := [5]) (lo := 0) (hi := 1) (v := .s (.int .u8 (gt r_.1 (1)))) (by kernel_rfl) (by kernel_rfl) hf28 (by kernel_rfl) (e_load_ip (g := (nI .u8)) (l := r_.1) (iv := 1) [] (by kernel_rfl) c16 (by kernel_rfl) (by kernel_rfl)) trivial fun f29 hf29 => ?_
          refine lw_free' (dst := (some 65)) (op := (.mv (.t 4))) (aft := []) (lo := 0) (hi := 1) (v := .sl false r_.1.length (cat (nI .u8) r_.1)) (by kernel_rfl) (by kernel_rfl) hf29 (by kernel_rfl) (by kernel_rfl) trivial fun f30 hf30 => ?_
          obtain ⟨c17, h⟩ := as_ok h
          refine lw_free' (dst := (some 66)) (op := (.ias 1 (.t 65) (.k (.int .i64 2)))) (aft := [7]) (lo := 0) (hi := 1) (v := .ip ((cat (nI .u8) r_.1).drop ((2 : Int).toNat * 1))) (by kernel_rfl) (by kernel_rfl) hf30 (by kernel_rfl) (e_ias (n := r_.1.length) (xv := .sl false r_.1.length (cat (nI .u8) r_.1)) (k := .i64) (iv := 2) (p := .ip ((cat (nI .u8) r_.1).drop ((2 : Int).toNat * 1))) (by kernel_rfl) (by kernel_rfl) (by kernel_rfl) (by kernel_rfl) c17) trivial fun f31 hf31 => ?_
          refine lw_free' (dst := (some 67)) (op := (.load false 1 (.t 66))) (aft := [8]) (lo := 0) (hi := 1) (v := .s (.int .u8 (gt r_.1 (2)))) (by kernel_rfl) (by kernel_rfl) hf31 (by kernel_rfl) (e_load_ip (g := (nI .u8)) (l := r_.1) (iv := 2) [] (by kernel_rfl) c17 (by kernel_rfl) (by kernel_rfl)) trivial fun f32 hf32 => ?_
          obtain ⟨r_2, hx_r_2, h⟩ := Option.bind_eq_some_iff.1 h
          refine lw_freec' (dst := (some 68)) (m := 26) (args := [(.t 64), (.t 67)]) (aft := [6, 9]) (lo := 0) (hi := 1) (by kernel_rfl) (by kernel_rfl) hf32 (av := [.s (.int .u8 (gt r_.1 (1))), .s (.int .u8 (gt r_.1 (2)))]) (by kernel_rfl) (v := .s (.int .u16 r_2)) (CalL.pure (octet_Word_ok (gt r_.1 (1)) (gt r_.1 (2)) r_2 hx_r_2) rfl rfl (Nat.le_of_ble_eq_true (by kernel_rfl))) trivial fun f33 hf33 => ?_
          refine lw_free' (dst := (some 69)) (op := (.mv (.t 4))) (aft := []) (lo := 0) (hi := 1) (v := .sl false r_.1.length (cat (nI .u8) r_.1)) (by kernel_rfl) (by kernel_rfl) hf33 (by kernel_rfl) (by kernel_rfl) trivial fun f34 hf34 => ?_
          refine lw_free' (dst := (some 70)) (op := (.mv (.t 4))) (aft := []) (lo := 0) (hi := 1) (v := .sl false r_.1.length (cat (nI .u8) r_.1)) (by kernel_rfl) (by kernel_rfl) hf34 (by kernel_rfl) (by kernel_rfl) trivial fun f35 hf35 => ?_
          refine lw_free' (dst := (some 71)) (op := (.len (.t 70))) (aft := [12]) (lo := 0) (hi := 1) (v := .s (.int .i64 (ln r_.1))) (by kernel_rfl) (by kernel_rfl) hf35 (by kernel_rfl) (by kernel_rfl) trivial fun f36 hf36 => ?_
          refine lw_free' (dst := (some 72)) (op := (.bin .sub (.t 71) (.k (.int .i64 1)))) (aft := [13]) (lo := 0) (hi := 1) (v := .s (.int .i64 (IntKind.wrap .i64 ((ln r_.1) - 1)))) (by kernel_rfl) (by kernel_rfl) hf36 (by kernel_rfl) (by kernel_rfl) trivial fun f37 hf37 => ?_
          refine lw_free' (dst := (some 73)) (op := (.mv (.t 4))) (aft := []) (lo := 0) (hi := 1) (v := .sl false r_.1.length (cat (nI .u8) r_.1)) (by kernel_rfl) (by kernel_rfl) hf37 (by kernel_rfl) (by kernel_rfl) trivial fun f38 hf38 => ?_
          refine lw_free' (dst := (some 74)) (op := (.len (.t 73))) (aft := [15]) (lo := 0) (hi := 1) (v := .s (.int .i64 (ln r_.1))) (by kernel_rfl) (by kernel_rfl) hf38 (by kernel_rfl) (by kernel_rfl) trivial fun f39 hf39 => ?_
          refine lw_free' (dst := (some 75)) (op := (.bin .sub (.t 74) (.k (.int .i64 1)))) (aft := [16]) (lo := 0) (hi := 1) (v := .s (.int .i64 (IntKind.wrap .i64 ((ln r_.1) - 1)))) (by kernel_rfl) (by kernel_rfl) hf39 (by kernel_rfl) (by kernel_rfl) trivial fun f40 hf40 => ?_
          obtain ⟨c18, h⟩ := as_ok h
          refine lw_free' (dst := (some 76)) (op := (.sl3 1 (.t 69) (some (.k (.int .i64 3))) (.t 72) (.t 75))) (aft := [11, 14, 17]) (lo := 0) (hi := 1) (v := .sl false (((IntKind.wrap .i64 ((ln r_.1) - 1)) : Int).toNat - (3 : Int).toNat) (cat (nI .u8) (r_.1.drop (3 : Int).toNat))) (by kernel_rfl) (by kernel_rfl) hf40 (by kernel_rfl) (e_sl3 (g := (nI .u8)) (l := r_.1) (u := false) (k := .i64) (k' := .i64) (k2 := .i64) (iv := 3) (jv := (IntKind.wrap .i64 ((ln r_.1) - 1))) (mv := (IntKind.wrap .i64 ((ln r_.1) - 1))) (by kernel_rfl) (by kernel_rfl) (by kernel_rfl) (by kernel_rfl) c18) trivial fun f41 hf41 => ?_
          refine lw_free' (dst := (some 77)) (op := (.build [(.int .i64 0), (.int .u16 0), (.slice none 0 0)] [(0, (1, (.t 61))), (1, (1, (.t 68))), (2, (1, (.t 76)))])) (aft := [3, 10, 18]) (lo := 0) (hi := 1) (v := .agg [.s (.int .i64 (IntKind.wrap .i64 (IntKind.wrap .u8 ((bt s_ (1)) - 48)))), .s (.int .u16 r_2), .sl false (((IntKind.wrap .i64 ((ln r_.1) - 1)) : Int).toNat - (3 : Int).toNat) (cat (nI .u8) (r_.1.drop (3 : Int).toNat))]) (by kernel_rfl) (by kernel_rfl) hf41 (by kernel_rfl) (by kernel_rfl) trivial fun f42 hf42 => ?_
          refine lw_w (a := ⟨⟨(some 6), (.e (.zero [(.int .i64 0), (.int .u16 0), (.slice none 0 0)])), none, []⟩, true, 0, 1⟩) (by kernel_rfl) rfl rfl ?_
          refine mops_end [2, 3, 6, 77] hf42 (l' := [⟨2, [], .ptr 0 0 0⟩, ⟨3, [], .s (.int .i64 0)⟩, ⟨6, [], .ptr 1 0 0⟩, ⟨77, [], .agg [.s (.int .i64 (IntKind.wrap .i64 (IntKind.wrap .u8 ((bt s_ (1)) - 48)))), .s (.int .u16 r_2), .sl false (((IntKind.wrap .i64 ((ln r_.1) - 1)) : Int).toNat - (3 : Int).toNat) (cat (nI .u8) (r_.1.drop (3 : Int).toNat))]⟩]) (L' := [⟨0, .mem, 1, [.s (.int .i64 0), .s (.int .u16 0), .s (.slice none 0 0)]⟩, ⟨0, .mem, 1, [.s (.int .i64 0), .s (.int .u16 0), .s (.slice none 0 0)]⟩]) (by kernel_rfl) fun f43 hf43 => ?_
          refine ⟨(pend_ok hf41 (by kernel_rfl) (by kernel_rfl) (pend_ok hf40 (by kernel_rfl) (e_sl3 (g := (nI .u8)) (l := r_.1) (u := false) (k := .i64) (k' := .i64) (k2 := .i64) (iv := 3) (jv := (IntKind.wrap .i64 ((ln r_.1) - 1))) (mv := (IntKind.wrap .i64 ((ln r_.1) - 1))) (by kernel_rfl) (by kernel_rfl) (by kernel_rfl) (by kernel_rfl) c18) (pend_ok hf39 (by kernel_rfl) (by kernel_rfl) (pend_ok hf38 (by kernel_rfl) (by kernel_rfl) (pend_ok hf37 (by kernel_rfl) (by kernel_rfl) (pend_ok hf36 (by kernel_rfl) (by kernel_rfl) (pend_ok hf35 (by kernel_rfl) (by kernel_rfl) (pend_ok hf34 (by kernel_rfl) (by kernel_rfl) (pend_ok hf33 (by kernel_rfl) (by kernel_rfl) (pend_okc hf32 (av := [.s (.int .u8 (gt r_.1 (1))), .s (.int .u8 (gt r_.1 (2)))]) (by kernel_rfl) (CalL.pure (octet_Word_ok (gt r_.1 (1)) (gt r_.1 (2)) r_2 hx_r_2) rfl rfl (Nat.le_of_ble_eq_true (by kernel_rfl))) (pend_ok hf31 (by kernel_rfl) (e_load_ip (g := (nI .u8)) (l := r_.1) (iv := 2) [] (by kernel_rfl) c17 (by kernel_rfl) (by kernel_rfl)) (pend_ok hf30 (by kernel_rfl) (e_ias (n := r_.1.length) (xv := .sl false r_.1.length (cat (nI .u8) r_.1)) (k := .i64) (iv := 2) (p := .ip ((cat (nI .u8) r_.1).drop ((2 : Int).toNat * 1))) (by kernel_rfl) (by kernel_rfl) (by kernel_rfl) (by kernel_rfl) c17) (pend_ok hf29 (by kernel_rfl) (by kernel_rfl) (pend_ok hf28 (by kernel_rfl) (e_load_ip (g := (nI .u8)) (l := r_.1) (iv := 1) [] (by kernel_rfl) c16 (by kernel_rfl) (by kernel_rfl)) (pend_ok hf27 (by kernel_rfl) (e_ias (n := r_.1.length) (xv := .sl false r_.1.length (cat (nI .u8) r_.1)) (k := .i64) (iv := 1) (p := .ip ((cat (nI .u8) r_.1).drop ((1 : Int).toNat * 1))) (by kernel_rfl) (by kernel_rfl) (by kernel_rfl) (by kernel_rfl) c16) (pend_ok hf26 (by kernel_rfl) (by kernel_rfl) (pend_ok hf25 (by kernel_rfl) (by kernel_rfl) (pend_ok hf24 (by kernel_rfl) (by kernel_rfl) (pend_ok hf23 (by kernel_rfl) (e_ixs (t := s_) (k := .i64) (iv := 1) (by kernel_rfl) (by kernel_rfl) c15) (pend_ok hf22 (by kernel_rfl) (by kernel_rfl) trivial)))))))))))))))))))), ?_⟩
          refine lw_w (a := ⟨⟨none, (.e (.store 3 (.t 6) (.t 77))), none, [20, 19, 10, 0, 1, 2, 3, 4, 5, 6, 7, 8, 9, 10, 11, 12, 13, 14, 15, 16, 17, 18, 19, 20]⟩, true, 1, 2⟩) (by kernel_rfl) rfl rfl ?_
          refine mops_end [2, 3, 6] hf43 (l' := [⟨2, [], .ptr 0 0 0⟩, ⟨3, [], .s (.int .i64 0)⟩, ⟨6, [], .ptr 1 0 0⟩]) (L' := [⟨0, .mem, 1, [.s (.int .i64 0), .s (.int .u16 0), .s (.slice none 0 0)]⟩, ⟨0, .mem, 1, [.s (.int .i64 (IntKind.wrap .i64 (IntKind.wrap .u8 ((bt s_ (1)) - 48)))), .s (.int .u16 r_2), .sl false (((IntKind.wrap .i64 ((ln r_.1) - 1)) : Int).toNat - (3 : Int).toNat) (cat (nI .u8) (r_.1.drop (3 : Int).toNat))]⟩]) (by kernel_rfl) fun f44 hf44 => ?_
          refine ⟨(pend_ok hf41 (by kernel_rfl) (by kernel_rfl) (pend_ok hf40 (by kernel_rfl) (e_sl3 (g := (nI .u8)) (l := r_.1) (u := false) (k := .i64) (k' := .i64) (k2 := .i64) (iv := 3) (jv := (IntKind.wrap .i64 ((ln r_.1) - 1))) (mv := (IntKind.wrap .i64 ((ln r_.1) - 1))) (by kernel_rfl) (by kernel_rfl) (by kernel_rfl) (by kernel_rfl) c18) (pend_ok hf39 (by kernel_rfl) (by kernel_rfl) (pend_ok hf38 (by kernel_rfl) (by kernel_rfl) (pend_ok hf37 (by kernel_rfl) (by kernel_rfl) (pend_ok hf36 (by kernel_rfl) (by kernel_rfl) (pend_ok hf35 (by kernel_rfl) (by kernel_rfl) (pend_ok hf34 (by kernel_rfl) (by kernel_rfl) (pend_ok hf33 (by kernel_rfl) (by kernel_rfl) (pend_okc hf32 (av := [.s (.int .u8 (gt r_.1 (1))), .s (.int .u8 (gt r_.1 (2)))]) (by kernel_rfl) (CalL.pure (octet_Word_ok (gt r_.1 (1)) (gt r_.1 (2)) r_2 hx_r_2) rfl rfl (Nat.le_of_ble_eq_true (by kernel_rfl))) (pend_ok hf31 (by kernel_rfl) (e_load_ip (g := (nI .u8)) (l := r_.1) (iv := 2) [] (by kernel_rfl) c17 (by kernel_rfl) (by kernel_rfl)) (pend_ok hf30 (by kernel_rfl) (e_ias (n := r_.1.length) (xv := .sl false r_.1.length (cat (nI .u8) r_.1)) (k := .i64) (iv := 2) (p := .ip ((cat (nI .u8) r_.1).drop ((2 : Int).toNat * 1))) (by kernel_rfl) (by kernel_rfl) (by kernel_rfl) (by kernel_rfl) c17) (pend_ok hf29 (by kernel_rfl) (by kernel_rfl) (pend_ok hf28 (by kernel_rfl) (e_load_ip (g := (nI .u8)) (l := r_.1) (iv := 1) [] (by kernel_rfl) c16 (by kernel_rfl) (by kernel_rfl)) (pend_ok hf27 (by kernel_rfl) (e_ias (n := r_.1.length) (xv := .sl false r_.1.length (cat (nI .u8) r_.1)) (k := .i64) (iv := 1) (p := .ip ((cat (nI .u8) r_.1).drop ((1 : Int).toNat * 1))) (by kernel_rfl) (by kernel_rfl) (by kernel_rfl) (by kernel_rfl) c16) (pend_ok hf26 (by kernel_rfl) (by kernel_rfl) (pend_ok hf25 (by kernel_rfl) (by kernel_rfl) (pend_ok hf24 (by kernel_rfl) (by kernel_rfl) (pend_ok hf23 (by kernel_rfl) (e_ixs (t := s_) (k := .i64) (iv := 1) (by kernel_rfl) (by kernel_rfl) c15) (pend_ok hf22 (by kernel_rfl) (by kernel_rfl) trivial)))))))))))))))))))), ?_⟩
          refine lw_end (by kernel_rfl) ?_
          refine k_c ?_
          refine k_seq ?_
          refine k_seq ?_
          refine k_reg ?_
          refine mops_sg 1 hf44 (by kernel_rfl) fun f45 hf45 => ?_
          obtain ⟨r_3, hx_r_3, h⟩ := Option.bind_eq_some_iff.1 h
          refine mops_call rfl hf45 (av := [.agg [.s (.int .i64 (IntKind.wrap .i64 (IntKind.wrap .u8 ((bt s_ (1)) - 48)))), .s (.int .u16 r_2), .sl false (((IntKind.wrap .i64 ((ln r_.1) - 1)) : Int).toNat - (3 : Int).toNat) (cat (nI .u8) (r_.1.drop (3 : Int).toNat))]]) (by kernel_rfl) (v := .s (.bool r_3)) (CalL.purew (srec_Line_right_ok (srec_Line.mk (IntKind.wrap .i64 (IntKind.wrap .u8 ((bt s_ (1)) - 48))) r_2 ((r_.1.drop (3 : Int).toNat).take (((IntKind.wrap .i64 ((ln r_.1) - 1)) : Int).toNat - (3 : Int).toNat))) r_3 hx_r_3) (Wks.cons (Wk.agg (Wks.cons Wk.refl (Wks.cons Wk.refl (Wks.cons (Wk.part (g := (nI .u8)) (cut_le (l := r_.1) (a := (3 : Int).toNat) (b := ((IntKind.wrap .i64 ((ln r_.1) - 1)) : Int).toNat) (cut_3 (n := r_.1.length) c18) rfl)) Wks.nil)))) Wks.nil) (by simp [V.static, statics, cat_stat]) rfl (by kernel_rfl)) (fun _ => rfl) fun f46 hf46 => ?_
          refine mops_en hf46 (by kernel_rfl) fun f47 hf47 => ?_
          refine k_c ?_
          refine k_cond hf47 (t := (!r_3)) (by kernel_rfl) (fun hc19 => ?_) (fun hc19 => ?_)
          · have h := if_t h hc19
            refine k_seq ?_
            refine k_reg ?_
            refine mops_en hf47 (by kernel_rfl) fun f48 hf48 => ?_
            refine k_c ?_
            refine k_ret ?_
            refine x_c nofun ?_
            obtain rfl := Option.some.inj h
            exact k_fin (fin_ret (.inl rfl) hf48 (vs := [.agg [.s (.int .i64 0), .s (.int .u16 0), .s (.slice none 0 0)], .s (.int .i64 21)]) (by kernel_rfl) (SettL.pure (FzL.tup (FzsL.cons (FzL.agg (FzsL.cons (FzL.stat rfl) (FzsL.cons (FzL.stat rfl) (FzsL.cons FzL.nilsl FzsL.nil)))) (FzsL.cons (FzL.stat rfl) FzsL.nil)))))
          · have h := if_f h hc19
            refine k_skip ?_
            refine k_c ?_
            refine k_seq ?_
            refine k_reg ?_
            refine mops_en hf47 (by kernel_rfl) fun f48 hf48 => ?_
            refine k_c ?_
            refine k_ret ?_
            obtain rfl := Option.some.inj h
            exact k_fin (fin_ret (.inl rfl) hf48 (vs := [.agg [.s (.int .i64 (IntKind.wrap .i64 (IntKind.wrap .u8 ((bt s_ (1)) - 48)))), .s (.int .u16 r_2), .sl false (((IntKind.wrap .i64 ((ln r_.1) - 1)) : Int).toNat - (3 : Int).toNat) (cat (nI .u8) (r_.1.drop (3 : Int).toNat))], .s (.int .i64 0)]) (by kernel_rfl) (SettL.pure (FzL.tup (FzsL.cons (FzL.agg (FzsL.cons (FzL.stat rfl) (FzsL.cons (FzL.stat rfl) (FzsL.cons (FzL.part (g := (nI .u8)) (l := r_.1) (a := (3 : Int).toNat) (b := ((IntKind.wrap .i64 ((ln r_.1) - 1)) : Int).toNat) (cut_3 (n := r_.1.length) c18)) FzsL.nil)))) (FzsL.cons (FzL.stat rfl) FzsL.nil)))))
end Go.Proofs.YtphfmfbebcconaaDoorK
