/- The Go functions come to the functions over typed data. Printed by a program of this work. -/
import Derived.Test.YthooddibdmigmaaDoorF
import Derived.Test.YthooddibdmigmaaDoorProg
import Derived.Test.YthooddibdmigmaaDoorSc
import Derived.Test.YthooddibdmigmaaDoorSe
import Derived.Test.YthooddibdmigmaaDoorSf
import Derived.Test.YthooddibdmigmaaDoorG0
namespace Go.Proofs.YthooddibdmigmaaDoorK
set_option linter.unusedVariables false
set_option linter.unusedSimpArgs false
set_option maxHeartbeats 4000000
open Go.RowKit
attribute [local irreducible] dwv mops lops lqops lwops kont iter run runK rk okK ex E1 vals val chain chB sel resF
def spinetref43_Fields_i0 : List Op1 := [(oE 2 (.nilg 1) [])]
def spinetref43_Fields_i1 : List Op1 := [(oM 5 (.t 0) []), (oE 6 (.bin .eql (.t 5) (.k (.string ⟨#[]⟩))) [0])]
def spinetref43_Fields_i2 : List Op1 := [(oE 2 (.nilg 1) [])]
def spinetref43_Fields_i3 : IR := .ret
def spinetref43_Fields_i4 : IR := (.cond (.t 6) (.seq (.reg false spinetref43_Fields_i2) spinetref43_Fields_i3) .skip)
def spinetref43_Fields_i5 : List Op1 := [(oE 7 (.bslo 1 1 [(.string ⟨#[]⟩)] [(0, (1, (.k (.string ⟨#[]⟩))))]) []), (oM 3 (.t 7) [0, 0])]
def spinetref43_Fields_i6 : List Op1 := [(oM 4 (.k (.int .i64 0)) [])]
def spinetref43_Fields_i7 : List Op1 := [(oM 8 (.t 4) []), (oM 9 (.t 0) []), (oE 10 (.lens (.t 9)) [1]), (oE 11 (.bin .lss (.t 8) (.t 10)) [0, 2])]
def spinetref43_Fields_i8 : IR := (.cond (.t 11) .skip (.exit 0))
def spinetref43_Fields_i9 : List Op1 := [(oM 14 (.t 0) []), (oM 15 (.t 4) []), (oE 16 (.ixs (.t 14) (.t 15)) [0, 1]), (oE 17 (.bin .eql (.t 16) (.k (.int .u8 44))) [2])]
def spinetref43_Fields_i10 : List Op1 := [(oM 18 (.t 3) []), (oE 19 (.bslo 1 1 [(.string ⟨#[]⟩)] [(0, (1, (.k (.string ⟨#[]⟩))))]) []), (oE 20 (.app 9 1 16 (.t 18) (.t 19)) [0, 1]), (oM 3 (.t 20) [2, 2, 0, 1, 2])]
def spinetref43_Fields_i11 : List An := [(aO (oM 21 (.t 3) []) false 0 0), (aO (oM 22 (.t 3) []) false 0 0), (aO (oE 23 (.len (.t 22)) [1]) false 0 0), (aO (oE 24 (.bin .sub (.t 23) (.k (.int .i64 1))) [2]) false 0 0), (aO (oE 25 (.ias 1 (.t 21) (.t 24)) [0, 3]) false 0 0), (aO (oE 26 (.load false 1 (.t 25)) [4]) false 0 0), (aO (oM 27 (.t 0) []) false 0 0), (aO (oM 28 (.t 4) []) false 0 0), (aO (oM 29 (.t 4) []) false 0 0), (aO (oE 30 (.bin .add (.t 29) (.k (.int .i64 1))) [8]) false 0 0), (aO (oE 31 (.sstr (.t 27) (some (.t 28)) (some (.t 30))) [6, 7, 9]) false 0 0), (aO (oE 32 (.bin .add (.t 26) (.t 31)) [5, 10]) false 0 0), (aO (oE 33 (.ias 1 (.t 21) (.t 24)) [0, 3, 0, 1, 2, 3, 4, 5, 6, 7, 8, 9, 10, 11]) false 0 0), (aO (oN (.store 1 (.t 33) (.t 32)) [12, 11, 0, 1, 2, 3, 4, 5, 6, 7, 8, 9, 10, 11]) true 0 1)]
def spinetref43_Fields_i12 : IR := (.cond (.t 17) (.reg false spinetref43_Fields_i10) (.regw spinetref43_Fields_i11))
def spinetref43_Fields_i13 : List Op1 := [(oM 12 (.t 4) []), (oE 13 (.bin .add (.t 12) (.k (.int .i64 1))) [0]), (oM 4 (.t 13) [1, 0, 1])]
def spinetref43_Fields_i14 : IR := (.reg false spinetref43_Fields_i13)
def spinetref43_Fields_i15 : IR := (.seq (.block 1 (.seq (.reg false spinetref43_Fields_i9) spinetref43_Fields_i12)) spinetref43_Fields_i14)
def spinetref43_Fields_i16 : IR := (.seq (.seq (.reg false spinetref43_Fields_i7) spinetref43_Fields_i8) spinetref43_Fields_i15)
def spinetref43_Fields_i17 : IR := (.block 0 (.loop spinetref43_Fields_i16))
def spinetref43_Fields_i18 : List Op1 := [(oM 34 (.t 3) []), (oM 2 (.t 34) [0, 0])]
def spinetref43_Fields_i19 : IR := .ret
def spinetref43_Fields_i20 : IR := (.seq (.reg false spinetref43_Fields_i18) spinetref43_Fields_i19)
def spinetref43_Fields_i21 : IR := (.seq (.seq (.reg false spinetref43_Fields_i6) spinetref43_Fields_i17) spinetref43_Fields_i20)
def spinetref43_Fields_i22 : IR := (.seq (.reg false spinetref43_Fields_i5) spinetref43_Fields_i21)
def spinetref43_Fields_i23 : IR := (.seq (.seq (.reg false spinetref43_Fields_i1) spinetref43_Fields_i4) spinetref43_Fields_i22)
def spinetref43_Fields_ir : IR := (.seq (.reg false spinetref43_Fields_i0) spinetref43_Fields_i23)
theorem spinetref43_Fields_cfn : cFn Tryd.prog 12 = some (spinetref43_Fields_ir, [(.t 2)], 35) := by kernel_rfl
def spinetref43_Fields_V (r : ((List ByteArray))) : V := .sl false r.length (cat nS r)
def spinetref43_Fields_C (r : ((List ByteArray))) : X → Fr → Hp → Prop := FinL [(.t 2)] [] (spinetref43_Fields_V r) []
theorem spinetref43_Fields_ok (s_ : ByteArray) (r : ((List ByteArray))) (h : spinetref43_Fields s_ = some r) : Pure Tryd.prog 12 [.s (.string s_)] (spinetref43_Fields_V r) := by
  refine ConL.of spinetref43_Fields_cfn (Nat.le_of_ble_eq_true (by kernel_rfl)) (Nat.le_of_ble_eq_true (by kernel_rfl)) ?_
  refine k_start ?_
  show dwv Tryd.prog [] spinetref43_Fields_ir (kont Tryd.prog [] (spinetref43_Fields_C r) []) (fr0 [.s (.string s_)]) []
  have hf : FOk (fr0 [.s (.string s_)]) [⟨0, [], .s (.string s_)⟩] := ⟨⟨fun _ => rfl, fun h => (h trivial).elim⟩, trivial⟩
  generalize fr0 [.s (.string s_)] = f at hf ⊢
  unfold spinetref43_Fields at h
  refine k_seq ?_
  refine k_reg ?_
  refine mops_en hf (by kernel_rfl) fun f1 hf1 => ?_
  refine k_c ?_
  refine k_seq ?_
  refine k_seq ?_
  refine k_reg ?_
  refine mops_en hf1 (by kernel_rfl) fun f2 hf2 => ?_
  refine k_c ?_
  refine k_cond hf2 (t := (s_.toList == (⟨#[]⟩ : ByteArray).toList)) (by kernel_rfl) (fun hc1 => ?_) (fun hc1 => ?_)
  · have h := if_t h hc1
    refine k_seq ?_
    refine k_reg ?_
    refine mops_en hf2 (by kernel_rfl) fun f3 hf3 => ?_
    refine k_c ?_
    refine k_ret ?_
    refine x_c nofun ?_
    obtain rfl := Option.some.inj h
    exact k_fin (fin_ret (.inl rfl) hf3 (vs := [.ref 1 0 0 0]) (by kernel_rfl) (SettL.pure (FzL.whole (g := nS) (kd := .grow) (l := ([] : List ByteArray)) (by kernel_rfl) rfl (live_grow (by kernel_rfl)))))
  · have h := if_f h hc1
    refine k_skip ?_
    refine k_c ?_
    refine k_seq ?_
    refine k_reg ?_
    refine mops_en hf2 (by kernel_rfl) fun f3 hf3 => ?_
    refine k_c ?_
    refine k_seq ?_
    refine k_seq ?_
    refine k_reg ?_
    refine mops_en hf3 (by kernel_rfl) fun f4 hf4 => ?_
    refine k_c ?_
    refine k_block ?_
    obtain ⟨o0, hx0, h⟩ := Option.bind_eq_some_iff.1 h
    have hgo0 : ∀ (l_2 : (List ByteArray)) (v_2 : Nat) (m_2 : Nat) (hn_2 : l_2.length = m_2), l_2 = o0 → ∀ f, FOk f [⟨2, [], .ref 0 0 0 0⟩, ⟨3, [], .ref 1 v_2 0 m_2⟩] → kont Tryd.prog [] (spinetref43_Fields_C r) ((.c spinetref43_Fields_i20) :: []) .normal f [⟨0, .grow, 1, cat nS ([] : List ByteArray)⟩, ⟨v_2, .grow, 1, cat nS l_2⟩] := by
      intro l_2 v_2 m_2 hn_2 e f hf
      subst e
      refine k_c ?_
      refine k_seq ?_
      refine k_reg ?_
      refine mops_en hf (by kernel_rfl) fun f1 hf1 => ?_
      refine k_c ?_
      refine k_ret ?_
      obtain rfl := Option.some.inj h
      exact k_fin (fin_ret (.inl rfl) hf1 (vs := [.ref 1 v_2 0 m_2]) (by kernel_rfl) (SettL.pure (FzL.whole (g := nS) (kd := .grow) (l := l_2) (by kernel_rfl) hn_2 (live_grow (by kernel_rfl)))))
    refine k_loop BIG ?_
    refine loop_ind (fun n f L => ∃ (l_1 : (List ByteArray)) (i_1 : Int) (v_1 : Nat) (m_1 : Nat) (hn_1 : l_1.length = m_1), spinetref43_Fields_l0 s_ n l_1 i_1 = some o0 ∧ FOk f [⟨0, [], .s (.string s_)⟩, ⟨2, [], .ref 0 0 0 0⟩, ⟨3, [], .ref 1 v_1 0 m_1⟩, ⟨4, [], .s (.int .i64 i_1)⟩] ∧ L = [⟨0, .grow, 1, cat nS ([] : List ByteArray)⟩, ⟨v_1, .grow, 1, cat nS l_1⟩]) ?_ ?_ BIG _ _ ⟨[(⟨#[]⟩ : ByteArray)], (0), (0), (1), (by kernel_rfl), hx0, FOk_of [0, 2, 3, 4] hf4 (by kernel_rfl), (by kernel_rfl)⟩
    · rintro f L ⟨l_1, i_1, v_1, m_1, hn_1, h, _⟩
      cases (show (none : Option _) = some _ from h)
    · rintro n0 R0 ih f L ⟨l_1, i_1, v_1, m_1, hn_1, h, hf, rfl⟩
      rw [spinetref43_Fields_l0] at h
      refine k_seq ?_
      refine k_seq ?_
      refine k_reg ?_
      refine mops_en hf (by kernel_rfl) fun f1 hf1 => ?_
      refine k_c ?_
      refine k_cond hf1 (t := (decide (i_1 < (sln s_)))) (by kernel_rfl) (fun hc2 => ?_) (fun hc2 => ?_)
      · have h := if_t h hc2
        refine k_skip ?_
        refine k_c ?_
        refine k_seq ?_
        refine k_block ?_
        refine k_seq ?_
        refine k_reg ?_
        refine mops_sg 2 hf1 (by kernel_rfl) fun f2 hf2 => ?_
        obtain ⟨c3, h⟩ := as_ok h
        refine mops_adv rfl (v := .s (.int .u8 (bt s_ i_1))) hf2 (by kernel_rfl) (e_ixs (t := s_) (k := .i64) (iv := i_1) (by kernel_rfl) (by kernel_rfl) c3) fun f3 hf3 => ?_
        refine mops_en hf3 (by kernel_rfl) fun f4 hf4 => ?_
        refine k_c ?_
        refine k_cond hf4 (t := ((bt s_ i_1) == 44)) (by kernel_rfl) (fun hc4 => ?_) (fun hc4 => ?_)
        · have h := if_t h hc4
          refine k_reg ?_
          refine mops_sg 2 hf4 (by kernel_rfl) fun f5 hf5 => ?_
          obtain ⟨c5, h⟩ := as_ok h
          refine mops_adv rfl (v := .ref 1 (v_1 + 1) 0 (l_1 ++ [(⟨#[]⟩ : ByteArray)]).length) hf5 (by kernel_rfl) (e_app (g := nS) (l := l_1) (l' := [(⟨#[]⟩ : ByteArray)]) (b := 1) (ver := v_1) (n := m_1) rfl (by kernel_rfl) hn_1 (live_grow (by kernel_rfl)) (sll_ev (v := .ref 2 0 0 1) (by kernel_rfl) (sll_ref (B := ⟨0, .grow, 1, cat nS [(⟨#[]⟩ : ByteArray)]⟩) (by kernel_rfl) (live_grow (by kernel_rfl)))) (slc_ev (v := .ref 2 0 0 1) (by kernel_rfl) (slc_ref (g := nS) (l := [(⟨#[]⟩ : ByteArray)]) (kd := .grow) (q := 1) (by kernel_rfl) (live_grow (by kernel_rfl)))) c5) fun f6 hf6 => ?_
          refine mops_en hf6 (by kernel_rfl) fun f7 hf7 => ?_
          refine k_b ?_
          refine k_c ?_
          refine k_reg ?_
          refine mops_en hf7 (by kernel_rfl) fun f8 hf8 => ?_
          refine k_l' (vs_cut (l := [⟨0, [], .s (.string s_)⟩, ⟨2, [], .ref 0 0 0 0⟩, ⟨3, [], .ref 1 (v_1 + 1) 0 (l_1 ++ [(⟨#[]⟩ : ByteArray)]).length⟩, ⟨4, [], .s (.int .i64 (IntKind.wrap .i64 (i_1 + 1)))⟩]) 2 (by kernel_rfl) (by kernel_rfl) (L' := [⟨0, .grow, 1, cat nS ([] : List ByteArray)⟩, ⟨(v_1 + 1), .grow, 1, cat nS (l_1 ++ [(⟨#[]⟩ : ByteArray)])⟩]) (by kernel_rfl) ⟨⟨rfl, rfl⟩, ⟨rfl, rfl⟩, ⟨rfl, rfl⟩, ⟨rfl, rfl⟩, trivial⟩ ⟨.inr (.inr (statics_unders _ _ (cat_stat _))), .inr (.inr (statics_unders _ _ (cat_stat _))), trivial⟩ (FOk_of [0, 2, 3, 4] hf8 (by kernel_rfl)) fun f hf => ?_)
          exact ih _ _ ⟨(l_1 ++ [(⟨#[]⟩ : ByteArray)]), (IntKind.wrap .i64 (i_1 + 1)), (v_1 + 1), ((l_1 ++ [(⟨#[]⟩ : ByteArray)]).length), rfl, h, hf, rfl⟩
        · have h := if_f h hc4
          refine k_regw ?_
          refine lw_tight 13 (by kernel_rfl) ?_
          refine mops_seg [0, 2, 3, 4, 8, 9, 10, 11, 14, 15, 16, 17, 21, 22] 2 hf4 (l' := [⟨0, [], .s (.string s_)⟩, ⟨2, [], .ref 0 0 0 0⟩, ⟨3, [], .ref 1 v_1 0 m_1⟩, ⟨4, [], .s (.int .i64 i_1)⟩, ⟨8, [], .s (.int .i64 i_1)⟩, ⟨9, [], .s (.string s_)⟩, ⟨10, [], .s (.int .i64 (sln s_))⟩, ⟨11, [], .s (.bool (decide (i_1 < (sln s_))))⟩, ⟨14, [], .s (.string s_)⟩, ⟨15, [], .s (.int .i64 i_1)⟩, ⟨16, [], .s (.int .u8 (bt s_ i_1))⟩, ⟨17, [], .s (.bool ((bt s_ i_1) == 44))⟩, ⟨21, [], .ref 1 v_1 0 m_1⟩, ⟨22, [], .ref 1 v_1 0 m_1⟩]) (L' := [⟨0, .grow, 1, cat nS ([] : List ByteArray)⟩, ⟨v_1, .grow, 1, cat nS l_1⟩]) (by kernel_rfl) fun f5 hf5 => ?_
          refine mops_adv rfl (v := .s (.int .i64 (ln l_1))) hf5 (by kernel_rfl) (e_len_ref (l := l_1) (B := ⟨v_1, .grow, 1, cat nS l_1⟩) (b := 1) (ver := v_1) (n := m_1) (by kernel_rfl) hn_1 (live_grow (by kernel_rfl))) fun f6 hf6 => ?_
          refine mops_seg [0, 2, 3, 4, 8, 9, 10, 11, 14, 15, 16, 17, 21, 22, 23, 24] 1 hf6 (l' := [⟨0, [], .s (.string s_)⟩, ⟨2, [], .ref 0 0 0 0⟩, ⟨3, [], .ref 1 v_1 0 m_1⟩, ⟨4, [], .s (.int .i64 i_1)⟩, ⟨8, [], .s (.int .i64 i_1)⟩, ⟨9, [], .s (.string s_)⟩, ⟨10, [], .s (.int .i64 (sln s_))⟩, ⟨11, [], .s (.bool (decide (i_1 < (sln s_))))⟩, ⟨14, [], .s (.string s_)⟩, ⟨15, [], .s (.int .i64 i_1)⟩, ⟨16, [], .s (.int .u8 (bt s_ i_1))⟩, ⟨17, [], .s (.bool ((bt s_ i_1) == 44))⟩, ⟨21, [], .ref 1 v_1 0 m_1⟩, ⟨22, [], .ref 1 v_1 0 m_1⟩, ⟨23, [], .s (.int .i64 (ln l_1))⟩, ⟨24, [], .s (.int .i64 (IntKind.wrap .i64 ((ln l_1) - 1)))⟩]) (L' := [⟨0, .grow, 1, cat nS ([] : List ByteArray)⟩, ⟨v_1, .grow, 1, cat nS l_1⟩]) (by kernel_rfl) fun f7 hf7 => ?_
          obtain ⟨c6, h⟩ := as_ok h
          refine mops_adv rfl (v := .ptr 1 v_1 (0 + ((IntKind.wrap .i64 ((ln l_1) - 1)) : Int).toNat * 1)) hf7 (by kernel_rfl) (e_ias_ref (l := l_1) (B := ⟨v_1, .grow, 1, cat nS l_1⟩) (b := 1) (ver := v_1) (n := m_1) (k := .i64) (iv := (IntKind.wrap .i64 ((ln l_1) - 1))) (by kernel_rfl) (by kernel_rfl) hn_1 (live_grow (by kernel_rfl)) c6) fun f8 hf8 => ?_
          refine mops_adv rfl (v := .s (.string (gt l_1 (IntKind.wrap .i64 ((ln l_1) - 1))))) hf8 (by kernel_rfl) (e_load_pe (g := nS) (l := l_1) (iv := (IntKind.wrap .i64 ((ln l_1) - 1))) (kd := .grow) (q := 1) (b := 1) (ver := v_1) [] (by kernel_rfl) (live_grow (by kernel_rfl)) c6 (by kernel_rfl) (by kernel_rfl)) fun f9 hf9 => ?_
          refine mops_seg [0, 2, 3, 4, 8, 9, 10, 11, 14, 15, 16, 17, 21, 22, 23, 24, 25, 26, 27, 28, 29, 30] 4 hf9 (l' := [⟨0, [], .s (.string s_)⟩, ⟨2, [], .ref 0 0 0 0⟩, ⟨3, [], .ref 1 v_1 0 m_1⟩, ⟨4, [], .s (.int .i64 i_1)⟩, ⟨8, [], .s (.int .i64 i_1)⟩, ⟨9, [], .s (.string s_)⟩, ⟨10, [], .s (.int .i64 (sln s_))⟩, ⟨11, [], .s (.bool (decide (i_1 < (sln s_))))⟩, ⟨14, [], .s (.string s_)⟩, ⟨15, [], .s (.int .i64 i_1)⟩, ⟨16, [], .s (.int .u8 (bt s_ i_1))⟩, ⟨17, [], .s (.bool ((bt s_ i_1) == 44))⟩, ⟨21, [], .ref 1 v_1 0 m_1⟩, ⟨22, [], .ref 1 v_1 0 m_1⟩, ⟨23, [], .s (.int .i64 (ln l_1))⟩, ⟨24, [], .s (.int .i64 (IntKind.wrap .i64 ((ln l_1) - 1)))⟩, ⟨25, [], .ptr 1 v_1 (0 + ((IntKind.wrap .i64 ((ln l_1) - 1)) : Int).toNat * 1)⟩, ⟨26, [], .s (.string (gt l_1 (IntKind.wrap .i64 ((ln l_1) - 1))))⟩, ⟨27, [], .s (.string s_)⟩, ⟨28, [], .s (.int .i64 i_1)⟩, ⟨29, [], .s (.int .i64 i_1)⟩, ⟨30, [], .s (.int .i64 (IntKind.wrap .i64 (i_1 + 1)))⟩]) (L' := [⟨0, .grow, 1, cat nS ([] : List ByteArray)⟩, ⟨v_1, .grow, 1, cat nS l_1⟩]) (by kernel_rfl) fun f10 hf10 => ?_
          obtain ⟨c7, h⟩ := as_ok h
          refine mops_adv rfl (v := .s (.string (s_.extract (i_1 : Int).toNat ((IntKind.wrap .i64 (i_1 + 1)) : Int).toNat))) hf10 (by kernel_rfl) (e_sstr (t := s_) (by kernel_rfl) (b_ss (k := .i64) (k' := .i64) (iv := i_1) (jv := (IntKind.wrap .i64 (i_1 + 1))) (by kernel_rfl) (by kernel_rfl) c7)) fun f11 hf11 => ?_
          obtain ⟨c8, h⟩ := as_ok h
          refine mops_adv rfl (v := .s (.string ((gt l_1 (IntKind.wrap .i64 ((ln l_1) - 1))) ++ (s_.extract (i_1 : Int).toNat ((IntKind.wrap .i64 (i_1 + 1)) : Int).toNat)))) hf11 (by kernel_rfl) (e_sadd (t := (gt l_1 (IntKind.wrap .i64 ((ln l_1) - 1)))) (t' := (s_.extract (i_1 : Int).toNat ((IntKind.wrap .i64 (i_1 + 1)) : Int).toNat)) (by kernel_rfl) (by kernel_rfl) c8) fun f12 hf12 => ?_
          obtain ⟨c9, h⟩ := as_ok h
          refine mops_adv rfl (v := .ptr 1 v_1 (0 + ((IntKind.wrap .i64 ((ln l_1) - 1)) : Int).toNat * 1)) hf12 (by kernel_rfl) (e_ias_ref (l := l_1) (B := ⟨v_1, .grow, 1, cat nS l_1⟩) (b := 1) (ver := v_1) (n := m_1) (k := .i64) (iv := (IntKind.wrap .i64 ((ln l_1) - 1))) (by kernel_rfl) (by kernel_rfl) hn_1 (live_grow (by kernel_rfl)) c9) fun f13 hf13 => ?_
          refine mops_end [0, 2, 3, 4, 8, 9, 10, 11, 14, 15, 16, 17, 21, 22, 23, 24, 25, 26, 27, 28, 29, 30, 31, 32, 33] hf13 (l' := [⟨0, [], .s (.string s_)⟩, ⟨2, [], .ref 0 0 0 0⟩, ⟨3, [], .ref 1 v_1 0 m_1⟩, ⟨4, [], .s (.int .i64 i_1)⟩, ⟨8, [], .s (.int .i64 i_1)⟩, ⟨9, [], .s (.string s_)⟩, ⟨10, [], .s (.int .i64 (sln s_))⟩, ⟨11, [], .s (.bool (decide (i_1 < (sln s_))))⟩, ⟨14, [], .s (.string s_)⟩, ⟨15, [], .s (.int .i64 i_1)⟩, ⟨16, [], .s (.int .u8 (bt s_ i_1))⟩, ⟨17, [], .s (.bool ((bt s_ i_1) == 44))⟩, ⟨21, [], .ref 1 v_1 0 m_1⟩, ⟨22, [], .ref 1 v_1 0 m_1⟩, ⟨23, [], .s (.int .i64 (ln l_1))⟩, ⟨24, [], .s (.int .i64 (IntKind.wrap .i64 ((ln l_1) - 1)))⟩, ⟨25, [], .ptr 1 v_1 (0 + ((IntKind.wrap .i64 ((ln l_1) - 1)) : Int).toNat * 1)⟩, ⟨26, [], .s (.string (gt l_1 (IntKind.wrap .i64 ((ln l_1) - 1))))⟩, ⟨27, [], .s (.string s_)⟩, ⟨28, [], .s (.int .i64 i_1)⟩, ⟨29, [], .s (.int .i64 i_1)⟩, ⟨30, [], .s (.int .i64 (IntKind.wrap .i64 (i_1 + 1)))⟩, ⟨31, [], .s (.string (s_.extract (i_1 : Int).toNat ((IntKind.wrap .i64 (i_1 + 1)) : Int).toNat))⟩, ⟨32, [], .s (.string ((gt l_1 (IntKind.wrap .i64 ((ln l_1) - 1))) ++ (s_.extract (i_1 : Int).toNat ((IntKind.wrap .i64 (i_1 + 1)) : Int).toNat)))⟩, ⟨33, [], .ptr 1 v_1 (0 + ((IntKind.wrap .i64 ((ln l_1) - 1)) : Int).toNat * 1)⟩]) (L' := [⟨0, .grow, 1, cat nS ([] : List ByteArray)⟩, ⟨v_1, .grow, 1, cat nS l_1⟩]) (by kernel_rfl) fun f14 hf14 => ?_
          intro _
          refine lw_w (a := ⟨⟨none, (.e (.store 1 (.t 33) (.t 32))), none, [12, 11, 0, 1, 2, 3, 4, 5, 6, 7, 8, 9, 10, 11]⟩, true, 0, 1⟩) (by kernel_rfl) rfl rfl ?_
          refine mops_adv rfl (v := .s undef) hf14 (by kernel_rfl) (e_store_pe (g := nS) (l := l_1) (iv := (IntKind.wrap .i64 ((ln l_1) - 1))) (kd := .grow) (q := 1) (b := 1) (ver := v_1) (ys := [.s (.string ((gt l_1 (IntKind.wrap .i64 ((ln l_1) - 1))) ++ (s_.extract (i_1 : Int).toNat ((IntKind.wrap .i64 (i_1 + 1)) : Int).toNat)))]) (a := ((gt l_1 (IntKind.wrap .i64 ((ln l_1) - 1))) ++ (s_.extract (i_1 : Int).toNat ((IntKind.wrap .i64 (i_1 + 1)) : Int).toNat))) [] (by kernel_rfl) (live_grow (by kernel_rfl)) (by kernel_rfl) (by kernel_rfl) (by kernel_rfl) c9 (by kernel_rfl) (by kernel_rfl)) fun f15 hf15 => ?_
          refine mops_end [0, 2, 3, 4, 8, 9, 10, 11, 14, 15, 16, 17, 21, 22, 23, 24, 25, 26, 27, 28, 29, 30, 31, 32, 33] hf15 (l' := [⟨0, [], .s (.string s_)⟩, ⟨2, [], .ref 0 0 0 0⟩, ⟨3, [], .ref 1 v_1 0 m_1⟩, ⟨4, [], .s (.int .i64 i_1)⟩, ⟨8, [], .s (.int .i64 i_1)⟩, ⟨9, [], .s (.string s_)⟩, ⟨10, [], .s (.int .i64 (sln s_))⟩, ⟨11, [], .s (.bool (decide (i_1 < (sln s_))))⟩, ⟨14, [], .s (.string s_)⟩, ⟨15, [], .s (.int .i64 i_1)⟩, ⟨16, [], .s (.int .u8 (bt s_ i_1))⟩, ⟨17, [], .s (.bool ((bt s_ i_1) == 44))⟩, ⟨21, [], .ref 1 v_1 0 m_1⟩, ⟨22, [], .ref 1 v_1 0 m_1⟩, ⟨23, [], .s (.int .i64 (ln l_1))⟩, ⟨24, [], .s (.int .i64 (IntKind.wrap .i64 ((ln l_1) - 1)))⟩, ⟨25, [], .ptr 1 v_1 (0 + ((IntKind.wrap .i64 ((ln l_1) - 1)) : Int).toNat * 1)⟩, ⟨26, [], .s (.string (gt l_1 (IntKind.wrap .i64 ((ln l_1) - 1))))⟩, ⟨27, [], .s (.string s_)⟩, ⟨28, [], .s (.int .i64 i_1)⟩, ⟨29, [], .s (.int .i64 i_1)⟩, ⟨30, [], .s (.int .i64 (IntKind.wrap .i64 (i_1 + 1)))⟩, ⟨31, [], .s (.string (s_.extract (i_1 : Int).toNat ((IntKind.wrap .i64 (i_1 + 1)) : Int).toNat))⟩, ⟨32, [], .s (.string ((gt l_1 (IntKind.wrap .i64 ((ln l_1) - 1))) ++ (s_.extract (i_1 : Int).toNat ((IntKind.wrap .i64 (i_1 + 1)) : Int).toNat)))⟩, ⟨33, [], .ptr 1 v_1 (0 + ((IntKind.wrap .i64 ((ln l_1) - 1)) : Int).toNat * 1)⟩]) (L' := [⟨0, .grow, 1, cat nS ([] : List ByteArray)⟩, ⟨v_1, .grow, 1, cat nS (st l_1 (IntKind.wrap .i64 ((ln l_1) - 1)) ((gt l_1 (IntKind.wrap .i64 ((ln l_1) - 1))) ++ (s_.extract (i_1 : Int).toNat ((IntKind.wrap .i64 (i_1 + 1)) : Int).toNat)))⟩]) (by kernel_rfl) fun f16 hf16 => ?_
          refine ⟨trivial, ?_⟩
          refine lw_end (by kernel_rfl) ?_
          refine k_b ?_
          refine k_c ?_
          refine k_reg ?_
          refine mops_en hf16 (by kernel_rfl) fun f17 hf17 => ?_
          refine k_l ?_
          exact ih _ _ ⟨(st l_1 (IntKind.wrap .i64 ((ln l_1) - 1)) ((gt l_1 (IntKind.wrap .i64 ((ln l_1) - 1))) ++ (s_.extract (i_1 : Int).toNat ((IntKind.wrap .i64 (i_1 + 1)) : Int).toNat))), (IntKind.wrap .i64 (i_1 + 1)), v_1, m_1, (st_len.trans hn_1), h, FOk_of [0, 2, 3, 4] hf17 (by kernel_rfl), (by kernel_rfl)⟩
      · have h := if_f h hc2
        refine k_exit ?_
        refine x_c nofun ?_
        refine x_l nofun ?_
        refine x_b ?_
        refine k_hp (L' := [⟨0, .grow, 1, cat nS ([] : List ByteArray)⟩, ⟨v_1, .grow, 1, cat nS l_1⟩]) (by kernel_rfl) ?_
        exact hgo0 l_1 v_1 m_1 hn_1 (Option.some.inj h) _ (FOk_of [2, 3] hf1 (by kernel_rfl))
def strings_Cut_i0 : List Op1 := [(oM 4 (.k (.string ⟨#[]⟩)) []), (oM 5 (.k (.string ⟨#[]⟩)) [0]), (oM 6 (.k (.bool false)) [1])]
def strings_Cut_i1 : List Op1 := [(oM 7 (.t 0) []), (oM 8 (.t 1) []), (oC 9 26 [(.t 7), (.t 8)] [0, 1]), (oE 10 (.ext 0 (.t 9)) [2]), (oE 11 (.ext 1 (.t 9)) [2]), (oE 12 (.ext 2 (.t 9)) [2]), (oM 4 (.t 10) [3, 2, 0, 1, 2, 3, 4, 5]), (oM 5 (.t 11) [4, 6, 0, 1, 2, 3, 4, 5, 6]), (oM 6 (.t 12) [5, 7, 0, 1, 2, 3, 4, 5, 6, 7])]
def strings_Cut_i2 : IR := .ret
def strings_Cut_i3 : IR := (.seq (.reg false strings_Cut_i1) strings_Cut_i2)
def strings_Cut_ir : IR := (.seq (.reg false strings_Cut_i0) strings_Cut_i3)
theorem strings_Cut_cfn : cFn Tryd.prog 16 = some (strings_Cut_ir, [(.t 4), (.t 5), (.t 6)], 13) := by kernel_rfl
def strings_Cut_V (r : (ByteArray × ByteArray × Bool)) : V := .tup [.s (.string r.1), .s (.string r.2.1), .s (.bool r.2.2)]
def strings_Cut_C (r : (ByteArray × ByteArray × Bool)) : X → Fr → Hp → Prop := FinL [(.t 4), (.t 5), (.t 6)] [] (strings_Cut_V r) []
theorem strings_Cut_ok (s_ : ByteArray) (sep_ : ByteArray) (r : (ByteArray × ByteArray × Bool)) (h : strings_Cut s_ sep_ = some r) : Pure Tryd.prog 16 [.s (.string s_), .s (.string sep_)] (strings_Cut_V r) := by
  refine ConL.of strings_Cut_cfn (Nat.le_of_ble_eq_true (by kernel_rfl)) (Nat.le_of_ble_eq_true (by kernel_rfl)) ?_
  refine k_start ?_
  show dwv Tryd.prog [] strings_Cut_ir (kont Tryd.prog [] (strings_Cut_C r) []) (fr0 [.s (.string s_), .s (.string sep_)]) []
  have hf : FOk (fr0 [.s (.string s_), .s (.string sep_)]) [⟨0, [], .s (.string s_)⟩, ⟨1, [], .s (.string sep_)⟩] := ⟨⟨fun _ => rfl, fun h => (h trivial).elim⟩, ⟨fun _ => rfl, fun h => (h trivial).elim⟩, trivial⟩
  generalize fr0 [.s (.string s_), .s (.string sep_)] = f at hf ⊢
  unfold strings_Cut at h
  refine k_seq ?_
  refine k_reg ?_
  refine mops_en hf (by kernel_rfl) fun f1 hf1 => ?_
  refine k_c ?_
  refine k_seq ?_
  refine k_reg ?_
  refine mops_sg 2 hf1 (by kernel_rfl) fun f2 hf2 => ?_
  obtain ⟨r_, hx_r_, h⟩ := Option.bind_eq_some_iff.1 h
  refine mops_call rfl hf2 (av := [.s (.string s_), .s (.string sep_)]) (by kernel_rfl) (v := .tup [.s (.string r_.1), .s (.string r_.2.1), .s (.bool r_.2.2)]) (CalL.pure (internal_stringslite_Cut_ok s_ sep_ r_ hx_r_) rfl rfl (Nat.le_of_ble_eq_true (by kernel_rfl))) (fun _ => rfl) fun f3 hf3 => ?_
  refine mops_en hf3 (by kernel_rfl) fun f4 hf4 => ?_
  refine k_c ?_
  refine k_ret ?_
  obtain rfl := Option.some.inj h
  exact k_fin (fin_ret (.inl rfl) hf4 (vs := [.s (.string r_.1), .s (.string r_.2.1), .s (.bool r_.2.2)]) (by kernel_rfl) (SettL.pure (FzL.tup (FzsL.cons (FzL.stat rfl) (FzsL.cons (FzL.stat rfl) (FzsL.cons (FzL.stat rfl) FzsL.nil))))))
def lexer_word_i0 : List Op1 := [(oM 2 (.k (.string ⟨#[]⟩)) []), (oM 3 (.k (.string ⟨#[]⟩)) [0])]
def lexer_word_i1 : List Op1 := [(oM 5 (.t 0) []), (oE 6 (.lens (.t 5)) [0]), (oM 7 (.k (.int .i64 0)) [])]
def lexer_word_i2 : List Op1 := [(oE 8 (.bin .lss (.t 7) (.t 6)) [])]
def lexer_word_i3 : List Op1 := [(oM 9 (.t 7) []), (oM 4 (.t 9) [0, 0])]
def lexer_word_i4 : List Op1 := [(oM 10 (.t 0) []), (oM 11 (.t 4) []), (oE 12 (.ixs (.t 10) (.t 11)) [0, 1]), (oC 13 17 [(.t 12)] [2])]
def lexer_word_i5 : List Op1 := [(oM 14 (.t 0) []), (oM 15 (.t 4) []), (oE 16 (.sstr (.t 14) none (some (.t 15))) [0, 1]), (oM 17 (.t 0) []), (oM 18 (.t 4) []), (oE 19 (.sstr (.t 17) (some (.t 18)) none) [3, 4]), (oM 2 (.t 16) [2, 0, 1, 2]), (oM 3 (.t 19) [5, 6, 0, 1, 2, 3, 4, 5, 6])]
def lexer_word_i6 : IR := .ret
def lexer_word_i7 : IR := (.cond (.t 13) (.seq (.reg true lexer_word_i5) lexer_word_i6) .skip)
def lexer_word_i8 : IR := (.seq (.reg false lexer_word_i4) lexer_word_i7)
def lexer_word_i9 : List Op1 := [(oE 20 (.bin .add (.t 7) (.k (.int .i64 1))) []), (oM 7 (.t 20) [0])]
def lexer_word_i10 : IR := (.reg false lexer_word_i9)
def lexer_word_i11 : IR := (.seq (.block 1 (.seq (.reg false lexer_word_i3) lexer_word_i8)) lexer_word_i10)
def lexer_word_i12 : IR := (.seq (.cond (.t 8) .skip (.exit 0)) lexer_word_i11)
def lexer_word_i13 : IR := (.seq (.reg false lexer_word_i2) lexer_word_i12)
def lexer_word_i14 : IR := (.block 0 (.loop lexer_word_i13))
def lexer_word_i15 : List Op1 := [(oM 21 (.t 0) []), (oM 2 (.t 21) [0, 0]), (oM 3 (.k (.string ⟨#[]⟩)) [1, 0, 1])]
def lexer_word_i16 : IR := .ret
def lexer_word_i17 : IR := (.seq (.reg false lexer_word_i15) lexer_word_i16)
def lexer_word_i18 : IR := (.seq (.seq (.reg false lexer_word_i1) lexer_word_i14) lexer_word_i17)
def lexer_word_ir : IR := (.seq (.reg false lexer_word_i0) lexer_word_i18)
theorem lexer_word_cfn : cFn Tryd.prog 20 = some (lexer_word_ir, [(.t 2), (.t 3)], 22) := by kernel_rfl
def lexer_word_V (r : (ByteArray × ByteArray)) : V := .tup [.s (.string r.1), .s (.string r.2)]
def lexer_word_C (r : (ByteArray × ByteArray)) : X → Fr → Hp → Prop := FinL [(.t 2), (.t 3)] [] (lexer_word_V r) []
theorem lexer_word_ok (s_ : ByteArray) (r : (ByteArray × ByteArray)) (h : lexer_word s_ = some r) : Pure Tryd.prog 20 [.s (.string s_)] (lexer_word_V r) := by
  refine ConL.of lexer_word_cfn (Nat.le_of_ble_eq_true (by kernel_rfl)) (Nat.le_of_ble_eq_true (by kernel_rfl)) ?_
  refine k_start ?_
  show dwv Tryd.prog [] lexer_word_ir (kont Tryd.prog [] (lexer_word_C r) []) (fr0 [.s (.string s_)]) []
  have hf : FOk (fr0 [.s (.string s_)]) [⟨0, [], .s (.string s_)⟩] := ⟨⟨fun _ => rfl, fun h => (h trivial).elim⟩, trivial⟩
  generalize fr0 [.s (.string s_)] = f at hf ⊢
  unfold lexer_word at h
  refine k_seq ?_
  refine k_reg ?_
  refine mops_en hf (by kernel_rfl) fun f1 hf1 => ?_
  refine k_c ?_
  refine k_seq ?_
  refine k_seq ?_
  refine k_reg ?_
  refine mops_en hf1 (by kernel_rfl) fun f2 hf2 => ?_
  refine k_c ?_
  refine k_block ?_
  obtain ⟨o0, hx0, h⟩ := Option.bind_eq_some_iff.1 h
  have hret0 : ∀ r0, .ret r0 = o0 → r0 = r := fun r0 e => by subst e; exact Option.some.inj h
  have hgo0 : .go () = o0 → ∀ f, FOk f [⟨0, [], .s (.string s_)⟩, ⟨2, [], .s (.string (⟨#[]⟩ : ByteArray))⟩, ⟨3, [], .s (.string (⟨#[]⟩ : ByteArray))⟩] → kont Tryd.prog [] (lexer_word_C r) ((.c lexer_word_i17) :: []) .normal f [] := by
    intro  e f hf
    subst e
    refine k_c ?_
    refine k_seq ?_
    refine k_reg ?_
    refine mops_en hf (by kernel_rfl) fun f1 hf1 => ?_
    refine k_c ?_
    refine k_ret ?_
    obtain rfl := Option.some.inj h
    exact k_fin (fin_ret (.inl rfl) hf1 (vs := [.s (.string s_), .s (.string (⟨#[]⟩ : ByteArray))]) (by kernel_rfl) (SettL.pure (FzL.tup (FzsL.cons (FzL.stat rfl) (FzsL.cons (FzL.stat rfl) FzsL.nil)))))
  refine k_loop BIG ?_
  refine loop_ind (fun n f L => ∃ (t_1 : Int), lexer_word_l0 s_ n t_1 = some o0 ∧ FOk f [⟨0, [], .s (.string s_)⟩, ⟨2, [], .s (.string (⟨#[]⟩ : ByteArray))⟩, ⟨3, [], .s (.string (⟨#[]⟩ : ByteArray))⟩, ⟨6, [], .s (.int .i64 (sln s_))⟩, ⟨7, [], .s (.int .i64 t_1)⟩] ∧ L = []) ?_ ?_ BIG _ _ ⟨(0), hx0, FOk_of [0, 2, 3, 6, 7] hf2 (by kernel_rfl), (by kernel_rfl)⟩
  · rintro f L ⟨t_1, h, _⟩
    cases (show (none : Option _) = some _ from h)
  · rintro n0 R0 ih f L ⟨t_1, h, hf, rfl⟩
    rw [lexer_word_l0] at h
    refine k_seq ?_
    refine k_reg ?_
    refine mops_en hf (by kernel_rfl) fun f1 hf1 => ?_
    refine k_c ?_
    refine k_seq ?_
    refine k_cond hf1 (t := (decide (t_1 < (sln s_)))) (by kernel_rfl) (fun hc1 => ?_) (fun hc1 => ?_)
    · have h := if_t h hc1
      refine k_skip ?_
      refine k_c ?_
      refine k_seq ?_
      refine k_block ?_
      refine k_seq ?_
      refine k_reg ?_
      refine mops_en hf1 (by kernel_rfl) fun f2 hf2 => ?_
      refine k_c ?_
      refine k_seq ?_
      refine k_reg ?_
      refine mops_sg 2 hf2 (by kernel_rfl) fun f3 hf3 => ?_
      obtain ⟨c2, h⟩ := as_ok h
      refine mops_adv rfl (v := .s (.int .u8 (bt s_ t_1))) hf3 (by kernel_rfl) (e_ixs (t := s_) (k := .i64) (iv := t_1) (by kernel_rfl) (by kernel_rfl) c2) fun f4 hf4 => ?_
      obtain ⟨r_2, hx_r_2, h⟩ := Option.bind_eq_some_iff.1 h
      refine mops_call rfl hf4 (av := [.s (.int .u8 (bt s_ t_1))]) (by kernel_rfl) (v := .s (.bool r_2)) (CalL.pure (lexer_blank_ok (bt s_ t_1) r_2 hx_r_2) rfl rfl (Nat.le_of_ble_eq_true (by kernel_rfl))) (fun _ => rfl) fun f5 hf5 => ?_
      refine mops_en hf5 (by kernel_rfl) fun f6 hf6 => ?_
      refine k_c ?_
      refine k_cond hf6 (t := r_2) (by kernel_rfl) (fun hc3 => ?_) (fun hc3 => ?_)
      · have h := if_t h hc3
        refine k_seq ?_
        refine k_regq ?_
        refine mops_sg 2 hf6 (by kernel_rfl) fun f7 hf7 => ?_
        obtain ⟨c4, h⟩ := as_ok h
        refine mops_adv rfl (v := .s (.string (s_.extract 0 (t_1 : Int).toNat))) hf7 (by kernel_rfl) (e_sstr (t := s_) (by kernel_rfl) (b_ns (k := .i64) (iv := t_1) (by kernel_rfl) c4)) fun f8 hf8 => ?_
        refine mops_sg 2 hf8 (by kernel_rfl) fun f9 hf9 => ?_
        obtain ⟨c5, h⟩ := as_ok h
        refine mops_adv rfl (v := .s (.string (s_.extract (t_1 : Int).toNat s_.size))) hf9 (by kernel_rfl) (e_sstr (t := s_) (by kernel_rfl) (b_sn (k := .i64) (iv := t_1) (by kernel_rfl) c5)) fun f10 hf10 => ?_
        refine mops_en hf10 (by kernel_rfl) fun f11 hf11 => ?_
        refine k_c ?_
        refine k_ret ?_
        refine x_br ?_
        refine x_c nofun ?_
        refine x_l nofun ?_
        refine x_br ?_
        refine x_c nofun ?_
        obtain rfl := hret0 _ (Option.some.inj h)
        exact k_fin (fin_ret (.inl rfl) hf11 (vs := [.s (.string (s_.extract 0 (t_1 : Int).toNat)), .s (.string (s_.extract (t_1 : Int).toNat s_.size))]) (by kernel_rfl) (SettL.pure (FzL.tup (FzsL.cons (FzL.stat rfl) (FzsL.cons (FzL.stat rfl) FzsL.nil)))))
      · have h := if_f h hc3
        refine k_skip ?_
        refine k_b ?_
        refine k_c ?_
        refine k_reg ?_
        refine mops_en hf6 (by kernel_rfl) fun f7 hf7 => ?_
        refine k_l ?_
        exact ih _ _ ⟨(IntKind.wrap .i64 (t_1 + 1)), h, FOk_of [0, 2, 3, 6, 7] hf7 (by kernel_rfl), (by kernel_rfl)⟩
    · have h := if_f h hc1
      refine k_exit ?_
      refine x_c nofun ?_
      refine x_l nofun ?_
      refine x_b ?_
      refine k_hp (L' := []) (by kernel_rfl) ?_
      exact hgo0  (Option.some.inj h) _ (FOk_of [0, 2, 3] hf1 (by kernel_rfl))
def lexer_skip_i0 : List Op1 := [(oM 2 (.k (.string ⟨#[]⟩)) [])]
def lexer_skip_i1 : List Op1 := [(oM 3 (.t 0) []), (oE 4 (.bin .neq (.t 3) (.k (.string ⟨#[]⟩))) [0]), (oM 5 (.t 4) [1]), (oG 6 (.mv (.t 0)) 5 true [2]), (oG 7 (.ixs (.t 6) (.k (.int .i64 0))) 5 true [3, 2]), ⟨(some 8), (.call 17 [(.t 7)]), (some (5, true)), [4, 2, 2]⟩, (oE 9 (.pick (.t 5) (.t 8) (.k (.bool false))) [2, 5])]
def lexer_skip_i2 : IR := (.cond (.t 9) .skip (.exit 0))
def lexer_skip_i3 : List Op1 := [(oM 10 (.t 0) []), (oE 11 (.sstr (.t 10) (some (.k (.int .i64 1))) none) [0]), (oM 0 (.t 11) [1, 0, 1])]
def lexer_skip_i4 : IR := (.block 1 (.reg false lexer_skip_i3))
def lexer_skip_i5 : IR := (.seq (.seq (.reg false lexer_skip_i1) lexer_skip_i2) lexer_skip_i4)
def lexer_skip_i6 : List Op1 := [(oM 12 (.t 0) []), (oM 2 (.t 12) [0, 0])]
def lexer_skip_i7 : IR := .ret
def lexer_skip_i8 : IR := (.seq (.reg false lexer_skip_i6) lexer_skip_i7)
def lexer_skip_i9 : IR := (.seq (.block 0 (.loop lexer_skip_i5)) lexer_skip_i8)
def lexer_skip_ir : IR := (.seq (.reg false lexer_skip_i0) lexer_skip_i9)
theorem lexer_skip_cfn : cFn Tryd.prog 21 = some (lexer_skip_ir, [(.t 2)], 13) := by kernel_rfl
def lexer_skip_V (r : (ByteArray)) : V := .s (.string r)
def lexer_skip_C (r : (ByteArray)) : X → Fr → Hp → Prop := FinL [(.t 2)] [] (lexer_skip_V r) []
theorem lexer_skip_ok (s_ : ByteArray) (r : (ByteArray)) (h : lexer_skip s_ = some r) : Pure Tryd.prog 21 [.s (.string s_)] (lexer_skip_V r) := by
  refine ConL.of lexer_skip_cfn (Nat.le_of_ble_eq_true (by kernel_rfl)) (Nat.le_of_ble_eq_true (by kernel_rfl)) ?_
  refine k_start ?_
  show dwv Tryd.prog [] lexer_skip_ir (kont Tryd.prog [] (lexer_skip_C r) []) (fr0 [.s (.string s_)]) []
  have hf : FOk (fr0 [.s (.string s_)]) [⟨0, [], .s (.string s_)⟩] := ⟨⟨fun _ => rfl, fun h => (h trivial).elim⟩, trivial⟩
  generalize fr0 [.s (.string s_)] = f at hf ⊢
  unfold lexer_skip at h
  refine k_seq ?_
  refine k_reg ?_
  refine mops_en hf (by kernel_rfl) fun f1 hf1 => ?_
  refine k_c ?_
  refine k_seq ?_
  refine k_block ?_
  obtain ⟨o0, hx0, h⟩ := Option.bind_eq_some_iff.1 h
  have hgo0 : ∀ (t_2 : ByteArray), t_2 = o0 → ∀ f, FOk f [⟨0, [], .s (.string t_2)⟩, ⟨2, [], .s (.string (⟨#[]⟩ : ByteArray))⟩] → kont Tryd.prog [] (lexer_skip_C r) ((.c lexer_skip_i8) :: []) .normal f [] := by
    intro t_2 e f hf
    subst e
    refine k_c ?_
    refine k_seq ?_
    refine k_reg ?_
    refine mops_en hf (by kernel_rfl) fun f1 hf1 => ?_
    refine k_c ?_
    refine k_ret ?_
    obtain rfl := Option.some.inj h
    exact k_fin (fin_ret (.inl rfl) hf1 (vs := [.s (.string t_2)]) (by kernel_rfl) (SettL.pure (FzL.stat rfl)))
  refine k_loop BIG ?_
  refine loop_ind (fun n f L => ∃ (t_1 : ByteArray), lexer_skip_l0 n t_1 = some o0 ∧ FOk f [⟨0, [], .s (.string t_1)⟩, ⟨2, [], .s (.string (⟨#[]⟩ : ByteArray))⟩] ∧ L = []) ?_ ?_ BIG _ _ ⟨s_, hx0, FOk_of [0, 2] hf1 (by kernel_rfl), (by kernel_rfl)⟩
  · rintro f L ⟨t_1, h, _⟩
    cases (show (none : Option _) = some _ from h)
  · rintro n0 R0 ih f L ⟨t_1, h, hf, rfl⟩
    rw [lexer_skip_l0] at h
    refine k_seq ?_
    refine k_seq ?_
    refine k_reg ?_
    refine mops_sg 4 hf (by kernel_rfl) fun f1 hf1 => ?_
    obtain ⟨c1, h⟩ := as_ok h
    refine mops_gadv (dst := (some 7)) (op := (.ixs (.t 6) (.k (.int .i64 0)))) (aft := [3, 2]) (t := 5) (w := true) (ch := [(5, true)]) (b := (!(t_1.toList == (⟨#[]⟩ : ByteArray).toList))) (v := .s (.int .u8 (bt t_1 (0)))) (by kernel_rfl) hf1 (by kernel_rfl) (by kernel_rfl) (by kernel_rfl) (fun hb2 => e_ixs (t := t_1) (k := .i64) (iv := 0) (by kernel_rfl) (by kernel_rfl) (c1 hb2)) fun f2 hf2 => ?_
    obtain ⟨r_2, hx_r_2, h⟩ := Option.bind_eq_some_iff.1 h
    refine mops_gcall (dst := (some 8)) (m := 17) (args := [(.t 7)]) (aft := [4, 2, 2]) (t := 5) (w := true) (ch := [(5, true)]) (b := (!(t_1.toList == (⟨#[]⟩ : ByteArray).toList))) (by kernel_rfl) hf2 (by kernel_rfl) (by kernel_rfl) (av := [.s (.int .u8 (bt t_1 (0)))]) (by kernel_rfl) (v := .s (.bool r_2)) (by kernel_rfl) (fun hb3 => (CalL.pure (lexer_blank_ok (bt t_1 (0)) r_2 (if_t hx_r_2 hb3)) rfl rfl (Nat.le_of_ble_eq_true (by kernel_rfl)))) fun f3 hf3 => ?_
    refine mops_en hf3 (by kernel_rfl) fun f4 hf4 => ?_
    refine k_c ?_
    refine k_cond hf4 (t := ((!(t_1.toList == (⟨#[]⟩ : ByteArray).toList)) && r_2)) (by kernel_rfl) (fun hc4 => ?_) (fun hc4 => ?_)
    · have h := if_t h hc4
      refine k_skip ?_
      refine k_c ?_
      refine k_block ?_
      refine k_reg ?_
      refine mops_sg 1 hf4 (by kernel_rfl) fun f5 hf5 => ?_
      obtain ⟨c5, h⟩ := as_ok h
      refine mops_adv rfl (v := .s (.string (t_1.extract (1 : Int).toNat t_1.size))) hf5 (by kernel_rfl) (e_sstr (t := t_1) (by kernel_rfl) (b_sn (k := .i64) (iv := 1) (by kernel_rfl) c5)) fun f6 hf6 => ?_
      refine mops_en hf6 (by kernel_rfl) fun f7 hf7 => ?_
      refine k_b ?_
      refine k_l ?_
      exact ih _ _ ⟨(t_1.extract (1 : Int).toNat t_1.size), h, FOk_of [0, 2] hf7 (by kernel_rfl), (by kernel_rfl)⟩
    · have h := if_f h hc4
      refine k_exit ?_
      refine x_c nofun ?_
      refine x_l nofun ?_
      refine x_b ?_
      refine k_hp (L' := []) (by kernel_rfl) ?_
      exact hgo0 t_1 (Option.some.inj h) _ (FOk_of [0, 2] hf4 (by kernel_rfl))
def lexer_tight_i0 : List Op1 := [(oM 2 (.k (.string ⟨#[]⟩)) [])]
def lexer_tight_i1 : List Op1 := [(oE 3 (.zerob 49 5) [])]
def lexer_tight_i2 : List Op1 := [(oM 5 (.t 0) []), (oE 6 (.lens (.t 5)) [0]), (oM 7 (.k (.int .i64 0)) [])]
def lexer_tight_i3 : List Op1 := [(oE 8 (.bin .lss (.t 7) (.t 6)) [])]
def lexer_tight_i4 : List Op1 := [(oM 9 (.t 7) []), (oM 4 (.t 9) [0, 0])]
def lexer_tight_i5 : List Op1 := [(oM 10 (.t 0) []), (oM 11 (.t 4) []), (oE 12 (.ixs (.t 10) (.t 11)) [0, 1]), (oC 13 17 [(.t 12)] [2]), (oE 14 (.un .not (.t 13)) [3])]
def lexer_tight_i6 : List Op1 := [(oM 15 (.t 0) []), (oM 16 (.t 4) []), (oE 17 (.ixs (.t 15) (.t 16)) [0, 1]), (oC 18 27 [(.t 3), (.t 17)] [2])]
def lexer_tight_i7 : IR := (.cond (.t 14) (.reg false lexer_tight_i6) .skip)
def lexer_tight_i8 : IR := (.seq (.reg false lexer_tight_i5) lexer_tight_i7)
def lexer_tight_i9 : List Op1 := [(oE 19 (.bin .add (.t 7) (.k (.int .i64 1))) []), (oM 7 (.t 19) [0])]
def lexer_tight_i10 : IR := (.reg false lexer_tight_i9)
def lexer_tight_i11 : IR := (.seq (.block 1 (.seq (.reg false lexer_tight_i4) lexer_tight_i8)) lexer_tight_i10)
def lexer_tight_i12 : IR := (.seq (.cond (.t 8) .skip (.exit 0)) lexer_tight_i11)
def lexer_tight_i13 : IR := (.seq (.reg false lexer_tight_i3) lexer_tight_i12)
def lexer_tight_i14 : IR := (.block 0 (.loop lexer_tight_i13))
def lexer_tight_i15 : List Op1 := [(oC 20 28 [(.t 3)] []), (oM 2 (.t 20) [0, 0, 0])]
def lexer_tight_i16 : IR := .ret
def lexer_tight_i17 : IR := (.seq (.reg false lexer_tight_i15) lexer_tight_i16)
def lexer_tight_i18 : IR := (.seq (.seq (.reg false lexer_tight_i2) lexer_tight_i14) lexer_tight_i17)
def lexer_tight_i19 : IR := (.seq (.reg false lexer_tight_i1) lexer_tight_i18)
def lexer_tight_ir : IR := (.seq (.reg false lexer_tight_i0) lexer_tight_i19)
theorem lexer_tight_cfn : cFn Tryd.prog 23 = some (lexer_tight_ir, [(.t 2)], 21) := by kernel_rfl
def lexer_tight_V (r : (ByteArray)) : V := .s (.string r)
def lexer_tight_C (r : (ByteArray)) : X → Fr → Hp → Prop := FinL [(.t 2)] [] (lexer_tight_V r) []
theorem lexer_tight_ok (s_ : ByteArray) (r : (ByteArray)) (h : lexer_tight s_ = some r) : Pure Tryd.prog 23 [.s (.string s_)] (lexer_tight_V r) := by
  refine ConL.of lexer_tight_cfn (Nat.le_of_ble_eq_true (by kernel_rfl)) (Nat.le_of_ble_eq_true (by kernel_rfl)) ?_
  refine k_start ?_
  show dwv Tryd.prog [] lexer_tight_ir (kont Tryd.prog [] (lexer_tight_C r) []) (fr0 [.s (.string s_)]) []
  have hf : FOk (fr0 [.s (.string s_)]) [⟨0, [], .s (.string s_)⟩] := ⟨⟨fun _ => rfl, fun h => (h trivial).elim⟩, trivial⟩
  generalize fr0 [.s (.string s_)] = f at hf ⊢
  unfold lexer_tight at h
  refine k_seq ?_
  refine k_reg ?_
  refine mops_en hf (by kernel_rfl) fun f1 hf1 => ?_
  refine k_c ?_
  refine k_seq ?_
  refine k_reg ?_
  refine mops_en hf1 (by kernel_rfl) fun f2 hf2 => ?_
  refine k_c ?_
  refine k_seq ?_
  refine k_seq ?_
  refine k_reg ?_
  refine mops_en hf2 (by kernel_rfl) fun f3 hf3 => ?_
  refine k_c ?_
  refine k_block ?_
  obtain ⟨o0, hx0, h⟩ := Option.bind_eq_some_iff.1 h
  have hgo0 : ∀ (l_2 : (List Int)) (v_2 : Nat) (z_2 : Bool), l_2 = o0 → ∀ f, FOk f [⟨2, [], .s (.string (⟨#[]⟩ : ByteArray))⟩, ⟨3, [], .ptr 1 0 0⟩] → kont Tryd.prog [] (lexer_tight_C r) ((.c lexer_tight_i17) :: []) .normal f [⟨v_2, .buf BU, 1, cat (nI .u8) l_2⟩, ⟨0, .bld BT, 1, [sp z_2 1 0, .ref 0 v_2 0 l_2.length]⟩] := by
    intro l_2 v_2 z_2 e f hf
    subst e
    refine k_c ?_
    refine k_seq ?_
    refine k_reg ?_
    obtain ⟨c6, h⟩ := as_ok h
    refine mops_call rfl hf (av := [.ptr 1 0 0]) (by kernel_rfl) (v := .s (.string (bs l_2))) (L' := [⟨v_2, .dead, 1, []⟩, ⟨0, .bld BT, 1, [sp z_2 1 0, .ref 0 v_2 0 l_2.length]⟩]) (CalL.bldD 0 1 (str_con z_2 v_2 l_2 c6) (by kernel_rfl) rfl (by kernel_rfl) (by kernel_rfl)) (by intro h; cases h) fun f1 hf1 => ?_
    refine mops_en hf1 (by kernel_rfl) fun f2 hf2 => ?_
    refine k_c ?_
    refine k_ret ?_
    obtain rfl := Option.some.inj h
    exact k_fin (fin_ret (.inl rfl) hf2 (vs := [.s (.string (bs l_2))]) (by kernel_rfl) (SettL.pure (FzL.stat rfl)))
  refine k_loop BIG ?_
  refine loop_ind (fun n f L => ∃ (l_1 : (List Int)) (t_1 : Int) (v_1 : Nat) (z_1 : Bool), lexer_tight_l0 s_ n l_1 t_1 = some o0 ∧ FOk f [⟨0, [], .s (.string s_)⟩, ⟨2, [], .s (.string (⟨#[]⟩ : ByteArray))⟩, ⟨3, [], .ptr 1 0 0⟩, ⟨6, [], .s (.int .i64 (sln s_))⟩, ⟨7, [], .s (.int .i64 t_1)⟩] ∧ L = [⟨v_1, .buf BU, 1, cat (nI .u8) l_1⟩, ⟨0, .bld BT, 1, [sp z_1 1 0, .ref 0 v_1 0 l_1.length]⟩]) ?_ ?_ BIG _ _ ⟨([] : List Int), (0), (0), true, hx0, FOk_of [0, 2, 3, 6, 7] hf3 (by kernel_rfl), (by kernel_rfl)⟩
  · rintro f L ⟨l_1, t_1, v_1, z_1, h, _⟩
    cases (show (none : Option _) = some _ from h)
  · rintro n0 R0 ih f L ⟨l_1, t_1, v_1, z_1, h, hf, rfl⟩
    rw [lexer_tight_l0] at h
    refine k_seq ?_
    refine k_reg ?_
    refine mops_en hf (by kernel_rfl) fun f1 hf1 => ?_
    refine k_c ?_
    refine k_seq ?_
    refine k_cond hf1 (t := (decide (t_1 < (sln s_)))) (by kernel_rfl) (fun hc1 => ?_) (fun hc1 => ?_)
    · have h := if_t h hc1
      refine k_skip ?_
      refine k_c ?_
      refine k_seq ?_
      refine k_block ?_
      refine k_seq ?_
      refine k_reg ?_
      refine mops_en hf1 (by kernel_rfl) fun f2 hf2 => ?_
      refine k_c ?_
      refine k_seq ?_
      refine k_reg ?_
      refine mops_sg 2 hf2 (by kernel_rfl) fun f3 hf3 => ?_
      obtain ⟨c2, h⟩ := as_ok h
      refine mops_adv rfl (v := .s (.int .u8 (bt s_ t_1))) hf3 (by kernel_rfl) (e_ixs (t := s_) (k := .i64) (iv := t_1) (by kernel_rfl) (by kernel_rfl) c2) fun f4 hf4 => ?_
      obtain ⟨r_2, hx_r_2, h⟩ := Option.bind_eq_some_iff.1 h
      refine mops_call rfl hf4 (av := [.s (.int .u8 (bt s_ t_1))]) (by kernel_rfl) (v := .s (.bool r_2)) (CalL.pure (lexer_blank_ok (bt s_ t_1) r_2 hx_r_2) rfl rfl (Nat.le_of_ble_eq_true (by kernel_rfl))) (fun _ => rfl) fun f5 hf5 => ?_
      refine mops_en hf5 (by kernel_rfl) fun f6 hf6 => ?_
      refine k_c ?_
      refine k_cond hf6 (t := (!r_2)) (by kernel_rfl) (fun hc3 => ?_) (fun hc3 => ?_)
      · have h := if_t h hc3
        refine k_reg ?_
        refine mops_sg 2 hf6 (by kernel_rfl) fun f7 hf7 => ?_
        obtain ⟨c4, h⟩ := as_ok h
        refine mops_adv rfl (v := .s (.int .u8 (bt s_ t_1))) hf7 (by kernel_rfl) (e_ixs (t := s_) (k := .i64) (iv := t_1) (by kernel_rfl) (by kernel_rfl) c4) fun f8 hf8 => ?_
        obtain ⟨c5, h⟩ := as_ok h
        refine mops_call rfl hf8 (av := [.ptr 1 0 0, .s (.int .u8 (bt s_ t_1))]) (by kernel_rfl) (v := .s .nilIface) (L' := [⟨(v_1 + 1), .buf BU, 1, cat (nI .u8) (l_1 ++ [(bt s_ t_1)])⟩, ⟨0, .bld BT, 1, [sp false 1 0, .ref 0 (v_1 + 1) 0 (l_1 ++ [(bt s_ t_1)]).length]⟩]) (CalL.bld (xs := [.int .u8 (bt s_ t_1)]) 0 1 (wb_con z_1 v_1 l_1 (bt s_ t_1) c5) (by kernel_rfl) rfl (by kernel_rfl) (by kernel_rfl)) (by intro h; cases h) fun f9 hf9 => ?_
        refine mops_en hf9 (by kernel_rfl) fun f10 hf10 => ?_
        refine k_b ?_
        refine k_c ?_
        refine k_reg ?_
        refine mops_en hf10 (by kernel_rfl) fun f11 hf11 => ?_
        refine k_l ?_
        exact ih _ _ ⟨(l_1 ++ [(bt s_ t_1)]), (IntKind.wrap .i64 (t_1 + 1)), (v_1 + 1), false, h, FOk_of [0, 2, 3, 6, 7] hf11 (by kernel_rfl), (by kernel_rfl)⟩
      · have h := if_f h hc3
        refine k_skip ?_
        refine k_b ?_
        refine k_c ?_
        refine k_reg ?_
        refine mops_en hf6 (by kernel_rfl) fun f7 hf7 => ?_
        refine k_l ?_
        exact ih _ _ ⟨l_1, (IntKind.wrap .i64 (t_1 + 1)), v_1, z_1, h, FOk_of [0, 2, 3, 6, 7] hf7 (by kernel_rfl), (by kernel_rfl)⟩
    · have h := if_f h hc1
      refine k_exit ?_
      refine x_c nofun ?_
      refine x_l nofun ?_
      refine x_b ?_
      refine k_hp (L' := [⟨v_1, .buf BU, 1, cat (nI .u8) l_1⟩, ⟨0, .bld BT, 1, [sp z_1 1 0, .ref 0 v_1 0 l_1.length]⟩]) (by kernel_rfl) ?_
      exact hgo0 l_1 v_1 z_1 (Option.some.inj h) _ (FOk_of [2, 3] hf1 (by kernel_rfl))
def strings_genSplit_i0 : List Op1 := [(oE 8 (.nilg 1) [])]
def strings_genSplit_i1 : List Op1 := [(oM 12 (.t 3) []), (oE 13 (.bin .eql (.t 12) (.k (.int .i64 0))) [0])]
def strings_genSplit_i2 : List Op1 := [(oE 8 (.nilg 1) [])]
def strings_genSplit_i3 : IR := .ret
def strings_genSplit_i4 : IR := (.cond (.t 13) (.seq (.reg false strings_genSplit_i2) strings_genSplit_i3) .skip)
def strings_genSplit_i5 : List Op1 := [(oM 14 (.t 1) []), (oE 15 (.bin .eql (.t 14) (.k (.string ⟨#[]⟩))) [0])]
def strings_genSplit_i6 : List Op1 := [(oM 16 (.t 0) []), (oM 17 (.t 3) []), (oC 18 29 [(.t 16), (.t 17)] [0, 1]), (oM 8 (.t 18) [2, 2, 0, 1, 2])]
def strings_genSplit_i7 : IR := .ret
def strings_genSplit_i8 : IR := (.cond (.t 15) (.seq (.reg false strings_genSplit_i6) strings_genSplit_i7) .skip)
def strings_genSplit_i9 : List Op1 := [(oM 19 (.t 3) []), (oE 20 (.bin .lss (.t 19) (.k (.int .i64 0))) [0])]
def strings_genSplit_i10 : List Op1 := [(oM 21 (.t 0) []), (oM 22 (.t 1) []), (oC 23 30 [(.t 21), (.t 22)] [0, 1]), (oE 24 (.bin .add (.t 23) (.k (.int .i64 1))) [2]), (oM 3 (.t 24) [3, 2, 0, 1, 2, 3])]
def strings_genSplit_i11 : IR := (.cond (.t 20) (.reg false strings_genSplit_i10) .skip)
def strings_genSplit_i12 : List Op1 := [(oM 25 (.t 3) []), (oM 26 (.t 0) []), (oE 27 (.lens (.t 26)) [1]), (oE 28 (.bin .add (.t 27) (.k (.int .i64 1))) [2]), (oE 29 (.mnx false (.t 25) (.t 28)) [0, 3]), (oM 3 (.t 29) [4, 0, 1, 2, 3, 4])]
def strings_genSplit_i13 : List Op1 := [(oM 30 (.t 3) []), (oE 31 (.mks [(.string ⟨#[]⟩)] 16 (.t 30) (.t 30)) [0, 0]), (oM 9 (.t 31) [1, 0, 1])]
def strings_genSplit_i14 : List Op1 := [(oM 32 (.t 3) []), (oE 33 (.bin .sub (.t 32) (.k (.int .i64 1))) [0]), (oM 3 (.t 33) [1, 0, 1])]
def strings_genSplit_i15 : List Op1 := [(oM 10 (.k (.int .i64 0)) [])]
def strings_genSplit_i16 : List Op1 := [(oM 34 (.t 10) []), (oM 35 (.t 3) []), (oE 36 (.bin .lss (.t 34) (.t 35)) [0, 1])]
def strings_genSplit_i17 : IR := (.cond (.t 36) .skip (.exit 0))
def strings_genSplit_i18 : List Op1 := [(oM 37 (.t 0) []), (oM 38 (.t 1) []), (oC 39 31 [(.t 37), (.t 38)] [0, 1]), (oM 11 (.t 39) [2, 2, 0, 1, 2])]
def strings_genSplit_i19 : List Op1 := [(oM 40 (.t 11) []), (oE 41 (.bin .lss (.t 40) (.k (.int .i64 0))) [0])]
def strings_genSplit_i20 : IR := (.cond (.t 41) (.exit 0) .skip)
def strings_genSplit_i21 : List Op1 := [(oM 42 (.t 9) []), (oM 43 (.t 10) []), (oM 44 (.t 0) []), (oM 45 (.t 11) []), (oM 46 (.t 2) []), (oE 47 (.bin .add (.t 45) (.t 46)) [3, 4]), (oE 48 (.sstr (.t 44) none (some (.t 47))) [2, 5]), (oE 49 (.ias 1 (.t 42) (.t 43)) [0, 1, 0, 1, 2, 3, 4, 5, 6]), (oN (.store 1 (.t 49) (.t 48)) [7, 6, 0, 1, 2, 3, 4, 5, 6])]
def strings_genSplit_i22 : List Op1 := [(oM 50 (.t 0) []), (oM 51 (.t 11) []), (oM 52 (.t 1) []), (oE 53 (.lens (.t 52)) [2]), (oE 54 (.bin .add (.t 51) (.t 53)) [1, 3]), (oE 55 (.sstr (.t 50) (some (.t 54)) none) [0, 4]), (oM 0 (.t 55) [5, 0, 1, 2, 3, 4, 5])]
def strings_genSplit_i23 : List Op1 := [(oM 56 (.t 10) []), (oE 57 (.bin .add (.t 56) (.k (.int .i64 1))) [0]), (oM 10 (.t 57) [1, 0, 1])]
def strings_genSplit_i24 : IR := (.reg false strings_genSplit_i23)
def strings_genSplit_i25 : IR := (.seq (.reg false strings_genSplit_i22) strings_genSplit_i24)
def strings_genSplit_i26 : IR := (.seq (.reg false strings_genSplit_i21) strings_genSplit_i25)
def strings_genSplit_i27 : IR := (.seq (.seq (.reg false strings_genSplit_i19) strings_genSplit_i20) strings_genSplit_i26)
def strings_genSplit_i28 : IR := (.block 1 (.seq (.reg false strings_genSplit_i18) strings_genSplit_i27))
def strings_genSplit_i29 : IR := (.seq (.seq (.reg false strings_genSplit_i16) strings_genSplit_i17) strings_genSplit_i28)
def strings_genSplit_i30 : List Op1 := [(oM 58 (.t 9) []), (oM 59 (.t 10) []), (oM 60 (.t 0) []), (oE 61 (.ias 1 (.t 58) (.t 59)) [0, 1, 0, 1, 2]), (oN (.store 1 (.t 61) (.t 60)) [3, 2, 0, 1, 2])]
def strings_genSplit_i31 : List Op1 := [(oM 62 (.t 9) []), (oM 63 (.t 10) []), (oE 64 (.bin .add (.t 63) (.k (.int .i64 1))) [1]), (oE 65 (.slice 1 (.t 62) none (some (.t 64))) [0, 2]), (oM 8 (.t 65) [3, 0, 1, 2, 3])]
def strings_genSplit_i32 : IR := .ret
def strings_genSplit_i33 : IR := (.seq (.reg false strings_genSplit_i31) strings_genSplit_i32)
def strings_genSplit_i34 : IR := (.seq (.reg false strings_genSplit_i30) strings_genSplit_i33)
def strings_genSplit_i35 : IR := (.seq (.block 0 (.loop strings_genSplit_i29)) strings_genSplit_i34)
def strings_genSplit_i36 : IR := (.seq (.reg false strings_genSplit_i15) strings_genSplit_i35)
def strings_genSplit_i37 : IR := (.seq (.reg false strings_genSplit_i14) strings_genSplit_i36)
def strings_genSplit_i38 : IR := (.seq (.reg false strings_genSplit_i13) strings_genSplit_i37)
def strings_genSplit_i39 : IR := (.seq (.reg false strings_genSplit_i12) strings_genSplit_i38)
def strings_genSplit_i40 : IR := (.seq (.seq (.reg false strings_genSplit_i9) strings_genSplit_i11) strings_genSplit_i39)
def strings_genSplit_i41 : IR := (.seq (.seq (.reg false strings_genSplit_i5) strings_genSplit_i8) strings_genSplit_i40)
def strings_genSplit_i42 : IR := (.seq (.seq (.reg false strings_genSplit_i1) strings_genSplit_i4) strings_genSplit_i41)
def strings_genSplit_ir : IR := (.seq (.reg false strings_genSplit_i0) strings_genSplit_i42)
theorem strings_genSplit_cfn : cFn Tryd.prog 24 = some (strings_genSplit_ir, [(.t 8)], 66) := by kernel_rfl
def strings_genSplit_V (r : ((List ByteArray))) : V := .sl false r.length (cat nS r)
def strings_genSplit_C (r : ((List ByteArray))) : X → Fr → Hp → Prop := FinL [(.t 8)] [] (strings_genSplit_V r) []
theorem strings_genSplit_ok (s_ : ByteArray) (sep_ : ByteArray) (sepSave_ : Int) (n_ : Int) (r : ((List ByteArray))) (h : strings_genSplit s_ sep_ sepSave_ n_ = some r) : Pure Tryd.prog 24 [.s (.string s_), .s (.string sep_), .s (.int .i64 sepSave_), .s (.int .i64 n_)] (strings_genSplit_V r) := by
  refine ConL.of strings_genSplit_cfn (Nat.le_of_ble_eq_true (by kernel_rfl)) (Nat.le_of_ble_eq_true (by kernel_rfl)) ?_
  refine k_start ?_
  show dwv Tryd.prog [] strings_genSplit_ir (kont Tryd.prog [] (strings_genSplit_C r) []) (fr0 [.s (.string s_), .s (.string sep_), .s (.int .i64 sepSave_), .s (.int .i64 n_)]) []
  have hf : FOk (fr0 [.s (.string s_), .s (.string sep_), .s (.int .i64 sepSave_), .s (.int .i64 n_)]) [⟨0, [], .s (.string s_)⟩, ⟨1, [], .s (.string sep_)⟩, ⟨2, [], .s (.int .i64 sepSave_)⟩, ⟨3, [], .s (.int .i64 n_)⟩] := ⟨⟨fun _ => rfl, fun h => (h trivial).elim⟩, ⟨fun _ => rfl, fun h => (h trivial).elim⟩, ⟨fun _ => rfl, fun h => (h trivial).elim⟩, ⟨fun _ => rfl, fun h => (h trivial).elim⟩, trivial⟩
  generalize fr0 [.s (.string s_), .s (.string sep_), .s (.int .i64 sepSave_), .s (.int .i64 n_)] = f at hf ⊢
  unfold strings_genSplit at h
  refine k_seq ?_
  refine k_reg ?_
  refine mops_en hf (by kernel_rfl) fun f1 hf1 => ?_
  refine k_c ?_
  refine k_seq ?_
  refine k_seq ?_
  refine k_reg ?_
  refine mops_en hf1 (by kernel_rfl) fun f2 hf2 => ?_
  refine k_c ?_
  refine k_cond hf2 (t := (n_ == 0)) (by kernel_rfl) (fun hc1 => ?_) (fun hc1 => ?_)
  · have h := if_t h hc1
    refine k_seq ?_
    refine k_reg ?_
    refine mops_en hf2 (by kernel_rfl) fun f3 hf3 => ?_
    refine k_c ?_
    refine k_ret ?_
    refine x_c nofun ?_
    obtain rfl := Option.some.inj h
    exact k_fin (fin_ret (.inl rfl) hf3 (vs := [.ref 1 0 0 0]) (by kernel_rfl) (SettL.pure (FzL.whole (g := nS) (kd := .grow) (l := ([] : List ByteArray)) (by kernel_rfl) rfl (live_grow (by kernel_rfl)))))
  · have h := if_f h hc1
    refine k_skip ?_
    refine k_c ?_
    refine k_seq ?_
    refine k_seq ?_
    refine k_reg ?_
    refine mops_en hf2 (by kernel_rfl) fun f3 hf3 => ?_
    refine k_c ?_
    refine k_cond hf3 (t := (sep_.toList == (⟨#[]⟩ : ByteArray).toList)) (by kernel_rfl) (fun hc2 => ?_) (fun hc2 => ?_)
    · have h := if_t h hc2
      cases h
    · have h := if_f h hc2
      refine k_skip ?_
      refine k_c ?_
      refine k_seq ?_
      refine k_seq ?_
      refine k_reg ?_
      refine mops_en hf3 (by kernel_rfl) fun f4 hf4 => ?_
      refine k_c ?_
      have hj1 : ∀ (t_ : Int), strings_genSplit_j0 s_ sep_ sepSave_ t_ = some r → ∀ f, FOk f [⟨0, [], .s (.string s_)⟩, ⟨1, [], .s (.string sep_)⟩, ⟨2, [], .s (.int .i64 sepSave_)⟩, ⟨3, [], .s (.int .i64 t_)⟩, ⟨8, [], .ref 0 0 0 0⟩] → kont Tryd.prog [] (strings_genSplit_C r) ((.c strings_genSplit_i39) :: []) .normal f [⟨0, .grow, 1, cat nS ([] : List ByteArray)⟩] := by
        intro t_ h f hf
        unfold strings_genSplit_j0 at h
        refine k_c ?_
        refine k_seq ?_
        refine k_reg ?_
        refine mops_en hf (by kernel_rfl) fun f1 hf1 => ?_
        refine k_c ?_
        refine k_seq ?_
        refine k_reg ?_
        refine mops_sg 1 hf1 (by kernel_rfl) fun f2 hf2 => ?_
        obtain ⟨c4, h⟩ := as_ok h
        refine mops_adv rfl (v := .ref 1 0 0 (rp (if (IntKind.wrap .i64 ((sln s_) + 1)) < t_ then (IntKind.wrap .i64 ((sln s_) + 1)) else t_) ((⟨#[]⟩ : ByteArray) : ByteArray)).length) hf2 (by kernel_rfl) (e_mks (g := nS) (a := (⟨#[]⟩ : ByteArray)) (k := .i64) (k' := .i64) (iv := (if (IntKind.wrap .i64 ((sln s_) + 1)) < t_ then (IntKind.wrap .i64 ((sln s_) + 1)) else t_)) (jv := (if (IntKind.wrap .i64 ((sln s_) + 1)) < t_ then (IntKind.wrap .i64 ((sln s_) + 1)) else t_)) (by kernel_rfl) (by kernel_rfl) (by kernel_rfl) c4 (by kernel_rfl)) fun f3 hf3 => ?_
        refine mops_en hf3 (by kernel_rfl) fun f4 hf4 => ?_
        refine k_c ?_
        refine k_seq ?_
        refine k_reg ?_
        refine mops_en hf4 (by kernel_rfl) fun f5 hf5 => ?_
        refine k_c ?_
        refine k_seq ?_
        refine k_reg ?_
        refine mops_en hf5 (by kernel_rfl) fun f6 hf6 => ?_
        refine k_c ?_
        refine k_seq ?_
        refine k_block ?_
        obtain ⟨o0, hx0, h⟩ := Option.bind_eq_some_iff.1 h
        have hgo0 : ∀ (l_2 : (List ByteArray)) (t_3 : ByteArray) (i_2 : Int) (m_2 : Nat) (hn_2 : l_2.length = m_2), (l_2, t_3, i_2) = o0 → ∀ f, FOk f [⟨0, [], .s (.string t_3)⟩, ⟨8, [], .ref 0 0 0 0⟩, ⟨9, [], .ref 1 0 0 m_2⟩, ⟨10, [], .s (.int .i64 i_2)⟩] → kont Tryd.prog [] (strings_genSplit_C r) ((.c strings_genSplit_i34) :: []) .normal f [⟨0, .grow, 1, cat nS ([] : List ByteArray)⟩, ⟨0, .grow, 1, cat nS l_2⟩] := by
          intro l_2 t_3 i_2 m_2 hn_2 e f hf
          subst e
          refine k_c ?_
          refine k_seq ?_
          refine k_reg ?_
          refine mops_sg 3 hf (by kernel_rfl) fun f1 hf1 => ?_
          obtain ⟨c10, h⟩ := as_ok h
          refine mops_adv rfl (v := .ptr 1 0 (0 + (i_2 : Int).toNat * 1)) hf1 (by kernel_rfl) (e_ias_ref (l := l_2) (B := ⟨0, .grow, 1, cat nS l_2⟩) (b := 1) (ver := 0) (n := m_2) (k := .i64) (iv := i_2) (by kernel_rfl) (by kernel_rfl) hn_2 (live_grow (by kernel_rfl)) c10) fun f2 hf2 => ?_
          refine mops_adv rfl (v := .s undef) hf2 (by kernel_rfl) (e_store_pe (g := nS) (l := l_2) (iv := i_2) (kd := .grow) (q := 1) (b := 1) (ver := 0) (ys := [.s (.string t_3)]) (a := t_3) [] (by kernel_rfl) (live_grow (by kernel_rfl)) (by kernel_rfl) (by kernel_rfl) (by kernel_rfl) c10 (by kernel_rfl) (by kernel_rfl)) fun f3 hf3 => ?_
          refine mops_en hf3 (by kernel_rfl) fun f4 hf4 => ?_
          refine k_c ?_
          refine k_seq ?_
          refine k_reg ?_
          refine mops_sg 3 hf4 (by kernel_rfl) fun f5 hf5 => ?_
          obtain ⟨c11, h⟩ := as_ok h
          refine mops_adv rfl (v := .ref 1 0 (0 + 0 * 1) (((IntKind.wrap .i64 (i_2 + 1)) : Int).toNat - 0)) hf5 (by kernel_rfl) (e_slice_ref (B := ⟨0, .grow, 1, cat nS (st l_2 i_2 t_3)⟩) (n := m_2) (o := 0) (by kernel_rfl) (live_grow (by kernel_rfl)) rfl (b_ns (k := .i64) (iv := (IntKind.wrap .i64 (i_2 + 1))) (by kernel_rfl) (ln_ns (st_len.trans hn_2) c11))) fun f6 hf6 => ?_
          refine mops_en hf6 (by kernel_rfl) fun f7 hf7 => ?_
          refine k_c ?_
          refine k_ret ?_
          obtain rfl := Option.some.inj h
          exact k_fin (fin_ret (.inl rfl) hf7 (vs := [.ref 1 0 (0 + 0 * 1) (((IntKind.wrap .i64 (i_2 + 1)) : Int).toNat - 0)]) (by kernel_rfl) (SettL.pure (FzL.partr (g := nS) (kd := .grow) (l := (st l_2 i_2 t_3)) (n := m_2) (a := 0) (b := ((IntKind.wrap .i64 (i_2 + 1)) : Int).toNat) (by kernel_rfl) (cut_ns (n := m_2) (ln_ns (st_len.trans hn_2) c11)) (st_len.trans hn_2) (live_grow (by kernel_rfl)))))
        refine k_loop BIG ?_
        refine loop_ind (fun n f L => ∃ (l_1 : (List ByteArray)) (t_2 : ByteArray) (i_1 : Int) (m_1 : Nat) (hn_1 : l_1.length = m_1), strings_genSplit_l0 s_ sep_ sepSave_ t_ n l_1 t_2 i_1 = some o0 ∧ FOk f [⟨0, [], .s (.string t_2)⟩, ⟨1, [], .s (.string sep_)⟩, ⟨2, [], .s (.int .i64 sepSave_)⟩, ⟨3, [], .s (.int .i64 (IntKind.wrap .i64 ((if (IntKind.wrap .i64 ((sln s_) + 1)) < t_ then (IntKind.wrap .i64 ((sln s_) + 1)) else t_) - 1)))⟩, ⟨8, [], .ref 0 0 0 0⟩, ⟨9, [], .ref 1 0 0 m_1⟩, ⟨10, [], .s (.int .i64 i_1)⟩] ∧ L = [⟨0, .grow, 1, cat nS ([] : List ByteArray)⟩, ⟨0, .grow, 1, cat nS l_1⟩]) ?_ ?_ BIG _ _ ⟨(rp (if (IntKind.wrap .i64 ((sln s_) + 1)) < t_ then (IntKind.wrap .i64 ((sln s_) + 1)) else t_) ((⟨#[]⟩ : ByteArray) : ByteArray)), s_, (0), ((rp (if (IntKind.wrap .i64 ((sln s_) + 1)) < t_ then (IntKind.wrap .i64 ((sln s_) + 1)) else t_) ((⟨#[]⟩ : ByteArray) : ByteArray)).length), rfl, hx0, FOk_of [0, 1, 2, 3, 8, 9, 10] hf6 (by kernel_rfl), (by kernel_rfl)⟩
        · rintro f L ⟨l_1, t_2, i_1, m_1, hn_1, h, _⟩
          cases (show (none : Option _) = some _ from h)
        · rintro n0 R0 ih f L ⟨l_1, t_2, i_1, m_1, hn_1, h, hf, rfl⟩
          rw [strings_genSplit_l0] at h
          refine k_seq ?_
          refine k_seq ?_
          refine k_reg ?_
          refine mops_en hf (by kernel_rfl) fun f1 hf1 => ?_
          refine k_c ?_
          refine k_cond hf1 (t := (decide (i_1 < (IntKind.wrap .i64 ((if (IntKind.wrap .i64 ((sln s_) + 1)) < t_ then (IntKind.wrap .i64 ((sln s_) + 1)) else t_) - 1))))) (by kernel_rfl) (fun hc5 => ?_) (fun hc5 => ?_)
          · have h := if_t h hc5
            refine k_skip ?_
            refine k_c ?_
            refine k_block ?_
            refine k_seq ?_
            refine k_reg ?_
            refine mops_sg 2 hf1 (by kernel_rfl) fun f2 hf2 => ?_
            obtain ⟨r_3, hx_r_3, h⟩ := Option.bind_eq_some_iff.1 h
            refine mops_call rfl hf2 (av := [.s (.string t_2), .s (.string sep_)]) (by kernel_rfl) (v := .s (.int .i64 r_3)) (CalL.pure (strings_Index_ok t_2 sep_ r_3 hx_r_3) rfl rfl (Nat.le_of_ble_eq_true (by kernel_rfl))) (fun _ => rfl) fun f3 hf3 => ?_
            refine mops_en hf3 (by kernel_rfl) fun f4 hf4 => ?_
            refine k_c ?_
            refine k_seq ?_
            refine k_seq ?_
            refine k_reg ?_
            refine mops_en hf4 (by kernel_rfl) fun f5 hf5 => ?_
            refine k_c ?_
            refine k_cond hf5 (t := (decide (r_3 < 0))) (by kernel_rfl) (fun hc6 => ?_) (fun hc6 => ?_)
            · have h := if_t h hc6
              refine k_exit ?_
              refine x_c nofun ?_
              refine x_b' (by kernel_rfl) ?_
              refine x_l nofun ?_
              refine x_b ?_
              refine k_hp (L' := [⟨0, .grow, 1, cat nS ([] : List ByteArray)⟩, ⟨0, .grow, 1, cat nS l_1⟩]) (by kernel_rfl) ?_
              exact hgo0 l_1 t_2 i_1 m_1 hn_1 (Option.some.inj h) _ (FOk_of [0, 8, 9, 10] hf5 (by kernel_rfl))
            · have h := if_f h hc6
              refine k_skip ?_
              refine k_c ?_
              refine k_seq ?_
              refine k_reg ?_
              refine mops_sg 6 hf5 (by kernel_rfl) fun f6 hf6 => ?_
              obtain ⟨c7, h⟩ := as_ok h
              refine mops_adv rfl (v := .s (.string (t_2.extract 0 ((IntKind.wrap .i64 (r_3 + sepSave_)) : Int).toNat))) hf6 (by kernel_rfl) (e_sstr (t := t_2) (by kernel_rfl) (b_ns (k := .i64) (iv := (IntKind.wrap .i64 (r_3 + sepSave_))) (by kernel_rfl) c7)) fun f7 hf7 => ?_
              obtain ⟨c8, h⟩ := as_ok h
              refine mops_adv rfl (v := .ptr 1 0 (0 + (i_1 : Int).toNat * 1)) hf7 (by kernel_rfl) (e_ias_ref (l := l_1) (B := ⟨0, .grow, 1, cat nS l_1⟩) (b := 1) (ver := 0) (n := m_1) (k := .i64) (iv := i_1) (by kernel_rfl) (by kernel_rfl) hn_1 (live_grow (by kernel_rfl)) c8) fun f8 hf8 => ?_
              refine mops_adv rfl (v := .s undef) hf8 (by kernel_rfl) (e_store_pe (g := nS) (l := l_1) (iv := i_1) (kd := .grow) (q := 1) (b := 1) (ver := 0) (ys := [.s (.string (t_2.extract 0 ((IntKind.wrap .i64 (r_3 + sepSave_)) : Int).toNat))]) (a := (t_2.extract 0 ((IntKind.wrap .i64 (r_3 + sepSave_)) : Int).toNat)) [] (by kernel_rfl) (live_grow (by kernel_rfl)) (by kernel_rfl) (by kernel_rfl) (by kernel_rfl) c8 (by kernel_rfl) (by kernel_rfl)) fun f9 hf9 => ?_
              refine mops_en hf9 (by kernel_rfl) fun f10 hf10 => ?_
              refine k_c ?_
              refine k_seq ?_
              refine k_reg ?_
              refine mops_sg 5 hf10 (by kernel_rfl) fun f11 hf11 => ?_
              obtain ⟨c9, h⟩ := as_ok h
              refine mops_adv rfl (v := .s (.string (t_2.extract ((IntKind.wrap .i64 (r_3 + (sln sep_))) : Int).toNat t_2.size))) hf11 (by kernel_rfl) (e_sstr (t := t_2) (by kernel_rfl) (b_sn (k := .i64) (iv := (IntKind.wrap .i64 (r_3 + (sln sep_)))) (by kernel_rfl) c9)) fun f12 hf12 => ?_
              refine mops_en hf12 (by kernel_rfl) fun f13 hf13 => ?_
              refine k_c ?_
              refine k_reg ?_
              refine mops_en hf13 (by kernel_rfl) fun f14 hf14 => ?_
              refine k_b ?_
              refine k_l ?_
              exact ih _ _ ⟨(st l_1 i_1 (t_2.extract 0 ((IntKind.wrap .i64 (r_3 + sepSave_)) : Int).toNat)), (t_2.extract ((IntKind.wrap .i64 (r_3 + (sln sep_))) : Int).toNat t_2.size), (IntKind.wrap .i64 (i_1 + 1)), m_1, (st_len.trans hn_1), h, FOk_of [0, 1, 2, 3, 8, 9, 10] hf14 (by kernel_rfl), (by kernel_rfl)⟩
          · have h := if_f h hc5
            refine k_exit ?_
            refine x_c nofun ?_
            refine x_l nofun ?_
            refine x_b ?_
            refine k_hp (L' := [⟨0, .grow, 1, cat nS ([] : List ByteArray)⟩, ⟨0, .grow, 1, cat nS l_1⟩]) (by kernel_rfl) ?_
            exact hgo0 l_1 t_2 i_1 m_1 hn_1 (Option.some.inj h) _ (FOk_of [0, 8, 9, 10] hf1 (by kernel_rfl))
      refine k_cond hf4 (t := (decide (n_ < 0))) (by kernel_rfl) (fun hc3 => ?_) (fun hc3 => ?_)
      · have h := if_t h hc3
        refine k_reg ?_
        refine mops_sg 2 hf4 (by kernel_rfl) fun f5 hf5 => ?_
        obtain ⟨r_, hx_r_, h⟩ := Option.bind_eq_some_iff.1 h
        refine mops_call rfl hf5 (av := [.s (.string s_), .s (.string sep_)]) (by kernel_rfl) (v := .s (.int .i64 r_)) (CalL.pure (strings_Count_ok s_ sep_ r_ hx_r_) rfl rfl (Nat.le_of_ble_eq_true (by kernel_rfl))) (fun _ => rfl) fun f6 hf6 => ?_
        refine mops_en hf6 (by kernel_rfl) fun f7 hf7 => ?_
        refine k_hp (L' := [⟨0, .grow, 1, cat nS ([] : List ByteArray)⟩]) (by kernel_rfl) ?_
        exact hj1 (IntKind.wrap .i64 (r_ + 1)) h _ (FOk_of [0, 1, 2, 3, 8] hf7 (by kernel_rfl))
      · have h := if_f h hc3
        refine k_skip ?_
        refine k_hp (L' := [⟨0, .grow, 1, cat nS ([] : List ByteArray)⟩]) (by kernel_rfl) ?_
        exact hj1 n_ h _ (FOk_of [0, 1, 2, 3, 8] hf4 (by kernel_rfl))
end Go.Proofs.YthooddibdmigmaaDoorK
