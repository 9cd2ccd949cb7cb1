/- The Go functions come to the functions over typed data. Printed by a program of this work. -/
import Derived.Test.YtfdadnldlngmeaaF
import Derived.Test.YtfdadnldlngmeaaProg
import Derived.Test.YtfdadnldlngmeaaRq
namespace Go.Proofs.YtfdadnldlngmeaaK
set_option linter.unusedVariables false
set_option linter.unusedSimpArgs false
set_option maxHeartbeats 4000000
open Go.RowKit
attribute [local irreducible] dwv mops lops lqops lwops kont iter run runK rk okK ex E1 vals val chain chB sel resF
def slice_Cut_i0 : List Op1 := [(oE 2 (.nilg 2) [])]
def slice_Cut_i1 : List Op1 := [(oE 3 (.nilg 2) [])]
def slice_Cut_i2 : List Op1 := [(oE 4 (.nilg 9) [])]
def slice_Cut_i3 : List Op1 := [(oM 7 (.t 0) []), (oE 8 (.len (.t 7)) [0]), (oM 9 (.k (.int .i64 0)) [])]
def slice_Cut_i4 : List Op1 := [(oE 10 (.bin .lss (.t 9) (.t 8)) [])]
def slice_Cut_i5 : List Op1 := [(oE 11 (.ias 9 (.t 7) (.t 9)) []), (oE 12 (.load true 9 (.t 11)) [0]), (oE 6 (.zero [(.int .u16 0), (.int .u8 0), (.bool false), (.bool false), (.bool false), (.bool false), (.bool false), (.bool false), (.bool false)]) []), (oN (.store 9 (.t 6) (.t 12)) [2, 1, 0, 1, 2])]
def slice_Cut_i6 : List Op1 := [(oM 13 (.t 4) []), (oE 14 (.load true 9 (.t 6)) []), (oE 15 (.bslo 9 1 [(.int .u16 0), (.int .u8 0), (.bool false), (.bool false), (.bool false), (.bool false), (.bool false), (.bool false), (.bool false)] [(0, (9, (.t 14)))]) [1]), (oE 16 (.app 25 9 10 (.t 13) (.t 15)) [0, 2]), (oM 4 (.t 16) [3, 3, 0, 1, 2, 3])]
def slice_Cut_i7 : List Op1 := [(oE 17 (.fld 8 (.t 6)) []), (oE 18 (.load false 1 (.t 17)) [0]), (oM 19 (.t 18) [1]), (oG 20 (.fld 5 (.t 6)) 19 true [2]), (oG 21 (.load false 1 (.t 20)) 19 true [3, 2]), (oE 22 (.pick (.t 19) (.t 21) (.k (.bool false))) [2, 4])]
def slice_Cut_i8 : List Op1 := [(oM 23 (.t 3) []), (oM 24 (.t 4) []), (oE 25 (.build [(.slice none 0 0), (.bool false)] [(0, (1, (.t 24))), (1, (1, (.k (.bool true))))]) [1]), (oE 26 (.bslo 2 1 [(.slice none 0 0), (.bool false)] [(0, (2, (.t 25)))]) [2]), (oE 27 (.app 56 2 32 (.t 23) (.t 26)) [0, 3]), (oM 3 (.t 27) [4, 4, 0, 1, 2, 3, 4])]
def slice_Cut_i9 : List Op1 := [(oE 4 (.nilg 9) [])]
def slice_Cut_i10 : IR := (.reg false slice_Cut_i9)
def slice_Cut_i11 : IR := (.cond (.t 22) (.seq (.reg false slice_Cut_i8) slice_Cut_i10) .skip)
def slice_Cut_i12 : IR := (.seq (.reg false slice_Cut_i7) slice_Cut_i11)
def slice_Cut_i13 : IR := (.seq (.reg false slice_Cut_i6) slice_Cut_i12)
def slice_Cut_i14 : List Op1 := [(oE 28 (.bin .add (.t 9) (.k (.int .i64 1))) []), (oM 9 (.t 28) [0])]
def slice_Cut_i15 : IR := (.reg false slice_Cut_i14)
def slice_Cut_i16 : IR := (.seq (.block 1 (.seq (.reg false slice_Cut_i5) slice_Cut_i13)) slice_Cut_i15)
def slice_Cut_i17 : IR := (.seq (.cond (.t 10) .skip (.exit 0)) slice_Cut_i16)
def slice_Cut_i18 : IR := (.seq (.reg false slice_Cut_i4) slice_Cut_i17)
def slice_Cut_i19 : IR := (.block 0 (.loop slice_Cut_i18))
def slice_Cut_i20 : List Op1 := [(oM 29 (.t 4) []), (oE 30 (.len (.t 29)) [0]), (oE 31 (.bin .gtr (.t 30) (.k (.int .i64 0))) [1])]
def slice_Cut_i21 : List Op1 := [(oM 32 (.t 3) []), (oM 33 (.t 4) []), (oE 34 (.build [(.slice none 0 0), (.bool false)] [(0, (1, (.t 33))), (1, (1, (.k (.bool false))))]) [1]), (oE 35 (.bslo 2 1 [(.slice none 0 0), (.bool false)] [(0, (2, (.t 34)))]) [2]), (oE 36 (.app 56 2 32 (.t 32) (.t 35)) [0, 3]), (oM 3 (.t 36) [4, 4, 0, 1, 2, 3, 4])]
def slice_Cut_i22 : IR := (.cond (.t 31) (.reg false slice_Cut_i21) .skip)
def slice_Cut_i23 : List Op1 := [(oM 37 (.t 3) []), (oM 2 (.t 37) [0, 0])]
def slice_Cut_i24 : IR := .ret
def slice_Cut_i25 : IR := (.seq (.reg false slice_Cut_i23) slice_Cut_i24)
def slice_Cut_i26 : IR := (.seq (.seq (.reg false slice_Cut_i20) slice_Cut_i22) slice_Cut_i25)
def slice_Cut_i27 : IR := (.seq (.seq (.reg false slice_Cut_i3) slice_Cut_i19) slice_Cut_i26)
def slice_Cut_i28 : IR := (.seq (.reg false slice_Cut_i2) slice_Cut_i27)
def slice_Cut_i29 : IR := (.seq (.reg false slice_Cut_i1) slice_Cut_i28)
def slice_Cut_ir : IR := (.seq (.reg false slice_Cut_i0) slice_Cut_i29)
theorem slice_Cut_cfn : cFn Try.prog 18 = some (slice_Cut_ir, [(.t 2)], 38) := by kernel_rfl
def slice_Cut_V (r : ((List slice_Part))) : V := .sl false r.length (cat slice_Part.v r)
def slice_Cut_C (r : ((List slice_Part))) : X → Fr → Hp → Prop := FinL [(.t 2)] [] (slice_Cut_V r) []
theorem slice_Cut_ok (l_ : (List api_Rec)) (r : ((List slice_Part))) (h : slice_Cut l_ = some r) : Pure Try.prog 18 [.sl false l_.length (cat api_Rec.v l_)] (slice_Cut_V r) := by
  refine ConL.of slice_Cut_cfn (Nat.le_of_ble_eq_true (by kernel_rfl)) (Nat.le_of_ble_eq_true (by kernel_rfl)) ?_
  refine k_start ?_
  show dwv Try.prog [] slice_Cut_ir (kont Try.prog [] (slice_Cut_C r) []) (fr0 [.sl false l_.length (cat api_Rec.v l_)]) []
  have hf : FOk (fr0 [.sl false l_.length (cat api_Rec.v l_)]) [⟨0, [], .sl false l_.length (cat api_Rec.v l_)⟩] := ⟨⟨fun _ => rfl, fun h => (h trivial).elim⟩, trivial⟩
  generalize fr0 [.sl false l_.length (cat api_Rec.v l_)] = f at hf ⊢
  unfold slice_Cut at h
  refine k_seq ?_
  refine k_reg ?_
  refine mops_en hf (by kernel_rfl) fun f1 hf1 => ?_
  refine k_c ?_
  refine k_seq ?_
  refine k_reg ?_
  refine mops_en hf1 (by kernel_rfl) fun f2 hf2 => ?_
  refine k_c ?_
  refine k_seq ?_
  refine k_reg ?_
  refine mops_en hf2 (by kernel_rfl) fun f3 hf3 => ?_
  refine k_c ?_
  refine k_seq ?_
  refine k_seq ?_
  refine k_reg ?_
  refine mops_en hf3 (by kernel_rfl) fun f4 hf4 => ?_
  refine k_c ?_
  refine k_block ?_
  obtain ⟨o0, hx0, h⟩ := Option.bind_eq_some_iff.1 h
  have hgo0 : ∀ (l_5 : (List slice_Part)) (l_6 : (List api_Rec)) (v_4 : Nat) (v_5 : Nat), (l_5, l_6) = o0 → ∀ f, FOk f [⟨2, [], .ref 0 0 0 0⟩, ⟨3, [], .ref 1 v_4 0 l_5.length⟩, ⟨4, [], .ref 2 v_5 0 l_6.length⟩] → kont Try.prog [] (slice_Cut_C r) ((.c slice_Cut_i26) :: []) .normal f [⟨0, .grow, 2, cat slice_Part.v ([] : List slice_Part)⟩, ⟨v_4, .grow, 2, cat slice_Part.v l_5⟩, ⟨v_5, .grow, 9, cat api_Rec.v l_6⟩] := by
    intro l_5 l_6 v_4 v_5 e f hf
    subst e
    refine k_c ?_
    refine k_seq ?_
    refine k_seq ?_
    refine k_reg ?_
    refine mops_sg 1 hf (by kernel_rfl) fun f1 hf1 => ?_
    refine mops_adv rfl (v := .s (.int .i64 (ln l_6))) hf1 (by kernel_rfl) (e_len_ref (l := l_6) (B := ⟨v_5, .grow, 9, cat api_Rec.v l_6⟩) (b := 2) (ver := v_5) (n := l_6.length) (by kernel_rfl) rfl (live_grow (by kernel_rfl))) fun f2 hf2 => ?_
    refine mops_en hf2 (by kernel_rfl) fun f3 hf3 => ?_
    refine kb2 (t := (decide (0 < (ln l_6)))) h (fun hc6 h => ?_) (fun hc6 h => ?_)
    · refine k_fz (g := api_Rec.v) (x := l_6) (ver := v_5) (n := l_6.length) 4 2 hf3 rfl (L' := [⟨0, .grow, 2, cat slice_Part.v ([] : List slice_Part)⟩, ⟨v_4, .grow, 2, cat slice_Part.v l_5⟩, ⟨(v_5 + 1), .grow, 9, cat api_Rec.v ([] : List api_Rec)⟩]) fun f4 hf4 => ?_
      refine k_c ?_
      refine k_cond hf4 (t := (decide (0 < (ln l_6)))) (by kernel_rfl) (fun _ => ?_) (fun e => Bool.noConfusion (hc6.symm.trans e))
      refine k_reg ?_
      refine mops_sg 4 hf4 (by kernel_rfl) fun f5 hf5 => ?_
      obtain ⟨c7, h⟩ := as_ok h
      refine mops_adv rfl (v := .ref 1 (v_4 + 1) 0 (l_5 ++ [(slice_Part.mk l_6 false)]).length) hf5 (by kernel_rfl) (e_app (g := slice_Part.v) (l := l_5) (l' := [(slice_Part.mk l_6 false)]) (b := 1) (ver := v_4) (n := l_5.length) rfl (by kernel_rfl) rfl (live_grow (by kernel_rfl)) (sll_ev (v := .ref 3 0 0 1) (by kernel_rfl) (sll_ref (B := ⟨0, .grow, 2, cat slice_Part.v [(slice_Part.mk l_6 false)]⟩) (by kernel_rfl) (live_grow (by kernel_rfl)))) (slc_ev (v := .ref 3 0 0 1) (by kernel_rfl) (slc_ref (g := slice_Part.v) (l := [(slice_Part.mk l_6 false)]) (kd := .grow) (q := 2) (by kernel_rfl) (live_grow (by kernel_rfl)))) c7) fun f6 hf6 => ?_
      refine mops_en hf6 (by kernel_rfl) fun f7 hf7 => ?_
      refine k_c ?_
      refine k_seq ?_
      refine k_reg ?_
      refine mops_en hf7 (by kernel_rfl) fun f8 hf8 => ?_
      refine k_c ?_
      refine k_ret ?_
      obtain rfl := Option.some.inj h
      exact k_fin (fin_ret (.inl rfl) hf8 (vs := [.ref 1 (v_4 + 1) 0 (l_5 ++ [(slice_Part.mk l_6 false)]).length]) (by kernel_rfl) (SettL.pure (FzL.whole (g := slice_Part.v) (kd := .grow) (l := (l_5 ++ [(slice_Part.mk l_6 false)])) (by kernel_rfl) rfl (live_grow (by kernel_rfl)))))
    · refine k_c ?_
      refine k_cond hf3 (t := (decide (0 < (ln l_6)))) (by kernel_rfl) (fun e => Bool.noConfusion (hc6.symm.trans e)) (fun _ => ?_)
      refine k_skip ?_
      refine k_c ?_
      refine k_seq ?_
      refine k_reg ?_
      refine mops_en hf3 (by kernel_rfl) fun f4 hf4 => ?_
      refine k_c ?_
      refine k_ret ?_
      obtain rfl := Option.some.inj h
      exact k_fin (fin_ret (.inl rfl) hf4 (vs := [.ref 1 v_4 0 l_5.length]) (by kernel_rfl) (SettL.pure (FzL.whole (g := slice_Part.v) (kd := .grow) (l := l_5) (by kernel_rfl) rfl (live_grow (by kernel_rfl)))))
  refine k_loop BIG ?_
  refine loop_ind (fun n f L => ∃ (l_3 : (List slice_Part)) (l_4 : (List api_Rec)) (t_1 : Int) (v_2 : Nat) (v_3 : Nat), slice_Cut_l0 l_ n l_3 l_4 t_1 = some o0 ∧ FOk f [⟨2, [], .ref 0 0 0 0⟩, ⟨3, [], .ref 1 v_2 0 l_3.length⟩, ⟨4, [], .ref 2 v_3 0 l_4.length⟩, ⟨7, [], .sl false l_.length (cat api_Rec.v l_)⟩, ⟨8, [], .s (.int .i64 (ln l_))⟩, ⟨9, [], .s (.int .i64 t_1)⟩] ∧ L = [⟨0, .grow, 2, cat slice_Part.v ([] : List slice_Part)⟩, ⟨v_2, .grow, 2, cat slice_Part.v l_3⟩, ⟨v_3, .grow, 9, cat api_Rec.v l_4⟩]) ?_ ?_ BIG _ _ ⟨([] : List slice_Part), ([] : List api_Rec), (0), (0), (0), hx0, FOk_of [2, 3, 4, 7, 8, 9] hf4 (by kernel_rfl), (by kernel_rfl)⟩
  · rintro f L ⟨l_3, l_4, t_1, v_2, v_3, h, _⟩
    cases (show (none : Option _) = some _ from h)
  · rintro n0 R0 ih f L ⟨l_3, l_4, t_1, v_2, v_3, h, hf, rfl⟩
    rw [slice_Cut_l0] at h
    refine k_seq ?_
    refine k_reg ?_
    refine mops_en hf (by kernel_rfl) fun f1 hf1 => ?_
    refine k_c ?_
    refine k_seq ?_
    refine k_cond hf1 (t := (decide (t_1 < (ln l_)))) (by kernel_rfl) (fun hc1 => ?_) (fun hc1 => ?_)
    · have h := if_t h hc1
      refine k_skip ?_
      refine k_c ?_
      refine k_seq ?_
      refine k_block ?_
      refine k_seq ?_
      refine k_reg ?_
      obtain ⟨c2, h⟩ := as_ok h
      refine mops_adv rfl (v := .ip ((cat api_Rec.v l_).drop ((t_1 : Int).toNat * 9))) hf1 (by kernel_rfl) (e_ias (n := l_.length) (xv := .sl false l_.length (cat api_Rec.v l_)) (k := .i64) (iv := t_1) (p := .ip ((cat api_Rec.v l_).drop ((t_1 : Int).toNat * 9))) (by kernel_rfl) (by kernel_rfl) (by kernel_rfl) (by kernel_rfl) c2) fun f2 hf2 => ?_
      refine mops_adv rfl (v := .agg [.s (.int .u16 (gt l_ t_1).Addr), .s (.int .u8 (gt l_ t_1).Data), .s (.bool (gt l_ t_1).Read), .s (.bool (gt l_ t_1).BA), .s (.bool (gt l_ t_1).BS), .s (.bool (gt l_ t_1).LIC), .s (.bool (gt l_ t_1).AVMA), .s (.bool (gt l_ t_1).BUSY), .s (.bool (gt l_ t_1).Mine)]) hf2 (by kernel_rfl) (e_load_ip (g := api_Rec.v) (l := l_) (iv := t_1) [] (by kernel_rfl) c2 (by kernel_rfl) (by kernel_rfl)) fun f3 hf3 => ?_
      refine mops_en hf3 (by kernel_rfl) fun f4 hf4 => ?_
      refine k_c ?_
      refine k_seq ?_
      refine k_reg ?_
      refine mops_sg 3 hf4 (by kernel_rfl) fun f5 hf5 => ?_
      obtain ⟨c3, h⟩ := as_ok h
      refine mops_adv rfl (v := .ref 2 (v_3 + 1) 0 (l_4 ++ [(gt l_ t_1)]).length) hf5 (by kernel_rfl) (e_app (g := api_Rec.v) (l := l_4) (l' := [(gt l_ t_1)]) (b := 2) (ver := v_3) (n := l_4.length) rfl (by kernel_rfl) rfl (live_grow (by kernel_rfl)) (sll_ev (v := .ref 4 0 0 1) (by kernel_rfl) (sll_ref (B := ⟨0, .grow, 9, cat api_Rec.v [(gt l_ t_1)]⟩) (by kernel_rfl) (live_grow (by kernel_rfl)))) (slc_ev (v := .ref 4 0 0 1) (by kernel_rfl) (slc_ref (g := api_Rec.v) (l := [(gt l_ t_1)]) (kd := .grow) (q := 9) (by kernel_rfl) (live_grow (by kernel_rfl)))) c3) fun f6 hf6 => ?_
      refine mops_en hf6 (by kernel_rfl) fun f7 hf7 => ?_
      refine k_c ?_
      refine k_seq ?_
      refine k_reg ?_
      refine mops_en hf7 (by kernel_rfl) fun f8 hf8 => ?_
      refine kb2 (t := ((gt l_ t_1).Mine && (gt l_ t_1).LIC)) h (fun hc4 h => ?_) (fun hc4 h => ?_)
      · refine k_fz (g := api_Rec.v) (x := (l_4 ++ [(gt l_ t_1)])) (ver := (v_3 + 1)) (n := (l_4 ++ [(gt l_ t_1)]).length) 4 2 hf8 rfl (L' := [⟨0, .grow, 2, cat slice_Part.v ([] : List slice_Part)⟩, ⟨v_2, .grow, 2, cat slice_Part.v l_3⟩, ⟨(((v_3 + 1)) + 1), .grow, 9, cat api_Rec.v ([] : List api_Rec)⟩, ⟨0, .mem, 1, [.s (.int .u16 (gt l_ t_1).Addr), .s (.int .u8 (gt l_ t_1).Data), .s (.bool (gt l_ t_1).Read), .s (.bool (gt l_ t_1).BA), .s (.bool (gt l_ t_1).BS), .s (.bool (gt l_ t_1).LIC), .s (.bool (gt l_ t_1).AVMA), .s (.bool (gt l_ t_1).BUSY), .s (.bool (gt l_ t_1).Mine)]⟩, ⟨0, .grow, 9, cat api_Rec.v [(gt l_ t_1)]⟩]) fun f9 hf9 => ?_
        refine k_c ?_
        refine k_cond hf9 (t := ((gt l_ t_1).Mine && (gt l_ t_1).LIC)) (by kernel_rfl) (fun _ => ?_) (fun e => Bool.noConfusion (hc4.symm.trans e))
        refine k_seq ?_
        refine k_reg ?_
        refine mops_sg 4 hf9 (by kernel_rfl) fun f10 hf10 => ?_
        obtain ⟨c5, h⟩ := as_ok h
        refine mops_adv rfl (v := .ref 1 (v_2 + 1) 0 (l_3 ++ [(slice_Part.mk (l_4 ++ [(gt l_ t_1)]) true)]).length) hf10 (by kernel_rfl) (e_app (g := slice_Part.v) (l := l_3) (l' := [(slice_Part.mk (l_4 ++ [(gt l_ t_1)]) true)]) (b := 1) (ver := v_2) (n := l_3.length) rfl (by kernel_rfl) rfl (live_grow (by kernel_rfl)) (sll_ev (v := .ref 5 0 0 1) (by kernel_rfl) (sll_ref (B := ⟨0, .grow, 2, cat slice_Part.v [(slice_Part.mk (l_4 ++ [(gt l_ t_1)]) true)]⟩) (by kernel_rfl) (live_grow (by kernel_rfl)))) (slc_ev (v := .ref 5 0 0 1) (by kernel_rfl) (slc_ref (g := slice_Part.v) (l := [(slice_Part.mk (l_4 ++ [(gt l_ t_1)]) true)]) (kd := .grow) (q := 2) (by kernel_rfl) (live_grow (by kernel_rfl)))) c5) fun f11 hf11 => ?_
        refine mops_en hf11 (by kernel_rfl) fun f12 hf12 => ?_
        refine k_c ?_
        refine k_reg ?_
        refine mops_en hf12 (by kernel_rfl) fun f13 hf13 => ?_
        refine k_mv (ver := (((v_3 + 1)) + 1)) (v2 := 0) (q := 9) (n := 0) (kd := .grow) (cs0 := cat api_Rec.v ([] : List api_Rec)) (cs := cat api_Rec.v ([] : List api_Rec)) 4 2 6 hf13 (L' := [⟨0, .grow, 2, cat slice_Part.v ([] : List slice_Part)⟩, ⟨(v_2 + 1), .grow, 2, cat slice_Part.v (l_3 ++ [(slice_Part.mk (l_4 ++ [(gt l_ t_1)]) true)])⟩, ⟨(((((v_3 + 1)) + 1)) + 1), .grow, 9, cat api_Rec.v ([] : List api_Rec)⟩, ⟨0, .mem, 1, [.s (.int .u16 (gt l_ t_1).Addr), .s (.int .u8 (gt l_ t_1).Data), .s (.bool (gt l_ t_1).Read), .s (.bool (gt l_ t_1).BA), .s (.bool (gt l_ t_1).BS), .s (.bool (gt l_ t_1).LIC), .s (.bool (gt l_ t_1).AVMA), .s (.bool (gt l_ t_1).BUSY), .s (.bool (gt l_ t_1).Mine)]⟩, ⟨0, .grow, 9, cat api_Rec.v [(gt l_ t_1)]⟩, ⟨0, .grow, 2, cat slice_Part.v [(slice_Part.mk (l_4 ++ [(gt l_ t_1)]) true)]⟩, ⟨1, .grow, 9, cat api_Rec.v ([] : List api_Rec)⟩]) fun f14 hf14 => ?_
        refine k_b ?_
        refine k_c ?_
        refine k_reg ?_
        refine mops_en hf14 (by kernel_rfl) fun f15 hf15 => ?_
        refine k_l' (vs_cut (l := [⟨2, [], .ref 0 0 0 0⟩, ⟨3, [], .ref 1 (v_2 + 1) 0 (l_3 ++ [(slice_Part.mk (l_4 ++ [(gt l_ t_1)]) true)]).length⟩, ⟨4, [], .ref 2 (((((v_3 + 1)) + 1)) + 1) 0 0⟩, ⟨7, [], .sl false l_.length (cat api_Rec.v l_)⟩, ⟨8, [], .s (.int .i64 (ln l_))⟩, ⟨9, [], .s (.int .i64 (IntKind.wrap .i64 (t_1 + 1)))⟩]) 3 (by kernel_rfl) (by kernel_rfl) (L' := [⟨0, .grow, 2, cat slice_Part.v ([] : List slice_Part)⟩, ⟨(v_2 + 1), .grow, 2, cat slice_Part.v (l_3 ++ [(slice_Part.mk (l_4 ++ [(gt l_ t_1)]) true)])⟩, ⟨(((((v_3 + 1)) + 1)) + 1), .grow, 9, cat api_Rec.v ([] : List api_Rec)⟩]) (by kernel_rfl) ⟨⟨rfl, rfl⟩, ⟨rfl, rfl⟩, ⟨rfl, rfl⟩, ⟨rfl, (static_under _ _ (by simp [V.static, statics, cat_stat, dropcat_stat]))⟩, ⟨rfl, rfl⟩, ⟨rfl, rfl⟩, trivial⟩ ⟨.inr (.inr (statics_unders _ _ (cat_stat _))), .inr (.inr (statics_unders _ _ (cat_stat _))), .inr (.inr (statics_unders _ _ (cat_stat _))), trivial⟩ (FOk_of [2, 3, 4, 7, 8, 9] hf15 (by kernel_rfl)) fun f hf => ?_)
        exact ih _ _ ⟨(l_3 ++ [(slice_Part.mk (l_4 ++ [(gt l_ t_1)]) true)]), ([] : List api_Rec), (IntKind.wrap .i64 (t_1 + 1)), (v_2 + 1), (((((v_3 + 1)) + 1)) + 1), h, hf, rfl⟩
      · refine k_c ?_
        refine k_cond hf8 (t := ((gt l_ t_1).Mine && (gt l_ t_1).LIC)) (by kernel_rfl) (fun e => Bool.noConfusion (hc4.symm.trans e)) (fun _ => ?_)
        refine k_skip ?_
        refine k_b ?_
        refine k_c ?_
        refine k_reg ?_
        refine mops_en hf8 (by kernel_rfl) fun f9 hf9 => ?_
        refine k_l' (vs_cut (l := [⟨2, [], .ref 0 0 0 0⟩, ⟨3, [], .ref 1 v_2 0 l_3.length⟩, ⟨4, [], .ref 2 (v_3 + 1) 0 (l_4 ++ [(gt l_ t_1)]).length⟩, ⟨7, [], .sl false l_.length (cat api_Rec.v l_)⟩, ⟨8, [], .s (.int .i64 (ln l_))⟩, ⟨9, [], .s (.int .i64 (IntKind.wrap .i64 (t_1 + 1)))⟩]) 3 (by kernel_rfl) (by kernel_rfl) (L' := [⟨0, .grow, 2, cat slice_Part.v ([] : List slice_Part)⟩, ⟨v_2, .grow, 2, cat slice_Part.v l_3⟩, ⟨(v_3 + 1), .grow, 9, cat api_Rec.v (l_4 ++ [(gt l_ t_1)])⟩]) (by kernel_rfl) ⟨⟨rfl, rfl⟩, ⟨rfl, rfl⟩, ⟨rfl, rfl⟩, ⟨rfl, (static_under _ _ (by simp [V.static, statics, cat_stat, dropcat_stat]))⟩, ⟨rfl, rfl⟩, ⟨rfl, rfl⟩, trivial⟩ ⟨.inr (.inr (statics_unders _ _ (cat_stat _))), .inr (.inr (statics_unders _ _ (cat_stat _))), .inr (.inr (statics_unders _ _ (cat_stat _))), trivial⟩ (FOk_of [2, 3, 4, 7, 8, 9] hf9 (by kernel_rfl)) fun f hf => ?_)
        exact ih _ _ ⟨l_3, (l_4 ++ [(gt l_ t_1)]), (IntKind.wrap .i64 (t_1 + 1)), v_2, (v_3 + 1), h, hf, rfl⟩
    · have h := if_f h hc1
      refine k_exit ?_
      refine x_c nofun ?_
      refine x_l nofun ?_
      refine x_b ?_
      refine k_hp (L' := [⟨0, .grow, 2, cat slice_Part.v ([] : List slice_Part)⟩, ⟨v_2, .grow, 2, cat slice_Part.v l_3⟩, ⟨v_3, .grow, 9, cat api_Rec.v l_4⟩]) (by kernel_rfl) ?_
      exact hgo0 l_3 l_4 v_2 v_3 (Option.some.inj h) _ (FOk_of [2, 3, 4] hf1 (by kernel_rfl))
def slices_Equal_sl_api_Rec_api_Rec_i0 : List Op1 := [(oM 4 (.k (.bool false)) [])]
def slices_Equal_sl_api_Rec_api_Rec_i1 : List Op1 := [(oM 6 (.t 0) []), (oE 7 (.len (.t 6)) [0]), (oM 8 (.t 1) []), (oE 9 (.len (.t 8)) [2]), (oE 10 (.bin .neq (.t 7) (.t 9)) [1, 3])]
def slices_Equal_sl_api_Rec_api_Rec_i2 : List Op1 := [(oM 4 (.k (.bool false)) [])]
def slices_Equal_sl_api_Rec_api_Rec_i3 : IR := .ret
def slices_Equal_sl_api_Rec_api_Rec_i4 : IR := (.cond (.t 10) (.seq (.reg false slices_Equal_sl_api_Rec_api_Rec_i2) slices_Equal_sl_api_Rec_api_Rec_i3) .skip)
def slices_Equal_sl_api_Rec_api_Rec_i5 : List Op1 := [(oM 11 (.t 0) []), (oE 12 (.len (.t 11)) [0]), (oM 13 (.k (.int .i64 0)) [])]
def slices_Equal_sl_api_Rec_api_Rec_i6 : List Op1 := [(oE 14 (.bin .lss (.t 13) (.t 12)) [])]
def slices_Equal_sl_api_Rec_api_Rec_i7 : List Op1 := [(oM 15 (.t 13) []), (oM 5 (.t 15) [0, 0])]
def slices_Equal_sl_api_Rec_api_Rec_i8 : List Op1 := [(oM 16 (.t 0) []), (oM 17 (.t 5) []), (oE 18 (.ias 9 (.t 16) (.t 17)) [0, 1]), (oE 19 (.load true 9 (.t 18)) [2]), (oM 20 (.t 1) []), (oM 21 (.t 5) []), (oE 22 (.ias 9 (.t 20) (.t 21)) [4, 5]), (oE 23 (.load true 9 (.t 22)) [6]), (oE 24 (.eqa true [.int, .int, .bool, .bool, .bool, .bool, .bool, .bool, .bool] (.t 19) (.t 23)) [3, 7])]
def slices_Equal_sl_api_Rec_api_Rec_i9 : List Op1 := [(oM 4 (.k (.bool false)) [])]
def slices_Equal_sl_api_Rec_api_Rec_i10 : IR := .ret
def slices_Equal_sl_api_Rec_api_Rec_i11 : IR := (.cond (.t 24) (.seq (.reg false slices_Equal_sl_api_Rec_api_Rec_i9) slices_Equal_sl_api_Rec_api_Rec_i10) .skip)
def slices_Equal_sl_api_Rec_api_Rec_i12 : IR := (.seq (.reg true slices_Equal_sl_api_Rec_api_Rec_i8) slices_Equal_sl_api_Rec_api_Rec_i11)
def slices_Equal_sl_api_Rec_api_Rec_i13 : List Op1 := [(oE 25 (.bin .add (.t 13) (.k (.int .i64 1))) []), (oM 13 (.t 25) [0])]
def slices_Equal_sl_api_Rec_api_Rec_i14 : IR := (.reg false slices_Equal_sl_api_Rec_api_Rec_i13)
def slices_Equal_sl_api_Rec_api_Rec_i15 : IR := (.seq (.block 1 (.seq (.reg false slices_Equal_sl_api_Rec_api_Rec_i7) slices_Equal_sl_api_Rec_api_Rec_i12)) slices_Equal_sl_api_Rec_api_Rec_i14)
def slices_Equal_sl_api_Rec_api_Rec_i16 : IR := (.seq (.cond (.t 14) .skip (.exit 0)) slices_Equal_sl_api_Rec_api_Rec_i15)
def slices_Equal_sl_api_Rec_api_Rec_i17 : IR := (.seq (.reg false slices_Equal_sl_api_Rec_api_Rec_i6) slices_Equal_sl_api_Rec_api_Rec_i16)
def slices_Equal_sl_api_Rec_api_Rec_i18 : IR := (.block 0 (.loop slices_Equal_sl_api_Rec_api_Rec_i17))
def slices_Equal_sl_api_Rec_api_Rec_i19 : List Op1 := [(oM 4 (.k (.bool true)) [])]
def slices_Equal_sl_api_Rec_api_Rec_i20 : IR := .ret
def slices_Equal_sl_api_Rec_api_Rec_i21 : IR := (.seq (.reg false slices_Equal_sl_api_Rec_api_Rec_i19) slices_Equal_sl_api_Rec_api_Rec_i20)
def slices_Equal_sl_api_Rec_api_Rec_i22 : IR := (.seq (.seq (.reg false slices_Equal_sl_api_Rec_api_Rec_i5) slices_Equal_sl_api_Rec_api_Rec_i18) slices_Equal_sl_api_Rec_api_Rec_i21)
def slices_Equal_sl_api_Rec_api_Rec_i23 : IR := (.seq (.seq (.reg false slices_Equal_sl_api_Rec_api_Rec_i1) slices_Equal_sl_api_Rec_api_Rec_i4) slices_Equal_sl_api_Rec_api_Rec_i22)
def slices_Equal_sl_api_Rec_api_Rec_ir : IR := (.seq (.reg false slices_Equal_sl_api_Rec_api_Rec_i0) slices_Equal_sl_api_Rec_api_Rec_i23)
theorem slices_Equal_sl_api_Rec_api_Rec_cfn : cFn Try.prog 20 = some (slices_Equal_sl_api_Rec_api_Rec_ir, [(.t 4)], 26) := by kernel_rfl
def slices_Equal_sl_api_Rec_api_Rec_V (r : (Bool)) : V := .s (.bool r)
def slices_Equal_sl_api_Rec_api_Rec_C (r : (Bool)) : X → Fr → Hp → Prop := FinL [(.t 4)] [] (slices_Equal_sl_api_Rec_api_Rec_V r) []
theorem slices_Equal_sl_api_Rec_api_Rec_ok (s1_ : (List api_Rec)) (s2_ : (List api_Rec)) (r : (Bool)) (h : slices_Equal_sl_api_Rec_api_Rec s1_ s2_ = some r) : Pure Try.prog 20 [.sl false s1_.length (cat api_Rec.v s1_), .sl false s2_.length (cat api_Rec.v s2_)] (slices_Equal_sl_api_Rec_api_Rec_V r) := by
  refine ConL.of slices_Equal_sl_api_Rec_api_Rec_cfn (Nat.le_of_ble_eq_true (by kernel_rfl)) (Nat.le_of_ble_eq_true (by kernel_rfl)) ?_
  refine k_start ?_
  show dwv Try.prog [] slices_Equal_sl_api_Rec_api_Rec_ir (kont Try.prog [] (slices_Equal_sl_api_Rec_api_Rec_C r) []) (fr0 [.sl false s1_.length (cat api_Rec.v s1_), .sl false s2_.length (cat api_Rec.v s2_)]) []
  have hf : FOk (fr0 [.sl false s1_.length (cat api_Rec.v s1_), .sl false s2_.length (cat api_Rec.v s2_)]) [⟨0, [], .sl false s1_.length (cat api_Rec.v s1_)⟩, ⟨1, [], .sl false s2_.length (cat api_Rec.v s2_)⟩] := ⟨⟨fun _ => rfl, fun h => (h trivial).elim⟩, ⟨fun _ => rfl, fun h => (h trivial).elim⟩, trivial⟩
  generalize fr0 [.sl false s1_.length (cat api_Rec.v s1_), .sl false s2_.length (cat api_Rec.v s2_)] = f at hf ⊢
  unfold slices_Equal_sl_api_Rec_api_Rec at h
  refine k_seq ?_
  refine k_reg ?_
  refine mops_en hf (by kernel_rfl) fun f1 hf1 => ?_
  refine k_c ?_
  refine k_seq ?_
  refine k_seq ?_
  refine k_reg ?_
  refine mops_en hf1 (by kernel_rfl) fun f2 hf2 => ?_
  refine k_c ?_
  refine k_cond hf2 (t := ((ln s1_) != (ln s2_))) (by kernel_rfl) (fun hc1 => ?_) (fun hc1 => ?_)
  · have h := if_t h hc1
    refine k_seq ?_
    refine k_reg ?_
    refine mops_en hf2 (by kernel_rfl) fun f3 hf3 => ?_
    refine k_c ?_
    refine k_ret ?_
    refine x_c nofun ?_
    obtain rfl := Option.some.inj h
    exact k_fin (fin_ret (.inl rfl) hf3 (vs := [.s (.bool false)]) (by kernel_rfl) (SettL.pure (FzL.stat rfl)))
  · have h := if_f h hc1
    refine k_skip ?_
    refine k_c ?_
    refine k_seq ?_
    refine k_seq ?_
    refine k_reg ?_
    refine mops_en hf2 (by kernel_rfl) fun f3 hf3 => ?_
    refine k_c ?_
    refine k_block ?_
    obtain ⟨o0, hx0, h⟩ := Option.bind_eq_some_iff.1 h
    have hret0 : ∀ r0, .ret r0 = o0 → r0 = r := fun r0 e => by subst e; exact Option.some.inj h
    have hgo0 : .go () = o0 → ∀ f, FOk f [⟨4, [], .s (.bool false)⟩] → kont Try.prog [] (slices_Equal_sl_api_Rec_api_Rec_C r) ((.c slices_Equal_sl_api_Rec_api_Rec_i21) :: []) .normal f [] := by
      intro  e f hf
      subst e
      refine k_c ?_
      refine k_seq ?_
      refine k_reg ?_
      refine mops_en hf (by kernel_rfl) fun f1 hf1 => ?_
      refine k_c ?_
      refine k_ret ?_
      obtain rfl := Option.some.inj h
      exact k_fin (fin_ret (.inl rfl) hf1 (vs := [.s (.bool true)]) (by kernel_rfl) (SettL.pure (FzL.stat rfl)))
    refine k_loop BIG ?_
    refine loop_ind (fun n f L => ∃ (t_1 : Int), slices_Equal_sl_api_Rec_api_Rec_l0 s1_ s2_ n t_1 = some o0 ∧ FOk f [⟨0, [], .sl false s1_.length (cat api_Rec.v s1_)⟩, ⟨1, [], .sl false s2_.length (cat api_Rec.v s2_)⟩, ⟨4, [], .s (.bool false)⟩, ⟨12, [], .s (.int .i64 (ln s1_))⟩, ⟨13, [], .s (.int .i64 t_1)⟩] ∧ L = []) ?_ ?_ BIG _ _ ⟨(0), hx0, FOk_of [0, 1, 4, 12, 13] hf3 (by kernel_rfl), (by kernel_rfl)⟩
    · rintro f L ⟨t_1, h, _⟩
      cases (show (none : Option _) = some _ from h)
    · rintro n0 R0 ih f L ⟨t_1, h, hf, rfl⟩
      rw [slices_Equal_sl_api_Rec_api_Rec_l0] at h
      refine k_seq ?_
      refine k_reg ?_
      refine mops_en hf (by kernel_rfl) fun f1 hf1 => ?_
      refine k_c ?_
      refine k_seq ?_
      refine k_cond hf1 (t := (decide (t_1 < (ln s1_)))) (by kernel_rfl) (fun hc2 => ?_) (fun hc2 => ?_)
      · have h := if_t h hc2
        refine k_skip ?_
        refine k_c ?_
        refine k_seq ?_
        refine k_block ?_
        refine k_seq ?_
        refine k_reg ?_
        refine mops_en hf1 (by kernel_rfl) fun f2 hf2 => ?_
        refine k_c ?_
        refine k_seq ?_
        refine k_regq ?_
        refine mops_sg 2 hf2 (by kernel_rfl) fun f3 hf3 => ?_
        obtain ⟨c3, h⟩ := as_ok h
        refine mops_adv rfl (v := .ip ((cat api_Rec.v s1_).drop ((t_1 : Int).toNat * 9))) hf3 (by kernel_rfl) (e_ias (n := s1_.length) (xv := .sl false s1_.length (cat api_Rec.v s1_)) (k := .i64) (iv := t_1) (p := .ip ((cat api_Rec.v s1_).drop ((t_1 : Int).toNat * 9))) (by kernel_rfl) (by kernel_rfl) (by kernel_rfl) (by kernel_rfl) c3) fun f4 hf4 => ?_
        refine mops_adv rfl (v := .agg [.s (.int .u16 (gt s1_ t_1).Addr), .s (.int .u8 (gt s1_ t_1).Data), .s (.bool (gt s1_ t_1).Read), .s (.bool (gt s1_ t_1).BA), .s (.bool (gt s1_ t_1).BS), .s (.bool (gt s1_ t_1).LIC), .s (.bool (gt s1_ t_1).AVMA), .s (.bool (gt s1_ t_1).BUSY), .s (.bool (gt s1_ t_1).Mine)]) hf4 (by kernel_rfl) (e_load_ip (g := api_Rec.v) (l := s1_) (iv := t_1) [] (by kernel_rfl) c3 (by kernel_rfl) (by kernel_rfl)) fun f5 hf5 => ?_
        refine mops_sg 2 hf5 (by kernel_rfl) fun f6 hf6 => ?_
        obtain ⟨c4, h⟩ := as_ok h
        refine mops_adv rfl (v := .ip ((cat api_Rec.v s2_).drop ((t_1 : Int).toNat * 9))) hf6 (by kernel_rfl) (e_ias (n := s2_.length) (xv := .sl false s2_.length (cat api_Rec.v s2_)) (k := .i64) (iv := t_1) (p := .ip ((cat api_Rec.v s2_).drop ((t_1 : Int).toNat * 9))) (by kernel_rfl) (by kernel_rfl) (by kernel_rfl) (by kernel_rfl) c4) fun f7 hf7 => ?_
        refine mops_adv rfl (v := .agg [.s (.int .u16 (gt s2_ t_1).Addr), .s (.int .u8 (gt s2_ t_1).Data), .s (.bool (gt s2_ t_1).Read), .s (.bool (gt s2_ t_1).BA), .s (.bool (gt s2_ t_1).BS), .s (.bool (gt s2_ t_1).LIC), .s (.bool (gt s2_ t_1).AVMA), .s (.bool (gt s2_ t_1).BUSY), .s (.bool (gt s2_ t_1).Mine)]) hf7 (by kernel_rfl) (e_load_ip (g := api_Rec.v) (l := s2_) (iv := t_1) [] (by kernel_rfl) c4 (by kernel_rfl) (by kernel_rfl)) fun f8 hf8 => ?_
        refine mops_en hf8 (by kernel_rfl) fun f9 hf9 => ?_
        refine k_c ?_
        refine k_cond hf9 (t := (!(((gt s1_ t_1).Addr == (gt s2_ t_1).Addr) && (((gt s1_ t_1).Data == (gt s2_ t_1).Data) && (((gt s1_ t_1).Read == (gt s2_ t_1).Read) && (((gt s1_ t_1).BA == (gt s2_ t_1).BA) && (((gt s1_ t_1).BS == (gt s2_ t_1).BS) && (((gt s1_ t_1).LIC == (gt s2_ t_1).LIC) && (((gt s1_ t_1).AVMA == (gt s2_ t_1).AVMA) && (((gt s1_ t_1).BUSY == (gt s2_ t_1).BUSY) && (((gt s1_ t_1).Mine == (gt s2_ t_1).Mine) && true))))))))))) (by kernel_rfl) (fun hc5 => ?_) (fun hc5 => ?_)
        · have h := if_t h hc5
          refine k_seq ?_
          refine k_reg ?_
          refine mops_en hf9 (by kernel_rfl) fun f10 hf10 => ?_
          refine k_c ?_
          refine k_ret ?_
          refine x_br ?_
          refine x_c nofun ?_
          refine x_l nofun ?_
          refine x_br ?_
          refine x_c nofun ?_
          obtain rfl := hret0 _ (Option.some.inj h)
          exact k_fin (fin_ret (.inl rfl) hf10 (vs := [.s (.bool false)]) (by kernel_rfl) (SettL.pure (FzL.stat rfl)))
        · have h := if_f h hc5
          refine k_skip ?_
          refine k_b ?_
          refine k_c ?_
          refine k_reg ?_
          refine mops_en hf9 (by kernel_rfl) fun f10 hf10 => ?_
          refine k_l ?_
          exact ih _ _ ⟨(IntKind.wrap .i64 (t_1 + 1)), h, FOk_of [0, 1, 4, 12, 13] hf10 (by kernel_rfl), (by kernel_rfl)⟩
      · have h := if_f h hc2
        refine k_exit ?_
        refine x_c nofun ?_
        refine x_l nofun ?_
        refine x_b ?_
        refine k_hp (L' := []) (by kernel_rfl) ?_
        exact hgo0  (Option.some.inj h) _ (FOk_of [4] hf1 (by kernel_rfl))
def slice_Part_Start_i0 : List Op1 := [(oE 1 (.box (.t 0)) []), (oM 2 (.k (.int .u16 0)) []), (oM 3 (.k (.bool false)) [1])]
def slice_Part_Start_i1 : List Op1 := [(oE 6 (.fld 0 (.t 1)) []), (oE 7 (.load false 1 (.t 6)) [0]), (oE 8 (.len (.t 7)) [1]), (oM 9 (.k (.int .i64 0)) [])]
def slice_Part_Start_i2 : List Op1 := [(oE 10 (.bin .lss (.t 9) (.t 8)) [])]
def slice_Part_Start_i3 : List Op1 := [(oE 11 (.ias 9 (.t 7) (.t 9)) []), (oE 12 (.load true 9 (.t 11)) [0]), (oE 5 (.zero [(.int .u16 0), (.int .u8 0), (.bool false), (.bool false), (.bool false), (.bool false), (.bool false), (.bool false), (.bool false)]) []), (oN (.store 9 (.t 5) (.t 12)) [2, 1, 0, 1, 2])]
def slice_Part_Start_i4 : List Op1 := [(oE 13 (.fld 8 (.t 5)) []), (oE 14 (.load false 1 (.t 13)) [0])]
def slice_Part_Start_i5 : List Op1 := [(oE 15 (.fld 0 (.t 5)) []), (oE 16 (.load false 1 (.t 15)) [0]), (oM 2 (.t 16) [1, 0, 1]), (oM 3 (.k (.bool true)) [2, 0, 1, 2])]
def slice_Part_Start_i6 : IR := .ret
def slice_Part_Start_i7 : IR := (.cond (.t 14) (.seq (.reg false slice_Part_Start_i5) slice_Part_Start_i6) .skip)
def slice_Part_Start_i8 : IR := (.seq (.reg false slice_Part_Start_i4) slice_Part_Start_i7)
def slice_Part_Start_i9 : List Op1 := [(oE 17 (.bin .add (.t 9) (.k (.int .i64 1))) []), (oM 9 (.t 17) [0])]
def slice_Part_Start_i10 : IR := (.reg false slice_Part_Start_i9)
def slice_Part_Start_i11 : IR := (.seq (.block 1 (.seq (.reg false slice_Part_Start_i3) slice_Part_Start_i8)) slice_Part_Start_i10)
def slice_Part_Start_i12 : IR := (.seq (.cond (.t 10) .skip (.exit 0)) slice_Part_Start_i11)
def slice_Part_Start_i13 : IR := (.seq (.reg false slice_Part_Start_i2) slice_Part_Start_i12)
def slice_Part_Start_i14 : IR := (.block 0 (.loop slice_Part_Start_i13))
def slice_Part_Start_i15 : List Op1 := [(oM 2 (.k (.int .u16 0)) []), (oM 3 (.k (.bool false)) [0, 0])]
def slice_Part_Start_i16 : IR := .ret
def slice_Part_Start_i17 : IR := (.seq (.reg false slice_Part_Start_i15) slice_Part_Start_i16)
def slice_Part_Start_i18 : IR := (.seq (.seq (.reg false slice_Part_Start_i1) slice_Part_Start_i14) slice_Part_Start_i17)
def slice_Part_Start_ir : IR := (.seq (.reg false slice_Part_Start_i0) slice_Part_Start_i18)
theorem slice_Part_Start_cfn : cFn Try.prog 38 = some (slice_Part_Start_ir, [(.t 2), (.t 3)], 18) := by kernel_rfl
def slice_Part_Start_V (r : (Int × Bool)) : V := .tup [.s (.int .u16 r.1), .s (.bool r.2)]
def slice_Part_Start_C (r : (Int × Bool)) : X → Fr → Hp → Prop := FinL [(.t 2), (.t 3)] [] (slice_Part_Start_V r) []
theorem slice_Part_Start_ok (p_ : slice_Part) (r : (Int × Bool)) (h : slice_Part_Start p_ = some r) : Pure Try.prog 38 [.agg [.sl false p_.Recs.length (cat api_Rec.v p_.Recs), .s (.bool p_.Ended)]] (slice_Part_Start_V r) := by
  refine ConL.of slice_Part_Start_cfn (Nat.le_of_ble_eq_true (by kernel_rfl)) (Nat.le_of_ble_eq_true (by kernel_rfl)) ?_
  refine k_start ?_
  show dwv Try.prog [] slice_Part_Start_ir (kont Try.prog [] (slice_Part_Start_C r) []) (fr0 [.agg [.sl false p_.Recs.length (cat api_Rec.v p_.Recs), .s (.bool p_.Ended)]]) []
  have hf : FOk (fr0 [.agg [.sl false p_.Recs.length (cat api_Rec.v p_.Recs), .s (.bool p_.Ended)]]) [⟨0, [], .agg [.sl false p_.Recs.length (cat api_Rec.v p_.Recs), .s (.bool p_.Ended)]⟩] := ⟨⟨fun _ => rfl, fun h => (h trivial).elim⟩, trivial⟩
  generalize fr0 [.agg [.sl false p_.Recs.length (cat api_Rec.v p_.Recs), .s (.bool p_.Ended)]] = f at hf ⊢
  unfold slice_Part_Start at h
  refine k_seq ?_
  refine k_reg ?_
  refine mops_en hf (by kernel_rfl) fun f1 hf1 => ?_
  refine k_c ?_
  refine k_seq ?_
  refine k_seq ?_
  refine k_reg ?_
  refine mops_en hf1 (by kernel_rfl) fun f2 hf2 => ?_
  refine k_c ?_
  refine k_block ?_
  obtain ⟨o0, hx0, h⟩ := Option.bind_eq_some_iff.1 h
  have hret0 : ∀ r0, .ret r0 = o0 → r0 = r := fun r0 e => by subst e; exact Option.some.inj h
  have hgo0 : .go () = o0 → ∀ f, FOk f [⟨2, [], .s (.int .u16 0)⟩, ⟨3, [], .s (.bool false)⟩] → kont Try.prog [] (slice_Part_Start_C r) ((.c slice_Part_Start_i17) :: []) .normal f [⟨0, .mem, 1, [.sl false p_.Recs.length (cat api_Rec.v p_.Recs), .s (.bool p_.Ended)]⟩] := by
    intro  e f hf
    subst e
    refine k_c ?_
    refine k_seq ?_
    refine k_reg ?_
    refine mops_en hf (by kernel_rfl) fun f1 hf1 => ?_
    refine k_c ?_
    refine k_ret ?_
    obtain rfl := Option.some.inj h
    exact k_fin (fin_ret (.inl rfl) hf1 (vs := [.s (.int .u16 0), .s (.bool false)]) (by kernel_rfl) (SettL.pure (FzL.tup (FzsL.cons (FzL.stat rfl) (FzsL.cons (FzL.stat rfl) FzsL.nil)))))
  refine k_loop BIG ?_
  refine loop_ind (fun n f L => ∃ (t_1 : Int), slice_Part_Start_l0 p_ n t_1 = some o0 ∧ FOk f [⟨2, [], .s (.int .u16 0)⟩, ⟨3, [], .s (.bool false)⟩, ⟨7, [], .sl false p_.Recs.length (cat api_Rec.v p_.Recs)⟩, ⟨8, [], .s (.int .i64 (ln p_.Recs))⟩, ⟨9, [], .s (.int .i64 t_1)⟩] ∧ L = [⟨0, .mem, 1, [.sl false p_.Recs.length (cat api_Rec.v p_.Recs), .s (.bool p_.Ended)]⟩]) ?_ ?_ BIG _ _ ⟨(0), hx0, FOk_of [2, 3, 7, 8, 9] hf2 (by kernel_rfl), (by kernel_rfl)⟩
  · rintro f L ⟨t_1, h, _⟩
    cases (show (none : Option _) = some _ from h)
  · rintro n0 R0 ih f L ⟨t_1, h, hf, rfl⟩
    rw [slice_Part_Start_l0] at h
    refine k_seq ?_
    refine k_reg ?_
    refine mops_en hf (by kernel_rfl) fun f1 hf1 => ?_
    refine k_c ?_
    refine k_seq ?_
    refine k_cond hf1 (t := (decide (t_1 < (ln p_.Recs)))) (by kernel_rfl) (fun hc1 => ?_) (fun hc1 => ?_)
    · have h := if_t h hc1
      refine k_skip ?_
      refine k_c ?_
      refine k_seq ?_
      refine k_block ?_
      refine k_seq ?_
      refine k_reg ?_
      obtain ⟨c2, h⟩ := as_ok h
      refine mops_adv rfl (v := .ip ((cat api_Rec.v p_.Recs).drop ((t_1 : Int).toNat * 9))) hf1 (by kernel_rfl) (e_ias (n := p_.Recs.length) (xv := .sl false p_.Recs.length (cat api_Rec.v p_.Recs)) (k := .i64) (iv := t_1) (p := .ip ((cat api_Rec.v p_.Recs).drop ((t_1 : Int).toNat * 9))) (by kernel_rfl) (by kernel_rfl) (by kernel_rfl) (by kernel_rfl) c2) fun f2 hf2 => ?_
      refine mops_adv rfl (v := .agg [.s (.int .u16 (gt p_.Recs t_1).Addr), .s (.int .u8 (gt p_.Recs t_1).Data), .s (.bool (gt p_.Recs t_1).Read), .s (.bool (gt p_.Recs t_1).BA), .s (.bool (gt p_.Recs t_1).BS), .s (.bool (gt p_.Recs t_1).LIC), .s (.bool (gt p_.Recs t_1).AVMA), .s (.bool (gt p_.Recs t_1).BUSY), .s (.bool (gt p_.Recs t_1).Mine)]) hf2 (by kernel_rfl) (e_load_ip (g := api_Rec.v) (l := p_.Recs) (iv := t_1) [] (by kernel_rfl) c2 (by kernel_rfl) (by kernel_rfl)) fun f3 hf3 => ?_
      refine mops_en hf3 (by kernel_rfl) fun f4 hf4 => ?_
      refine k_c ?_
      refine k_seq ?_
      refine k_reg ?_
      refine mops_en hf4 (by kernel_rfl) fun f5 hf5 => ?_
      refine k_c ?_
      refine k_cond hf5 (t := (gt p_.Recs t_1).Mine) (by kernel_rfl) (fun hc3 => ?_) (fun hc3 => ?_)
      · have h := if_t h hc3
        refine k_seq ?_
        refine k_reg ?_
        refine mops_en hf5 (by kernel_rfl) fun f6 hf6 => ?_
        refine k_c ?_
        refine k_ret ?_
        refine x_br ?_
        refine x_c nofun ?_
        refine x_l nofun ?_
        refine x_br ?_
        refine x_c nofun ?_
        obtain rfl := hret0 _ (Option.some.inj h)
        exact k_fin (fin_ret (.inl rfl) hf6 (vs := [.s (.int .u16 (gt p_.Recs t_1).Addr), .s (.bool true)]) (by kernel_rfl) (SettL.pure (FzL.tup (FzsL.cons (FzL.stat rfl) (FzsL.cons (FzL.stat rfl) FzsL.nil)))))
      · have h := if_f h hc3
        refine k_skip ?_
        refine k_b ?_
        refine k_c ?_
        refine k_reg ?_
        refine mops_en hf5 (by kernel_rfl) fun f6 hf6 => ?_
        refine k_l' (vs_cut (l := [⟨2, [], .s (.int .u16 0)⟩, ⟨3, [], .s (.bool false)⟩, ⟨7, [], .sl false p_.Recs.length (cat api_Rec.v p_.Recs)⟩, ⟨8, [], .s (.int .i64 (ln p_.Recs))⟩, ⟨9, [], .s (.int .i64 (IntKind.wrap .i64 (t_1 + 1)))⟩]) 1 (by kernel_rfl) (by kernel_rfl) (L' := [⟨0, .mem, 1, [.sl false p_.Recs.length (cat api_Rec.v p_.Recs), .s (.bool p_.Ended)]⟩]) (by kernel_rfl) ⟨⟨rfl, rfl⟩, ⟨rfl, rfl⟩, ⟨rfl, (static_under _ _ (by simp [V.static, statics, cat_stat, dropcat_stat]))⟩, ⟨rfl, rfl⟩, ⟨rfl, rfl⟩, trivial⟩ ⟨.inr (.inr (statics_unders _ _ (by simp [V.static, statics, cat_stat, dropcat_stat]))), trivial⟩ (FOk_of [2, 3, 7, 8, 9] hf6 (by kernel_rfl)) fun f hf => ?_)
        exact ih _ _ ⟨(IntKind.wrap .i64 (t_1 + 1)), h, hf, rfl⟩
    · have h := if_f h hc1
      refine k_exit ?_
      refine x_c nofun ?_
      refine x_l nofun ?_
      refine x_b ?_
      refine k_hp (L' := [⟨0, .mem, 1, [.sl false p_.Recs.length (cat api_Rec.v p_.Recs), .s (.bool p_.Ended)]⟩]) (by kernel_rfl) ?_
      exact hgo0  (Option.some.inj h) _ (FOk_of [2, 3] hf1 (by kernel_rfl))
def slice_Part_Vector_i0 : List Op1 := [(oE 1 (.box (.t 0)) []), (oM 2 (.k (.int .u16 0)) []), (oM 3 (.k (.bool false)) [1])]
def slice_Part_Vector_i1 : List Op1 := [(oE 6 (.fld 0 (.t 1)) []), (oE 7 (.load false 1 (.t 6)) [0]), (oE 8 (.len (.t 7)) [1]), (oM 9 (.k (.int .i64 0)) [])]
def slice_Part_Vector_i2 : List Op1 := [(oE 10 (.bin .lss (.t 9) (.t 8)) [])]
def slice_Part_Vector_i3 : List Op1 := [(oE 11 (.ias 9 (.t 7) (.t 9)) []), (oE 12 (.load true 9 (.t 11)) [0]), (oE 5 (.zero [(.int .u16 0), (.int .u8 0), (.bool false), (.bool false), (.bool false), (.bool false), (.bool false), (.bool false), (.bool false)]) []), (oN (.store 9 (.t 5) (.t 12)) [2, 1, 0, 1, 2])]
def slice_Part_Vector_i4 : List Op1 := [(oE 13 (.fld 8 (.t 5)) []), (oE 14 (.load false 1 (.t 13)) [0]), (oM 15 (.t 14) [1]), (oG 16 (.fld 4 (.t 5)) 15 true [2]), (oG 17 (.load false 1 (.t 16)) 15 true [3, 2]), (oE 18 (.pick (.t 15) (.t 17) (.k (.bool false))) [2, 4]), (oM 19 (.t 18) [5, 2]), (oG 20 (.fld 3 (.t 5)) 19 true [6]), (oG 21 (.load false 1 (.t 20)) 19 true [7, 6]), (oG 22 (.un .not (.t 21)) 19 true [8, 6]), (oE 23 (.pick (.t 19) (.t 22) (.k (.bool false))) [6, 9])]
def slice_Part_Vector_i5 : List Op1 := [(oE 24 (.fld 0 (.t 5)) []), (oE 25 (.load false 1 (.t 24)) [0]), (oM 2 (.t 25) [1, 0, 1]), (oM 3 (.k (.bool true)) [2, 0, 1, 2])]
def slice_Part_Vector_i6 : IR := .ret
def slice_Part_Vector_i7 : IR := (.cond (.t 23) (.seq (.reg false slice_Part_Vector_i5) slice_Part_Vector_i6) .skip)
def slice_Part_Vector_i8 : IR := (.seq (.reg false slice_Part_Vector_i4) slice_Part_Vector_i7)
def slice_Part_Vector_i9 : List Op1 := [(oE 26 (.bin .add (.t 9) (.k (.int .i64 1))) []), (oM 9 (.t 26) [0])]
def slice_Part_Vector_i10 : IR := (.reg false slice_Part_Vector_i9)
def slice_Part_Vector_i11 : IR := (.seq (.block 1 (.seq (.reg false slice_Part_Vector_i3) slice_Part_Vector_i8)) slice_Part_Vector_i10)
def slice_Part_Vector_i12 : IR := (.seq (.cond (.t 10) .skip (.exit 0)) slice_Part_Vector_i11)
def slice_Part_Vector_i13 : IR := (.seq (.reg false slice_Part_Vector_i2) slice_Part_Vector_i12)
def slice_Part_Vector_i14 : IR := (.block 0 (.loop slice_Part_Vector_i13))
def slice_Part_Vector_i15 : List Op1 := [(oM 2 (.k (.int .u16 0)) []), (oM 3 (.k (.bool false)) [0, 0])]
def slice_Part_Vector_i16 : IR := .ret
def slice_Part_Vector_i17 : IR := (.seq (.reg false slice_Part_Vector_i15) slice_Part_Vector_i16)
def slice_Part_Vector_i18 : IR := (.seq (.seq (.reg false slice_Part_Vector_i1) slice_Part_Vector_i14) slice_Part_Vector_i17)
def slice_Part_Vector_ir : IR := (.seq (.reg false slice_Part_Vector_i0) slice_Part_Vector_i18)
theorem slice_Part_Vector_cfn : cFn Try.prog 39 = some (slice_Part_Vector_ir, [(.t 2), (.t 3)], 27) := by kernel_rfl
def slice_Part_Vector_V (r : (Int × Bool)) : V := .tup [.s (.int .u16 r.1), .s (.bool r.2)]
def slice_Part_Vector_C (r : (Int × Bool)) : X → Fr → Hp → Prop := FinL [(.t 2), (.t 3)] [] (slice_Part_Vector_V r) []
theorem slice_Part_Vector_ok (p_ : slice_Part) (r : (Int × Bool)) (h : slice_Part_Vector p_ = some r) : Pure Try.prog 39 [.agg [.sl false p_.Recs.length (cat api_Rec.v p_.Recs), .s (.bool p_.Ended)]] (slice_Part_Vector_V r) := by
  refine ConL.of slice_Part_Vector_cfn (Nat.le_of_ble_eq_true (by kernel_rfl)) (Nat.le_of_ble_eq_true (by kernel_rfl)) ?_
  refine k_start ?_
  show dwv Try.prog [] slice_Part_Vector_ir (kont Try.prog [] (slice_Part_Vector_C r) []) (fr0 [.agg [.sl false p_.Recs.length (cat api_Rec.v p_.Recs), .s (.bool p_.Ended)]]) []
  have hf : FOk (fr0 [.agg [.sl false p_.Recs.length (cat api_Rec.v p_.Recs), .s (.bool p_.Ended)]]) [⟨0, [], .agg [.sl false p_.Recs.length (cat api_Rec.v p_.Recs), .s (.bool p_.Ended)]⟩] := ⟨⟨fun _ => rfl, fun h => (h trivial).elim⟩, trivial⟩
  generalize fr0 [.agg [.sl false p_.Recs.length (cat api_Rec.v p_.Recs), .s (.bool p_.Ended)]] = f at hf ⊢
  unfold slice_Part_Vector at h
  refine k_seq ?_
  refine k_reg ?_
  refine mops_en hf (by kernel_rfl) fun f1 hf1 => ?_
  refine k_c ?_
  refine k_seq ?_
  refine k_seq ?_
  refine k_reg ?_
  refine mops_en hf1 (by kernel_rfl) fun f2 hf2 => ?_
  refine k_c ?_
  refine k_block ?_
  obtain ⟨o0, hx0, h⟩ := Option.bind_eq_some_iff.1 h
  have hret0 : ∀ r0, .ret r0 = o0 → r0 = r := fun r0 e => by subst e; exact Option.some.inj h
  have hgo0 : .go () = o0 → ∀ f, FOk f [⟨2, [], .s (.int .u16 0)⟩, ⟨3, [], .s (.bool false)⟩] → kont Try.prog [] (slice_Part_Vector_C r) ((.c slice_Part_Vector_i17) :: []) .normal f [⟨0, .mem, 1, [.sl false p_.Recs.length (cat api_Rec.v p_.Recs), .s (.bool p_.Ended)]⟩] := by
    intro  e f hf
    subst e
    refine k_c ?_
    refine k_seq ?_
    refine k_reg ?_
    refine mops_en hf (by kernel_rfl) fun f1 hf1 => ?_
    refine k_c ?_
    refine k_ret ?_
    obtain rfl := Option.some.inj h
    exact k_fin (fin_ret (.inl rfl) hf1 (vs := [.s (.int .u16 0), .s (.bool false)]) (by kernel_rfl) (SettL.pure (FzL.tup (FzsL.cons (FzL.stat rfl) (FzsL.cons (FzL.stat rfl) FzsL.nil)))))
  refine k_loop BIG ?_
  refine loop_ind (fun n f L => ∃ (t_1 : Int), slice_Part_Vector_l0 p_ n t_1 = some o0 ∧ FOk f [⟨2, [], .s (.int .u16 0)⟩, ⟨3, [], .s (.bool false)⟩, ⟨7, [], .sl false p_.Recs.length (cat api_Rec.v p_.Recs)⟩, ⟨8, [], .s (.int .i64 (ln p_.Recs))⟩, ⟨9, [], .s (.int .i64 t_1)⟩] ∧ L = [⟨0, .mem, 1, [.sl false p_.Recs.length (cat api_Rec.v p_.Recs), .s (.bool p_.Ended)]⟩]) ?_ ?_ BIG _ _ ⟨(0), hx0, FOk_of [2, 3, 7, 8, 9] hf2 (by kernel_rfl), (by kernel_rfl)⟩
  · rintro f L ⟨t_1, h, _⟩
    cases (show (none : Option _) = some _ from h)
  · rintro n0 R0 ih f L ⟨t_1, h, hf, rfl⟩
    rw [slice_Part_Vector_l0] at h
    refine k_seq ?_
    refine k_reg ?_
    refine mops_en hf (by kernel_rfl) fun f1 hf1 => ?_
    refine k_c ?_
    refine k_seq ?_
    refine k_cond hf1 (t := (decide (t_1 < (ln p_.Recs)))) (by kernel_rfl) (fun hc1 => ?_) (fun hc1 => ?_)
    · have h := if_t h hc1
      refine k_skip ?_
      refine k_c ?_
      refine k_seq ?_
      refine k_block ?_
      refine k_seq ?_
      refine k_reg ?_
      obtain ⟨c2, h⟩ := as_ok h
      refine mops_adv rfl (v := .ip ((cat api_Rec.v p_.Recs).drop ((t_1 : Int).toNat * 9))) hf1 (by kernel_rfl) (e_ias (n := p_.Recs.length) (xv := .sl false p_.Recs.length (cat api_Rec.v p_.Recs)) (k := .i64) (iv := t_1) (p := .ip ((cat api_Rec.v p_.Recs).drop ((t_1 : Int).toNat * 9))) (by kernel_rfl) (by kernel_rfl) (by kernel_rfl) (by kernel_rfl) c2) fun f2 hf2 => ?_
      refine mops_adv rfl (v := .agg [.s (.int .u16 (gt p_.Recs t_1).Addr), .s (.int .u8 (gt p_.Recs t_1).Data), .s (.bool (gt p_.Recs t_1).Read), .s (.bool (gt p_.Recs t_1).BA), .s (.bool (gt p_.Recs t_1).BS), .s (.bool (gt p_.Recs t_1).LIC), .s (.bool (gt p_.Recs t_1).AVMA), .s (.bool (gt p_.Recs t_1).BUSY), .s (.bool (gt p_.Recs t_1).Mine)]) hf2 (by kernel_rfl) (e_load_ip (g := api_Rec.v) (l := p_.Recs) (iv := t_1) [] (by kernel_rfl) c2 (by kernel_rfl) (by kernel_rfl)) fun f3 hf3 => ?_
      refine mops_en hf3 (by kernel_rfl) fun f4 hf4 => ?_
      refine k_c ?_
      refine k_seq ?_
      refine k_reg ?_
      refine mops_en hf4 (by kernel_rfl) fun f5 hf5 => ?_
      refine k_c ?_
      refine k_cond hf5 (t := (((gt p_.Recs t_1).Mine && (gt p_.Recs t_1).BS) && (!(gt p_.Recs t_1).BA))) (by kernel_rfl) (fun hc3 => ?_) (fun hc3 => ?_)
      · have h := if_t h hc3
        refine k_seq ?_
        refine k_reg ?_
        refine mops_en hf5 (by kernel_rfl) fun f6 hf6 => ?_
        refine k_c ?_
        refine k_ret ?_
        refine x_br ?_
        refine x_c nofun ?_
        refine x_l nofun ?_
        refine x_br ?_
        refine x_c nofun ?_
        obtain rfl := hret0 _ (Option.some.inj h)
        exact k_fin (fin_ret (.inl rfl) hf6 (vs := [.s (.int .u16 (gt p_.Recs t_1).Addr), .s (.bool true)]) (by kernel_rfl) (SettL.pure (FzL.tup (FzsL.cons (FzL.stat rfl) (FzsL.cons (FzL.stat rfl) FzsL.nil)))))
      · have h := if_f h hc3
        refine k_skip ?_
        refine k_b ?_
        refine k_c ?_
        refine k_reg ?_
        refine mops_en hf5 (by kernel_rfl) fun f6 hf6 => ?_
        refine k_l' (vs_cut (l := [⟨2, [], .s (.int .u16 0)⟩, ⟨3, [], .s (.bool false)⟩, ⟨7, [], .sl false p_.Recs.length (cat api_Rec.v p_.Recs)⟩, ⟨8, [], .s (.int .i64 (ln p_.Recs))⟩, ⟨9, [], .s (.int .i64 (IntKind.wrap .i64 (t_1 + 1)))⟩]) 1 (by kernel_rfl) (by kernel_rfl) (L' := [⟨0, .mem, 1, [.sl false p_.Recs.length (cat api_Rec.v p_.Recs), .s (.bool p_.Ended)]⟩]) (by kernel_rfl) ⟨⟨rfl, rfl⟩, ⟨rfl, rfl⟩, ⟨rfl, (static_under _ _ (by simp [V.static, statics, cat_stat, dropcat_stat]))⟩, ⟨rfl, rfl⟩, ⟨rfl, rfl⟩, trivial⟩ ⟨.inr (.inr (statics_unders _ _ (by simp [V.static, statics, cat_stat, dropcat_stat]))), trivial⟩ (FOk_of [2, 3, 7, 8, 9] hf6 (by kernel_rfl)) fun f hf => ?_)
        exact ih _ _ ⟨(IntKind.wrap .i64 (t_1 + 1)), h, hf, rfl⟩
    · have h := if_f h hc1
      refine k_exit ?_
      refine x_c nofun ?_
      refine x_l nofun ?_
      refine x_b ?_
      refine k_hp (L' := [⟨0, .mem, 1, [.sl false p_.Recs.length (cat api_Rec.v p_.Recs), .s (.bool p_.Ended)]⟩]) (by kernel_rfl) ?_
      exact hgo0  (Option.some.inj h) _ (FOk_of [2, 3] hf1 (by kernel_rfl))
def digit_sign_i0 : List Op1 := [(oM 2 (.k (.int .u8 0)) [])]
def digit_sign_i1 : List Op1 := [(oM 3 (.t 0) []), (oE 4 (.bin .lss (.t 3) (.k (.int .u8 10))) [0])]
def digit_sign_i2 : List Op1 := [(oM 5 (.t 0) []), (oE 6 (.bin .add (.k (.int .u8 48)) (.t 5)) [0]), (oM 2 (.t 6) [1, 0, 1])]
def digit_sign_i3 : IR := .ret
def digit_sign_i4 : IR := (.cond (.t 4) (.seq (.reg false digit_sign_i2) digit_sign_i3) .skip)
def digit_sign_i5 : List Op1 := [(oM 7 (.t 0) []), (oE 8 (.bin .add (.k (.int .u8 65)) (.t 7)) [0]), (oE 9 (.bin .sub (.t 8) (.k (.int .u8 10))) [1]), (oM 2 (.t 9) [2, 0, 1, 2])]
def digit_sign_i6 : IR := .ret
def digit_sign_i7 : IR := (.seq (.reg false digit_sign_i5) digit_sign_i6)
def digit_sign_i8 : IR := (.seq (.seq (.reg false digit_sign_i1) digit_sign_i4) digit_sign_i7)
def digit_sign_ir : IR := (.seq (.reg false digit_sign_i0) digit_sign_i8)
theorem digit_sign_cfn : cFn Try.prog 50 = some (digit_sign_ir, [(.t 2)], 10) := by kernel_rfl
def digit_sign_V (r : (Int)) : V := .s (.int .u8 r)
def digit_sign_C (r : (Int)) : X → Fr → Hp → Prop := FinL [(.t 2)] [] (digit_sign_V r) []
theorem digit_sign_ok (n_ : Int) (r : (Int)) (h : digit_sign n_ = some r) : Pure Try.prog 50 [.s (.int .u8 n_)] (digit_sign_V r) := by
  refine ConL.of digit_sign_cfn (Nat.le_of_ble_eq_true (by kernel_rfl)) (Nat.le_of_ble_eq_true (by kernel_rfl)) ?_
  refine k_start ?_
  show dwv Try.prog [] digit_sign_ir (kont Try.prog [] (digit_sign_C r) []) (fr0 [.s (.int .u8 n_)]) []
  have hf : FOk (fr0 [.s (.int .u8 n_)]) [⟨0, [], .s (.int .u8 n_)⟩] := ⟨⟨fun _ => rfl, fun h => (h trivial).elim⟩, trivial⟩
  generalize fr0 [.s (.int .u8 n_)] = f at hf ⊢
  unfold digit_sign at h
  refine k_seq ?_
  refine k_reg ?_
  refine mops_en hf (by kernel_rfl) fun f1 hf1 => ?_
  refine k_c ?_
  refine k_seq ?_
  refine k_seq ?_
  refine k_reg ?_
  refine mops_en hf1 (by kernel_rfl) fun f2 hf2 => ?_
  refine k_c ?_
  refine k_cond hf2 (t := (decide (n_ < 10))) (by kernel_rfl) (fun hc1 => ?_) (fun hc1 => ?_)
  · have h := if_t h hc1
    refine k_seq ?_
    refine k_reg ?_
    refine mops_en hf2 (by kernel_rfl) fun f3 hf3 => ?_
    refine k_c ?_
    refine k_ret ?_
    refine x_c nofun ?_
    obtain rfl := Option.some.inj h
    exact k_fin (fin_ret (.inl rfl) hf3 (vs := [.s (.int .u8 (IntKind.wrap .u8 (48 + n_)))]) (by kernel_rfl) (SettL.pure (FzL.stat rfl)))
  · have h := if_f h hc1
    refine k_skip ?_
    refine k_c ?_
    refine k_seq ?_
    refine k_reg ?_
    refine mops_en hf2 (by kernel_rfl) fun f3 hf3 => ?_
    refine k_c ?_
    refine k_ret ?_
    obtain rfl := Option.some.inj h
    exact k_fin (fin_ret (.inl rfl) hf3 (vs := [.s (.int .u8 (IntKind.wrap .u8 ((IntKind.wrap .u8 (65 + n_)) - 10)))]) (by kernel_rfl) (SettL.pure (FzL.stat rfl)))
def record_lines_i0 : List Op1 := [(oE 1 (.box (.t 0)) []), (oE 2 (.zero [(.bool false), (.bool false), (.bool false), (.bool false), (.bool false), (.bool false), (.bool false)]) [])]
def record_lines_i1 : List Op1 := [(oE 3 (.fld 2 (.t 1)) []), (oE 4 (.load false 1 (.t 3)) [0]), (oE 5 (.fld 3 (.t 1)) []), (oE 6 (.load false 1 (.t 5)) [2]), (oE 7 (.fld 4 (.t 1)) []), (oE 8 (.load false 1 (.t 7)) [4]), (oE 9 (.fld 5 (.t 1)) []), (oE 10 (.load false 1 (.t 9)) [6]), (oE 11 (.fld 6 (.t 1)) []), (oE 12 (.load false 1 (.t 11)) [8]), (oE 13 (.fld 7 (.t 1)) []), (oE 14 (.load false 1 (.t 13)) [10]), (oE 15 (.fld 8 (.t 1)) []), (oE 16 (.load false 1 (.t 15)) [12]), (oE 17 (.build [(.bool false), (.bool false), (.bool false), (.bool false), (.bool false), (.bool false), (.bool false)] [(0, (1, (.t 4))), (1, (1, (.t 6))), (2, (1, (.t 8))), (3, (1, (.t 10))), (4, (1, (.t 12))), (5, (1, (.t 14))), (6, (1, (.t 16)))]) [1, 3, 5, 7, 9, 11, 13]), (oN (.store 7 (.t 2) (.t 17)) [14, 0, 1, 2, 3, 4, 5, 6, 7, 8, 9, 10, 11, 12, 13, 14])]
def record_lines_i2 : IR := .ret
def record_lines_i3 : IR := (.seq (.reg false record_lines_i1) record_lines_i2)
def record_lines_ir : IR := (.seq (.reg false record_lines_i0) record_lines_i3)
theorem record_lines_cfn : cFn Try.prog 59 = some (record_lines_ir, [(.c 2 true 7)], 18) := by kernel_rfl
def record_lines_V (r : (A7_bool)) : V := .agg [.s (.bool r.a0), .s (.bool r.a1), .s (.bool r.a2), .s (.bool r.a3), .s (.bool r.a4), .s (.bool r.a5), .s (.bool r.a6)]
def record_lines_C (r : (A7_bool)) : X → Fr → Hp → Prop := FinL [(.c 2 true 7)] [] (record_lines_V r) []
theorem record_lines_ok (r_ : api_Rec) (r : (A7_bool)) (h : record_lines r_ = some r) : Pure Try.prog 59 [.agg [.s (.int .u16 r_.Addr), .s (.int .u8 r_.Data), .s (.bool r_.Read), .s (.bool r_.BA), .s (.bool r_.BS), .s (.bool r_.LIC), .s (.bool r_.AVMA), .s (.bool r_.BUSY), .s (.bool r_.Mine)]] (record_lines_V r) := by
  refine ConL.of record_lines_cfn (Nat.le_of_ble_eq_true (by kernel_rfl)) (Nat.le_of_ble_eq_true (by kernel_rfl)) ?_
  refine k_start ?_
  show dwv Try.prog [] record_lines_ir (kont Try.prog [] (record_lines_C r) []) (fr0 [.agg [.s (.int .u16 r_.Addr), .s (.int .u8 r_.Data), .s (.bool r_.Read), .s (.bool r_.BA), .s (.bool r_.BS), .s (.bool r_.LIC), .s (.bool r_.AVMA), .s (.bool r_.BUSY), .s (.bool r_.Mine)]]) []
  have hf : FOk (fr0 [.agg [.s (.int .u16 r_.Addr), .s (.int .u8 r_.Data), .s (.bool r_.Read), .s (.bool r_.BA), .s (.bool r_.BS), .s (.bool r_.LIC), .s (.bool r_.AVMA), .s (.bool r_.BUSY), .s (.bool r_.Mine)]]) [⟨0, [], .agg [.s (.int .u16 r_.Addr), .s (.int .u8 r_.Data), .s (.bool r_.Read), .s (.bool r_.BA), .s (.bool r_.BS), .s (.bool r_.LIC), .s (.bool r_.AVMA), .s (.bool r_.BUSY), .s (.bool r_.Mine)]⟩] := ⟨⟨fun _ => rfl, fun h => (h trivial).elim⟩, trivial⟩
  generalize fr0 [.agg [.s (.int .u16 r_.Addr), .s (.int .u8 r_.Data), .s (.bool r_.Read), .s (.bool r_.BA), .s (.bool r_.BS), .s (.bool r_.LIC), .s (.bool r_.AVMA), .s (.bool r_.BUSY), .s (.bool r_.Mine)]] = f at hf ⊢
  unfold record_lines at h
  refine k_seq ?_
  refine k_reg ?_
  refine mops_en hf (by kernel_rfl) fun f1 hf1 => ?_
  refine k_c ?_
  refine k_seq ?_
  refine k_reg ?_
  refine mops_en hf1 (by kernel_rfl) fun f2 hf2 => ?_
  refine k_c ?_
  refine k_ret ?_
  obtain rfl := Option.some.inj h
  exact k_fin (fin_ret (.inl rfl) hf2 (vs := [.agg [.s (.bool r_.Read), .s (.bool r_.BA), .s (.bool r_.BS), .s (.bool r_.LIC), .s (.bool r_.AVMA), .s (.bool r_.BUSY), .s (.bool r_.Mine)]]) (by kernel_rfl) (SettL.pure (FzL.stat rfl)))
def slice_Part_Own_i0 : List Op1 := [(oE 1 (.box (.t 0)) []), (oM 2 (.k (.int .i64 0)) [])]
def slice_Part_Own_i1 : List Op1 := [(oM 3 (.k (.int .i64 0)) [])]
def slice_Part_Own_i2 : List Op1 := [(oE 6 (.fld 0 (.t 1)) []), (oE 7 (.load false 1 (.t 6)) [0]), (oE 8 (.len (.t 7)) [1]), (oM 9 (.k (.int .i64 0)) [])]
def slice_Part_Own_i3 : List Op1 := [(oE 10 (.bin .lss (.t 9) (.t 8)) [])]
def slice_Part_Own_i4 : List Op1 := [(oE 11 (.ias 9 (.t 7) (.t 9)) []), (oE 12 (.load true 9 (.t 11)) [0]), (oE 5 (.zero [(.int .u16 0), (.int .u8 0), (.bool false), (.bool false), (.bool false), (.bool false), (.bool false), (.bool false), (.bool false)]) []), (oN (.store 9 (.t 5) (.t 12)) [2, 1, 0, 1, 2])]
def slice_Part_Own_i5 : List Op1 := [(oE 13 (.fld 8 (.t 5)) []), (oE 14 (.load false 1 (.t 13)) [0])]
def slice_Part_Own_i6 : List Op1 := [(oM 15 (.t 3) []), (oE 16 (.bin .add (.t 15) (.k (.int .i64 1))) [0]), (oM 3 (.t 16) [1, 0, 1])]
def slice_Part_Own_i7 : IR := (.cond (.t 14) (.reg false slice_Part_Own_i6) .skip)
def slice_Part_Own_i8 : IR := (.seq (.reg false slice_Part_Own_i5) slice_Part_Own_i7)
def slice_Part_Own_i9 : List Op1 := [(oE 17 (.bin .add (.t 9) (.k (.int .i64 1))) []), (oM 9 (.t 17) [0])]
def slice_Part_Own_i10 : IR := (.reg false slice_Part_Own_i9)
def slice_Part_Own_i11 : IR := (.seq (.block 1 (.seq (.reg false slice_Part_Own_i4) slice_Part_Own_i8)) slice_Part_Own_i10)
def slice_Part_Own_i12 : IR := (.seq (.cond (.t 10) .skip (.exit 0)) slice_Part_Own_i11)
def slice_Part_Own_i13 : IR := (.seq (.reg false slice_Part_Own_i3) slice_Part_Own_i12)
def slice_Part_Own_i14 : IR := (.block 0 (.loop slice_Part_Own_i13))
def slice_Part_Own_i15 : List Op1 := [(oM 18 (.t 3) []), (oM 2 (.t 18) [0, 0])]
def slice_Part_Own_i16 : IR := .ret
def slice_Part_Own_i17 : IR := (.seq (.reg false slice_Part_Own_i15) slice_Part_Own_i16)
def slice_Part_Own_i18 : IR := (.seq (.seq (.reg false slice_Part_Own_i2) slice_Part_Own_i14) slice_Part_Own_i17)
def slice_Part_Own_i19 : IR := (.seq (.reg false slice_Part_Own_i1) slice_Part_Own_i18)
def slice_Part_Own_ir : IR := (.seq (.reg false slice_Part_Own_i0) slice_Part_Own_i19)
theorem slice_Part_Own_cfn : cFn Try.prog 41 = some (slice_Part_Own_ir, [(.t 2)], 19) := by kernel_rfl
def slice_Part_Own_V (r : (Int)) : V := .s (.int .i64 r)
def slice_Part_Own_C (r : (Int)) : X → Fr → Hp → Prop := FinL [(.t 2)] [] (slice_Part_Own_V r) []
theorem slice_Part_Own_ok (p_ : slice_Part) (r : (Int)) (h : slice_Part_Own p_ = some r) : Pure Try.prog 41 [.agg [.sl false p_.Recs.length (cat api_Rec.v p_.Recs), .s (.bool p_.Ended)]] (slice_Part_Own_V r) := by
  refine ConL.of slice_Part_Own_cfn (Nat.le_of_ble_eq_true (by kernel_rfl)) (Nat.le_of_ble_eq_true (by kernel_rfl)) ?_
  refine k_start ?_
  show dwv Try.prog [] slice_Part_Own_ir (kont Try.prog [] (slice_Part_Own_C r) []) (fr0 [.agg [.sl false p_.Recs.length (cat api_Rec.v p_.Recs), .s (.bool p_.Ended)]]) []
  have hf : FOk (fr0 [.agg [.sl false p_.Recs.length (cat api_Rec.v p_.Recs), .s (.bool p_.Ended)]]) [⟨0, [], .agg [.sl false p_.Recs.length (cat api_Rec.v p_.Recs), .s (.bool p_.Ended)]⟩] := ⟨⟨fun _ => rfl, fun h => (h trivial).elim⟩, trivial⟩
  generalize fr0 [.agg [.sl false p_.Recs.length (cat api_Rec.v p_.Recs), .s (.bool p_.Ended)]] = f at hf ⊢
  unfold slice_Part_Own at h
  refine k_seq ?_
  refine k_reg ?_
  refine mops_en hf (by kernel_rfl) fun f1 hf1 => ?_
  refine k_c ?_
  refine k_seq ?_
  refine k_reg ?_
  refine mops_en hf1 (by kernel_rfl) fun f2 hf2 => ?_
  refine k_c ?_
  refine k_seq ?_
  refine k_seq ?_
  refine k_reg ?_
  refine mops_en hf2 (by kernel_rfl) fun f3 hf3 => ?_
  refine k_c ?_
  refine k_block ?_
  obtain ⟨o0, hx0, h⟩ := Option.bind_eq_some_iff.1 h
  have hgo0 : ∀ (n_2 : Int), n_2 = o0 → ∀ f, FOk f [⟨2, [], .s (.int .i64 0)⟩, ⟨3, [], .s (.int .i64 n_2)⟩] → kont Try.prog [] (slice_Part_Own_C r) ((.c slice_Part_Own_i17) :: []) .normal f [⟨0, .mem, 1, [.sl false p_.Recs.length (cat api_Rec.v p_.Recs), .s (.bool p_.Ended)]⟩] := by
    intro n_2 e f hf
    subst e
    refine k_c ?_
    refine k_seq ?_
    refine k_reg ?_
    refine mops_en hf (by kernel_rfl) fun f1 hf1 => ?_
    refine k_c ?_
    refine k_ret ?_
    obtain rfl := Option.some.inj h
    exact k_fin (fin_ret (.inl rfl) hf1 (vs := [.s (.int .i64 n_2)]) (by kernel_rfl) (SettL.pure (FzL.stat rfl)))
  refine k_loop BIG ?_
  refine loop_ind (fun n f L => ∃ (n_1 : Int) (t_1 : Int), slice_Part_Own_l0 p_ n n_1 t_1 = some o0 ∧ FOk f [⟨2, [], .s (.int .i64 0)⟩, ⟨3, [], .s (.int .i64 n_1)⟩, ⟨7, [], .sl false p_.Recs.length (cat api_Rec.v p_.Recs)⟩, ⟨8, [], .s (.int .i64 (ln p_.Recs))⟩, ⟨9, [], .s (.int .i64 t_1)⟩] ∧ L = [⟨0, .mem, 1, [.sl false p_.Recs.length (cat api_Rec.v p_.Recs), .s (.bool p_.Ended)]⟩]) ?_ ?_ BIG _ _ ⟨(0), (0), hx0, FOk_of [2, 3, 7, 8, 9] hf3 (by kernel_rfl), (by kernel_rfl)⟩
  · rintro f L ⟨n_1, t_1, h, _⟩
    cases (show (none : Option _) = some _ from h)
  · rintro n0 R0 ih f L ⟨n_1, t_1, h, hf, rfl⟩
    rw [slice_Part_Own_l0] at h
    refine k_seq ?_
    refine k_reg ?_
    refine mops_en hf (by kernel_rfl) fun f1 hf1 => ?_
    refine k_c ?_
    refine k_seq ?_
    refine k_cond hf1 (t := (decide (t_1 < (ln p_.Recs)))) (by kernel_rfl) (fun hc1 => ?_) (fun hc1 => ?_)
    · have h := if_t h hc1
      refine k_skip ?_
      refine k_c ?_
      refine k_seq ?_
      refine k_block ?_
      refine k_seq ?_
      refine k_reg ?_
      obtain ⟨c2, h⟩ := as_ok h
      refine mops_adv rfl (v := .ip ((cat api_Rec.v p_.Recs).drop ((t_1 : Int).toNat * 9))) hf1 (by kernel_rfl) (e_ias (n := p_.Recs.length) (xv := .sl false p_.Recs.length (cat api_Rec.v p_.Recs)) (k := .i64) (iv := t_1) (p := .ip ((cat api_Rec.v p_.Recs).drop ((t_1 : Int).toNat * 9))) (by kernel_rfl) (by kernel_rfl) (by kernel_rfl) (by kernel_rfl) c2) fun f2 hf2 => ?_
      refine mops_adv rfl (v := .agg [.s (.int .u16 (gt p_.Recs t_1).Addr), .s (.int .u8 (gt p_.Recs t_1).Data), .s (.bool (gt p_.Recs t_1).Read), .s (.bool (gt p_.Recs t_1).BA), .s (.bool (gt p_.Recs t_1).BS), .s (.bool (gt p_.Recs t_1).LIC), .s (.bool (gt p_.Recs t_1).AVMA), .s (.bool (gt p_.Recs t_1).BUSY), .s (.bool (gt p_.Recs t_1).Mine)]) hf2 (by kernel_rfl) (e_load_ip (g := api_Rec.v) (l := p_.Recs) (iv := t_1) [] (by kernel_rfl) c2 (by kernel_rfl) (by kernel_rfl)) fun f3 hf3 => ?_
      refine mops_en hf3 (by kernel_rfl) fun f4 hf4 => ?_
      refine k_c ?_
      refine k_seq ?_
      refine k_reg ?_
      refine mops_en hf4 (by kernel_rfl) fun f5 hf5 => ?_
      refine k_c ?_
      refine k_cond hf5 (t := (gt p_.Recs t_1).Mine) (by kernel_rfl) (fun hc3 => ?_) (fun hc3 => ?_)
      · have h := if_t h hc3
        refine k_reg ?_
        refine mops_en hf5 (by kernel_rfl) fun f6 hf6 => ?_
        refine k_b ?_
        refine k_c ?_
        refine k_reg ?_
        refine mops_en hf6 (by kernel_rfl) fun f7 hf7 => ?_
        refine k_l' (vs_cut (l := [⟨2, [], .s (.int .i64 0)⟩, ⟨3, [], .s (.int .i64 (IntKind.wrap .i64 (n_1 + 1)))⟩, ⟨7, [], .sl false p_.Recs.length (cat api_Rec.v p_.Recs)⟩, ⟨8, [], .s (.int .i64 (ln p_.Recs))⟩, ⟨9, [], .s (.int .i64 (IntKind.wrap .i64 (t_1 + 1)))⟩]) 1 (by kernel_rfl) (by kernel_rfl) (L' := [⟨0, .mem, 1, [.sl false p_.Recs.length (cat api_Rec.v p_.Recs), .s (.bool p_.Ended)]⟩]) (by kernel_rfl) ⟨⟨rfl, rfl⟩, ⟨rfl, rfl⟩, ⟨rfl, (static_under _ _ (by simp [V.static, statics, cat_stat, dropcat_stat]))⟩, ⟨rfl, rfl⟩, ⟨rfl, rfl⟩, trivial⟩ ⟨.inr (.inr (statics_unders _ _ (by simp [V.static, statics, cat_stat, dropcat_stat]))), trivial⟩ (FOk_of [2, 3, 7, 8, 9] hf7 (by kernel_rfl)) fun f hf => ?_)
        exact ih _ _ ⟨(IntKind.wrap .i64 (n_1 + 1)), (IntKind.wrap .i64 (t_1 + 1)), h, hf, rfl⟩
      · have h := if_f h hc3
        refine k_skip ?_
        refine k_b ?_
        refine k_c ?_
        refine k_reg ?_
        refine mops_en hf5 (by kernel_rfl) fun f6 hf6 => ?_
        refine k_l' (vs_cut (l := [⟨2, [], .s (.int .i64 0)⟩, ⟨3, [], .s (.int .i64 n_1)⟩, ⟨7, [], .sl false p_.Recs.length (cat api_Rec.v p_.Recs)⟩, ⟨8, [], .s (.int .i64 (ln p_.Recs))⟩, ⟨9, [], .s (.int .i64 (IntKind.wrap .i64 (t_1 + 1)))⟩]) 1 (by kernel_rfl) (by kernel_rfl) (L' := [⟨0, .mem, 1, [.sl false p_.Recs.length (cat api_Rec.v p_.Recs), .s (.bool p_.Ended)]⟩]) (by kernel_rfl) ⟨⟨rfl, rfl⟩, ⟨rfl, rfl⟩, ⟨rfl, (static_under _ _ (by simp [V.static, statics, cat_stat, dropcat_stat]))⟩, ⟨rfl, rfl⟩, ⟨rfl, rfl⟩, trivial⟩ ⟨.inr (.inr (statics_unders _ _ (by simp [V.static, statics, cat_stat, dropcat_stat]))), trivial⟩ (FOk_of [2, 3, 7, 8, 9] hf6 (by kernel_rfl)) fun f hf => ?_)
        exact ih _ _ ⟨n_1, (IntKind.wrap .i64 (t_1 + 1)), h, hf, rfl⟩
    · have h := if_f h hc1
      refine k_exit ?_
      refine x_c nofun ?_
      refine x_l nofun ?_
      refine x_b ?_
      refine k_hp (L' := [⟨0, .mem, 1, [.sl false p_.Recs.length (cat api_Rec.v p_.Recs), .s (.bool p_.Ended)]⟩]) (by kernel_rfl) ?_
      exact hgo0 n_1 (Option.some.inj h) _ (FOk_of [2, 3] hf1 (by kernel_rfl))
end Go.Proofs.YtfdadnldlngmeaaK
