/- The Go functions come to the functions over typed data. Printed by a program of this work. -/
import Derived.Test.YtfdadnldlngmeaaF
import Derived.Test.YtfdadnldlngmeaaProg
import Derived.Test.YtfdadnldlngmeaaG0
namespace Go.Proofs.YtfdadnldlngmeaaK
set_option linter.unusedVariables false
set_option linter.unusedSimpArgs false
set_option maxHeartbeats 4000000
open Go.RowKit
attribute [local irreducible] dwv mops lops lqops lwops kont iter run runK rk okK ex E1 vals val chain chB sel resF
def slice_Part_Writes_i0 : List Op1 := [(oE 1 (.box (.t 0)) []), (oE 2 (.nilg 9) [])]
def slice_Part_Writes_i1 : List Op1 := [(oE 3 (.nilg 9) [])]
def slice_Part_Writes_i2 : List Op1 := [(oE 6 (.fld 0 (.t 1)) []), (oE 7 (.load false 1 (.t 6)) [0]), (oE 8 (.len (.t 7)) [1]), (oM 9 (.k (.int .i64 0)) [])]
def slice_Part_Writes_i3 : List Op1 := [(oE 10 (.bin .lss (.t 9) (.t 8)) [])]
def slice_Part_Writes_i4 : List Op1 := [(oE 11 (.ias 9 (.t 7) (.t 9)) []), (oE 12 (.load true 9 (.t 11)) [0]), (oE 5 (.zero [(.int .u16 0), (.int .u8 0), (.bool false), (.bool false), (.bool false), (.bool false), (.bool false), (.bool false), (.bool false)]) []), (oN (.store 9 (.t 5) (.t 12)) [2, 1, 0, 1, 2])]
def slice_Part_Writes_i5 : List Op1 := [(oE 13 (.fld 8 (.t 5)) []), (oE 14 (.load false 1 (.t 13)) [0]), (oM 15 (.t 14) [1]), (oG 16 (.fld 2 (.t 5)) 15 true [2]), (oG 17 (.load false 1 (.t 16)) 15 true [3, 2]), (oG 18 (.un .not (.t 17)) 15 true [4, 2]), (oE 19 (.pick (.t 15) (.t 18) (.k (.bool false))) [2, 5])]
def slice_Part_Writes_i6 : List Op1 := [(oM 20 (.t 3) []), (oE 21 (.load true 9 (.t 5)) []), (oE 22 (.bslo 9 1 [(.int .u16 0), (.int .u8 0), (.bool false), (.bool false), (.bool false), (.bool false), (.bool false), (.bool false), (.bool false)] [(0, (9, (.t 21)))]) [1]), (oE 23 (.app 25 9 10 (.t 20) (.t 22)) [0, 2]), (oM 3 (.t 23) [3, 3, 0, 1, 2, 3])]
def slice_Part_Writes_i7 : IR := (.cond (.t 19) (.reg false slice_Part_Writes_i6) .skip)
def slice_Part_Writes_i8 : IR := (.seq (.reg false slice_Part_Writes_i5) slice_Part_Writes_i7)
def slice_Part_Writes_i9 : List Op1 := [(oE 24 (.bin .add (.t 9) (.k (.int .i64 1))) []), (oM 9 (.t 24) [0])]
def slice_Part_Writes_i10 : IR := (.reg false slice_Part_Writes_i9)
def slice_Part_Writes_i11 : IR := (.seq (.block 1 (.seq (.reg false slice_Part_Writes_i4) slice_Part_Writes_i8)) slice_Part_Writes_i10)
def slice_Part_Writes_i12 : IR := (.seq (.cond (.t 10) .skip (.exit 0)) slice_Part_Writes_i11)
def slice_Part_Writes_i13 : IR := (.seq (.reg false slice_Part_Writes_i3) slice_Part_Writes_i12)
def slice_Part_Writes_i14 : IR := (.block 0 (.loop slice_Part_Writes_i13))
def slice_Part_Writes_i15 : List Op1 := [(oM 25 (.t 3) []), (oM 2 (.t 25) [0, 0])]
def slice_Part_Writes_i16 : IR := .ret
def slice_Part_Writes_i17 : IR := (.seq (.reg false slice_Part_Writes_i15) slice_Part_Writes_i16)
def slice_Part_Writes_i18 : IR := (.seq (.seq (.reg false slice_Part_Writes_i2) slice_Part_Writes_i14) slice_Part_Writes_i17)
def slice_Part_Writes_i19 : IR := (.seq (.reg false slice_Part_Writes_i1) slice_Part_Writes_i18)
def slice_Part_Writes_ir : IR := (.seq (.reg false slice_Part_Writes_i0) slice_Part_Writes_i19)
theorem slice_Part_Writes_cfn : cFn Try.prog 43 = some (slice_Part_Writes_ir, [(.t 2)], 26) := by kernel_rfl
def slice_Part_Writes_V (r : ((List api_Rec))) : V := .sl false r.length (cat api_Rec.v r)
def slice_Part_Writes_C (r : ((List api_Rec))) : X → Fr → Hp → Prop := FinL [(.t 2)] [] (slice_Part_Writes_V r) []
theorem slice_Part_Writes_ok (p_ : slice_Part) (r : ((List api_Rec))) (h : slice_Part_Writes p_ = some r) : Pure Try.prog 43 [.agg [.sl false p_.Recs.length (cat api_Rec.v p_.Recs), .s (.bool p_.Ended)]] (slice_Part_Writes_V r) := by
  refine ConL.of slice_Part_Writes_cfn (Nat.le_of_ble_eq_true (by kernel_rfl)) (Nat.le_of_ble_eq_true (by kernel_rfl)) ?_
  refine k_start ?_
  show dwv Try.prog [] slice_Part_Writes_ir (kont Try.prog [] (slice_Part_Writes_C r) []) (fr0 [.agg [.sl false p_.Recs.length (cat api_Rec.v p_.Recs), .s (.bool p_.Ended)]]) []
  have hf : FOk (fr0 [.agg [.sl false p_.Recs.length (cat api_Rec.v p_.Recs), .s (.bool p_.Ended)]]) [⟨0, [], .agg [.sl false p_.Recs.length (cat api_Rec.v p_.Recs), .s (.bool p_.Ended)]⟩] := ⟨⟨fun _ => rfl, fun h => (h trivial).elim⟩, trivial⟩
  generalize fr0 [.agg [.sl false p_.Recs.length (cat api_Rec.v p_.Recs), .s (.bool p_.Ended)]] = f at hf ⊢
  unfold slice_Part_Writes at h
  refine k_seq ?_
  refine k_reg ?_
  refine mops_en hf (by kernel_rfl) fun f1 hf1 => ?_
  refine k_c ?_
  refine k_seq ?_
  refine k_reg ?_
  refine mops_en hf1 (by kernel_rfl) fun f2 hf2 => ?_
  refine k_c ?_
  refine k_seq ?_
  refine k_seq ?_
  refine k_reg ?_
  refine mops_en hf2 (by kernel_rfl) fun f3 hf3 => ?_
  refine k_c ?_
  refine k_block ?_
  obtain ⟨o0, hx0, h⟩ := Option.bind_eq_some_iff.1 h
  have hgo0 : ∀ (l_2 : (List api_Rec)) (v_2 : Nat), l_2 = o0 → ∀ f, FOk f [⟨2, [], .ref 1 0 0 0⟩, ⟨3, [], .ref 2 v_2 0 l_2.length⟩] → kont Try.prog [] (slice_Part_Writes_C r) ((.c slice_Part_Writes_i17) :: []) .normal f [⟨0, .mem, 1, [.sl false p_.Recs.length (cat api_Rec.v p_.Recs), .s (.bool p_.Ended)]⟩, ⟨0, .grow, 9, cat api_Rec.v ([] : List api_Rec)⟩, ⟨v_2, .grow, 9, cat api_Rec.v l_2⟩] := by
    intro l_2 v_2 e f hf
    subst e
    refine k_c ?_
    refine k_seq ?_
    refine k_reg ?_
    refine mops_en hf (by kernel_rfl) fun f1 hf1 => ?_
    refine k_c ?_
    refine k_ret ?_
    obtain rfl := Option.some.inj h
    exact k_fin (fin_ret (.inl rfl) hf1 (vs := [.ref 2 v_2 0 l_2.length]) (by kernel_rfl) (SettL.pure (FzL.whole (g := api_Rec.v) (kd := .grow) (l := l_2) (by kernel_rfl) rfl (live_grow (by kernel_rfl)))))
  refine k_loop BIG ?_
  refine loop_ind (fun n f L => ∃ (l_1 : (List api_Rec)) (t_1 : Int) (v_1 : Nat), slice_Part_Writes_l0 p_ n l_1 t_1 = some o0 ∧ FOk f [⟨2, [], .ref 1 0 0 0⟩, ⟨3, [], .ref 2 v_1 0 l_1.length⟩, ⟨7, [], .sl false p_.Recs.length (cat api_Rec.v p_.Recs)⟩, ⟨8, [], .s (.int .i64 (ln p_.Recs))⟩, ⟨9, [], .s (.int .i64 t_1)⟩] ∧ L = [⟨0, .mem, 1, [.sl false p_.Recs.length (cat api_Rec.v p_.Recs), .s (.bool p_.Ended)]⟩, ⟨0, .grow, 9, cat api_Rec.v ([] : List api_Rec)⟩, ⟨v_1, .grow, 9, cat api_Rec.v l_1⟩]) ?_ ?_ BIG _ _ ⟨([] : List api_Rec), (0), (0), hx0, FOk_of [2, 3, 7, 8, 9] hf3 (by kernel_rfl), (by kernel_rfl)⟩
  · rintro f L ⟨l_1, t_1, v_1, h, _⟩
    cases (show (none : Option _) = some _ from h)
  · rintro n0 R0 ih f L ⟨l_1, t_1, v_1, h, hf, rfl⟩
    rw [slice_Part_Writes_l0] at h
    refine k_seq ?_
    refine k_reg ?_
    refine mops_en hf (by kernel_rfl) fun f1 hf1 => ?_
    refine k_c ?_
    refine k_seq ?_
    refine k_cond hf1 (t := (decide (t_1 < (ln p_.Recs)))) (by kernel_rfl) (fun hc1 => ?_) (fun hc1 => ?_)
    · have h := if_t h hc1
      refine k_skip ?_
      refine k_c ?_
      refine k_seq ?_
      refine k_block ?_
      refine k_seq ?_
      refine k_reg ?_
      obtain ⟨c2, h⟩ := as_ok h
      refine mops_adv rfl (v := .ip ((cat api_Rec.v p_.Recs).drop ((t_1 : Int).toNat * 9))) hf1 (by kernel_rfl) (e_ias (n := p_.Recs.length) (xv := .sl false p_.Recs.length (cat api_Rec.v p_.Recs)) (k := .i64) (iv := t_1) (p := .ip ((cat api_Rec.v p_.Recs).drop ((t_1 : Int).toNat * 9))) (by kernel_rfl) (by kernel_rfl) (by kernel_rfl) (by kernel_rfl) c2) fun f2 hf2 => ?_
      refine mops_adv rfl (v := .agg [.s (.int .u16 (gt p_.Recs t_1).Addr), .s (.int .u8 (gt p_.Recs t_1).Data), .s (.bool (gt p_.Recs t_1).Read), .s (.bool (gt p_.Recs t_1).BA), .s (.bool (gt p_.Recs t_1).BS), .s (.bool (gt p_.Recs t_1).LIC), .s (.bool (gt p_.Recs t_1).AVMA), .s (.bool (gt p_.Recs t_1).BUSY), .s (.bool (gt p_.Recs t_1).Mine)]) hf2 (by kernel_rfl) (e_load_ip (g := api_Rec.v) (l := p_.Recs) (iv := t_1) [] (by kernel_rfl) c2 (by kernel_rfl) (by kernel_rfl)) fun f3 hf3 => ?_
      refine mops_en hf3 (by kernel_rfl) fun f4 hf4 => ?_
      refine k_c ?_
      refine k_seq ?_
      refine k_reg ?_
      refine mops_en hf4 (by kernel_rfl) fun f5 hf5 => ?_
      refine k_c ?_
      refine k_cond hf5 (t := ((gt p_.Recs t_1).Mine && (!(gt p_.Recs t_1).Read))) (by kernel_rfl) (fun hc3 => ?_) (fun hc3 => ?_)
      · have h := if_t h hc3
        refine k_reg ?_
        refine mops_sg 3 hf5 (by kernel_rfl) fun f6 hf6 => ?_
        obtain ⟨c4, h⟩ := as_ok h
        refine mops_adv rfl (v := .ref 2 (v_1 + 1) 0 (l_1 ++ [(gt p_.Recs t_1)]).length) hf6 (by kernel_rfl) (e_app (g := api_Rec.v) (l := l_1) (l' := [(gt p_.Recs t_1)]) (b := 2) (ver := v_1) (n := l_1.length) rfl (by kernel_rfl) rfl (live_grow (by kernel_rfl)) (sll_ev (v := .ref 4 0 0 1) (by kernel_rfl) (sll_ref (B := ⟨0, .grow, 9, cat api_Rec.v [(gt p_.Recs t_1)]⟩) (by kernel_rfl) (live_grow (by kernel_rfl)))) (slc_ev (v := .ref 4 0 0 1) (by kernel_rfl) (slc_ref (g := api_Rec.v) (l := [(gt p_.Recs t_1)]) (kd := .grow) (q := 9) (by kernel_rfl) (live_grow (by kernel_rfl)))) c4) fun f7 hf7 => ?_
        refine mops_en hf7 (by kernel_rfl) fun f8 hf8 => ?_
        refine k_b ?_
        refine k_c ?_
        refine k_reg ?_
        refine mops_en hf8 (by kernel_rfl) fun f9 hf9 => ?_
        refine k_l' (vs_cut (l := [⟨2, [], .ref 1 0 0 0⟩, ⟨3, [], .ref 2 (v_1 + 1) 0 (l_1 ++ [(gt p_.Recs t_1)]).length⟩, ⟨7, [], .sl false p_.Recs.length (cat api_Rec.v p_.Recs)⟩, ⟨8, [], .s (.int .i64 (ln p_.Recs))⟩, ⟨9, [], .s (.int .i64 (IntKind.wrap .i64 (t_1 + 1)))⟩]) 3 (by kernel_rfl) (by kernel_rfl) (L' := [⟨0, .mem, 1, [.sl false p_.Recs.length (cat api_Rec.v p_.Recs), .s (.bool p_.Ended)]⟩, ⟨0, .grow, 9, cat api_Rec.v ([] : List api_Rec)⟩, ⟨(v_1 + 1), .grow, 9, cat api_Rec.v (l_1 ++ [(gt p_.Recs t_1)])⟩]) (by kernel_rfl) ⟨⟨rfl, rfl⟩, ⟨rfl, rfl⟩, ⟨rfl, (static_under _ _ (by simp [V.static, statics, cat_stat, dropcat_stat]))⟩, ⟨rfl, rfl⟩, ⟨rfl, rfl⟩, trivial⟩ ⟨.inr (.inr (statics_unders _ _ (by simp [V.static, statics, cat_stat, dropcat_stat]))), .inr (.inr (statics_unders _ _ (cat_stat _))), .inr (.inr (statics_unders _ _ (cat_stat _))), trivial⟩ (FOk_of [2, 3, 7, 8, 9] hf9 (by kernel_rfl)) fun f hf => ?_)
        exact ih _ _ ⟨(l_1 ++ [(gt p_.Recs t_1)]), (IntKind.wrap .i64 (t_1 + 1)), (v_1 + 1), h, hf, rfl⟩
      · have h := if_f h hc3
        refine k_skip ?_
        refine k_b ?_
        refine k_c ?_
        refine k_reg ?_
        refine mops_en hf5 (by kernel_rfl) fun f6 hf6 => ?_
        refine k_l' (vs_cut (l := [⟨2, [], .ref 1 0 0 0⟩, ⟨3, [], .ref 2 v_1 0 l_1.length⟩, ⟨7, [], .sl false p_.Recs.length (cat api_Rec.v p_.Recs)⟩, ⟨8, [], .s (.int .i64 (ln p_.Recs))⟩, ⟨9, [], .s (.int .i64 (IntKind.wrap .i64 (t_1 + 1)))⟩]) 3 (by kernel_rfl) (by kernel_rfl) (L' := [⟨0, .mem, 1, [.sl false p_.Recs.length (cat api_Rec.v p_.Recs), .s (.bool p_.Ended)]⟩, ⟨0, .grow, 9, cat api_Rec.v ([] : List api_Rec)⟩, ⟨v_1, .grow, 9, cat api_Rec.v l_1⟩]) (by kernel_rfl) ⟨⟨rfl, rfl⟩, ⟨rfl, rfl⟩, ⟨rfl, (static_under _ _ (by simp [V.static, statics, cat_stat, dropcat_stat]))⟩, ⟨rfl, rfl⟩, ⟨rfl, rfl⟩, trivial⟩ ⟨.inr (.inr (statics_unders _ _ (by simp [V.static, statics, cat_stat, dropcat_stat]))), .inr (.inr (statics_unders _ _ (cat_stat _))), .inr (.inr (statics_unders _ _ (cat_stat _))), trivial⟩ (FOk_of [2, 3, 7, 8, 9] hf6 (by kernel_rfl)) fun f hf => ?_)
        exact ih _ _ ⟨l_1, (IntKind.wrap .i64 (t_1 + 1)), v_1, h, hf, rfl⟩
    · have h := if_f h hc1
      refine k_exit ?_
      refine x_c nofun ?_
      refine x_l nofun ?_
      refine x_b ?_
      refine k_hp (L' := [⟨0, .mem, 1, [.sl false p_.Recs.length (cat api_Rec.v p_.Recs), .s (.bool p_.Ended)]⟩, ⟨0, .grow, 9, cat api_Rec.v ([] : List api_Rec)⟩, ⟨v_1, .grow, 9, cat api_Rec.v l_1⟩]) (by kernel_rfl) ?_
      exact hgo0 l_1 v_1 (Option.some.inj h) _ (FOk_of [2, 3] hf1 (by kernel_rfl))
def digit_Pairs_i0 : List Op1 := [(oM 2 (.k (.string ⟨#[]⟩)) [])]
def digit_Pairs_i1 : List Op1 := [(oM 6 (.t 0) []), (oE 7 (.len (.t 6)) [0]), (oE 8 (.bin .mul (.k (.int .i64 2)) (.t 7)) [1]), (oE 9 (.mks [(.int .u8 0)] 1 (.k (.int .i64 0)) (.t 8)) [2]), (oM 3 (.t 9) [3, 0, 1, 2, 3])]
def digit_Pairs_i2 : List Op1 := [(oM 10 (.t 0) []), (oE 11 (.len (.t 10)) [0]), (oM 12 (.k (.int .i64 0)) [])]
def digit_Pairs_i3 : List Op1 := [(oE 13 (.bin .lss (.t 12) (.t 11)) [])]
def digit_Pairs_i4 : List Op1 := [(oE 14 (.ias 1 (.t 10) (.t 12)) []), (oE 15 (.load false 1 (.t 14)) [0]), (oM 5 (.t 15) [1, 0, 1])]
def digit_Pairs_i5 : List Op1 := [(oM 16 (.t 3) []), (oM 17 (.t 5) []), (oE 18 (.bin .shr (.t 17) (.k (.int .u64 4))) [1]), (oC 19 50 [(.t 18)] [2]), (oM 20 (.t 5) []), (oE 21 (.bin .and (.t 20) (.k (.int .u8 15))) [4]), (oC 22 50 [(.t 21)] [5, 3]), (oE 23 (.bslo 1 2 [(.int .u8 0), (.int .u8 0)] [(0, (1, (.t 19))), (1, (1, (.t 22)))]) [3, 6]), (oE 24 (.app 5 1 1 (.t 16) (.t 23)) [0, 7, 6]), (oM 3 (.t 24) [8, 8, 0, 1, 2, 3, 4, 5, 6, 7, 8])]
def digit_Pairs_i6 : IR := (.reg false digit_Pairs_i5)
def digit_Pairs_i7 : List Op1 := [(oE 25 (.bin .add (.t 12) (.k (.int .i64 1))) []), (oM 12 (.t 25) [0])]
def digit_Pairs_i8 : IR := (.reg false digit_Pairs_i7)
def digit_Pairs_i9 : IR := (.seq (.block 1 (.seq (.reg false digit_Pairs_i4) digit_Pairs_i6)) digit_Pairs_i8)
def digit_Pairs_i10 : IR := (.seq (.cond (.t 13) .skip (.exit 0)) digit_Pairs_i9)
def digit_Pairs_i11 : IR := (.seq (.reg false digit_Pairs_i3) digit_Pairs_i10)
def digit_Pairs_i12 : IR := (.block 0 (.loop digit_Pairs_i11))
def digit_Pairs_i13 : List Op1 := [(oM 26 (.t 3) []), (oE 27 (.bstr (.t 26)) [0]), (oM 2 (.t 27) [1, 0, 1])]
def digit_Pairs_i14 : IR := .ret
def digit_Pairs_i15 : IR := (.seq (.reg false digit_Pairs_i13) digit_Pairs_i14)
def digit_Pairs_i16 : IR := (.seq (.seq (.reg false digit_Pairs_i2) digit_Pairs_i12) digit_Pairs_i15)
def digit_Pairs_i17 : IR := (.seq (.reg false digit_Pairs_i1) digit_Pairs_i16)
def digit_Pairs_ir : IR := (.seq (.reg false digit_Pairs_i0) digit_Pairs_i17)
theorem digit_Pairs_cfn : cFn Try.prog 35 = some (digit_Pairs_ir, [(.t 2)], 28) := by kernel_rfl
def digit_Pairs_V (r : (ByteArray)) : V := .s (.string r)
def digit_Pairs_C (r : (ByteArray)) : X → Fr → Hp → Prop := FinL [(.t 2)] [] (digit_Pairs_V r) []
theorem digit_Pairs_ok (b_ : (List Int)) (r : (ByteArray)) (h : digit_Pairs b_ = some r) : Pure Try.prog 35 [.sl false b_.length (cat (nI .u8) b_)] (digit_Pairs_V r) := by
  refine ConL.of digit_Pairs_cfn (Nat.le_of_ble_eq_true (by kernel_rfl)) (Nat.le_of_ble_eq_true (by kernel_rfl)) ?_
  refine k_start ?_
  show dwv Try.prog [] digit_Pairs_ir (kont Try.prog [] (digit_Pairs_C r) []) (fr0 [.sl false b_.length (cat (nI .u8) b_)]) []
  have hf : FOk (fr0 [.sl false b_.length (cat (nI .u8) b_)]) [⟨0, [], .sl false b_.length (cat (nI .u8) b_)⟩] := ⟨⟨fun _ => rfl, fun h => (h trivial).elim⟩, trivial⟩
  generalize fr0 [.sl false b_.length (cat (nI .u8) b_)] = f at hf ⊢
  unfold digit_Pairs at h
  refine k_seq ?_
  refine k_reg ?_
  refine mops_en hf (by kernel_rfl) fun f1 hf1 => ?_
  refine k_c ?_
  refine k_seq ?_
  refine k_reg ?_
  refine mops_sg 3 hf1 (by kernel_rfl) fun f2 hf2 => ?_
  obtain ⟨c1, h⟩ := as_ok h
  refine mops_adv rfl (v := .ref 0 0 0 (rp (0) (0 : Int)).length) hf2 (by kernel_rfl) (e_mks (g := (nI .u8)) (a := 0) (k := .i64) (k' := .i64) (iv := 0) (jv := (IntKind.wrap .i64 (2 * (ln b_)))) (by kernel_rfl) (by kernel_rfl) (by kernel_rfl) c1 (by kernel_rfl)) fun f3 hf3 => ?_
  refine mops_en hf3 (by kernel_rfl) fun f4 hf4 => ?_
  refine k_c ?_
  refine k_seq ?_
  refine k_seq ?_
  refine k_reg ?_
  refine mops_en hf4 (by kernel_rfl) fun f5 hf5 => ?_
  refine k_c ?_
  refine k_block ?_
  obtain ⟨o0, hx0, h⟩ := Option.bind_eq_some_iff.1 h
  have hgo0 : ∀ (l_2 : (List Int)) (v_2 : Nat), l_2 = o0 → ∀ f, FOk f [⟨2, [], .s (.string (⟨#[]⟩ : ByteArray))⟩, ⟨3, [], .ref 0 v_2 0 l_2.length⟩] → kont Try.prog [] (digit_Pairs_C r) ((.c digit_Pairs_i15) :: []) .normal f [⟨v_2, .grow, 1, cat (nI .u8) l_2⟩] := by
    intro l_2 v_2 e f hf
    subst e
    refine k_c ?_
    refine k_seq ?_
    refine k_reg ?_
    refine mops_sg 1 hf (by kernel_rfl) fun f1 hf1 => ?_
    refine mops_adv rfl (v := .s (.string (bs l_2))) hf1 (by kernel_rfl) (e_bstr (q := l_2) (slc_ev (v := .ref 0 v_2 0 l_2.length) (by kernel_rfl) (slc_ref (g := (nI .u8)) (l := l_2) (kd := .grow) (q := 1) rfl (live_grow (by kernel_rfl))))) fun f2 hf2 => ?_
    refine mops_en hf2 (by kernel_rfl) fun f3 hf3 => ?_
    refine k_c ?_
    refine k_ret ?_
    obtain rfl := Option.some.inj h
    exact k_fin (fin_ret (.inl rfl) hf3 (vs := [.s (.string (bs l_2))]) (by kernel_rfl) (SettL.pure (FzL.stat rfl)))
  refine k_loop BIG ?_
  refine loop_ind (fun n f L => ∃ (l_1 : (List Int)) (t_1 : Int) (v_1 : Nat), digit_Pairs_l0 b_ n l_1 t_1 = some o0 ∧ FOk f [⟨2, [], .s (.string (⟨#[]⟩ : ByteArray))⟩, ⟨3, [], .ref 0 v_1 0 l_1.length⟩, ⟨10, [], .sl false b_.length (cat (nI .u8) b_)⟩, ⟨11, [], .s (.int .i64 (ln b_))⟩, ⟨12, [], .s (.int .i64 t_1)⟩] ∧ L = [⟨v_1, .grow, 1, cat (nI .u8) l_1⟩]) ?_ ?_ BIG _ _ ⟨(rp (0) (0 : Int)), (0), (0), hx0, FOk_of [2, 3, 10, 11, 12] hf5 (by kernel_rfl), (by kernel_rfl)⟩
  · rintro f L ⟨l_1, t_1, v_1, h, _⟩
    cases (show (none : Option _) = some _ from h)
  · rintro n0 R0 ih f L ⟨l_1, t_1, v_1, h, hf, rfl⟩
    rw [digit_Pairs_l0] at h
    refine k_seq ?_
    refine k_reg ?_
    refine mops_en hf (by kernel_rfl) fun f1 hf1 => ?_
    refine k_c ?_
    refine k_seq ?_
    refine k_cond hf1 (t := (decide (t_1 < (ln b_)))) (by kernel_rfl) (fun hc2 => ?_) (fun hc2 => ?_)
    · have h := if_t h hc2
      refine k_skip ?_
      refine k_c ?_
      refine k_seq ?_
      refine k_block ?_
      refine k_seq ?_
      refine k_reg ?_
      obtain ⟨c3, h⟩ := as_ok h
      refine mops_adv rfl (v := .ip ((cat (nI .u8) b_).drop ((t_1 : Int).toNat * 1))) hf1 (by kernel_rfl) (e_ias (n := b_.length) (xv := .sl false b_.length (cat (nI .u8) b_)) (k := .i64) (iv := t_1) (p := .ip ((cat (nI .u8) b_).drop ((t_1 : Int).toNat * 1))) (by kernel_rfl) (by kernel_rfl) (by kernel_rfl) (by kernel_rfl) c3) fun f2 hf2 => ?_
      refine mops_adv rfl (v := .s (.int .u8 (gt b_ t_1))) hf2 (by kernel_rfl) (e_load_ip (g := (nI .u8)) (l := b_) (iv := t_1) [] (by kernel_rfl) c3 (by kernel_rfl) (by kernel_rfl)) fun f3 hf3 => ?_
      refine mops_en hf3 (by kernel_rfl) fun f4 hf4 => ?_
      refine k_c ?_
      refine k_reg ?_
      refine mops_sg 3 hf4 (by kernel_rfl) fun f5 hf5 => ?_
      obtain ⟨r_4, hx_r_4, h⟩ := Option.bind_eq_some_iff.1 h
      refine mops_call rfl hf5 (av := [.s (.int .u8 (Int.fdiv (gt b_ t_1) (2 ^ (4))))]) (by kernel_rfl) (v := .s (.int .u8 r_4)) (CalL.pure (digit_sign_ok (Int.fdiv (gt b_ t_1) (2 ^ (4))) r_4 hx_r_4) rfl rfl (Nat.le_of_ble_eq_true (by kernel_rfl))) (fun _ => rfl) fun f6 hf6 => ?_
      refine mops_sg 2 hf6 (by kernel_rfl) fun f7 hf7 => ?_
      obtain ⟨r_5, hx_r_5, h⟩ := Option.bind_eq_some_iff.1 h
      refine mops_call rfl hf7 (av := [.s (.int .u8 (bits .and .u8 (gt b_ t_1) 15))]) (by kernel_rfl) (v := .s (.int .u8 r_5)) (CalL.pure (digit_sign_ok (bits .and .u8 (gt b_ t_1) 15) r_5 hx_r_5) rfl rfl (Nat.le_of_ble_eq_true (by kernel_rfl))) (fun _ => rfl) fun f8 hf8 => ?_
      refine mops_sg 1 hf8 (by kernel_rfl) fun f9 hf9 => ?_
      obtain ⟨c4, h⟩ := as_ok h
      refine mops_adv rfl (v := .ref 0 (v_1 + 1) 0 (l_1 ++ [r_4, r_5]).length) hf9 (by kernel_rfl) (e_app (g := (nI .u8)) (l := l_1) (l' := [r_4, r_5]) (b := 0) (ver := v_1) (n := l_1.length) rfl (by kernel_rfl) rfl (live_grow (by kernel_rfl)) (sll_ev (v := .ref 1 0 0 2) (by kernel_rfl) (sll_ref (B := ⟨0, .grow, 1, cat (nI .u8) [r_4, r_5]⟩) (by kernel_rfl) (live_grow (by kernel_rfl)))) (slc_ev (v := .ref 1 0 0 2) (by kernel_rfl) (slc_ref (g := (nI .u8)) (l := [r_4, r_5]) (kd := .grow) (q := 1) (by kernel_rfl) (live_grow (by kernel_rfl)))) c4) fun f10 hf10 => ?_
      refine mops_en hf10 (by kernel_rfl) fun f11 hf11 => ?_
      refine k_b ?_
      refine k_c ?_
      refine k_reg ?_
      refine mops_en hf11 (by kernel_rfl) fun f12 hf12 => ?_
      refine k_l' (vs_cut (l := [⟨2, [], .s (.string (⟨#[]⟩ : ByteArray))⟩, ⟨3, [], .ref 0 (v_1 + 1) 0 (l_1 ++ [r_4, r_5]).length⟩, ⟨10, [], .sl false b_.length (cat (nI .u8) b_)⟩, ⟨11, [], .s (.int .i64 (ln b_))⟩, ⟨12, [], .s (.int .i64 (IntKind.wrap .i64 (t_1 + 1)))⟩]) 1 (by kernel_rfl) (by kernel_rfl) (L' := [⟨(v_1 + 1), .grow, 1, cat (nI .u8) (l_1 ++ [r_4, r_5])⟩]) (by kernel_rfl) ⟨⟨rfl, rfl⟩, ⟨rfl, rfl⟩, ⟨rfl, (static_under _ _ (by simp [V.static, statics, cat_stat, dropcat_stat]))⟩, ⟨rfl, rfl⟩, ⟨rfl, rfl⟩, trivial⟩ ⟨.inr (.inr (statics_unders _ _ (cat_stat _))), trivial⟩ (FOk_of [2, 3, 10, 11, 12] hf12 (by kernel_rfl)) fun f hf => ?_)
      exact ih _ _ ⟨(l_1 ++ [r_4, r_5]), (IntKind.wrap .i64 (t_1 + 1)), (v_1 + 1), h, hf, rfl⟩
    · have h := if_f h hc2
      refine k_exit ?_
      refine x_c nofun ?_
      refine x_l nofun ?_
      refine x_b ?_
      refine k_hp (L' := [⟨v_1, .grow, 1, cat (nI .u8) l_1⟩]) (by kernel_rfl) ?_
      exact hgo0 l_1 v_1 (Option.some.inj h) _ (FOk_of [2, 3] hf1 (by kernel_rfl))
def digit_Hex_i0 : List Op1 := [(oM 4 (.k (.string ⟨#[]⟩)) [])]
def digit_Hex_i1 : List Op1 := [(oE 5 (.zero [(.int .u8 0), (.int .u8 0), (.int .u8 0), (.int .u8 0), (.int .u8 0), (.int .u8 0), (.int .u8 0), (.int .u8 0), (.int .u8 0), (.int .u8 0), (.int .u8 0), (.int .u8 0), (.int .u8 0), (.int .u8 0), (.int .u8 0), (.int .u8 0)]) [])]
def digit_Hex_i2 : List Op1 := [(oM 6 (.k (.int .i64 16)) [])]
def digit_Hex_i3 : List Op1 := [(oM 7 (.t 0) []), (oE 8 (.bin .gtr (.t 7) (.k (.int .u64 0))) [0]), (oM 9 (.t 8) [1]), (oG 10 (.mv (.t 6)) 9 false [2]), (oG 11 (.bin .eql (.t 10) (.k (.int .i64 16))) 9 false [3, 2]), (oE 12 (.pick (.t 9) (.k (.bool true)) (.t 11)) [2, 4]), (oM 13 (.t 12) [5, 2]), (oG 14 (.mv (.t 6)) 13 false [6]), (oG 15 (.bin .sub (.k (.int .i64 16)) (.t 14)) 13 false [7, 6]), (oG 16 (.mv (.t 1)) 13 false [6]), (oG 17 (.mnx false (.t 16) (.k (.int .i64 16))) 13 false [9, 6]), (oG 18 (.bin .lss (.t 15) (.t 17)) 13 false [8, 10, 6]), (oE 19 (.pick (.t 13) (.k (.bool true)) (.t 18)) [6, 11])]
def digit_Hex_i4 : IR := (.cond (.t 19) .skip (.exit 0))
def digit_Hex_i5 : List Op1 := [(oM 20 (.t 6) []), (oE 21 (.bin .sub (.t 20) (.k (.int .i64 1))) [0]), (oM 6 (.t 21) [1, 0, 1])]
def digit_Hex_i6 : List Op1 := [(oM 22 (.t 6) []), (oM 23 (.t 0) []), (oE 24 (.bin .and (.t 23) (.k (.int .u64 15))) [1]), (oE 25 (.cint .u8 (.t 24)) [2]), (oC 26 50 [(.t 25)] [3]), (oE 27 (.iaa 16 1 (.t 5) (.t 22)) [0, 0, 1, 2, 3, 4]), (oN (.store 1 (.t 27) (.t 26)) [5, 4, 4, 0, 1, 2, 3, 4])]
def digit_Hex_i7 : List Op1 := [(oM 28 (.t 0) []), (oE 29 (.bin .shr (.t 28) (.k (.int .u64 4))) [0]), (oM 0 (.t 29) [1, 0, 1])]
def digit_Hex_i8 : IR := (.reg false digit_Hex_i7)
def digit_Hex_i9 : IR := (.seq (.reg false digit_Hex_i6) digit_Hex_i8)
def digit_Hex_i10 : IR := (.block 1 (.seq (.reg false digit_Hex_i5) digit_Hex_i9))
def digit_Hex_i11 : IR := (.seq (.seq (.reg false digit_Hex_i3) digit_Hex_i4) digit_Hex_i10)
def digit_Hex_i12 : List Op1 := [(oM 30 (.t 6) []), (oE 31 (.sarr 16 1 (.t 5) (some (.t 30)) none) [0]), (oE 32 (.bstr (.t 31)) [1]), (oM 4 (.t 32) [2, 0, 1, 2])]
def digit_Hex_i13 : IR := .ret
def digit_Hex_i14 : IR := (.seq (.reg false digit_Hex_i12) digit_Hex_i13)
def digit_Hex_i15 : IR := (.seq (.block 0 (.loop digit_Hex_i11)) digit_Hex_i14)
def digit_Hex_i16 : IR := (.seq (.reg false digit_Hex_i2) digit_Hex_i15)
def digit_Hex_i17 : IR := (.seq (.reg false digit_Hex_i1) digit_Hex_i16)
def digit_Hex_ir : IR := (.seq (.reg false digit_Hex_i0) digit_Hex_i17)
theorem digit_Hex_cfn : cFn Try.prog 58 = some (digit_Hex_ir, [(.t 4)], 33) := by kernel_rfl
def digit_Hex_V (r : (ByteArray)) : V := .s (.string r)
def digit_Hex_C (r : (ByteArray)) : X → Fr → Hp → Prop := FinL [(.t 4)] [] (digit_Hex_V r) []
theorem digit_Hex_ok (n_ : Int) (width_ : Int) (r : (ByteArray)) (h : digit_Hex n_ width_ = some r) : Pure Try.prog 58 [.s (.int .u64 n_), .s (.int .i64 width_)] (digit_Hex_V r) := by
  refine ConL.of digit_Hex_cfn (Nat.le_of_ble_eq_true (by kernel_rfl)) (Nat.le_of_ble_eq_true (by kernel_rfl)) ?_
  refine k_start ?_
  show dwv Try.prog [] digit_Hex_ir (kont Try.prog [] (digit_Hex_C r) []) (fr0 [.s (.int .u64 n_), .s (.int .i64 width_)]) []
  have hf : FOk (fr0 [.s (.int .u64 n_), .s (.int .i64 width_)]) [⟨0, [], .s (.int .u64 n_)⟩, ⟨1, [], .s (.int .i64 width_)⟩] := ⟨⟨fun _ => rfl, fun h => (h trivial).elim⟩, ⟨fun _ => rfl, fun h => (h trivial).elim⟩, trivial⟩
  generalize fr0 [.s (.int .u64 n_), .s (.int .i64 width_)] = f at hf ⊢
  unfold digit_Hex at h
  refine k_seq ?_
  refine k_reg ?_
  refine mops_en hf (by kernel_rfl) fun f1 hf1 => ?_
  refine k_c ?_
  refine k_seq ?_
  refine k_reg ?_
  refine mops_en hf1 (by kernel_rfl) fun f2 hf2 => ?_
  refine k_c ?_
  refine k_seq ?_
  refine k_reg ?_
  refine mops_en hf2 (by kernel_rfl) fun f3 hf3 => ?_
  refine k_c ?_
  refine k_seq ?_
  refine k_block ?_
  obtain ⟨o0, hx0, h⟩ := Option.bind_eq_some_iff.1 h
  have hgo0 : ∀ (l_2 : (List Int)) (i_2 : Int) (hn_2 : l_2.length = 16), (l_2, i_2) = o0 → ∀ f, FOk f [⟨4, [], .s (.string (⟨#[]⟩ : ByteArray))⟩, ⟨5, [], .ptr 0 0 0⟩, ⟨6, [], .s (.int .i64 i_2)⟩] → kont Try.prog [] (digit_Hex_C r) ((.c digit_Hex_i14) :: []) .normal f [⟨0, .mem, 1, cat (nI .u8) l_2⟩] := by
    intro l_2 i_2 hn_2 e f hf
    subst e
    refine k_c ?_
    refine k_seq ?_
    refine k_reg ?_
    refine mops_sg 1 hf (by kernel_rfl) fun f1 hf1 => ?_
    obtain ⟨c3, h⟩ := as_ok h
    refine mops_adv rfl (v := .ref 0 0 (0 + (i_2 : Int).toNat * 1) (16 - (i_2 : Int).toNat)) hf1 (by kernel_rfl) (e_sarr (g := (nI .u8)) (l := l_2) (q := 0) (ver := 0) (n := 16) (kd := .mem) (by kernel_rfl) (live_mem (by kernel_rfl)) hn_2 (b_sn (k := .i64) (iv := i_2) (by kernel_rfl) c3)) fun f2 hf2 => ?_
    refine mops_adv rfl (v := .s (.string (bs ((l_2.drop (i_2 : Int).toNat).take (16 - (i_2 : Int).toNat))))) hf2 (by kernel_rfl) (e_bstr (q := ((l_2.drop (i_2 : Int).toNat).take (16 - (i_2 : Int).toNat))) (slc_ev (v := .ref 0 0 (0 + (i_2 : Int).toNat * 1) (16 - (i_2 : Int).toNat)) (by kernel_rfl) (slc_refp (g := (nI .u8)) (l := l_2) (q := 0) (n := 16) (a := (i_2 : Int).toNat) (b := 16) (kd := .mem) (z := 1) (cut_sn (n := 16) c3) hn_2 (live_mem (by kernel_rfl))))) fun f3 hf3 => ?_
    refine mops_en hf3 (by kernel_rfl) fun f4 hf4 => ?_
    refine k_c ?_
    refine k_ret ?_
    obtain rfl := Option.some.inj h
    exact k_fin (fin_ret (.inl rfl) hf4 (vs := [.s (.string (bs ((l_2.drop (i_2 : Int).toNat).take (16 - (i_2 : Int).toNat))))]) (by kernel_rfl) (SettL.pure (FzL.stat rfl)))
  refine k_loop BIG ?_
  refine loop_ind (fun n f L => ∃ (l_1 : (List Int)) (t_1 : Int) (i_1 : Int) (hn_1 : l_1.length = 16), digit_Hex_l0 width_ n l_1 t_1 i_1 = some o0 ∧ FOk f [⟨0, [], .s (.int .u64 t_1)⟩, ⟨1, [], .s (.int .i64 width_)⟩, ⟨4, [], .s (.string (⟨#[]⟩ : ByteArray))⟩, ⟨5, [], .ptr 0 0 0⟩, ⟨6, [], .s (.int .i64 i_1)⟩] ∧ L = [⟨0, .mem, 1, cat (nI .u8) l_1⟩]) ?_ ?_ BIG _ _ ⟨[0, 0, 0, 0, 0, 0, 0, 0, 0, 0, 0, 0, 0, 0, 0, 0], n_, (16), (by kernel_rfl), hx0, FOk_of [0, 1, 4, 5, 6] hf3 (by kernel_rfl), (by kernel_rfl)⟩
  · rintro f L ⟨l_1, t_1, i_1, hn_1, h, _⟩
    cases (show (none : Option _) = some _ from h)
  · rintro n0 R0 ih f L ⟨l_1, t_1, i_1, hn_1, h, hf, rfl⟩
    rw [digit_Hex_l0] at h
    refine k_seq ?_
    refine k_seq ?_
    refine k_reg ?_
    refine mops_en hf (by kernel_rfl) fun f1 hf1 => ?_
    refine k_c ?_
    refine k_cond hf1 (t := (((decide (0 < t_1)) || (i_1 == 16)) || (decide ((IntKind.wrap .i64 (16 - i_1)) < (if 16 < width_ then 16 else width_))))) (by kernel_rfl) (fun hc1 => ?_) (fun hc1 => ?_)
    · have h := if_t h hc1
      refine k_skip ?_
      refine k_c ?_
      refine k_block ?_
      refine k_seq ?_
      refine k_reg ?_
      refine mops_en hf1 (by kernel_rfl) fun f2 hf2 => ?_
      refine k_c ?_
      refine k_seq ?_
      refine k_reg ?_
      refine mops_sg 4 hf2 (by kernel_rfl) fun f3 hf3 => ?_
      obtain ⟨r_2, hx_r_2, h⟩ := Option.bind_eq_some_iff.1 h
      refine mops_call rfl hf3 (av := [.s (.int .u8 (IntKind.wrap .u8 (bits .and .u64 t_1 15)))]) (by kernel_rfl) (v := .s (.int .u8 r_2)) (CalL.pure (digit_sign_ok (IntKind.wrap .u8 (bits .and .u64 t_1 15)) r_2 hx_r_2) rfl rfl (Nat.le_of_ble_eq_true (by kernel_rfl))) (fun _ => rfl) fun f4 hf4 => ?_
      obtain ⟨c2, h⟩ := as_ok h
      refine mops_adv rfl (v := .ptr 0 0 (0 + ((IntKind.wrap .i64 (i_1 - 1)) : Int).toNat * 1)) hf4 (by kernel_rfl) (e_iaa (n := 16) (xv := .ptr 0 0 0) (k := .i64) (iv := (IntKind.wrap .i64 (i_1 - 1))) (p := .ptr 0 0 (0 + ((IntKind.wrap .i64 (i_1 - 1)) : Int).toNat * 1)) (by kernel_rfl) (by kernel_rfl) (by kernel_rfl) (by kernel_rfl) c2) fun f5 hf5 => ?_
      refine mops_adv rfl (v := .s undef) hf5 (by kernel_rfl) (e_store_pe (g := (nI .u8)) (l := l_1) (iv := (IntKind.wrap .i64 (i_1 - 1))) (kd := .mem) (q := 1) (b := 0) (ver := 0) (ys := [.s (.int .u8 r_2)]) (a := r_2) [] (by kernel_rfl) (live_mem (by kernel_rfl)) (by kernel_rfl) (by kernel_rfl) (by kernel_rfl) (arr_h (l := l_1) c2 hn_1) (by kernel_rfl) (by kernel_rfl)) fun f6 hf6 => ?_
      refine mops_en hf6 (by kernel_rfl) fun f7 hf7 => ?_
      refine k_c ?_
      refine k_reg ?_
      refine mops_en hf7 (by kernel_rfl) fun f8 hf8 => ?_
      refine k_b ?_
      refine k_l ?_
      exact ih _ _ ⟨(st l_1 (IntKind.wrap .i64 (i_1 - 1)) r_2), (Int.fdiv t_1 (2 ^ (4))), (IntKind.wrap .i64 (i_1 - 1)), (st_len.trans hn_1), h, FOk_of [0, 1, 4, 5, 6] hf8 (by kernel_rfl), (by kernel_rfl)⟩
    · have h := if_f h hc1
      refine k_exit ?_
      refine x_c nofun ?_
      refine x_l nofun ?_
      refine x_b ?_
      refine k_hp (L' := [⟨0, .mem, 1, cat (nI .u8) l_1⟩]) (by kernel_rfl) ?_
      exact hgo0 l_1 i_1 hn_1 (Option.some.inj h) _ (FOk_of [4, 5, 6] hf1 (by kernel_rfl))
def slice_Part_Lost_i0 : List Op1 := [(oE 1 (.box (.t 0)) []), (oM 2 (.k (.int .i64 0)) [])]
def slice_Part_Lost_i1 : List Op1 := [(oE 3 (.fld 0 (.t 1)) []), (oE 4 (.load false 1 (.t 3)) [0]), (oE 5 (.len (.t 4)) [1]), (oE 6 (.load true 2 (.t 1)) []), (oC 7 41 [(.t 6)] [3]), (oE 8 (.bin .sub (.t 5) (.t 7)) [2, 4]), (oM 2 (.t 8) [5, 4, 0, 1, 2, 3, 4, 5])]
def slice_Part_Lost_i2 : IR := .ret
def slice_Part_Lost_i3 : IR := (.seq (.reg true slice_Part_Lost_i1) slice_Part_Lost_i2)
def slice_Part_Lost_ir : IR := (.seq (.reg false slice_Part_Lost_i0) slice_Part_Lost_i3)
theorem slice_Part_Lost_cfn : cFn Try.prog 42 = some (slice_Part_Lost_ir, [(.t 2)], 9) := by kernel_rfl
def slice_Part_Lost_V (r : (Int)) : V := .s (.int .i64 r)
def slice_Part_Lost_C (r : (Int)) : X → Fr → Hp → Prop := FinL [(.t 2)] [] (slice_Part_Lost_V r) []
theorem slice_Part_Lost_ok (p_ : slice_Part) (r : (Int)) (h : slice_Part_Lost p_ = some r) : Pure Try.prog 42 [.agg [.sl false p_.Recs.length (cat api_Rec.v p_.Recs), .s (.bool p_.Ended)]] (slice_Part_Lost_V r) := by
  refine ConL.of slice_Part_Lost_cfn (Nat.le_of_ble_eq_true (by kernel_rfl)) (Nat.le_of_ble_eq_true (by kernel_rfl)) ?_
  refine k_start ?_
  show dwv Try.prog [] slice_Part_Lost_ir (kont Try.prog [] (slice_Part_Lost_C r) []) (fr0 [.agg [.sl false p_.Recs.length (cat api_Rec.v p_.Recs), .s (.bool p_.Ended)]]) []
  have hf : FOk (fr0 [.agg [.sl false p_.Recs.length (cat api_Rec.v p_.Recs), .s (.bool p_.Ended)]]) [⟨0, [], .agg [.sl false p_.Recs.length (cat api_Rec.v p_.Recs), .s (.bool p_.Ended)]⟩] := ⟨⟨fun _ => rfl, fun h => (h trivial).elim⟩, trivial⟩
  generalize fr0 [.agg [.sl false p_.Recs.length (cat api_Rec.v p_.Recs), .s (.bool p_.Ended)]] = f at hf ⊢
  unfold slice_Part_Lost at h
  refine k_seq ?_
  refine k_reg ?_
  refine mops_en hf (by kernel_rfl) fun f1 hf1 => ?_
  refine k_c ?_
  refine k_seq ?_
  refine k_regq ?_
  refine mops_sg 4 hf1 (by kernel_rfl) fun f2 hf2 => ?_
  obtain ⟨r_, hx_r_, h⟩ := Option.bind_eq_some_iff.1 h
  refine mops_call rfl hf2 (av := [.agg [.sl false p_.Recs.length (cat api_Rec.v p_.Recs), .s (.bool p_.Ended)]]) (by kernel_rfl) (v := .s (.int .i64 r_)) (CalL.pure (slice_Part_Own_ok p_ r_ hx_r_) (by simp [V.static, statics, cat_stat]) rfl (Nat.le_of_ble_eq_true (by kernel_rfl))) (fun _ => rfl) fun f3 hf3 => ?_
  refine mops_en hf3 (by kernel_rfl) fun f4 hf4 => ?_
  refine k_c ?_
  refine k_ret ?_
  obtain rfl := Option.some.inj h
  exact k_fin (fin_ret (.inl rfl) hf4 (vs := [.s (.int .i64 (IntKind.wrap .i64 ((ln p_.Recs) - r_)))]) (by kernel_rfl) (SettL.pure (FzL.stat rfl)))
def spinetlaw48_alive_i0 : List Op1 := [(oM 0 (.k (.bool false)) [])]
def spinetlaw48_alive_i1 : List Op1 := [(oE 2 (.build [(.int .u16 0), (.int .u8 0), (.bool false), (.bool false), (.bool false), (.bool false), (.bool false), (.bool false), (.bool false)] [(8, (1, (.k (.bool true)))), (5, (1, (.k (.bool true)))), (0, (1, (.k (.int .u16 5))))]) []), (oE 3 (.bsl 1 [(.int .u16 0), (.int .u8 0), (.bool false), (.bool false), (.bool false), (.bool false), (.bool false), (.bool false), (.bool false)] [(0, (9, (.t 2)))]) [0]), (oC 4 18 [(.t 3)] [1]), (oM 1 (.t 4) [2, 2, 0, 1, 2])]
def spinetlaw48_alive_i2 : List Op1 := [(oC 5 18 [(.k (.slice none 0 0))] []), (oE 6 (.len (.t 5)) [0]), (oE 7 (.bin .eql (.t 6) (.k (.int .i64 0))) [1]), (oM 8 (.t 7) [2, 0]), (oG 9 (.mv (.t 1)) 8 true [3]), (oG 10 (.len (.t 9)) 8 true [4, 3]), (oG 11 (.bin .eql (.t 10) (.k (.int .i64 1))) 8 true [5, 3]), (oE 12 (.pick (.t 8) (.t 11) (.k (.bool false))) [3, 6]), (oM 13 (.t 12) [7, 3]), (oG 14 (.mv (.t 1)) 13 true [8]), (oG 15 (.ias 2 (.t 14) (.k (.int .i64 0))) 13 true [9, 8]), (oG 16 (.fld 1 (.t 15)) 13 true [10, 8]), (oG 17 (.load false 1 (.t 16)) 13 true [11, 8]), (oE 18 (.pick (.t 13) (.t 17) (.k (.bool false))) [8, 12]), (oM 19 (.t 18) [13, 8]), (oG 20 (.mv (.t 1)) 19 true [14]), (oG 21 (.ias 2 (.t 20) (.k (.int .i64 0))) 19 true [15, 14]), (oG 22 (.load true 2 (.t 21)) 19 true [16, 14]), ⟨(some 23), (.call 41 [(.t 22)]), (some (19, true)), [17, 14, 14]⟩, (oG 24 (.bin .eql (.t 23) (.k (.int .i64 1))) 19 true [18, 14]), (oE 25 (.pick (.t 19) (.t 24) (.k (.bool false))) [14, 19]), (oM 0 (.t 25) [20, 18, 0, 1, 2, 3, 4, 5, 6, 7, 8, 9, 10, 11, 12, 13, 14, 15, 16, 17, 18, 19, 20])]
def spinetlaw48_alive_i3 : IR := .ret
def spinetlaw48_alive_i4 : IR := (.seq (.reg false spinetlaw48_alive_i2) spinetlaw48_alive_i3)
def spinetlaw48_alive_i5 : IR := (.seq (.reg false spinetlaw48_alive_i1) spinetlaw48_alive_i4)
def spinetlaw48_alive_ir : IR := (.seq (.reg false spinetlaw48_alive_i0) spinetlaw48_alive_i5)
theorem spinetlaw48_alive_cfn : cFn Try.prog 21 = some (spinetlaw48_alive_ir, [(.t 0)], 26) := by kernel_rfl
def spinetlaw48_alive_V (r : (Bool)) : V := .s (.bool r)
def spinetlaw48_alive_C (r : (Bool)) : X → Fr → Hp → Prop := FinL [(.t 0)] [] (spinetlaw48_alive_V r) []
theorem spinetlaw48_alive_ok (r : (Bool)) (h : spinetlaw48_alive = some r) : Pure Try.prog 21 [] (spinetlaw48_alive_V r) := by
  refine ConL.of spinetlaw48_alive_cfn (Nat.le_of_ble_eq_true (by kernel_rfl)) (Nat.le_of_ble_eq_true (by kernel_rfl)) ?_
  refine k_start ?_
  show dwv Try.prog [] spinetlaw48_alive_ir (kont Try.prog [] (spinetlaw48_alive_C r) []) (fr0 []) []
  have hf : FOk (fr0 []) [] := trivial
  generalize fr0 [] = f at hf ⊢
  unfold spinetlaw48_alive at h
  refine k_seq ?_
  refine k_reg ?_
  refine mops_en hf (by kernel_rfl) fun f1 hf1 => ?_
  refine k_c ?_
  refine k_seq ?_
  refine k_reg ?_
  refine mops_sg 2 hf1 (by kernel_rfl) fun f2 hf2 => ?_
  obtain ⟨r_, hx_r_, h⟩ := Option.bind_eq_some_iff.1 h
  refine mops_call rfl hf2 (av := [.sl true [(api_Rec.mk (5) (0) false false false true false false true)].length (cat api_Rec.v [(api_Rec.mk (5) (0) false false false true false false true)])]) (by kernel_rfl) (v := .sl false r_.length (cat slice_Part.v r_)) (CalL.purew (slice_Cut_ok [(api_Rec.mk (5) (0) false false false true false false true)] r_ hx_r_) (Wks.cons Wk.slf Wks.nil) (by simp [V.static, statics, cat_stat]) (by simp [V.static, statics, cat_stat, slice_Cut_V]) (by kernel_rfl)) (fun _ => rfl) fun f3 hf3 => ?_
  refine mops_en hf3 (by kernel_rfl) fun f4 hf4 => ?_
  refine k_c ?_
  refine k_seq ?_
  refine k_reg ?_
  obtain ⟨r_1, hx_r_1, h⟩ := Option.bind_eq_some_iff.1 h
  refine mops_call rfl hf4 (av := [.s (.slice none 0 0)]) (by kernel_rfl) (v := .sl false r_1.length (cat slice_Part.v r_1)) (CalL.purew (slice_Cut_ok ([] : List api_Rec) r_1 hx_r_1) (Wks.cons Wk.nilsl Wks.nil) (by simp [V.static, statics, cat_stat]) (by simp [V.static, statics, cat_stat, slice_Cut_V]) (by kernel_rfl)) (fun _ => rfl) fun f5 hf5 => ?_
  refine mops_sg 9 hf5 (by kernel_rfl) fun f6 hf6 => ?_
  obtain ⟨c1, h⟩ := as_ok h
  refine mops_gadv (dst := (some 15)) (op := (.ias 2 (.t 14) (.k (.int .i64 0)))) (aft := [9, 8]) (t := 13) (w := true) (ch := [(13, true)]) (b := (((ln r_1) == 0) && ((ln r_) == 1))) (v := .ip ((cat slice_Part.v r_).drop ((0 : Int).toNat * 2))) (by kernel_rfl) hf6 (by kernel_rfl) (by kernel_rfl) (by kernel_rfl) (fun hb2 => e_ias (n := r_.length) (xv := .sl false r_.length (cat slice_Part.v r_)) (k := .i64) (iv := 0) (p := .ip ((cat slice_Part.v r_).drop ((0 : Int).toNat * 2))) (by kernel_rfl) (by kernel_rfl) (by kernel_rfl) (by kernel_rfl) (c1 hb2)) fun f7 hf7 => ?_
  refine mops_sg 1 hf7 (by kernel_rfl) fun f8 hf8 => ?_
  refine mops_gadv (dst := (some 17)) (op := (.load false 1 (.t 16))) (aft := [11, 8]) (t := 13) (w := true) (ch := [(13, true)]) (b := (((ln r_1) == 0) && ((ln r_) == 1))) (v := .s (.bool (gt r_ (0)).Ended)) (by kernel_rfl) hf8 (by kernel_rfl) (by kernel_rfl) (by kernel_rfl) (fun hb3 => e_load_ip (g := slice_Part.v) (l := r_) (iv := 0) [1] (by kernel_rfl) (c1 hb3) (by kernel_rfl) (by kernel_rfl)) fun f9 hf9 => ?_
  refine mops_sg 3 hf9 (by kernel_rfl) fun f10 hf10 => ?_
  obtain ⟨c4, h⟩ := as_ok h
  refine mops_gadv (dst := (some 21)) (op := (.ias 2 (.t 20) (.k (.int .i64 0)))) (aft := [15, 14]) (t := 19) (w := true) (ch := [(19, true)]) (b := ((((ln r_1) == 0) && ((ln r_) == 1)) && (gt r_ (0)).Ended)) (v := .ip ((cat slice_Part.v r_).drop ((0 : Int).toNat * 2))) (by kernel_rfl) hf10 (by kernel_rfl) (by kernel_rfl) (by kernel_rfl) (fun hb5 => e_ias (n := r_.length) (xv := .sl false r_.length (cat slice_Part.v r_)) (k := .i64) (iv := 0) (p := .ip ((cat slice_Part.v r_).drop ((0 : Int).toNat * 2))) (by kernel_rfl) (by kernel_rfl) (by kernel_rfl) (by kernel_rfl) (c4 hb5)) fun f11 hf11 => ?_
  refine mops_gadv (dst := (some 22)) (op := (.load true 2 (.t 21))) (aft := [16, 14]) (t := 19) (w := true) (ch := [(19, true)]) (b := ((((ln r_1) == 0) && ((ln r_) == 1)) && (gt r_ (0)).Ended)) (v := .agg [.sl false ((gt r_ (0)).Recs).length (cat api_Rec.v ((gt r_ (0)).Recs)), .s (.bool (gt r_ (0)).Ended)]) (by kernel_rfl) hf11 (by kernel_rfl) (by kernel_rfl) (by kernel_rfl) (fun hb6 => e_load_ip (g := slice_Part.v) (l := r_) (iv := 0) [] (by kernel_rfl) (c4 hb6) (by kernel_rfl) (by kernel_rfl)) fun f12 hf12 => ?_
  obtain ⟨r_2, hx_r_2, h⟩ := Option.bind_eq_some_iff.1 h
  refine mops_gcall (dst := (some 23)) (m := 41) (args := [(.t 22)]) (aft := [17, 14, 14]) (t := 19) (w := true) (ch := [(19, true)]) (b := ((((ln r_1) == 0) && ((ln r_) == 1)) && (gt r_ (0)).Ended)) (by kernel_rfl) hf12 (by kernel_rfl) (by kernel_rfl) (av := [.agg [.sl false ((gt r_ (0)).Recs).length (cat api_Rec.v ((gt r_ (0)).Recs)), .s (.bool (gt r_ (0)).Ended)]]) (by kernel_rfl) (v := .s (.int .i64 r_2)) (by kernel_rfl) (fun hb7 => (CalL.pure (slice_Part_Own_ok (gt r_ (0)) r_2 (if_t hx_r_2 hb7)) (by simp [V.static, statics, cat_stat]) rfl (Nat.le_of_ble_eq_true (by kernel_rfl)))) fun f13 hf13 => ?_
  refine mops_en hf13 (by kernel_rfl) fun f14 hf14 => ?_
  refine k_c ?_
  refine k_ret ?_
  obtain rfl := Option.some.inj h
  exact k_fin (fin_ret (.inl rfl) hf14 (vs := [.s (.bool (((((ln r_1) == 0) && ((ln r_) == 1)) && (gt r_ (0)).Ended) && (r_2 == 1)))]) (by kernel_rfl) (SettL.pure (FzL.stat rfl)))
end Go.Proofs.YtfdadnldlngmeaaK
