/- The Go functions come to the functions over typed data. Printed by a program of this work. -/
import Derived.Test.YtfdadnldlngmeaaF
import Derived.Test.YtfdadnldlngmeaaProg
import Derived.Test.YtfdadnldlngmeaaG0
import Derived.Test.YtfdadnldlngmeaaG1
import Derived.Test.YtfdadnldlngmeaaG3
namespace Go.Proofs.YtfdadnldlngmeaaK
set_option linter.unusedVariables false
set_option linter.unusedSimpArgs false
set_option maxHeartbeats 4000000
open Go.RowKit
attribute [local irreducible] dwv mops lops lqops lwops kont iter run runK rk okK ex E1 vals val chain chB sel resF
def spinetlaw48_SliceCuts_i0 : List Op1 := [(oM 2 (.k (.bool false)) [])]
def spinetlaw48_SliceCuts_i1 : List Op1 := [(oM 9 (.t 0) []), (oE 10 (.len (.t 9)) [0]), (oE 11 (.bin .gtr (.t 10) (.k (.int .i64 200))) [1])]
def spinetlaw48_SliceCuts_i2 : List Op1 := [(oM 2 (.k (.bool true)) [])]
def spinetlaw48_SliceCuts_i3 : IR := .ret
def spinetlaw48_SliceCuts_i4 : IR := (.cond (.t 11) (.seq (.reg false spinetlaw48_SliceCuts_i2) spinetlaw48_SliceCuts_i3) .skip)
def spinetlaw48_SliceCuts_i5 : List Op1 := [(oM 12 (.t 0) []), (oC 13 18 [(.t 12)] [0]), (oM 3 (.t 13) [1, 1, 0, 1])]
def spinetlaw48_SliceCuts_i6 : List Op1 := [(oE 4 (.nilg 9) [])]
def spinetlaw48_SliceCuts_i7 : List Op1 := [(oM 5 (.k (.int .i64 0)) [])]
def spinetlaw48_SliceCuts_i8 : List Op1 := [(oM 14 (.t 5) []), (oM 15 (.t 3) []), (oE 16 (.len (.t 15)) [1]), (oE 17 (.bin .lss (.t 14) (.t 16)) [0, 2])]
def spinetlaw48_SliceCuts_i9 : IR := (.cond (.t 17) .skip (.exit 0))
def spinetlaw48_SliceCuts_i10 : List Op1 := [(oM 20 (.t 3) []), (oM 21 (.t 5) []), (oE 22 (.ias 2 (.t 20) (.t 21)) [0, 1]), (oE 23 (.load true 2 (.t 22)) [2]), (oE 6 (.zero [(.slice none 0 0), (.bool false)]) []), (oN (.store 2 (.t 6) (.t 23)) [4, 3, 0, 1, 2, 3, 4])]
def spinetlaw48_SliceCuts_i11 : List Op1 := [(oE 24 (.fld 0 (.t 6)) []), (oE 25 (.load false 1 (.t 24)) [0]), (oE 26 (.len (.t 25)) [1]), (oE 27 (.bin .eql (.t 26) (.k (.int .i64 0))) [2]), (oM 28 (.t 27) [3]), (oG 29 (.fld 1 (.t 6)) 28 false [4]), (oG 30 (.load false 1 (.t 29)) 28 false [5, 4]), (oG 31 (.un .not (.t 30)) 28 false [6, 4]), (oG 32 (.mv (.t 31)) 28 false [7, 4, 4]), (oG 33 (.mv (.t 5)) 32 true [8]), (oG 34 (.bin .add (.t 33) (.k (.int .i64 1))) 32 true [9, 8]), (oG 35 (.mv (.t 3)) 32 true [8]), (oG 36 (.len (.t 35)) 32 true [11, 8]), (oG 37 (.bin .lss (.t 34) (.t 36)) 32 true [10, 12, 8]), (oG 38 (.pick (.t 32) (.t 37) (.k (.bool false))) 28 false [8, 13, 4]), (oE 39 (.pick (.t 28) (.k (.bool true)) (.t 38)) [4, 14]), (oM 40 (.t 39) [15, 8]), (oG 41 (.load true 2 (.t 6)) 40 false [16]), ⟨(some 42), (.call 19 [(.t 41)]), (some (40, false)), [17, 16, 16]⟩, (oG 43 (.un .not (.t 42)) 40 false [18, 16]), (oE 44 (.pick (.t 40) (.k (.bool true)) (.t 43)) [16, 19])]
def spinetlaw48_SliceCuts_i12 : List Op1 := [(oM 2 (.k (.bool false)) [])]
def spinetlaw48_SliceCuts_i13 : IR := .ret
def spinetlaw48_SliceCuts_i14 : IR := (.cond (.t 44) (.seq (.reg false spinetlaw48_SliceCuts_i12) spinetlaw48_SliceCuts_i13) .skip)
def spinetlaw48_SliceCuts_i15 : List Op1 := [(oM 7 (.k (.int .i64 0)) [])]
def spinetlaw48_SliceCuts_i16 : List Op1 := [(oM 45 (.t 7) []), (oE 46 (.fld 0 (.t 6)) []), (oE 47 (.load false 1 (.t 46)) [1]), (oE 48 (.len (.t 47)) [2]), (oE 49 (.bin .lss (.t 45) (.t 48)) [0, 3])]
def spinetlaw48_SliceCuts_i17 : IR := (.cond (.t 49) .skip (.exit 2))
def spinetlaw48_SliceCuts_i18 : List Op1 := [(oE 52 (.fld 0 (.t 6)) []), (oE 53 (.load false 1 (.t 52)) [0]), (oM 54 (.t 7) []), (oE 55 (.ias 9 (.t 53) (.t 54)) [1, 2]), (oE 56 (.fld 8 (.t 55)) [3]), (oE 57 (.load false 1 (.t 56)) [4]), (oM 58 (.t 57) [5]), (oG 59 (.fld 0 (.t 6)) 58 true [6]), (oG 60 (.load false 1 (.t 59)) 58 true [7, 6]), (oG 61 (.mv (.t 7)) 58 true [6]), (oG 62 (.ias 9 (.t 60) (.t 61)) 58 true [8, 9, 6]), (oG 63 (.fld 5 (.t 62)) 58 true [10, 6]), (oG 64 (.load false 1 (.t 63)) 58 true [11, 6]), (oE 65 (.pick (.t 58) (.t 64) (.k (.bool false))) [6, 12]), (oM 8 (.t 65) [13, 6, 0, 1, 2, 3, 4, 5, 6, 7, 8, 9, 10, 11, 12, 13])]
def spinetlaw48_SliceCuts_i19 : List Op1 := [(oM 66 (.t 8) []), (oE 67 (.fld 1 (.t 6)) []), (oE 68 (.load false 1 (.t 67)) [1]), (oM 69 (.t 68) [2]), (oG 70 (.mv (.t 7)) 69 true [3]), (oG 71 (.bin .add (.t 70) (.k (.int .i64 1))) 69 true [4, 3]), (oG 72 (.fld 0 (.t 6)) 69 true [3]), (oG 73 (.load false 1 (.t 72)) 69 true [6, 3]), (oG 74 (.len (.t 73)) 69 true [7, 3]), (oG 75 (.bin .eql (.t 71) (.t 74)) 69 true [5, 8, 3]), (oE 76 (.pick (.t 69) (.t 75) (.k (.bool false))) [3, 9]), (oE 77 (.bbin true (.t 66) (.t 76)) [0, 10])]
def spinetlaw48_SliceCuts_i20 : List Op1 := [(oM 2 (.k (.bool false)) [])]
def spinetlaw48_SliceCuts_i21 : IR := .ret
def spinetlaw48_SliceCuts_i22 : IR := (.cond (.t 77) (.seq (.reg false spinetlaw48_SliceCuts_i20) spinetlaw48_SliceCuts_i21) .skip)
def spinetlaw48_SliceCuts_i23 : IR := (.seq (.reg false spinetlaw48_SliceCuts_i19) spinetlaw48_SliceCuts_i22)
def spinetlaw48_SliceCuts_i24 : List Op1 := [(oM 50 (.t 7) []), (oE 51 (.bin .add (.t 50) (.k (.int .i64 1))) [0]), (oM 7 (.t 51) [1, 0, 1])]
def spinetlaw48_SliceCuts_i25 : IR := (.reg false spinetlaw48_SliceCuts_i24)
def spinetlaw48_SliceCuts_i26 : IR := (.seq (.block 3 (.seq (.reg false spinetlaw48_SliceCuts_i18) spinetlaw48_SliceCuts_i23)) spinetlaw48_SliceCuts_i25)
def spinetlaw48_SliceCuts_i27 : IR := (.seq (.seq (.reg false spinetlaw48_SliceCuts_i16) spinetlaw48_SliceCuts_i17) spinetlaw48_SliceCuts_i26)
def spinetlaw48_SliceCuts_i28 : IR := (.block 2 (.loop spinetlaw48_SliceCuts_i27))
def spinetlaw48_SliceCuts_i29 : List Op1 := [(oM 78 (.t 4) []), (oE 79 (.fld 0 (.t 6)) []), (oE 80 (.load false 1 (.t 79)) [1]), (oE 81 (.app 25 9 10 (.t 78) (.t 80)) [0, 2]), (oM 4 (.t 81) [3, 3, 0, 1, 2, 3])]
def spinetlaw48_SliceCuts_i30 : IR := (.reg false spinetlaw48_SliceCuts_i29)
def spinetlaw48_SliceCuts_i31 : IR := (.seq (.seq (.reg false spinetlaw48_SliceCuts_i15) spinetlaw48_SliceCuts_i28) spinetlaw48_SliceCuts_i30)
def spinetlaw48_SliceCuts_i32 : IR := (.seq (.seq (.reg false spinetlaw48_SliceCuts_i11) spinetlaw48_SliceCuts_i14) spinetlaw48_SliceCuts_i31)
def spinetlaw48_SliceCuts_i33 : List Op1 := [(oM 18 (.t 5) []), (oE 19 (.bin .add (.t 18) (.k (.int .i64 1))) [0]), (oM 5 (.t 19) [1, 0, 1])]
def spinetlaw48_SliceCuts_i34 : IR := (.reg false spinetlaw48_SliceCuts_i33)
def spinetlaw48_SliceCuts_i35 : IR := (.seq (.block 1 (.seq (.reg false spinetlaw48_SliceCuts_i10) spinetlaw48_SliceCuts_i32)) spinetlaw48_SliceCuts_i34)
def spinetlaw48_SliceCuts_i36 : IR := (.seq (.seq (.reg false spinetlaw48_SliceCuts_i8) spinetlaw48_SliceCuts_i9) spinetlaw48_SliceCuts_i35)
def spinetlaw48_SliceCuts_i37 : IR := (.block 0 (.loop spinetlaw48_SliceCuts_i36))
def spinetlaw48_SliceCuts_i38 : List Op1 := [(oM 82 (.t 4) []), (oM 83 (.t 0) []), (oC 84 20 [(.t 82), (.t 83)] [0, 1]), (oM 85 (.t 84) [2, 2]), ⟨(some 86), (.call 21 []), (some (85, true)), [3, 3]⟩, (oE 87 (.pick (.t 85) (.t 86) (.k (.bool false))) [3, 4]), (oM 2 (.t 87) [5, 4, 0, 1, 2, 3, 4, 5])]
def spinetlaw48_SliceCuts_i39 : IR := .ret
def spinetlaw48_SliceCuts_i40 : IR := (.seq (.reg false spinetlaw48_SliceCuts_i38) spinetlaw48_SliceCuts_i39)
def spinetlaw48_SliceCuts_i41 : IR := (.seq (.seq (.reg false spinetlaw48_SliceCuts_i7) spinetlaw48_SliceCuts_i37) spinetlaw48_SliceCuts_i40)
def spinetlaw48_SliceCuts_i42 : IR := (.seq (.reg false spinetlaw48_SliceCuts_i6) spinetlaw48_SliceCuts_i41)
def spinetlaw48_SliceCuts_i43 : IR := (.seq (.reg false spinetlaw48_SliceCuts_i5) spinetlaw48_SliceCuts_i42)
def spinetlaw48_SliceCuts_i44 : IR := (.seq (.seq (.reg false spinetlaw48_SliceCuts_i1) spinetlaw48_SliceCuts_i4) spinetlaw48_SliceCuts_i43)
def spinetlaw48_SliceCuts_ir : IR := (.seq (.reg false spinetlaw48_SliceCuts_i0) spinetlaw48_SliceCuts_i44)
theorem spinetlaw48_SliceCuts_cfn : cFn Try.prog 5 = some (spinetlaw48_SliceCuts_ir, [(.t 2)], 88) := by kernel_rfl
def spinetlaw48_SliceCuts_V (r : (Bool)) : V := .s (.bool r)
def spinetlaw48_SliceCuts_C (r : (Bool)) : X → Fr → Hp → Prop := FinL [(.t 2)] [] (spinetlaw48_SliceCuts_V r) []
theorem spinetlaw48_SliceCuts_ok (l_ : (List api_Rec)) (r : (Bool)) (h : spinetlaw48_SliceCuts l_ = some r) : Pure Try.prog 5 [.sl false l_.length (cat api_Rec.v l_)] (spinetlaw48_SliceCuts_V r) := by
  refine ConL.of spinetlaw48_SliceCuts_cfn (Nat.le_of_ble_eq_true (by kernel_rfl)) (Nat.le_of_ble_eq_true (by kernel_rfl)) ?_
  refine k_start ?_
  show dwv Try.prog [] spinetlaw48_SliceCuts_ir (kont Try.prog [] (spinetlaw48_SliceCuts_C r) []) (fr0 [.sl false l_.length (cat api_Rec.v l_)]) []
  have hf : FOk (fr0 [.sl false l_.length (cat api_Rec.v l_)]) [⟨0, [], .sl false l_.length (cat api_Rec.v l_)⟩] := ⟨⟨fun _ => rfl, fun h => (h trivial).elim⟩, trivial⟩
  generalize fr0 [.sl false l_.length (cat api_Rec.v l_)] = f at hf ⊢
  unfold spinetlaw48_SliceCuts at h
  refine k_seq ?_
  refine k_reg ?_
  refine mops_en hf (by kernel_rfl) fun f1 hf1 => ?_
  refine k_c ?_
  refine k_seq ?_
  refine k_seq ?_
  refine k_reg ?_
  refine mops_en hf1 (by kernel_rfl) fun f2 hf2 => ?_
  refine k_c ?_
  refine k_cond hf2 (t := (decide (200 < (ln l_)))) (by kernel_rfl) (fun hc1 => ?_) (fun hc1 => ?_)
  · have h := if_t h hc1
    refine k_seq ?_
    refine k_reg ?_
    refine mops_en hf2 (by kernel_rfl) fun f3 hf3 => ?_
    refine k_c ?_
    refine k_ret ?_
    refine x_c nofun ?_
    obtain rfl := Option.some.inj h
    exact k_fin (fin_ret (.inl rfl) hf3 (vs := [.s (.bool true)]) (by kernel_rfl) (SettL.pure (FzL.stat rfl)))
  · have h := if_f h hc1
    refine k_skip ?_
    refine k_c ?_
    refine k_seq ?_
    refine k_reg ?_
    refine mops_sg 1 hf2 (by kernel_rfl) fun f3 hf3 => ?_
    obtain ⟨r_, hx_r_, h⟩ := Option.bind_eq_some_iff.1 h
    refine mops_call rfl hf3 (av := [.sl false l_.length (cat api_Rec.v l_)]) (by kernel_rfl) (v := .sl false r_.length (cat slice_Part.v r_)) (CalL.pure (slice_Cut_ok l_ r_ hx_r_) (by simp [V.static, statics, cat_stat]) (by simp [V.static, statics, cat_stat, slice_Cut_V]) (Nat.le_of_ble_eq_true (by kernel_rfl))) (fun _ => rfl) fun f4 hf4 => ?_
    refine mops_en hf4 (by kernel_rfl) fun f5 hf5 => ?_
    refine k_c ?_
    refine k_seq ?_
    refine k_reg ?_
    refine mops_en hf5 (by kernel_rfl) fun f6 hf6 => ?_
    refine k_c ?_
    refine k_seq ?_
    refine k_seq ?_
    refine k_reg ?_
    refine mops_en hf6 (by kernel_rfl) fun f7 hf7 => ?_
    refine k_c ?_
    refine k_block ?_
    obtain ⟨o0, hx0, h⟩ := Option.bind_eq_some_iff.1 h
    have hret0 : ∀ r0, .ret r0 = o0 → r0 = r := fun r0 e => by subst e; exact Option.some.inj h
    have hgo0 : ∀ (l_3 : (List api_Rec)) (v_2 : Nat), .go l_3 = o0 → ∀ f, FOk f [⟨0, [], .sl false l_.length (cat api_Rec.v l_)⟩, ⟨2, [], .s (.bool false)⟩, ⟨4, [], .ref 0 v_2 0 l_3.length⟩] → kont Try.prog [] (spinetlaw48_SliceCuts_C r) ((.c spinetlaw48_SliceCuts_i40) :: []) .normal f [⟨v_2, .grow, 9, cat api_Rec.v l_3⟩] := by
      intro l_3 v_2 e f hf
      subst e
      refine k_c ?_
      refine k_seq ?_
      refine k_reg ?_
      refine mops_sg 2 hf (by kernel_rfl) fun f1 hf1 => ?_
      obtain ⟨r_4, hx_r_4, h⟩ := Option.bind_eq_some_iff.1 h
      refine mops_call rfl hf1 (av := [.ref 0 v_2 0 l_3.length, .sl false l_.length (cat api_Rec.v l_)]) (by kernel_rfl) (v := .s (.bool r_4)) (CalL.lend (slices_Equal_sl_api_Rec_api_Rec_ok l_3 l_ r_4 hx_r_4) rfl (Lends.cons (Lend.whole (g := api_Rec.v) (kd := .grow) (l := l_3) rfl (live_grow (by kernel_rfl))) (Lends.cons (Lend.stat (by simp [V.static, cat_stat])) Lends.nil)) (by kernel_rfl)) (fun _ => rfl) fun f2 hf2 => ?_
      refine mops_sg 1 hf2 (by kernel_rfl) fun f3 hf3 => ?_
      obtain ⟨r_5, hx_r_5, h⟩ := Option.bind_eq_some_iff.1 h
      refine mops_gcall (dst := (some 86)) (m := 21) (args := []) (aft := [3, 3]) (t := 85) (w := true) (ch := [(85, true)]) (b := r_4) (by kernel_rfl) hf3 (by kernel_rfl) (by kernel_rfl) (av := []) (by kernel_rfl) (v := .s (.bool r_5)) (by kernel_rfl) (fun hb13 => (CalL.pure (spinetlaw48_alive_ok  r_5 (if_t hx_r_5 hb13)) rfl rfl (Nat.le_of_ble_eq_true (by kernel_rfl)))) fun f4 hf4 => ?_
      refine mops_en hf4 (by kernel_rfl) fun f5 hf5 => ?_
      refine k_c ?_
      refine k_ret ?_
      obtain rfl := Option.some.inj h
      exact k_fin (fin_ret (.inl rfl) hf5 (vs := [.s (.bool (r_4 && r_5))]) (by kernel_rfl) (SettL.pure (FzL.stat rfl)))
    refine k_loop BIG ?_
    refine loop_ind (fun n f L => ∃ (l_2 : (List api_Rec)) (i_1 : Int) (v_1 : Nat), spinetlaw48_SliceCuts_l2 r_ n l_2 i_1 = some o0 ∧ FOk f [⟨0, [], .sl false l_.length (cat api_Rec.v l_)⟩, ⟨2, [], .s (.bool false)⟩, ⟨3, [], .sl false r_.length (cat slice_Part.v r_)⟩, ⟨4, [], .ref 0 v_1 0 l_2.length⟩, ⟨5, [], .s (.int .i64 i_1)⟩] ∧ L = [⟨v_1, .grow, 9, cat api_Rec.v l_2⟩]) ?_ ?_ BIG _ _ ⟨([] : List api_Rec), (0), (0), hx0, FOk_of [0, 2, 3, 4, 5] hf7 (by kernel_rfl), (by kernel_rfl)⟩
    · rintro f L ⟨l_2, i_1, v_1, h, _⟩
      cases (show (none : Option _) = some _ from h)
    · rintro n0 R0 ih f L ⟨l_2, i_1, v_1, h, hf, rfl⟩
      rw [spinetlaw48_SliceCuts_l2] at h
      refine k_seq ?_
      refine k_seq ?_
      refine k_reg ?_
      refine mops_en hf (by kernel_rfl) fun f1 hf1 => ?_
      refine k_c ?_
      refine k_cond hf1 (t := (decide (i_1 < (ln r_)))) (by kernel_rfl) (fun hc2 => ?_) (fun hc2 => ?_)
      · have h := if_t h hc2
        refine k_skip ?_
        refine k_c ?_
        refine k_seq ?_
        refine k_block ?_
        refine k_seq ?_
        refine k_reg ?_
        refine mops_sg 2 hf1 (by kernel_rfl) fun f2 hf2 => ?_
        obtain ⟨c3, h⟩ := as_ok h
        refine mops_adv rfl (v := .ip ((cat slice_Part.v r_).drop ((i_1 : Int).toNat * 2))) hf2 (by kernel_rfl) (e_ias (n := r_.length) (xv := .sl false r_.length (cat slice_Part.v r_)) (k := .i64) (iv := i_1) (p := .ip ((cat slice_Part.v r_).drop ((i_1 : Int).toNat * 2))) (by kernel_rfl) (by kernel_rfl) (by kernel_rfl) (by kernel_rfl) c3) fun f3 hf3 => ?_
        refine mops_adv rfl (v := .agg [.sl false ((gt r_ i_1).Recs).length (cat api_Rec.v ((gt r_ i_1).Recs)), .s (.bool (gt r_ i_1).Ended)]) hf3 (by kernel_rfl) (e_load_ip (g := slice_Part.v) (l := r_) (iv := i_1) [] (by kernel_rfl) c3 (by kernel_rfl) (by kernel_rfl)) fun f4 hf4 => ?_
        refine mops_en hf4 (by kernel_rfl) fun f5 hf5 => ?_
        refine k_c ?_
        refine k_seq ?_
        refine k_seq ?_
        refine k_reg ?_
        refine mops_sg 18 hf5 (by kernel_rfl) fun f6 hf6 => ?_
        obtain ⟨r_3, hx_r_3, h⟩ := Option.bind_eq_some_iff.1 h
        refine mops_gcall (dst := (some 42)) (m := 19) (args := [(.t 41)]) (aft := [17, 16, 16]) (t := 40) (w := false) (ch := [(40, false)]) (b := (!(((ln ((gt r_ i_1).Recs)) == 0) || ((!(gt r_ i_1).Ended) && (decide ((IntKind.wrap .i64 (i_1 + 1)) < (ln r_))))))) (by kernel_rfl) hf6 (by kernel_rfl) (by kernel_rfl) (av := [.agg [.sl false ((gt r_ i_1).Recs).length (cat api_Rec.v ((gt r_ i_1).Recs)), .s (.bool (gt r_ i_1).Ended)]]) (by kernel_rfl) (v := .s (.bool r_3)) (by kernel_rfl) (fun hb4 => (CalL.pure (spinetlaw48_told_ok (gt r_ i_1) r_3 (if_t hx_r_3 hb4)) (by simp [V.static, statics, cat_stat]) rfl (Nat.le_of_ble_eq_true (by kernel_rfl)))) fun f7 hf7 => ?_
        refine mops_en hf7 (by kernel_rfl) fun f8 hf8 => ?_
        refine k_c ?_
        refine k_cond hf8 (t := ((((ln ((gt r_ i_1).Recs)) == 0) || ((!(gt r_ i_1).Ended) && (decide ((IntKind.wrap .i64 (i_1 + 1)) < (ln r_))))) || (!r_3))) (by kernel_rfl) (fun hc5 => ?_) (fun hc5 => ?_)
        · have h := if_t h hc5
          refine k_seq ?_
          refine k_reg ?_
          refine mops_en hf8 (by kernel_rfl) fun f9 hf9 => ?_
          refine k_c ?_
          refine k_ret ?_
          refine x_c nofun ?_
          refine x_br ?_
          refine x_c nofun ?_
          refine x_l nofun ?_
          refine x_br ?_
          refine x_c nofun ?_
          obtain rfl := hret0 _ (Option.some.inj h)
          exact k_fin (fin_ret (.inl rfl) hf9 (vs := [.s (.bool false)]) (by kernel_rfl) (SettL.pure (FzL.stat rfl)))
        · have h := if_f h hc5
          refine k_skip ?_
          refine k_c ?_
          refine k_seq ?_
          refine k_seq ?_
          refine k_reg ?_
          refine mops_en hf8 (by kernel_rfl) fun f9 hf9 => ?_
          refine k_c ?_
          refine k_block ?_
          obtain ⟨o1, hx1, h⟩ := Option.bind_eq_some_iff.1 h
          have hret1 : ∀ r0, .ret r0 = o1 → r0 = r := fun r0 e => by subst e; exact hret0 _ (Option.some.inj h)
          have hgo1 : ∀ (k_8 : Int) (t_4 : Int) (t_5 : Bool), .go (k_8, t_4, t_5) = o1 → ∀ f, FOk f [⟨0, [], .sl false l_.length (cat api_Rec.v l_)⟩, ⟨2, [], .s (.bool false)⟩, ⟨3, [], .sl false r_.length (cat slice_Part.v r_)⟩, ⟨4, [], .ref 0 v_1 0 l_2.length⟩, ⟨5, [], .s (.int .i64 i_1)⟩, ⟨6, [], .ptr 1 0 0⟩, ⟨7, [], .s (.int .i64 k_8)⟩, ⟨14, [], .s (.int .i64 i_1)⟩, ⟨15, [], .sl false r_.length (cat slice_Part.v r_)⟩, ⟨16, [], .s (.int .i64 (ln r_))⟩, ⟨17, [], .s (.bool (decide (i_1 < (ln r_))))⟩, ⟨20, [], .sl false r_.length (cat slice_Part.v r_)⟩, ⟨21, [], .s (.int .i64 i_1)⟩, ⟨22, [], .ip ((cat slice_Part.v r_).drop ((i_1 : Int).toNat * 2))⟩, ⟨23, [], .agg [.sl false ((gt r_ i_1).Recs).length (cat api_Rec.v ((gt r_ i_1).Recs)), .s (.bool (gt r_ i_1).Ended)]⟩, ⟨24, [], .ptr 1 0 0⟩, ⟨25, [], .sl false ((gt r_ i_1).Recs).length (cat api_Rec.v ((gt r_ i_1).Recs))⟩, ⟨26, [], .s (.int .i64 (ln ((gt r_ i_1).Recs)))⟩, ⟨27, [], .s (.bool ((ln ((gt r_ i_1).Recs)) == 0))⟩, ⟨28, [], .s (.bool ((ln ((gt r_ i_1).Recs)) == 0))⟩, ⟨39, [], .s (.bool (((ln ((gt r_ i_1).Recs)) == 0) || ((!(gt r_ i_1).Ended) && (decide ((IntKind.wrap .i64 (i_1 + 1)) < (ln r_))))))⟩, ⟨40, [], .s (.bool (((ln ((gt r_ i_1).Recs)) == 0) || ((!(gt r_ i_1).Ended) && (decide ((IntKind.wrap .i64 (i_1 + 1)) < (ln r_))))))⟩, ⟨44, [], .s (.bool ((((ln ((gt r_ i_1).Recs)) == 0) || ((!(gt r_ i_1).Ended) && (decide ((IntKind.wrap .i64 (i_1 + 1)) < (ln r_))))) || (!r_3)))⟩, ⟨45, [], .s (.int .i64 t_4)⟩, ⟨46, [], .ptr 1 0 0⟩, ⟨47, [], .sl false ((gt r_ i_1).Recs).length (cat api_Rec.v ((gt r_ i_1).Recs))⟩, ⟨48, [], .s (.int .i64 (ln ((gt r_ i_1).Recs)))⟩, ⟨49, [], .s (.bool t_5)⟩] → kont Try.prog [] (spinetlaw48_SliceCuts_C r) ((.c spinetlaw48_SliceCuts_i30) :: (.b 1) :: (.c spinetlaw48_SliceCuts_i34) :: (.l R0) :: (.b 0) :: (.c spinetlaw48_SliceCuts_i40) :: []) .normal f [⟨v_1, .grow, 9, cat api_Rec.v l_2⟩, ⟨0, .mem, 1, [.sl false ((gt r_ i_1).Recs).length (cat api_Rec.v ((gt r_ i_1).Recs)), .s (.bool (gt r_ i_1).Ended)]⟩] := by
            intro k_8 t_4 t_5 e f hf
            subst e
            refine k_c ?_
            refine k_reg ?_
            refine mops_sg 3 hf (by kernel_rfl) fun f1 hf1 => ?_
            obtain ⟨c12, h⟩ := as_ok h
            refine mops_adv rfl (v := .ref 0 (v_1 + 1) 0 (l_2 ++ ((gt r_ i_1).Recs)).length) hf1 (by kernel_rfl) (e_app (g := api_Rec.v) (l := l_2) (l' := ((gt r_ i_1).Recs)) (b := 0) (ver := v_1) (n := l_2.length) rfl (by kernel_rfl) rfl (live_grow (by kernel_rfl)) (by kernel_rfl) (slc_ev (v := .sl false ((gt r_ i_1).Recs).length (cat api_Rec.v ((gt r_ i_1).Recs))) (by kernel_rfl) (slc_sl (g := api_Rec.v) ((gt r_ i_1).Recs))) c12) fun f2 hf2 => ?_
            refine mops_en hf2 (by kernel_rfl) fun f3 hf3 => ?_
            refine k_b ?_
            refine k_c ?_
            refine k_reg ?_
            refine mops_en hf3 (by kernel_rfl) fun f4 hf4 => ?_
            refine k_l' (vs_cut (l := [⟨0, [], .sl false l_.length (cat api_Rec.v l_)⟩, ⟨2, [], .s (.bool false)⟩, ⟨3, [], .sl false r_.length (cat slice_Part.v r_)⟩, ⟨4, [], .ref 0 (v_1 + 1) 0 (l_2 ++ ((gt r_ i_1).Recs)).length⟩, ⟨5, [], .s (.int .i64 (IntKind.wrap .i64 (i_1 + 1)))⟩]) 1 (by kernel_rfl) (by kernel_rfl) (L' := [⟨(v_1 + 1), .grow, 9, cat api_Rec.v (l_2 ++ ((gt r_ i_1).Recs))⟩]) (by kernel_rfl) ⟨⟨rfl, (static_under _ _ (by simp [V.static, statics, cat_stat, dropcat_stat]))⟩, ⟨rfl, rfl⟩, ⟨rfl, (static_under _ _ (by simp [V.static, statics, cat_stat, dropcat_stat]))⟩, ⟨rfl, rfl⟩, ⟨rfl, rfl⟩, trivial⟩ ⟨.inr (.inr (statics_unders _ _ (cat_stat _))), trivial⟩ (FOk_of [0, 2, 3, 4, 5] hf4 (by kernel_rfl)) fun f hf => ?_)
            exact ih _ _ ⟨(l_2 ++ ((gt r_ i_1).Recs)), (IntKind.wrap .i64 (i_1 + 1)), (v_1 + 1), h, hf, rfl⟩
          refine k_loop BIG ?_
          refine loop_ind (fun n f L => ∃ (k_7 : Int), spinetlaw48_SliceCuts_l3 r_ i_1 n k_7 = some o1 ∧ FOk f [⟨0, [], .sl false l_.length (cat api_Rec.v l_)⟩, ⟨2, [], .s (.bool false)⟩, ⟨3, [], .sl false r_.length (cat slice_Part.v r_)⟩, ⟨4, [], .ref 0 v_1 0 l_2.length⟩, ⟨5, [], .s (.int .i64 i_1)⟩, ⟨6, [], .ptr 1 0 0⟩, ⟨7, [], .s (.int .i64 k_7)⟩, ⟨14, [], .s (.int .i64 i_1)⟩, ⟨15, [], .sl false r_.length (cat slice_Part.v r_)⟩, ⟨16, [], .s (.int .i64 (ln r_))⟩, ⟨17, [], .s (.bool (decide (i_1 < (ln r_))))⟩, ⟨20, [], .sl false r_.length (cat slice_Part.v r_)⟩, ⟨21, [], .s (.int .i64 i_1)⟩, ⟨22, [], .ip ((cat slice_Part.v r_).drop ((i_1 : Int).toNat * 2))⟩, ⟨23, [], .agg [.sl false ((gt r_ i_1).Recs).length (cat api_Rec.v ((gt r_ i_1).Recs)), .s (.bool (gt r_ i_1).Ended)]⟩, ⟨24, [], .ptr 1 0 0⟩, ⟨25, [], .sl false ((gt r_ i_1).Recs).length (cat api_Rec.v ((gt r_ i_1).Recs))⟩, ⟨26, [], .s (.int .i64 (ln ((gt r_ i_1).Recs)))⟩, ⟨27, [], .s (.bool ((ln ((gt r_ i_1).Recs)) == 0))⟩, ⟨28, [], .s (.bool ((ln ((gt r_ i_1).Recs)) == 0))⟩, ⟨39, [], .s (.bool (((ln ((gt r_ i_1).Recs)) == 0) || ((!(gt r_ i_1).Ended) && (decide ((IntKind.wrap .i64 (i_1 + 1)) < (ln r_))))))⟩, ⟨40, [], .s (.bool (((ln ((gt r_ i_1).Recs)) == 0) || ((!(gt r_ i_1).Ended) && (decide ((IntKind.wrap .i64 (i_1 + 1)) < (ln r_))))))⟩, ⟨44, [], .s (.bool ((((ln ((gt r_ i_1).Recs)) == 0) || ((!(gt r_ i_1).Ended) && (decide ((IntKind.wrap .i64 (i_1 + 1)) < (ln r_))))) || (!r_3)))⟩] ∧ L = [⟨v_1, .grow, 9, cat api_Rec.v l_2⟩, ⟨0, .mem, 1, [.sl false ((gt r_ i_1).Recs).length (cat api_Rec.v ((gt r_ i_1).Recs)), .s (.bool (gt r_ i_1).Ended)]⟩]) ?_ ?_ BIG _ _ ⟨(0), hx1, FOk_of [0, 2, 3, 4, 5, 6, 7, 14, 15, 16, 17, 20, 21, 22, 23, 24, 25, 26, 27, 28, 39, 40, 44] hf9 (by kernel_rfl), (by kernel_rfl)⟩
          · rintro f L ⟨k_7, h, _⟩
            cases (show (none : Option _) = some _ from h)
          · rintro n1 R1 ih f L ⟨k_7, h, hf, rfl⟩
            rw [spinetlaw48_SliceCuts_l3] at h
            refine k_seq ?_
            refine k_seq ?_
            refine k_reg ?_
            refine mops_en hf (by kernel_rfl) fun f1 hf1 => ?_
            refine k_c ?_
            refine k_cond hf1 (t := (decide (k_7 < (ln ((gt r_ i_1).Recs))))) (by kernel_rfl) (fun hc6 => ?_) (fun hc6 => ?_)
            · have h := if_t h hc6
              refine k_skip ?_
              refine k_c ?_
              refine k_seq ?_
              refine k_block ?_
              refine k_seq ?_
              refine k_reg ?_
              refine mops_sg 3 hf1 (by kernel_rfl) fun f2 hf2 => ?_
              obtain ⟨c7, h⟩ := as_ok h
              refine mops_adv rfl (v := .ip ((cat api_Rec.v ((gt r_ i_1).Recs)).drop ((k_7 : Int).toNat * 9))) hf2 (by kernel_rfl) (e_ias (n := ((gt r_ i_1).Recs).length) (xv := .sl false ((gt r_ i_1).Recs).length (cat api_Rec.v ((gt r_ i_1).Recs))) (k := .i64) (iv := k_7) (p := .ip ((cat api_Rec.v ((gt r_ i_1).Recs)).drop ((k_7 : Int).toNat * 9))) (by kernel_rfl) (by kernel_rfl) (by kernel_rfl) (by kernel_rfl) c7) fun f3 hf3 => ?_
              refine mops_sg 1 hf3 (by kernel_rfl) fun f4 hf4 => ?_
              refine mops_adv rfl (v := .s (.bool (gt ((gt r_ i_1).Recs) k_7).Mine)) hf4 (by kernel_rfl) (e_load_ip (g := api_Rec.v) (l := ((gt r_ i_1).Recs)) (iv := k_7) [8] (by kernel_rfl) c7 (by kernel_rfl) (by kernel_rfl)) fun f5 hf5 => ?_
              refine mops_sg 4 hf5 (by kernel_rfl) fun f6 hf6 => ?_
              obtain ⟨c8, h⟩ := as_ok h
              refine mops_gadv (dst := (some 62)) (op := (.ias 9 (.t 60) (.t 61))) (aft := [8, 9, 6]) (t := 58) (w := true) (ch := [(58, true)]) (b := (gt ((gt r_ i_1).Recs) k_7).Mine) (v := .ip ((cat api_Rec.v ((gt r_ i_1).Recs)).drop ((k_7 : Int).toNat * 9))) (by kernel_rfl) hf6 (by kernel_rfl) (by kernel_rfl) (by kernel_rfl) (fun hb9 => e_ias (n := ((gt r_ i_1).Recs).length) (xv := .sl false ((gt r_ i_1).Recs).length (cat api_Rec.v ((gt r_ i_1).Recs))) (k := .i64) (iv := k_7) (p := .ip ((cat api_Rec.v ((gt r_ i_1).Recs)).drop ((k_7 : Int).toNat * 9))) (by kernel_rfl) (by kernel_rfl) (by kernel_rfl) (by kernel_rfl) (c8 hb9)) fun f7 hf7 => ?_
              refine mops_sg 1 hf7 (by kernel_rfl) fun f8 hf8 => ?_
              refine mops_gadv (dst := (some 64)) (op := (.load false 1 (.t 63))) (aft := [11, 6]) (t := 58) (w := true) (ch := [(58, true)]) (b := (gt ((gt r_ i_1).Recs) k_7).Mine) (v := .s (.bool (gt ((gt r_ i_1).Recs) k_7).LIC)) (by kernel_rfl) hf8 (by kernel_rfl) (by kernel_rfl) (by kernel_rfl) (fun hb10 => e_load_ip (g := api_Rec.v) (l := ((gt r_ i_1).Recs)) (iv := k_7) [5] (by kernel_rfl) (c8 hb10) (by kernel_rfl) (by kernel_rfl)) fun f9 hf9 => ?_
              refine mops_en hf9 (by kernel_rfl) fun f10 hf10 => ?_
              refine k_c ?_
              refine k_seq ?_
              refine k_reg ?_
              refine mops_en hf10 (by kernel_rfl) fun f11 hf11 => ?_
              refine k_c ?_
              refine k_cond hf11 (t := (!(((gt ((gt r_ i_1).Recs) k_7).Mine && (gt ((gt r_ i_1).Recs) k_7).LIC) == ((gt r_ i_1).Ended && ((IntKind.wrap .i64 (k_7 + 1)) == (ln ((gt r_ i_1).Recs))))))) (by kernel_rfl) (fun hc11 => ?_) (fun hc11 => ?_)
              · have h := if_t h hc11
                refine k_seq ?_
                refine k_reg ?_
                refine mops_en hf11 (by kernel_rfl) fun f12 hf12 => ?_
                refine k_c ?_
                refine k_ret ?_
                refine x_br ?_
                refine x_c nofun ?_
                refine x_l nofun ?_
                refine x_br ?_
                refine x_c nofun ?_
                refine x_br ?_
                refine x_c nofun ?_
                refine x_l nofun ?_
                refine x_br ?_
                refine x_c nofun ?_
                obtain rfl := hret1 _ (Option.some.inj h)
                exact k_fin (fin_ret (.inl rfl) hf12 (vs := [.s (.bool false)]) (by kernel_rfl) (SettL.pure (FzL.stat rfl)))
              · have h := if_f h hc11
                refine k_skip ?_
                refine k_b ?_
                refine k_c ?_
                refine k_reg ?_
                refine mops_end [0, 2, 3, 4, 5, 6, 7, 8, 14, 15, 16, 17, 20, 21, 22, 23, 24, 25, 26, 27, 28, 39, 40, 44, 45, 46, 47, 48, 49, 50, 51, 52, 53, 54, 55, 56, 57, 58, 59, 60, 61, 62, 63, 64, 65, 66, 67, 68, 69, 70, 71, 72, 73, 74, 75, 76, 77] hf11 (l' := [⟨0, [], .sl false l_.length (cat api_Rec.v l_)⟩, ⟨2, [], .s (.bool false)⟩, ⟨3, [], .sl false r_.length (cat slice_Part.v r_)⟩, ⟨4, [], .ref 0 v_1 0 l_2.length⟩, ⟨5, [], .s (.int .i64 i_1)⟩, ⟨6, [], .ptr 1 0 0⟩, ⟨7, [], .s (.int .i64 (IntKind.wrap .i64 (k_7 + 1)))⟩, ⟨8, [], .s (.bool ((gt ((gt r_ i_1).Recs) k_7).Mine && (gt ((gt r_ i_1).Recs) k_7).LIC))⟩, ⟨14, [], .s (.int .i64 i_1)⟩, ⟨15, [], .sl false r_.length (cat slice_Part.v r_)⟩, ⟨16, [], .s (.int .i64 (ln r_))⟩, ⟨17, [], .s (.bool (decide (i_1 < (ln r_))))⟩, ⟨20, [], .sl false r_.length (cat slice_Part.v r_)⟩, ⟨21, [], .s (.int .i64 i_1)⟩, ⟨22, [], .ip ((cat slice_Part.v r_).drop ((i_1 : Int).toNat * 2))⟩, ⟨23, [], .agg [.sl false ((gt r_ i_1).Recs).length (cat api_Rec.v ((gt r_ i_1).Recs)), .s (.bool (gt r_ i_1).Ended)]⟩, ⟨24, [], .ptr 1 0 0⟩, ⟨25, [], .sl false ((gt r_ i_1).Recs).length (cat api_Rec.v ((gt r_ i_1).Recs))⟩, ⟨26, [], .s (.int .i64 (ln ((gt r_ i_1).Recs)))⟩, ⟨27, [], .s (.bool ((ln ((gt r_ i_1).Recs)) == 0))⟩, ⟨28, [], .s (.bool ((ln ((gt r_ i_1).Recs)) == 0))⟩, ⟨39, [], .s (.bool (((ln ((gt r_ i_1).Recs)) == 0) || ((!(gt r_ i_1).Ended) && (decide ((IntKind.wrap .i64 (i_1 + 1)) < (ln r_))))))⟩, ⟨40, [], .s (.bool (((ln ((gt r_ i_1).Recs)) == 0) || ((!(gt r_ i_1).Ended) && (decide ((IntKind.wrap .i64 (i_1 + 1)) < (ln r_))))))⟩, ⟨44, [], .s (.bool ((((ln ((gt r_ i_1).Recs)) == 0) || ((!(gt r_ i_1).Ended) && (decide ((IntKind.wrap .i64 (i_1 + 1)) < (ln r_))))) || (!r_3)))⟩, ⟨45, [], .s (.int .i64 k_7)⟩, ⟨46, [], .ptr 1 0 0⟩, ⟨47, [], .sl false ((gt r_ i_1).Recs).length (cat api_Rec.v ((gt r_ i_1).Recs))⟩, ⟨48, [], .s (.int .i64 (ln ((gt r_ i_1).Recs)))⟩, ⟨49, [], .s (.bool (decide (k_7 < (ln ((gt r_ i_1).Recs)))))⟩, ⟨50, [], .s (.int .i64 k_7)⟩, ⟨51, [], .s (.int .i64 (IntKind.wrap .i64 (k_7 + 1)))⟩, ⟨52, [], .ptr 1 0 0⟩, ⟨53, [], .sl false ((gt r_ i_1).Recs).length (cat api_Rec.v ((gt r_ i_1).Recs))⟩, ⟨54, [], .s (.int .i64 k_7)⟩, ⟨55, [], .ip ((cat api_Rec.v ((gt r_ i_1).Recs)).drop ((k_7 : Int).toNat * 9))⟩, ⟨56, [], .ip (((cat api_Rec.v ((gt r_ i_1).Recs)).drop ((k_7 : Int).toNat * 9)).drop 8)⟩, ⟨57, [], .s (.bool (gt ((gt r_ i_1).Recs) k_7).Mine)⟩, ⟨58, [], .s (.bool (gt ((gt r_ i_1).Recs) k_7).Mine)⟩, ⟨59, [(58, true)], .ptr 1 0 0⟩, ⟨60, [(58, true)], .sl false ((gt r_ i_1).Recs).length (cat api_Rec.v ((gt r_ i_1).Recs))⟩, ⟨61, [(58, true)], .s (.int .i64 k_7)⟩, ⟨62, [(58, true)], .ip ((cat api_Rec.v ((gt r_ i_1).Recs)).drop ((k_7 : Int).toNat * 9))⟩, ⟨63, [(58, true)], .ip (((cat api_Rec.v ((gt r_ i_1).Recs)).drop ((k_7 : Int).toNat * 9)).drop 5)⟩, ⟨64, [(58, true)], .s (.bool (gt ((gt r_ i_1).Recs) k_7).LIC)⟩, ⟨65, [], .s (.bool ((gt ((gt r_ i_1).Recs) k_7).Mine && (gt ((gt r_ i_1).Recs) k_7).LIC))⟩, ⟨66, [], .s (.bool ((gt ((gt r_ i_1).Recs) k_7).Mine && (gt ((gt r_ i_1).Recs) k_7).LIC))⟩, ⟨67, [], .ptr 1 0 1⟩, ⟨68, [], .s (.bool (gt r_ i_1).Ended)⟩, ⟨69, [], .s (.bool (gt r_ i_1).Ended)⟩, ⟨70, [(69, true)], .s (.int .i64 k_7)⟩, ⟨71, [(69, true)], .s (.int .i64 (IntKind.wrap .i64 (k_7 + 1)))⟩, ⟨72, [(69, true)], .ptr 1 0 0⟩, ⟨73, [(69, true)], .sl false ((gt r_ i_1).Recs).length (cat api_Rec.v ((gt r_ i_1).Recs))⟩, ⟨74, [(69, true)], .s (.int .i64 (ln ((gt r_ i_1).Recs)))⟩, ⟨75, [(69, true)], .s (.bool ((IntKind.wrap .i64 (k_7 + 1)) == (ln ((gt r_ i_1).Recs))))⟩, ⟨76, [], .s (.bool ((gt r_ i_1).Ended && ((IntKind.wrap .i64 (k_7 + 1)) == (ln ((gt r_ i_1).Recs)))))⟩, ⟨77, [], .s (.bool (!(((gt ((gt r_ i_1).Recs) k_7).Mine && (gt ((gt r_ i_1).Recs) k_7).LIC) == ((gt r_ i_1).Ended && ((IntKind.wrap .i64 (k_7 + 1)) == (ln ((gt r_ i_1).Recs)))))))⟩]) (L' := [⟨v_1, .grow, 9, cat api_Rec.v l_2⟩, ⟨0, .mem, 1, [.sl false ((gt r_ i_1).Recs).length (cat api_Rec.v ((gt r_ i_1).Recs)), .s (.bool (gt r_ i_1).Ended)]⟩]) (by kernel_rfl) fun f12 hf12 => ?_
                refine k_l ?_
                exact ih _ _ ⟨(IntKind.wrap .i64 (k_7 + 1)), h, FOk_of [0, 2, 3, 4, 5, 6, 7, 14, 15, 16, 17, 20, 21, 22, 23, 24, 25, 26, 27, 28, 39, 40, 44] hf12 (by kernel_rfl), rfl⟩
            · have h := if_f h hc6
              refine k_exit ?_
              refine x_c nofun ?_
              refine x_l nofun ?_
              refine x_b ?_
              refine k_hp (L' := [⟨v_1, .grow, 9, cat api_Rec.v l_2⟩, ⟨0, .mem, 1, [.sl false ((gt r_ i_1).Recs).length (cat api_Rec.v ((gt r_ i_1).Recs)), .s (.bool (gt r_ i_1).Ended)]⟩]) (by kernel_rfl) ?_
              exact hgo1 k_7 k_7 (decide (k_7 < (ln ((gt r_ i_1).Recs)))) (Option.some.inj h) _ (FOk_of [0, 2, 3, 4, 5, 6, 7, 14, 15, 16, 17, 20, 21, 22, 23, 24, 25, 26, 27, 28, 39, 40, 44, 45, 46, 47, 48, 49] hf1 (by kernel_rfl))
      · have h := if_f h hc2
        refine k_exit ?_
        refine x_c nofun ?_
        refine x_l nofun ?_
        refine x_b ?_
        refine k_hp (L' := [⟨v_1, .grow, 9, cat api_Rec.v l_2⟩]) (by kernel_rfl) ?_
        exact hgo0 l_2 v_1 (Option.some.inj h) _ (FOk_of [0, 2, 4] hf1 (by kernel_rfl))
end Go.Proofs.YtfdadnldlngmeaaK
