/- The Go functions come to the functions over typed data. Printed by a program of this work. -/
import Derived.Test.YthooddibdmigmaaDoorF
import Derived.Test.YthooddibdmigmaaDoorProg
import Derived.Test.YthooddibdmigmaaDoorG0
import Derived.Test.YthooddibdmigmaaDoorG1
import Derived.Test.YthooddibdmigmaaDoorG2
import Derived.Test.YthooddibdmigmaaDoorG3
namespace Go.Proofs.YthooddibdmigmaaDoorK
set_option linter.unusedVariables false
set_option linter.unusedSimpArgs false
set_option maxHeartbeats 4000000
open Go.RowKit
attribute [local irreducible] dwv mops lops lqops lwops kont iter run runK rk okK ex E1 vals val chain chB sel resF
def spinetlaw43_LexerAll_i0 : List Op1 := [(oM 2 (.k (.bool false)) [])]
def spinetlaw43_LexerAll_i1 : List Op1 := [(oM 10 (.t 0) []), (oE 11 (.lens (.t 10)) [0]), (oE 12 (.bin .gtr (.t 11) (.k (.int .i64 600))) [1])]
def spinetlaw43_LexerAll_i2 : List Op1 := [(oM 2 (.k (.bool true)) [])]
def spinetlaw43_LexerAll_i3 : IR := .ret
def spinetlaw43_LexerAll_i4 : IR := (.cond (.t 12) (.seq (.reg false spinetlaw43_LexerAll_i2) spinetlaw43_LexerAll_i3) .skip)
def spinetlaw43_LexerAll_i5 : List Op1 := [(oM 14 (.t 0) []), (oC 15 5 [(.t 14)] [0]), (oM 13 (.t 15) [1]), (oE 16 (.ext 0 (.t 13)) [2]), (oE 17 (.ext 1 (.t 13)) [2]), (oE 18 (.ext 2 (.t 13)) [2]), (oM 3 (.t 16) [3, 1, 0, 1, 2, 3]), (oM 4 (.t 17) [4, 6, 0, 1, 2, 3, 4, 6]), (oM 5 (.t 18) [5, 7, 0, 1, 2, 3, 4, 5, 6, 7])]
def spinetlaw43_LexerAll_i6 : List Op1 := [(oM 19 (.t 0) []), (oC 20 6 [(.t 19)] [0]), (oM 6 (.t 20) [1, 1, 0, 1])]
def spinetlaw43_LexerAll_i7 : List Op1 := [(oM 7 (.k (.int .i64 0)) [])]
def spinetlaw43_LexerAll_i8 : List Op1 := [(oM 21 (.t 7) []), (oM 22 (.t 6) []), (oE 23 (.len (.t 22)) [1]), (oE 24 (.bin .lss (.t 21) (.t 23)) [0, 2])]
def spinetlaw43_LexerAll_i9 : IR := (.cond (.t 24) .skip (.exit 0))
def spinetlaw43_LexerAll_i10 : List Op1 := [(oM 28 (.t 6) []), (oM 29 (.t 7) []), (oE 30 (.ias 1 (.t 28) (.t 29)) [0, 1]), (oE 31 (.load false 1 (.t 30)) [2]), (oC 32 7 [(.t 31)] [3]), (oM 27 (.t 32) [4]), (oE 33 (.ext 0 (.t 27)) [5]), (oE 34 (.ext 1 (.t 27)) [5]), (oE 8 (.zero [(.string ⟨#[]⟩), (.string ⟨#[]⟩), (.string ⟨#[]⟩)]) []), (oN (.store 3 (.t 8) (.t 33)) [8, 6, 4, 0, 1, 2, 3, 4, 5, 6, 8]), (oM 9 (.t 34) [7, 9, 0, 1, 2, 3, 4, 5, 6, 7, 8, 9])]
def spinetlaw43_LexerAll_i11 : List Op1 := [(oM 35 (.t 9) []), (oE 36 (.un .not (.t 35)) [0])]
def spinetlaw43_LexerAll_i12 : List Op1 := [(oM 37 (.t 3) []), (oE 38 (.len (.t 37)) [0]), (oE 39 (.bin .eql (.t 38) (.k (.int .i64 0))) [1]), (oM 40 (.t 39) [2]), (oG 41 (.mv (.t 4)) 40 true [3]), (oG 42 (.mv (.t 7)) 40 true [3]), (oG 43 (.bin .add (.t 42) (.k (.int .i64 1))) 40 true [5, 3]), (oG 44 (.bin .eql (.t 41) (.t 43)) 40 true [4, 6, 3]), (oE 45 (.pick (.t 40) (.t 44) (.k (.bool false))) [3, 7]), (oM 46 (.t 45) [8, 3]), (oG 47 (.mv (.t 5)) 46 true [9]), (oG 48 (.bin .eql (.t 47) (.k (.int .i64 40))) 46 true [10, 9]), (oE 49 (.pick (.t 46) (.t 48) (.k (.bool false))) [9, 11]), (oM 50 (.t 49) [12, 9]), ⟨(some 51), (.call 8 []), (some (50, true)), [13, 13]⟩, (oE 52 (.pick (.t 50) (.t 51) (.k (.bool false))) [13, 14]), (oM 2 (.t 52) [15, 14, 0, 1, 2, 3, 4, 5, 6, 7, 8, 9, 10, 11, 12, 13, 14, 15])]
def spinetlaw43_LexerAll_i13 : IR := .ret
def spinetlaw43_LexerAll_i14 : IR := (.cond (.t 36) (.seq (.reg false spinetlaw43_LexerAll_i12) spinetlaw43_LexerAll_i13) .skip)
def spinetlaw43_LexerAll_i15 : List Op1 := [(oM 53 (.t 3) []), (oE 54 (.len (.t 53)) [0]), (oE 55 (.bin .neq (.t 54) (.k (.int .i64 0))) [1]), (oM 56 (.t 55) [2]), (oG 57 (.mv (.t 7)) 56 true [3]), (oG 58 (.mv (.t 3)) 56 true [3]), (oG 59 (.len (.t 58)) 56 true [5, 3]), (oG 60 (.bin .geq (.t 57) (.t 59)) 56 true [4, 6, 3]), (oG 61 (.mv (.t 60)) 56 true [7, 3, 3]), (oG 62 (.mv (.t 3)) 61 false [8]), (oG 63 (.mv (.t 7)) 61 false [8]), (oG 64 (.ias 3 (.t 62) (.t 63)) 61 false [9, 10, 8]), (oG 65 (.load true 3 (.t 64)) 61 false [11, 8]), (oG 66 (.fld 0 (.t 8)) 61 false [8]), (oG 67 (.load false 1 (.t 66)) 61 false [13, 8]), (oG 68 (.fld 1 (.t 8)) 61 false [8]), (oG 69 (.load false 1 (.t 68)) 61 false [15, 8]), (oG 70 (.fld 2 (.t 8)) 61 false [8]), (oG 71 (.load false 1 (.t 70)) 61 false [17, 8]), (oG 72 (.build [(.string ⟨#[]⟩), (.string ⟨#[]⟩), (.string ⟨#[]⟩)] [(0, (1, (.t 67))), (1, (1, (.t 69))), (2, (1, (.t 71)))]) 61 false [14, 16, 18, 8]), (oG 73 (.eqa true [.str, .str, .str] (.t 65) (.t 72)) 61 false [12, 19, 8]), (oG 74 (.pick (.t 61) (.k (.bool true)) (.t 73)) 56 true [8, 20, 3]), (oE 75 (.pick (.t 56) (.t 74) (.k (.bool false))) [3, 21])]
def spinetlaw43_LexerAll_i16 : List Op1 := [(oM 2 (.k (.bool false)) [])]
def spinetlaw43_LexerAll_i17 : IR := .ret
def spinetlaw43_LexerAll_i18 : IR := (.cond (.t 75) (.seq (.reg false spinetlaw43_LexerAll_i16) spinetlaw43_LexerAll_i17) .skip)
def spinetlaw43_LexerAll_i19 : IR := (.seq (.reg true spinetlaw43_LexerAll_i15) spinetlaw43_LexerAll_i18)
def spinetlaw43_LexerAll_i20 : IR := (.seq (.seq (.reg false spinetlaw43_LexerAll_i11) spinetlaw43_LexerAll_i14) spinetlaw43_LexerAll_i19)
def spinetlaw43_LexerAll_i21 : List Op1 := [(oM 25 (.t 7) []), (oE 26 (.bin .add (.t 25) (.k (.int .i64 1))) [0]), (oM 7 (.t 26) [1, 0, 1])]
def spinetlaw43_LexerAll_i22 : IR := (.reg false spinetlaw43_LexerAll_i21)
def spinetlaw43_LexerAll_i23 : IR := (.seq (.block 1 (.seq (.reg false spinetlaw43_LexerAll_i10) spinetlaw43_LexerAll_i20)) spinetlaw43_LexerAll_i22)
def spinetlaw43_LexerAll_i24 : IR := (.seq (.seq (.reg false spinetlaw43_LexerAll_i8) spinetlaw43_LexerAll_i9) spinetlaw43_LexerAll_i23)
def spinetlaw43_LexerAll_i25 : IR := (.block 0 (.loop spinetlaw43_LexerAll_i24))
def spinetlaw43_LexerAll_i26 : List Op1 := [(oM 76 (.t 3) []), (oE 77 (.len (.t 76)) [0]), (oM 78 (.t 6) []), (oE 79 (.len (.t 78)) [2]), (oE 80 (.bin .eql (.t 77) (.t 79)) [1, 3]), (oM 81 (.t 80) [4]), (oG 82 (.mv (.t 4)) 81 true [5]), (oG 83 (.bin .eql (.t 82) (.k (.int .i64 0))) 81 true [6, 5]), (oE 84 (.pick (.t 81) (.t 83) (.k (.bool false))) [5, 7]), (oM 85 (.t 84) [8, 5]), (oG 86 (.mv (.t 5)) 85 true [9]), (oG 87 (.bin .eql (.t 86) (.k (.int .i64 0))) 85 true [10, 9]), (oE 88 (.pick (.t 85) (.t 87) (.k (.bool false))) [9, 11]), (oM 89 (.t 88) [12, 9]), ⟨(some 90), (.call 8 []), (some (89, true)), [13, 13]⟩, (oE 91 (.pick (.t 89) (.t 90) (.k (.bool false))) [13, 14]), (oM 2 (.t 91) [15, 14, 0, 1, 2, 3, 4, 5, 6, 7, 8, 9, 10, 11, 12, 13, 14, 15])]
def spinetlaw43_LexerAll_i27 : IR := .ret
def spinetlaw43_LexerAll_i28 : IR := (.seq (.reg false spinetlaw43_LexerAll_i26) spinetlaw43_LexerAll_i27)
def spinetlaw43_LexerAll_i29 : IR := (.seq (.seq (.reg false spinetlaw43_LexerAll_i7) spinetlaw43_LexerAll_i25) spinetlaw43_LexerAll_i28)
def spinetlaw43_LexerAll_i30 : IR := (.seq (.reg false spinetlaw43_LexerAll_i6) spinetlaw43_LexerAll_i29)
def spinetlaw43_LexerAll_i31 : IR := (.seq (.reg false spinetlaw43_LexerAll_i5) spinetlaw43_LexerAll_i30)
def spinetlaw43_LexerAll_i32 : IR := (.seq (.seq (.reg false spinetlaw43_LexerAll_i1) spinetlaw43_LexerAll_i4) spinetlaw43_LexerAll_i31)
def spinetlaw43_LexerAll_ir : IR := (.seq (.reg false spinetlaw43_LexerAll_i0) spinetlaw43_LexerAll_i32)
theorem spinetlaw43_LexerAll_cfn : cFn Tryd.prog 3 = some (spinetlaw43_LexerAll_ir, [(.t 2)], 92) := by kernel_rfl
def spinetlaw43_LexerAll_V (r : (Bool)) : V := .s (.bool r)
def spinetlaw43_LexerAll_C (r : (Bool)) : X → Fr → Hp → Prop := FinL [(.t 2)] [] (spinetlaw43_LexerAll_V r) []
theorem spinetlaw43_LexerAll_ok (s_ : ByteArray) (r : (Bool)) (h : spinetlaw43_LexerAll s_ = some r) : Pure Tryd.prog 3 [.s (.string s_)] (spinetlaw43_LexerAll_V r) := by
  refine ConL.of spinetlaw43_LexerAll_cfn (Nat.le_of_ble_eq_true (by kernel_rfl)) (Nat.le_of_ble_eq_true (by kernel_rfl)) ?_
  refine k_start ?_
  show dwv Tryd.prog [] spinetlaw43_LexerAll_ir (kont Tryd.prog [] (spinetlaw43_LexerAll_C r) []) (fr0 [.s (.string s_)]) []
  have hf : FOk (fr0 [.s (.string s_)]) [⟨0, [], .s (.string s_)⟩] := ⟨⟨fun _ => rfl, fun h => (h trivial).elim⟩, trivial⟩
  generalize fr0 [.s (.string s_)] = f at hf ⊢
  unfold spinetlaw43_LexerAll at h
  refine k_seq ?_
  refine k_reg ?_
  refine mops_en hf (by kernel_rfl) fun f1 hf1 => ?_
  refine k_c ?_
  refine k_seq ?_
  refine k_seq ?_
  refine k_reg ?_
  refine mops_en hf1 (by kernel_rfl) fun f2 hf2 => ?_
  refine k_c ?_
  refine k_cond hf2 (t := (decide (600 < (sln s_)))) (by kernel_rfl) (fun hc1 => ?_) (fun hc1 => ?_)
  · have h := if_t h hc1
    refine k_seq ?_
    refine k_reg ?_
    refine mops_en hf2 (by kernel_rfl) fun f3 hf3 => ?_
    refine k_c ?_
    refine k_ret ?_
    refine x_c nofun ?_
    obtain rfl := Option.some.inj h
    exact k_fin (fin_ret (.inl rfl) hf3 (vs := [.s (.bool true)]) (by kernel_rfl) (SettL.pure (FzL.stat rfl)))
  · have h := if_f h hc1
    refine k_skip ?_
    refine k_c ?_
    refine k_seq ?_
    refine k_reg ?_
    refine mops_sg 1 hf2 (by kernel_rfl) fun f3 hf3 => ?_
    obtain ⟨r_, hx_r_, h⟩ := Option.bind_eq_some_iff.1 h
    refine mops_call rfl hf3 (av := [.s (.string s_)]) (by kernel_rfl) (v := .tup [.sl false r_.1.length (cat lexer_Line.v r_.1), .s (.int .i64 r_.2.1), .s (.int .i64 r_.2.2)]) (CalL.pure (lexer_All_ok s_ r_ hx_r_) rfl (by simp [V.static, statics, cat_stat, lexer_All_V]) (Nat.le_of_ble_eq_true (by kernel_rfl))) (fun _ => rfl) fun f4 hf4 => ?_
    refine mops_en hf4 (by kernel_rfl) fun f5 hf5 => ?_
    refine k_c ?_
    refine k_seq ?_
    refine k_reg ?_
    refine mops_sg 1 hf5 (by kernel_rfl) fun f6 hf6 => ?_
    obtain ⟨r_1, hx_r_1, h⟩ := Option.bind_eq_some_iff.1 h
    refine mops_call rfl hf6 (av := [.s (.string s_)]) (by kernel_rfl) (v := .sl false r_1.length (cat nS r_1)) (CalL.pure (spinetref43_Lines_ok s_ r_1 hx_r_1) rfl (by simp [V.static, statics, cat_stat, spinetref43_Lines_V]) (Nat.le_of_ble_eq_true (by kernel_rfl))) (fun _ => rfl) fun f7 hf7 => ?_
    refine mops_en hf7 (by kernel_rfl) fun f8 hf8 => ?_
    refine k_c ?_
    refine k_seq ?_
    refine k_seq ?_
    refine k_reg ?_
    refine mops_en hf8 (by kernel_rfl) fun f9 hf9 => ?_
    refine k_c ?_
    refine k_block ?_
    obtain ⟨o0, hx0, h⟩ := Option.bind_eq_some_iff.1 h
    have hret0 : ∀ r0, .ret r0 = o0 → r0 = r := fun r0 e => by subst e; exact Option.some.inj h
    have hgo0 : .go () = o0 → ∀ f, FOk f [⟨2, [], .s (.bool false)⟩, ⟨3, [], .sl false r_.1.length (cat lexer_Line.v r_.1)⟩, ⟨4, [], .s (.int .i64 r_.2.1)⟩, ⟨5, [], .s (.int .i64 r_.2.2)⟩, ⟨6, [], .sl false r_1.length (cat nS r_1)⟩] → kont Tryd.prog [] (spinetlaw43_LexerAll_C r) ((.c spinetlaw43_LexerAll_i28) :: []) .normal f [] := by
      intro  e f hf
      subst e
      refine k_c ?_
      refine k_seq ?_
      refine k_reg ?_
      refine mops_sg 14 hf (by kernel_rfl) fun f1 hf1 => ?_
      obtain ⟨r_8, hx_r_8, h⟩ := Option.bind_eq_some_iff.1 h
      refine mops_gcall (dst := (some 90)) (m := 8) (args := []) (aft := [13, 13]) (t := 89) (w := true) (ch := [(89, true)]) (b := ((((ln r_.1) == (ln r_1)) && (r_.2.1 == 0)) && (r_.2.2 == 0))) (by kernel_rfl) hf1 (by kernel_rfl) (by kernel_rfl) (av := []) (by kernel_rfl) (v := .s (.bool r_8)) (by kernel_rfl) (fun hb10 => (CalL.pure (spinetlaw43_alive_ok  r_8 (if_t hx_r_8 hb10)) rfl rfl (Nat.le_of_ble_eq_true (by kernel_rfl)))) fun f2 hf2 => ?_
      refine mops_en hf2 (by kernel_rfl) fun f3 hf3 => ?_
      refine k_c ?_
      refine k_ret ?_
      obtain rfl := Option.some.inj h
      exact k_fin (fin_ret (.inl rfl) hf3 (vs := [.s (.bool (((((ln r_.1) == (ln r_1)) && (r_.2.1 == 0)) && (r_.2.2 == 0)) && r_8))]) (by kernel_rfl) (SettL.pure (FzL.stat rfl)))
    refine k_loop BIG ?_
    refine loop_ind (fun n f L => ∃ (i_1 : Int), spinetlaw43_LexerAll_l0 r_ r_1 n i_1 = some o0 ∧ FOk f [⟨2, [], .s (.bool false)⟩, ⟨3, [], .sl false r_.1.length (cat lexer_Line.v r_.1)⟩, ⟨4, [], .s (.int .i64 r_.2.1)⟩, ⟨5, [], .s (.int .i64 r_.2.2)⟩, ⟨6, [], .sl false r_1.length (cat nS r_1)⟩, ⟨7, [], .s (.int .i64 i_1)⟩] ∧ L = []) ?_ ?_ BIG _ _ ⟨(0), hx0, FOk_of [2, 3, 4, 5, 6, 7] hf9 (by kernel_rfl), (by kernel_rfl)⟩
    · rintro f L ⟨i_1, h, _⟩
      cases (show (none : Option _) = some _ from h)
    · rintro n0 R0 ih f L ⟨i_1, h, hf, rfl⟩
      rw [spinetlaw43_LexerAll_l0] at h
      refine k_seq ?_
      refine k_seq ?_
      refine k_reg ?_
      refine mops_en hf (by kernel_rfl) fun f1 hf1 => ?_
      refine k_c ?_
      refine k_cond hf1 (t := (decide (i_1 < (ln r_1)))) (by kernel_rfl) (fun hc2 => ?_) (fun hc2 => ?_)
      · have h := if_t h hc2
        refine k_skip ?_
        refine k_c ?_
        refine k_seq ?_
        refine k_block ?_
        refine k_seq ?_
        refine k_reg ?_
        refine mops_sg 2 hf1 (by kernel_rfl) fun f2 hf2 => ?_
        obtain ⟨c3, h⟩ := as_ok h
        refine mops_adv rfl (v := .ip ((cat nS r_1).drop ((i_1 : Int).toNat * 1))) hf2 (by kernel_rfl) (e_ias (n := r_1.length) (xv := .sl false r_1.length (cat nS r_1)) (k := .i64) (iv := i_1) (p := .ip ((cat nS r_1).drop ((i_1 : Int).toNat * 1))) (by kernel_rfl) (by kernel_rfl) (by kernel_rfl) (by kernel_rfl) c3) fun f3 hf3 => ?_
        refine mops_adv rfl (v := .s (.string (gt r_1 i_1))) hf3 (by kernel_rfl) (e_load_ip (g := nS) (l := r_1) (iv := i_1) [] (by kernel_rfl) c3 (by kernel_rfl) (by kernel_rfl)) fun f4 hf4 => ?_
        obtain ⟨r_6, hx_r_6, h⟩ := Option.bind_eq_some_iff.1 h
        refine mops_call rfl hf4 (av := [.s (.string (gt r_1 i_1))]) (by kernel_rfl) (v := .tup [.agg [.s (.string r_6.1.Label), .s (.string r_6.1.Op), .s (.string r_6.1.Arg)], .s (.bool r_6.2)]) (CalL.pure (spinetref43_Cut_ok (gt r_1 i_1) r_6 hx_r_6) rfl rfl (Nat.le_of_ble_eq_true (by kernel_rfl))) (fun _ => rfl) fun f5 hf5 => ?_
        refine mops_en hf5 (by kernel_rfl) fun f6 hf6 => ?_
        refine k_c ?_
        refine k_seq ?_
        refine k_seq ?_
        refine k_reg ?_
        refine mops_en hf6 (by kernel_rfl) fun f7 hf7 => ?_
        refine k_c ?_
        refine k_cond hf7 (t := (!r_6.2)) (by kernel_rfl) (fun hc4 => ?_) (fun hc4 => ?_)
        · have h := if_t h hc4
          refine k_seq ?_
          refine k_reg ?_
          refine mops_sg 14 hf7 (by kernel_rfl) fun f8 hf8 => ?_
          obtain ⟨r_7, hx_r_7, h⟩ := Option.bind_eq_some_iff.1 h
          refine mops_gcall (dst := (some 51)) (m := 8) (args := []) (aft := [13, 13]) (t := 50) (w := true) (ch := [(50, true)]) (b := ((((ln r_.1) == 0) && (r_.2.1 == (IntKind.wrap .i64 (i_1 + 1)))) && (r_.2.2 == 40))) (by kernel_rfl) hf8 (by kernel_rfl) (by kernel_rfl) (av := []) (by kernel_rfl) (v := .s (.bool r_7)) (by kernel_rfl) (fun hb5 => (CalL.pure (spinetlaw43_alive_ok  r_7 (if_t hx_r_7 hb5)) rfl rfl (Nat.le_of_ble_eq_true (by kernel_rfl)))) fun f9 hf9 => ?_
          refine mops_en hf9 (by kernel_rfl) fun f10 hf10 => ?_
          refine k_c ?_
          refine k_ret ?_
          refine x_c nofun ?_
          refine x_br ?_
          refine x_c nofun ?_
          refine x_l nofun ?_
          refine x_br ?_
          refine x_c nofun ?_
          obtain rfl := hret0 _ (Option.some.inj h)
          exact k_fin (fin_ret (.inl rfl) hf10 (vs := [.s (.bool (((((ln r_.1) == 0) && (r_.2.1 == (IntKind.wrap .i64 (i_1 + 1)))) && (r_.2.2 == 40)) && r_7))]) (by kernel_rfl) (SettL.pure (FzL.stat rfl)))
        · have h := if_f h hc4
          refine k_skip ?_
          refine k_c ?_
          refine k_seq ?_
          refine k_regq ?_
          refine mops_sg 11 hf7 (by kernel_rfl) fun f8 hf8 => ?_
          obtain ⟨c6, h⟩ := as_ok h
          refine mops_gadv (dst := (some 64)) (op := (.ias 3 (.t 62) (.t 63))) (aft := [9, 10, 8]) (t := 61) (w := false) (ch := [(61, false), (56, true)]) (b := ((!(decide ((ln r_.1) ≤ i_1))) && ((ln r_.1) != 0))) (v := .ip ((cat lexer_Line.v r_.1).drop ((i_1 : Int).toNat * 3))) (by kernel_rfl) hf8 (by kernel_rfl) (by kernel_rfl) (by kernel_rfl) (fun hb7 => e_ias (n := r_.1.length) (xv := .sl false r_.1.length (cat lexer_Line.v r_.1)) (k := .i64) (iv := i_1) (p := .ip ((cat lexer_Line.v r_.1).drop ((i_1 : Int).toNat * 3))) (by kernel_rfl) (by kernel_rfl) (by kernel_rfl) (by kernel_rfl) (c6 hb7)) fun f9 hf9 => ?_
          refine mops_gadv (dst := (some 65)) (op := (.load true 3 (.t 64))) (aft := [11, 8]) (t := 61) (w := false) (ch := [(61, false), (56, true)]) (b := ((!(decide ((ln r_.1) ≤ i_1))) && ((ln r_.1) != 0))) (v := .agg [.s (.string (gt r_.1 i_1).Label), .s (.string (gt r_.1 i_1).Op), .s (.string (gt r_.1 i_1).Arg)]) (by kernel_rfl) hf9 (by kernel_rfl) (by kernel_rfl) (by kernel_rfl) (fun hb8 => e_load_ip (g := lexer_Line.v) (l := r_.1) (iv := i_1) [] (by kernel_rfl) (c6 hb8) (by kernel_rfl) (by kernel_rfl)) fun f10 hf10 => ?_
          refine mops_end [2, 3, 4, 5, 6, 7, 8, 9, 21, 22, 23, 24, 27, 28, 29, 30, 31, 32, 33, 34, 35, 36, 53, 54, 55, 56, 57, 58, 59, 60, 61, 62, 63, 64, 65, 66, 67, 68, 69, 70, 71, 72, 73, 74, 75] hf10 (l' := [⟨2, [], .s (.bool false)⟩, ⟨3, [], .sl false r_.1.length (cat lexer_Line.v r_.1)⟩, ⟨4, [], .s (.int .i64 r_.2.1)⟩, ⟨5, [], .s (.int .i64 r_.2.2)⟩, ⟨6, [], .sl false r_1.length (cat nS r_1)⟩, ⟨7, [], .s (.int .i64 i_1)⟩, ⟨8, [], .ptr 0 0 0⟩, ⟨9, [], .s (.bool r_6.2)⟩, ⟨21, [], .s (.int .i64 i_1)⟩, ⟨22, [], .sl false r_1.length (cat nS r_1)⟩, ⟨23, [], .s (.int .i64 (ln r_1))⟩, ⟨24, [], .s (.bool (decide (i_1 < (ln r_1))))⟩, ⟨27, [], .tup [.agg [.s (.string r_6.1.Label), .s (.string r_6.1.Op), .s (.string r_6.1.Arg)], .s (.bool r_6.2)]⟩, ⟨28, [], .sl false r_1.length (cat nS r_1)⟩, ⟨29, [], .s (.int .i64 i_1)⟩, ⟨30, [], .ip ((cat nS r_1).drop ((i_1 : Int).toNat * 1))⟩, ⟨31, [], .s (.string (gt r_1 i_1))⟩, ⟨32, [], .tup [.agg [.s (.string r_6.1.Label), .s (.string r_6.1.Op), .s (.string r_6.1.Arg)], .s (.bool r_6.2)]⟩, ⟨33, [], .agg [.s (.string r_6.1.Label), .s (.string r_6.1.Op), .s (.string r_6.1.Arg)]⟩, ⟨34, [], .s (.bool r_6.2)⟩, ⟨35, [], .s (.bool r_6.2)⟩, ⟨36, [], .s (.bool (!r_6.2))⟩, ⟨53, [], .sl false r_.1.length (cat lexer_Line.v r_.1)⟩, ⟨54, [], .s (.int .i64 (ln r_.1))⟩, ⟨55, [], .s (.bool ((ln r_.1) != 0))⟩, ⟨56, [], .s (.bool ((ln r_.1) != 0))⟩, ⟨57, [(56, true)], .s (.int .i64 i_1)⟩, ⟨58, [(56, true)], .sl false r_.1.length (cat lexer_Line.v r_.1)⟩, ⟨59, [(56, true)], .s (.int .i64 (ln r_.1))⟩, ⟨60, [(56, true)], .s (.bool (decide ((ln r_.1) ≤ i_1)))⟩, ⟨61, [(56, true)], .s (.bool (decide ((ln r_.1) ≤ i_1)))⟩, ⟨62, [(61, false), (56, true)], .sl false r_.1.length (cat lexer_Line.v r_.1)⟩, ⟨63, [(61, false), (56, true)], .s (.int .i64 i_1)⟩, ⟨64, [(61, false), (56, true)], .ip ((cat lexer_Line.v r_.1).drop ((i_1 : Int).toNat * 3))⟩, ⟨65, [(61, false), (56, true)], .agg [.s (.string (gt r_.1 i_1).Label), .s (.string (gt r_.1 i_1).Op), .s (.string (gt r_.1 i_1).Arg)]⟩, ⟨66, [(61, false), (56, true)], .ptr 0 0 0⟩, ⟨67, [(61, false), (56, true)], .s (.string r_6.1.Label)⟩, ⟨68, [(61, false), (56, true)], .ptr 0 0 1⟩, ⟨69, [(61, false), (56, true)], .s (.string r_6.1.Op)⟩, ⟨70, [(61, false), (56, true)], .ptr 0 0 2⟩, ⟨71, [(61, false), (56, true)], .s (.string r_6.1.Arg)⟩, ⟨72, [(61, false), (56, true)], .agg [.s (.string r_6.1.Label), .s (.string r_6.1.Op), .s (.string r_6.1.Arg)]⟩, ⟨73, [(61, false), (56, true)], .s (.bool (!(((gt r_.1 i_1).Label == r_6.1.Label) && (((gt r_.1 i_1).Op == r_6.1.Op) && (((gt r_.1 i_1).Arg == r_6.1.Arg) && true)))))⟩, ⟨74, [(56, true)], .s (.bool ((decide ((ln r_.1) ≤ i_1)) || (!(((gt r_.1 i_1).Label == r_6.1.Label) && (((gt r_.1 i_1).Op == r_6.1.Op) && (((gt r_.1 i_1).Arg == r_6.1.Arg) && true))))))⟩, ⟨75, [], .s (.bool (((ln r_.1) != 0) && ((decide ((ln r_.1) ≤ i_1)) || (!(((gt r_.1 i_1).Label == r_6.1.Label) && (((gt r_.1 i_1).Op == r_6.1.Op) && (((gt r_.1 i_1).Arg == r_6.1.Arg) && true)))))))⟩]) (L' := [⟨0, .mem, 1, [.s (.string r_6.1.Label), .s (.string r_6.1.Op), .s (.string r_6.1.Arg)]⟩]) (by kernel_rfl) fun f11 hf11 => ?_
          refine k_c ?_
          refine k_cond hf11 (t := (((ln r_.1) != 0) && ((decide ((ln r_.1) ≤ i_1)) || (!(((gt r_.1 i_1).Label == r_6.1.Label) && (((gt r_.1 i_1).Op == r_6.1.Op) && (((gt r_.1 i_1).Arg == r_6.1.Arg) && true))))))) (by kernel_rfl) (fun hc9 => ?_) (fun hc9 => ?_)
          · have h := if_t h hc9
            refine k_seq ?_
            refine k_reg ?_
            refine mops_en hf11 (by kernel_rfl) fun f12 hf12 => ?_
            refine k_c ?_
            refine k_ret ?_
            refine x_br ?_
            refine x_c nofun ?_
            refine x_l nofun ?_
            refine x_br ?_
            refine x_c nofun ?_
            obtain rfl := hret0 _ (Option.some.inj h)
            exact k_fin (fin_ret (.inl rfl) hf12 (vs := [.s (.bool false)]) (by kernel_rfl) (SettL.pure (FzL.stat rfl)))
          · have h := if_f h hc9
            refine k_skip ?_
            refine k_b ?_
            refine k_c ?_
            refine k_reg ?_
            refine mops_en hf11 (by kernel_rfl) fun f12 hf12 => ?_
            refine k_l' (vs_cut (l := [⟨2, [], .s (.bool false)⟩, ⟨3, [], .sl false r_.1.length (cat lexer_Line.v r_.1)⟩, ⟨4, [], .s (.int .i64 r_.2.1)⟩, ⟨5, [], .s (.int .i64 r_.2.2)⟩, ⟨6, [], .sl false r_1.length (cat nS r_1)⟩, ⟨7, [], .s (.int .i64 (IntKind.wrap .i64 (i_1 + 1)))⟩]) 0 (by kernel_rfl) (by kernel_rfl) (L' := []) (by kernel_rfl) ⟨⟨rfl, rfl⟩, ⟨rfl, (static_under _ _ (by simp [V.static, statics, cat_stat, dropcat_stat]))⟩, ⟨rfl, rfl⟩, ⟨rfl, rfl⟩, ⟨rfl, (static_under _ _ (by simp [V.static, statics, cat_stat, dropcat_stat]))⟩, ⟨rfl, rfl⟩, trivial⟩ trivial (FOk_of [2, 3, 4, 5, 6, 7] hf12 (by kernel_rfl)) fun f hf => ?_)
            exact ih _ _ ⟨(IntKind.wrap .i64 (i_1 + 1)), h, hf, rfl⟩
      · have h := if_f h hc2
        refine k_exit ?_
        refine x_c nofun ?_
        refine x_l nofun ?_
        refine x_b ?_
        refine k_hp (L' := []) (by kernel_rfl) ?_
        exact hgo0  (Option.some.inj h) _ (FOk_of [2, 3, 4, 5, 6] hf1 (by kernel_rfl))
def spinetlaw43_LexerCuts_i0 : List Op1 := [(oM 2 (.k (.bool false)) [])]
def spinetlaw43_LexerCuts_i1 : List Op1 := [(oM 7 (.t 0) []), (oE 8 (.lens (.t 7)) [0]), (oE 9 (.bin .gtr (.t 8) (.k (.int .i64 200))) [1])]
def spinetlaw43_LexerCuts_i2 : List Op1 := [(oM 2 (.k (.bool true)) [])]
def spinetlaw43_LexerCuts_i3 : IR := .ret
def spinetlaw43_LexerCuts_i4 : IR := (.cond (.t 9) (.seq (.reg false spinetlaw43_LexerCuts_i2) spinetlaw43_LexerCuts_i3) .skip)
def spinetlaw43_LexerCuts_i5 : List Op1 := [(oM 11 (.t 0) []), (oC 12 9 [(.t 11)] [0]), (oM 10 (.t 12) [1]), (oE 13 (.ext 0 (.t 10)) [2]), (oE 14 (.ext 1 (.t 10)) [2]), (oE 3 (.zero [(.string ⟨#[]⟩), (.string ⟨#[]⟩), (.string ⟨#[]⟩)]) []), (oN (.store 3 (.t 3) (.t 13)) [5, 3, 1, 0, 1, 2, 3, 5]), (oM 4 (.t 14) [4, 6, 0, 1, 2, 3, 4, 5, 6])]
def spinetlaw43_LexerCuts_i6 : List Op1 := [(oM 16 (.t 0) []), (oC 17 7 [(.t 16)] [0]), (oM 15 (.t 17) [1]), (oE 18 (.ext 0 (.t 15)) [2]), (oE 19 (.ext 1 (.t 15)) [2]), (oE 5 (.zero [(.string ⟨#[]⟩), (.string ⟨#[]⟩), (.string ⟨#[]⟩)]) []), (oN (.store 3 (.t 5) (.t 18)) [5, 3, 1, 0, 1, 2, 3, 5]), (oM 6 (.t 19) [4, 6, 0, 1, 2, 3, 4, 5, 6])]
def spinetlaw43_LexerCuts_i7 : List Op1 := [(oM 20 (.t 0) []), (oC 21 11 [(.t 20)] [0]), (oM 22 (.t 0) []), (oC 23 12 [(.t 22)] [2, 1]), (oC 24 10 [(.t 21), (.t 23)] [1, 3, 3]), (oE 25 (.un .not (.t 24)) [4])]
def spinetlaw43_LexerCuts_i8 : List Op1 := [(oM 2 (.k (.bool false)) [])]
def spinetlaw43_LexerCuts_i9 : IR := .ret
def spinetlaw43_LexerCuts_i10 : IR := (.cond (.t 25) (.seq (.reg false spinetlaw43_LexerCuts_i8) spinetlaw43_LexerCuts_i9) .skip)
def spinetlaw43_LexerCuts_i11 : List Op1 := [(oM 26 (.t 6) []), (oE 27 (.un .not (.t 26)) [0])]
def spinetlaw43_LexerCuts_i12 : List Op1 := [(oE 28 (.load true 3 (.t 3)) []), (oE 29 (.build [(.string ⟨#[]⟩), (.string ⟨#[]⟩), (.string ⟨#[]⟩)] []) []), (oE 30 (.eqa false [.str, .str, .str] (.t 28) (.t 29)) [0, 1]), (oM 31 (.t 30) [2]), (oG 32 (.mv (.t 4)) 31 true [3]), (oG 33 (.bin .eql (.t 32) (.k (.int .i64 40))) 31 true [4, 3]), (oE 34 (.pick (.t 31) (.t 33) (.k (.bool false))) [3, 5]), (oM 35 (.t 34) [6, 3]), ⟨(some 36), (.call 8 []), (some (35, true)), [7, 7]⟩, (oE 37 (.pick (.t 35) (.t 36) (.k (.bool false))) [7, 8]), (oM 2 (.t 37) [9, 8, 0, 1, 2, 3, 4, 5, 6, 7, 8, 9])]
def spinetlaw43_LexerCuts_i13 : IR := .ret
def spinetlaw43_LexerCuts_i14 : IR := (.cond (.t 27) (.seq (.reg false spinetlaw43_LexerCuts_i12) spinetlaw43_LexerCuts_i13) .skip)
def spinetlaw43_LexerCuts_i15 : List Op1 := [(oE 38 (.load true 3 (.t 3)) []), (oE 39 (.fld 0 (.t 5)) []), (oE 40 (.load false 1 (.t 39)) [1]), (oE 41 (.fld 1 (.t 5)) []), (oE 42 (.load false 1 (.t 41)) [3]), (oE 43 (.fld 2 (.t 5)) []), (oE 44 (.load false 1 (.t 43)) [5]), (oE 45 (.build [(.string ⟨#[]⟩), (.string ⟨#[]⟩), (.string ⟨#[]⟩)] [(0, (1, (.t 40))), (1, (1, (.t 42))), (2, (1, (.t 44)))]) [2, 4, 6]), (oE 46 (.eqa false [.str, .str, .str] (.t 38) (.t 45)) [0, 7]), (oM 47 (.t 46) [8]), (oG 48 (.mv (.t 4)) 47 true [9]), (oG 49 (.bin .eql (.t 48) (.k (.int .i64 0))) 47 true [10, 9]), (oE 50 (.pick (.t 47) (.t 49) (.k (.bool false))) [9, 11]), (oM 51 (.t 50) [12, 9]), ⟨(some 52), (.call 8 []), (some (51, true)), [13, 13]⟩, (oE 53 (.pick (.t 51) (.t 52) (.k (.bool false))) [13, 14]), (oM 2 (.t 53) [15, 14, 0, 1, 2, 3, 4, 5, 6, 7, 8, 9, 10, 11, 12, 13, 14, 15])]
def spinetlaw43_LexerCuts_i16 : IR := .ret
def spinetlaw43_LexerCuts_i17 : IR := (.seq (.reg false spinetlaw43_LexerCuts_i15) spinetlaw43_LexerCuts_i16)
def spinetlaw43_LexerCuts_i18 : IR := (.seq (.seq (.reg false spinetlaw43_LexerCuts_i11) spinetlaw43_LexerCuts_i14) spinetlaw43_LexerCuts_i17)
def spinetlaw43_LexerCuts_i19 : IR := (.seq (.seq (.reg false spinetlaw43_LexerCuts_i7) spinetlaw43_LexerCuts_i10) spinetlaw43_LexerCuts_i18)
def spinetlaw43_LexerCuts_i20 : IR := (.seq (.reg false spinetlaw43_LexerCuts_i6) spinetlaw43_LexerCuts_i19)
def spinetlaw43_LexerCuts_i21 : IR := (.seq (.reg false spinetlaw43_LexerCuts_i5) spinetlaw43_LexerCuts_i20)
def spinetlaw43_LexerCuts_i22 : IR := (.seq (.seq (.reg false spinetlaw43_LexerCuts_i1) spinetlaw43_LexerCuts_i4) spinetlaw43_LexerCuts_i21)
def spinetlaw43_LexerCuts_ir : IR := (.seq (.reg false spinetlaw43_LexerCuts_i0) spinetlaw43_LexerCuts_i22)
theorem spinetlaw43_LexerCuts_cfn : cFn Tryd.prog 4 = some (spinetlaw43_LexerCuts_ir, [(.t 2)], 54) := by kernel_rfl
def spinetlaw43_LexerCuts_V (r : (Bool)) : V := .s (.bool r)
def spinetlaw43_LexerCuts_C (r : (Bool)) : X → Fr → Hp → Prop := FinL [(.t 2)] [] (spinetlaw43_LexerCuts_V r) []
theorem spinetlaw43_LexerCuts_ok (s_ : ByteArray) (r : (Bool)) (h : spinetlaw43_LexerCuts s_ = some r) : Pure Tryd.prog 4 [.s (.string s_)] (spinetlaw43_LexerCuts_V r) := by
  refine ConL.of spinetlaw43_LexerCuts_cfn (Nat.le_of_ble_eq_true (by kernel_rfl)) (Nat.le_of_ble_eq_true (by kernel_rfl)) ?_
  refine k_start ?_
  show dwv Tryd.prog [] spinetlaw43_LexerCuts_ir (kont Tryd.prog [] (spinetlaw43_LexerCuts_C r) []) (fr0 [.s (.string s_)]) []
  have hf : FOk (fr0 [.s (.string s_)]) [⟨0, [], .s (.string s_)⟩] := ⟨⟨fun _ => rfl, fun h => (h trivial).elim⟩, trivial⟩
  generalize fr0 [.s (.string s_)] = f at hf ⊢
  unfold spinetlaw43_LexerCuts at h
  refine k_seq ?_
  refine k_reg ?_
  refine mops_en hf (by kernel_rfl) fun f1 hf1 => ?_
  refine k_c ?_
  refine k_seq ?_
  refine k_seq ?_
  refine k_reg ?_
  refine mops_en hf1 (by kernel_rfl) fun f2 hf2 => ?_
  refine k_c ?_
  refine k_cond hf2 (t := (decide (200 < (sln s_)))) (by kernel_rfl) (fun hc1 => ?_) (fun hc1 => ?_)
  · have h := if_t h hc1
    refine k_seq ?_
    refine k_reg ?_
    refine mops_en hf2 (by kernel_rfl) fun f3 hf3 => ?_
    refine k_c ?_
    refine k_ret ?_
    refine x_c nofun ?_
    obtain rfl := Option.some.inj h
    exact k_fin (fin_ret (.inl rfl) hf3 (vs := [.s (.bool true)]) (by kernel_rfl) (SettL.pure (FzL.stat rfl)))
  · have h := if_f h hc1
    refine k_skip ?_
    refine k_c ?_
    refine k_seq ?_
    refine k_reg ?_
    refine mops_sg 1 hf2 (by kernel_rfl) fun f3 hf3 => ?_
    obtain ⟨r_, hx_r_, h⟩ := Option.bind_eq_some_iff.1 h
    refine mops_call rfl hf3 (av := [.s (.string s_)]) (by kernel_rfl) (v := .tup [.agg [.s (.string r_.1.Label), .s (.string r_.1.Op), .s (.string r_.1.Arg)], .s (.int .i64 r_.2)]) (CalL.pure (lexer_Cut_ok s_ r_ hx_r_) rfl rfl (Nat.le_of_ble_eq_true (by kernel_rfl))) (fun _ => rfl) fun f4 hf4 => ?_
    refine mops_en hf4 (by kernel_rfl) fun f5 hf5 => ?_
    refine k_c ?_
    refine k_seq ?_
    refine k_reg ?_
    refine mops_sg 1 hf5 (by kernel_rfl) fun f6 hf6 => ?_
    obtain ⟨r_1, hx_r_1, h⟩ := Option.bind_eq_some_iff.1 h
    refine mops_call rfl hf6 (av := [.s (.string s_)]) (by kernel_rfl) (v := .tup [.agg [.s (.string r_1.1.Label), .s (.string r_1.1.Op), .s (.string r_1.1.Arg)], .s (.bool r_1.2)]) (CalL.pure (spinetref43_Cut_ok s_ r_1 hx_r_1) rfl rfl (Nat.le_of_ble_eq_true (by kernel_rfl))) (fun _ => rfl) fun f7 hf7 => ?_
    refine mops_en hf7 (by kernel_rfl) fun f8 hf8 => ?_
    refine k_c ?_
    refine k_seq ?_
    refine k_seq ?_
    refine k_reg ?_
    refine mops_sg 1 hf8 (by kernel_rfl) fun f9 hf9 => ?_
    obtain ⟨r_2, hx_r_2, h⟩ := Option.bind_eq_some_iff.1 h
    refine mops_call rfl hf9 (av := [.s (.string s_)]) (by kernel_rfl) (v := .sl false r_2.length (cat nS r_2)) (CalL.pure (lexer_Fields_ok s_ r_2 hx_r_2) rfl (by simp [V.static, statics, cat_stat, lexer_Fields_V]) (Nat.le_of_ble_eq_true (by kernel_rfl))) (fun _ => rfl) fun f10 hf10 => ?_
    refine mops_sg 1 hf10 (by kernel_rfl) fun f11 hf11 => ?_
    obtain ⟨r_3, hx_r_3, h⟩ := Option.bind_eq_some_iff.1 h
    refine mops_call rfl hf11 (av := [.s (.string s_)]) (by kernel_rfl) (v := .sl false r_3.length (cat nS r_3)) (CalL.pure (spinetref43_Fields_ok s_ r_3 hx_r_3) rfl (by simp [V.static, statics, cat_stat, spinetref43_Fields_V]) (Nat.le_of_ble_eq_true (by kernel_rfl))) (fun _ => rfl) fun f12 hf12 => ?_
    obtain ⟨r_4, hx_r_4, h⟩ := Option.bind_eq_some_iff.1 h
    refine mops_call rfl hf12 (av := [.sl false r_2.length (cat nS r_2), .sl false r_3.length (cat nS r_3)]) (by kernel_rfl) (v := .s (.bool r_4)) (CalL.pure (slices_Equal_sl_string_string_ok r_2 r_3 r_4 hx_r_4) (by simp [V.static, statics, cat_stat]) rfl (Nat.le_of_ble_eq_true (by kernel_rfl))) (fun _ => rfl) fun f13 hf13 => ?_
    refine mops_en hf13 (by kernel_rfl) fun f14 hf14 => ?_
    refine k_c ?_
    refine k_cond hf14 (t := (!r_4)) (by kernel_rfl) (fun hc2 => ?_) (fun hc2 => ?_)
    · have h := if_t h hc2
      refine k_seq ?_
      refine k_reg ?_
      refine mops_en hf14 (by kernel_rfl) fun f15 hf15 => ?_
      refine k_c ?_
      refine k_ret ?_
      refine x_c nofun ?_
      obtain rfl := Option.some.inj h
      exact k_fin (fin_ret (.inl rfl) hf15 (vs := [.s (.bool false)]) (by kernel_rfl) (SettL.pure (FzL.stat rfl)))
    · have h := if_f h hc2
      refine k_skip ?_
      refine k_c ?_
      refine k_seq ?_
      refine k_seq ?_
      refine k_reg ?_
      refine mops_en hf14 (by kernel_rfl) fun f15 hf15 => ?_
      refine k_c ?_
      refine k_cond hf15 (t := (!r_1.2)) (by kernel_rfl) (fun hc3 => ?_) (fun hc3 => ?_)
      · have h := if_t h hc3
        refine k_seq ?_
        refine k_reg ?_
        refine mops_seg [2, 3, 4, 5, 35] 8 hf15 (l' := [⟨2, [], .s (.bool false)⟩, ⟨3, [], .ptr 0 0 0⟩, ⟨4, [], .s (.int .i64 r_.2)⟩, ⟨5, [], .ptr 1 0 0⟩, ⟨35, [], .s (.bool (((r_.1.Label == (⟨#[]⟩ : ByteArray)) && ((r_.1.Op == (⟨#[]⟩ : ByteArray)) && ((r_.1.Arg == (⟨#[]⟩ : ByteArray)) && true))) && (r_.2 == 40)))⟩]) (L' := [⟨0, .mem, 1, [.s (.string r_.1.Label), .s (.string r_.1.Op), .s (.string r_.1.Arg)]⟩, ⟨0, .mem, 1, [.s (.string r_1.1.Label), .s (.string r_1.1.Op), .s (.string r_1.1.Arg)]⟩]) (by kernel_rfl) fun f16 hf16 => ?_
        obtain ⟨r_5, hx_r_5, h⟩ := Option.bind_eq_some_iff.1 h
        refine mops_gcall (dst := (some 36)) (m := 8) (args := []) (aft := [7, 7]) (t := 35) (w := true) (ch := [(35, true)]) (b := (((r_.1.Label == (⟨#[]⟩ : ByteArray)) && ((r_.1.Op == (⟨#[]⟩ : ByteArray)) && ((r_.1.Arg == (⟨#[]⟩ : ByteArray)) && true))) && (r_.2 == 40))) (by kernel_rfl) hf16 (by kernel_rfl) (by kernel_rfl) (av := []) (by kernel_rfl) (v := .s (.bool r_5)) (by kernel_rfl) (fun hb4 => (CalL.pure (spinetlaw43_alive_ok  r_5 (if_t hx_r_5 hb4)) rfl rfl (Nat.le_of_ble_eq_true (by kernel_rfl)))) fun f17 hf17 => ?_
        refine mops_en hf17 (by kernel_rfl) fun f18 hf18 => ?_
        refine k_c ?_
        refine k_ret ?_
        refine x_c nofun ?_
        obtain rfl := Option.some.inj h
        exact k_fin (fin_ret (.inl rfl) hf18 (vs := [.s (.bool ((((r_.1.Label == (⟨#[]⟩ : ByteArray)) && ((r_.1.Op == (⟨#[]⟩ : ByteArray)) && ((r_.1.Arg == (⟨#[]⟩ : ByteArray)) && true))) && (r_.2 == 40)) && r_5))]) (by kernel_rfl) (SettL.pure (FzL.stat rfl)))
      · have h := if_f h hc3
        refine k_skip ?_
        refine k_c ?_
        refine k_seq ?_
        refine k_reg ?_
        refine mops_seg [2, 51] 14 hf15 (l' := [⟨2, [], .s (.bool false)⟩, ⟨51, [], .s (.bool (((r_.1.Label == r_1.1.Label) && ((r_.1.Op == r_1.1.Op) && ((r_.1.Arg == r_1.1.Arg) && true))) && (r_.2 == 0)))⟩]) (L' := [⟨0, .mem, 1, [.s (.string r_.1.Label), .s (.string r_.1.Op), .s (.string r_.1.Arg)]⟩, ⟨0, .mem, 1, [.s (.string r_1.1.Label), .s (.string r_1.1.Op), .s (.string r_1.1.Arg)]⟩]) (by kernel_rfl) fun f16 hf16 => ?_
        obtain ⟨r_6, hx_r_6, h⟩ := Option.bind_eq_some_iff.1 h
        refine mops_gcall (dst := (some 52)) (m := 8) (args := []) (aft := [13, 13]) (t := 51) (w := true) (ch := [(51, true)]) (b := (((r_.1.Label == r_1.1.Label) && ((r_.1.Op == r_1.1.Op) && ((r_.1.Arg == r_1.1.Arg) && true))) && (r_.2 == 0))) (by kernel_rfl) hf16 (by kernel_rfl) (by kernel_rfl) (av := []) (by kernel_rfl) (v := .s (.bool r_6)) (by kernel_rfl) (fun hb5 => (CalL.pure (spinetlaw43_alive_ok  r_6 (if_t hx_r_6 hb5)) rfl rfl (Nat.le_of_ble_eq_true (by kernel_rfl)))) fun f17 hf17 => ?_
        refine mops_en hf17 (by kernel_rfl) fun f18 hf18 => ?_
        refine k_c ?_
        refine k_ret ?_
        obtain rfl := Option.some.inj h
        exact k_fin (fin_ret (.inl rfl) hf18 (vs := [.s (.bool ((((r_.1.Label == r_1.1.Label) && ((r_.1.Op == r_1.1.Op) && ((r_.1.Arg == r_1.1.Arg) && true))) && (r_.2 == 0)) && r_6))]) (by kernel_rfl) (SettL.pure (FzL.stat rfl)))
end Go.Proofs.YthooddibdmigmaaDoorK
