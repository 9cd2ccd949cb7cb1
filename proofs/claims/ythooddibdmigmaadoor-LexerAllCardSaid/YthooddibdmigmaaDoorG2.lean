/- The Go functions come to the functions over typed data. Printed by a program of this work. -/
import Derived.Test.YthooddibdmigmaaDoorF
import Derived.Test.YthooddibdmigmaaDoorProg
import Derived.Test.YthooddibdmigmaaDoorG0
import Derived.Test.YthooddibdmigmaaDoorG1
namespace Go.Proofs.YthooddibdmigmaaDoorK
set_option linter.unusedVariables false
set_option linter.unusedSimpArgs false
set_option maxHeartbeats 4000000
open Go.RowKit
attribute [local irreducible] dwv mops lops lqops lwops kont iter run runK rk okK ex E1 vals val chain chB sel resF
def spinetref41_Right_i0 : List Op1 := [(oM 2 (.k (.bool false)) [])]
def spinetref41_Right_i1 : List Op1 := [(oM 4 (.t 0) []), (oE 5 (.lens (.t 4)) [0]), (oE 6 (.bin .lss (.t 5) (.k (.int .i64 1))) [1]), (oM 7 (.t 6) [2]), (oG 8 (.mv (.t 0)) 7 false [3]), (oG 9 (.lens (.t 8)) 7 false [4, 3]), (oG 10 (.bin .gtr (.t 9) (.k (.int .i64 16))) 7 false [5, 3]), (oE 11 (.pick (.t 7) (.k (.bool true)) (.t 10)) [3, 6]), (oM 12 (.t 11) [7, 3]), (oG 13 (.mv (.t 0)) 12 false [8]), (oG 14 (.ixs (.t 13) (.k (.int .i64 0))) 12 false [9, 8]), ⟨(some 15), (.call 25 [(.t 14)]), (some (12, false)), [10, 8, 8]⟩, (oG 16 (.un .not (.t 15)) 12 false [11, 8]), (oE 17 (.pick (.t 12) (.k (.bool true)) (.t 16)) [8, 12])]
def spinetref41_Right_i2 : List Op1 := [(oM 2 (.k (.bool false)) [])]
def spinetref41_Right_i3 : IR := .ret
def spinetref41_Right_i4 : IR := (.cond (.t 17) (.seq (.reg false spinetref41_Right_i2) spinetref41_Right_i3) .skip)
def spinetref41_Right_i5 : List Op1 := [(oM 3 (.k (.int .i64 1)) [])]
def spinetref41_Right_i6 : List Op1 := [(oM 18 (.t 3) []), (oM 19 (.t 0) []), (oE 20 (.lens (.t 19)) [1]), (oE 21 (.bin .lss (.t 18) (.t 20)) [0, 2])]
def spinetref41_Right_i7 : IR := (.cond (.t 21) .skip (.exit 0))
def spinetref41_Right_i8 : List Op1 := [(oM 24 (.t 0) []), (oM 25 (.t 3) []), (oE 26 (.ixs (.t 24) (.t 25)) [0, 1]), (oC 27 25 [(.t 26)] [2]), (oE 28 (.un .not (.t 27)) [3]), (oM 29 (.t 28) [4, 3]), (oG 30 (.mv (.t 0)) 29 true [5]), (oG 31 (.mv (.t 3)) 29 true [5]), (oG 32 (.ixs (.t 30) (.t 31)) 29 true [6, 7, 5]), (oG 33 (.bin .lss (.t 32) (.k (.int .u8 48))) 29 true [8, 5]), (oG 34 (.mv (.t 33)) 29 true [9, 5, 5]), (oG 35 (.mv (.t 0)) 34 false [10]), (oG 36 (.mv (.t 3)) 34 false [10]), (oG 37 (.ixs (.t 35) (.t 36)) 34 false [11, 12, 10]), (oG 38 (.bin .gtr (.t 37) (.k (.int .u8 57))) 34 false [13, 10]), (oG 39 (.pick (.t 34) (.k (.bool true)) (.t 38)) 29 true [10, 14, 5]), (oE 40 (.pick (.t 29) (.t 39) (.k (.bool false))) [5, 15])]
def spinetref41_Right_i9 : List Op1 := [(oM 2 (.k (.bool false)) [])]
def spinetref41_Right_i10 : IR := .ret
def spinetref41_Right_i11 : IR := (.cond (.t 40) (.seq (.reg false spinetref41_Right_i9) spinetref41_Right_i10) .skip)
def spinetref41_Right_i12 : List Op1 := [(oM 22 (.t 3) []), (oE 23 (.bin .add (.t 22) (.k (.int .i64 1))) [0]), (oM 3 (.t 23) [1, 0, 1])]
def spinetref41_Right_i13 : IR := (.reg false spinetref41_Right_i12)
def spinetref41_Right_i14 : IR := (.seq (.block 1 (.seq (.reg false spinetref41_Right_i8) spinetref41_Right_i11)) spinetref41_Right_i13)
def spinetref41_Right_i15 : IR := (.seq (.seq (.reg false spinetref41_Right_i6) spinetref41_Right_i7) spinetref41_Right_i14)
def spinetref41_Right_i16 : IR := (.block 0 (.loop spinetref41_Right_i15))
def spinetref41_Right_i17 : List Op1 := [(oM 2 (.k (.bool true)) [])]
def spinetref41_Right_i18 : IR := .ret
def spinetref41_Right_i19 : IR := (.seq (.reg false spinetref41_Right_i17) spinetref41_Right_i18)
def spinetref41_Right_i20 : IR := (.seq (.seq (.reg false spinetref41_Right_i5) spinetref41_Right_i16) spinetref41_Right_i19)
def spinetref41_Right_i21 : IR := (.seq (.seq (.reg false spinetref41_Right_i1) spinetref41_Right_i4) spinetref41_Right_i20)
def spinetref41_Right_ir : IR := (.seq (.reg false spinetref41_Right_i0) spinetref41_Right_i21)
theorem spinetref41_Right_cfn : cFn Tryd.prog 15 = some (spinetref41_Right_ir, [(.t 2)], 41) := by kernel_rfl
def spinetref41_Right_V (r : (Bool)) : V := .s (.bool r)
def spinetref41_Right_C (r : (Bool)) : X → Fr → Hp → Prop := FinL [(.t 2)] [] (spinetref41_Right_V r) []
theorem spinetref41_Right_ok (s_ : ByteArray) (r : (Bool)) (h : spinetref41_Right s_ = some r) : Pure Tryd.prog 15 [.s (.string s_)] (spinetref41_Right_V r) := by
  refine ConL.of spinetref41_Right_cfn (Nat.le_of_ble_eq_true (by kernel_rfl)) (Nat.le_of_ble_eq_true (by kernel_rfl)) ?_
  refine k_start ?_
  show dwv Tryd.prog [] spinetref41_Right_ir (kont Tryd.prog [] (spinetref41_Right_C r) []) (fr0 [.s (.string s_)]) []
  have hf : FOk (fr0 [.s (.string s_)]) [⟨0, [], .s (.string s_)⟩] := ⟨⟨fun _ => rfl, fun h => (h trivial).elim⟩, trivial⟩
  generalize fr0 [.s (.string s_)] = f at hf ⊢
  unfold spinetref41_Right at h
  refine k_seq ?_
  refine k_reg ?_
  refine mops_en hf (by kernel_rfl) fun f1 hf1 => ?_
  refine k_c ?_
  refine k_seq ?_
  refine k_seq ?_
  refine k_reg ?_
  refine mops_sg 10 hf1 (by kernel_rfl) fun f2 hf2 => ?_
  obtain ⟨c1, h⟩ := as_ok h
  refine mops_gadv (dst := (some 14)) (op := (.ixs (.t 13) (.k (.int .i64 0)))) (aft := [9, 8]) (t := 12) (w := false) (ch := [(12, false)]) (b := (!((decide ((sln s_) < 1)) || (decide (16 < (sln s_)))))) (v := .s (.int .u8 (bt s_ (0)))) (by kernel_rfl) hf2 (by kernel_rfl) (by kernel_rfl) (by kernel_rfl) (fun hb2 => e_ixs (t := s_) (k := .i64) (iv := 0) (by kernel_rfl) (by kernel_rfl) (c1 hb2)) fun f3 hf3 => ?_
  obtain ⟨r_, hx_r_, h⟩ := Option.bind_eq_some_iff.1 h
  refine mops_gcall (dst := (some 15)) (m := 25) (args := [(.t 14)]) (aft := [10, 8, 8]) (t := 12) (w := false) (ch := [(12, false)]) (b := (!((decide ((sln s_) < 1)) || (decide (16 < (sln s_)))))) (by kernel_rfl) hf3 (by kernel_rfl) (by kernel_rfl) (av := [.s (.int .u8 (bt s_ (0)))]) (by kernel_rfl) (v := .s (.bool r_)) (by kernel_rfl) (fun hb3 => (CalL.pure (spinetref41_Letter_ok (bt s_ (0)) r_ (if_t hx_r_ hb3)) rfl rfl (Nat.le_of_ble_eq_true (by kernel_rfl)))) fun f4 hf4 => ?_
  refine mops_en hf4 (by kernel_rfl) fun f5 hf5 => ?_
  refine k_c ?_
  refine k_cond hf5 (t := (((decide ((sln s_) < 1)) || (decide (16 < (sln s_)))) || (!r_))) (by kernel_rfl) (fun hc4 => ?_) (fun hc4 => ?_)
  · have h := if_t h hc4
    refine k_seq ?_
    refine k_reg ?_
    refine mops_en hf5 (by kernel_rfl) fun f6 hf6 => ?_
    refine k_c ?_
    refine k_ret ?_
    refine x_c nofun ?_
    obtain rfl := Option.some.inj h
    exact k_fin (fin_ret (.inl rfl) hf6 (vs := [.s (.bool false)]) (by kernel_rfl) (SettL.pure (FzL.stat rfl)))
  · have h := if_f h hc4
    refine k_skip ?_
    refine k_c ?_
    refine k_seq ?_
    refine k_seq ?_
    refine k_reg ?_
    refine mops_en hf5 (by kernel_rfl) fun f6 hf6 => ?_
    refine k_c ?_
    refine k_block ?_
    obtain ⟨o0, hx0, h⟩ := Option.bind_eq_some_iff.1 h
    have hret0 : ∀ r0, .ret r0 = o0 → r0 = r := fun r0 e => by subst e; exact Option.some.inj h
    have hgo0 : .go () = o0 → ∀ f, FOk f [⟨2, [], .s (.bool false)⟩] → kont Tryd.prog [] (spinetref41_Right_C r) ((.c spinetref41_Right_i19) :: []) .normal f [] := by
      intro  e f hf
      subst e
      refine k_c ?_
      refine k_seq ?_
      refine k_reg ?_
      refine mops_en hf (by kernel_rfl) fun f1 hf1 => ?_
      refine k_c ?_
      refine k_ret ?_
      obtain rfl := Option.some.inj h
      exact k_fin (fin_ret (.inl rfl) hf1 (vs := [.s (.bool true)]) (by kernel_rfl) (SettL.pure (FzL.stat rfl)))
    refine k_loop BIG ?_
    refine loop_ind (fun n f L => ∃ (i_1 : Int), spinetref41_Right_l0 s_ n i_1 = some o0 ∧ FOk f [⟨0, [], .s (.string s_)⟩, ⟨2, [], .s (.bool false)⟩, ⟨3, [], .s (.int .i64 i_1)⟩] ∧ L = []) ?_ ?_ BIG _ _ ⟨(1), hx0, FOk_of [0, 2, 3] hf6 (by kernel_rfl), (by kernel_rfl)⟩
    · rintro f L ⟨i_1, h, _⟩
      cases (show (none : Option _) = some _ from h)
    · rintro n0 R0 ih f L ⟨i_1, h, hf, rfl⟩
      rw [spinetref41_Right_l0] at h
      refine k_seq ?_
      refine k_seq ?_
      refine k_reg ?_
      refine mops_en hf (by kernel_rfl) fun f1 hf1 => ?_
      refine k_c ?_
      refine k_cond hf1 (t := (decide (i_1 < (sln s_)))) (by kernel_rfl) (fun hc5 => ?_) (fun hc5 => ?_)
      · have h := if_t h hc5
        refine k_skip ?_
        refine k_c ?_
        refine k_seq ?_
        refine k_block ?_
        refine k_seq ?_
        refine k_reg ?_
        refine mops_sg 2 hf1 (by kernel_rfl) fun f2 hf2 => ?_
        obtain ⟨c6, h⟩ := as_ok h
        refine mops_adv rfl (v := .s (.int .u8 (bt s_ i_1))) hf2 (by kernel_rfl) (e_ixs (t := s_) (k := .i64) (iv := i_1) (by kernel_rfl) (by kernel_rfl) c6) fun f3 hf3 => ?_
        obtain ⟨r_3, hx_r_3, h⟩ := Option.bind_eq_some_iff.1 h
        refine mops_call rfl hf3 (av := [.s (.int .u8 (bt s_ i_1))]) (by kernel_rfl) (v := .s (.bool r_3)) (CalL.pure (spinetref41_Letter_ok (bt s_ i_1) r_3 hx_r_3) rfl rfl (Nat.le_of_ble_eq_true (by kernel_rfl))) (fun _ => rfl) fun f4 hf4 => ?_
        refine mops_sg 4 hf4 (by kernel_rfl) fun f5 hf5 => ?_
        obtain ⟨c7, h⟩ := as_ok h
        refine mops_gadv (dst := (some 32)) (op := (.ixs (.t 30) (.t 31))) (aft := [6, 7, 5]) (t := 29) (w := true) (ch := [(29, true)]) (b := (!r_3)) (v := .s (.int .u8 (bt s_ i_1))) (by kernel_rfl) hf5 (by kernel_rfl) (by kernel_rfl) (by kernel_rfl) (fun hb8 => e_ixs (t := s_) (k := .i64) (iv := i_1) (by kernel_rfl) (by kernel_rfl) (c7 hb8)) fun f6 hf6 => ?_
        refine mops_sg 4 hf6 (by kernel_rfl) fun f7 hf7 => ?_
        obtain ⟨c9, h⟩ := as_ok h
        refine mops_gadv (dst := (some 37)) (op := (.ixs (.t 35) (.t 36))) (aft := [11, 12, 10]) (t := 34) (w := false) (ch := [(34, false), (29, true)]) (b := ((!(decide ((bt s_ i_1) < 48))) && (!r_3))) (v := .s (.int .u8 (bt s_ i_1))) (by kernel_rfl) hf7 (by kernel_rfl) (by kernel_rfl) (by kernel_rfl) (fun hb10 => e_ixs (t := s_) (k := .i64) (iv := i_1) (by kernel_rfl) (by kernel_rfl) (c9 hb10)) fun f8 hf8 => ?_
        refine mops_en hf8 (by kernel_rfl) fun f9 hf9 => ?_
        refine k_c ?_
        refine k_cond hf9 (t := ((!r_3) && ((decide ((bt s_ i_1) < 48)) || (decide (57 < (bt s_ i_1)))))) (by kernel_rfl) (fun hc11 => ?_) (fun hc11 => ?_)
        · have h := if_t h hc11
          refine k_seq ?_
          refine k_reg ?_
          refine mops_en hf9 (by kernel_rfl) fun f10 hf10 => ?_
          refine k_c ?_
          refine k_ret ?_
          refine x_br ?_
          refine x_c nofun ?_
          refine x_l nofun ?_
          refine x_br ?_
          refine x_c nofun ?_
          obtain rfl := hret0 _ (Option.some.inj h)
          exact k_fin (fin_ret (.inl rfl) hf10 (vs := [.s (.bool false)]) (by kernel_rfl) (SettL.pure (FzL.stat rfl)))
        · have h := if_f h hc11
          refine k_skip ?_
          refine k_b ?_
          refine k_c ?_
          refine k_reg ?_
          refine mops_en hf9 (by kernel_rfl) fun f10 hf10 => ?_
          refine k_l ?_
          exact ih _ _ ⟨(IntKind.wrap .i64 (i_1 + 1)), h, FOk_of [0, 2, 3] hf10 (by kernel_rfl), (by kernel_rfl)⟩
      · have h := if_f h hc5
        refine k_exit ?_
        refine x_c nofun ?_
        refine x_l nofun ?_
        refine x_b ?_
        refine k_hp (L' := []) (by kernel_rfl) ?_
        exact hgo0  (Option.some.inj h) _ (FOk_of [2] hf1 (by kernel_rfl))
def lexer_label_i0 : List Op1 := [(oM 2 (.k (.string ⟨#[]⟩)) []), (oM 3 (.k (.string ⟨#[]⟩)) [0])]
def lexer_label_i1 : List Op1 := [(oM 10 (.t 0) []), (oC 11 20 [(.t 10)] [0]), (oM 9 (.t 11) [1]), (oE 12 (.ext 0 (.t 9)) [2]), (oE 13 (.ext 1 (.t 9)) [2]), (oM 4 (.t 12) [3, 1, 0, 1, 2, 3]), (oM 5 (.t 13) [4, 5, 0, 1, 2, 3, 4, 5])]
def lexer_label_i2 : List Op1 := [(oM 15 (.t 4) []), (oC 16 16 [(.t 15), (.k (.string ⟨#[58]⟩))] [0]), (oM 14 (.t 16) [1]), (oE 17 (.ext 0 (.t 14)) [2]), (oE 18 (.ext 1 (.t 14)) [2]), (oE 19 (.ext 2 (.t 14)) [2]), (oM 6 (.t 17) [3, 1, 0, 1, 2, 3]), (oM 7 (.t 18) [4, 6, 0, 1, 2, 3, 4, 6]), (oM 8 (.t 19) [5, 7, 0, 1, 2, 3, 4, 5, 6, 7])]
def lexer_label_i3 : List Op1 := [(oM 20 (.t 8) [])]
def lexer_label_i4 : List Op1 := [(oM 21 (.t 6) []), (oM 22 (.t 7) []), (oM 23 (.t 5) []), (oE 24 (.bin .add (.t 22) (.t 23)) [1, 2]), (oM 2 (.t 21) [0, 0]), (oM 3 (.t 24) [3, 4, 0, 1, 2, 3, 4])]
def lexer_label_i5 : IR := .ret
def lexer_label_i6 : IR := (.cond (.t 20) (.seq (.reg false lexer_label_i4) lexer_label_i5) .skip)
def lexer_label_i7 : IR := (.seq (.reg false lexer_label_i3) lexer_label_i6)
def lexer_label_i8 : List Op1 := [(oM 25 (.t 4) []), (oM 26 (.t 5) []), (oM 2 (.t 25) [0, 0]), (oM 3 (.t 26) [1, 2, 0, 1, 2])]
def lexer_label_i9 : IR := .ret
def lexer_label_i10 : IR := (.seq (.reg false lexer_label_i8) lexer_label_i9)
def lexer_label_i11 : IR := (.seq (.seq (.reg false lexer_label_i2) lexer_label_i7) lexer_label_i10)
def lexer_label_i12 : IR := (.seq (.reg false lexer_label_i1) lexer_label_i11)
def lexer_label_ir : IR := (.seq (.reg false lexer_label_i0) lexer_label_i12)
theorem lexer_label_cfn : cFn Tryd.prog 18 = some (lexer_label_ir, [(.t 2), (.t 3)], 27) := by kernel_rfl
def lexer_label_V (r : (ByteArray × ByteArray)) : V := .tup [.s (.string r.1), .s (.string r.2)]
def lexer_label_C (r : (ByteArray × ByteArray)) : X → Fr → Hp → Prop := FinL [(.t 2), (.t 3)] [] (lexer_label_V r) []
theorem lexer_label_ok (s_ : ByteArray) (r : (ByteArray × ByteArray)) (h : lexer_label s_ = some r) : Pure Tryd.prog 18 [.s (.string s_)] (lexer_label_V r) := by
  refine ConL.of lexer_label_cfn (Nat.le_of_ble_eq_true (by kernel_rfl)) (Nat.le_of_ble_eq_true (by kernel_rfl)) ?_
  refine k_start ?_
  show dwv Tryd.prog [] lexer_label_ir (kont Tryd.prog [] (lexer_label_C r) []) (fr0 [.s (.string s_)]) []
  have hf : FOk (fr0 [.s (.string s_)]) [⟨0, [], .s (.string s_)⟩] := ⟨⟨fun _ => rfl, fun h => (h trivial).elim⟩, trivial⟩
  generalize fr0 [.s (.string s_)] = f at hf ⊢
  unfold lexer_label at h
  refine k_seq ?_
  refine k_reg ?_
  refine mops_en hf (by kernel_rfl) fun f1 hf1 => ?_
  refine k_c ?_
  refine k_seq ?_
  refine k_reg ?_
  refine mops_sg 1 hf1 (by kernel_rfl) fun f2 hf2 => ?_
  obtain ⟨r_, hx_r_, h⟩ := Option.bind_eq_some_iff.1 h
  refine mops_call rfl hf2 (av := [.s (.string s_)]) (by kernel_rfl) (v := .tup [.s (.string r_.1), .s (.string r_.2)]) (CalL.pure (lexer_word_ok s_ r_ hx_r_) rfl rfl (Nat.le_of_ble_eq_true (by kernel_rfl))) (fun _ => rfl) fun f3 hf3 => ?_
  refine mops_en hf3 (by kernel_rfl) fun f4 hf4 => ?_
  refine k_c ?_
  refine k_seq ?_
  refine k_seq ?_
  refine k_reg ?_
  refine mops_sg 1 hf4 (by kernel_rfl) fun f5 hf5 => ?_
  obtain ⟨r_1, hx_r_1, h⟩ := Option.bind_eq_some_iff.1 h
  refine mops_call rfl hf5 (av := [.s (.string r_.1), .s (.string (⟨#[58]⟩ : ByteArray))]) (by kernel_rfl) (v := .tup [.s (.string r_1.1), .s (.string r_1.2.1), .s (.bool r_1.2.2)]) (CalL.pure (strings_Cut_ok r_.1 (⟨#[58]⟩ : ByteArray) r_1 hx_r_1) rfl rfl (Nat.le_of_ble_eq_true (by kernel_rfl))) (fun _ => rfl) fun f6 hf6 => ?_
  refine mops_en hf6 (by kernel_rfl) fun f7 hf7 => ?_
  refine k_c ?_
  refine k_seq ?_
  refine k_reg ?_
  refine mops_en hf7 (by kernel_rfl) fun f8 hf8 => ?_
  refine k_c ?_
  refine k_cond hf8 (t := r_1.2.2) (by kernel_rfl) (fun hc1 => ?_) (fun hc1 => ?_)
  · have h := if_t h hc1
    refine k_seq ?_
    refine k_reg ?_
    refine mops_sg 3 hf8 (by kernel_rfl) fun f9 hf9 => ?_
    obtain ⟨c2, h⟩ := as_ok h
    refine mops_adv rfl (v := .s (.string (r_1.2.1 ++ r_.2))) hf9 (by kernel_rfl) (e_sadd (t := r_1.2.1) (t' := r_.2) (by kernel_rfl) (by kernel_rfl) c2) fun f10 hf10 => ?_
    refine mops_en hf10 (by kernel_rfl) fun f11 hf11 => ?_
    refine k_c ?_
    refine k_ret ?_
    refine x_c nofun ?_
    obtain rfl := Option.some.inj h
    exact k_fin (fin_ret (.inl rfl) hf11 (vs := [.s (.string r_1.1), .s (.string (r_1.2.1 ++ r_.2))]) (by kernel_rfl) (SettL.pure (FzL.tup (FzsL.cons (FzL.stat rfl) (FzsL.cons (FzL.stat rfl) FzsL.nil)))))
  · have h := if_f h hc1
    refine k_skip ?_
    refine k_c ?_
    refine k_seq ?_
    refine k_reg ?_
    refine mops_en hf8 (by kernel_rfl) fun f9 hf9 => ?_
    refine k_c ?_
    refine k_ret ?_
    obtain rfl := Option.some.inj h
    exact k_fin (fin_ret (.inl rfl) hf9 (vs := [.s (.string r_.1), .s (.string r_.2)]) (by kernel_rfl) (SettL.pure (FzL.tup (FzsL.cons (FzL.stat rfl) (FzsL.cons (FzL.stat rfl) FzsL.nil)))))
def strings_Split_i0 : List Op1 := [(oE 4 (.nilg 1) [])]
def strings_Split_i1 : List Op1 := [(oM 5 (.t 0) []), (oM 6 (.t 1) []), (oC 7 24 [(.t 5), (.t 6), (.k (.int .i64 0)), (.k (.int .i64 (-1)))] [0, 1]), (oM 4 (.t 7) [2, 2, 0, 1, 2])]
def strings_Split_i2 : IR := .ret
def strings_Split_i3 : IR := (.seq (.reg false strings_Split_i1) strings_Split_i2)
def strings_Split_ir : IR := (.seq (.reg false strings_Split_i0) strings_Split_i3)
theorem strings_Split_cfn : cFn Tryd.prog 13 = some (strings_Split_ir, [(.t 4)], 8) := by kernel_rfl
def strings_Split_V (r : ((List ByteArray))) : V := .sl false r.length (cat nS r)
def strings_Split_C (r : ((List ByteArray))) : X → Fr → Hp → Prop := FinL [(.t 4)] [] (strings_Split_V r) []
theorem strings_Split_ok (s_ : ByteArray) (sep_ : ByteArray) (r : ((List ByteArray))) (h : strings_Split s_ sep_ = some r) : Pure Tryd.prog 13 [.s (.string s_), .s (.string sep_)] (strings_Split_V r) := by
  refine ConL.of strings_Split_cfn (Nat.le_of_ble_eq_true (by kernel_rfl)) (Nat.le_of_ble_eq_true (by kernel_rfl)) ?_
  refine k_start ?_
  show dwv Tryd.prog [] strings_Split_ir (kont Tryd.prog [] (strings_Split_C r) []) (fr0 [.s (.string s_), .s (.string sep_)]) []
  have hf : FOk (fr0 [.s (.string s_), .s (.string sep_)]) [⟨0, [], .s (.string s_)⟩, ⟨1, [], .s (.string sep_)⟩] := ⟨⟨fun _ => rfl, fun h => (h trivial).elim⟩, ⟨fun _ => rfl, fun h => (h trivial).elim⟩, trivial⟩
  generalize fr0 [.s (.string s_), .s (.string sep_)] = f at hf ⊢
  unfold strings_Split at h
  refine k_seq ?_
  refine k_reg ?_
  refine mops_en hf (by kernel_rfl) fun f1 hf1 => ?_
  refine k_c ?_
  refine k_seq ?_
  refine k_reg ?_
  refine mops_sg 2 hf1 (by kernel_rfl) fun f2 hf2 => ?_
  obtain ⟨r_, hx_r_, h⟩ := Option.bind_eq_some_iff.1 h
  refine mops_call rfl hf2 (av := [.s (.string s_), .s (.string sep_), .s (.int .i64 0), .s (.int .i64 (-1))]) (by kernel_rfl) (v := .sl false r_.length (cat nS r_)) (CalL.pure (strings_genSplit_ok s_ sep_ (0) (-1) r_ hx_r_) rfl (by simp [V.static, statics, cat_stat, strings_genSplit_V]) (Nat.le_of_ble_eq_true (by kernel_rfl))) (fun _ => rfl) fun f3 hf3 => ?_
  refine mops_en hf3 (by kernel_rfl) fun f4 hf4 => ?_
  refine k_c ?_
  refine k_ret ?_
  obtain rfl := Option.some.inj h
  exact k_fin (fin_ret (.inl rfl) hf4 (vs := [.sl false r_.length (cat nS r_)]) (by kernel_rfl) (SettL.pure (FzL.slf (g := nS))))
def spinetref43_Cut_i0 : List Op1 := [(oE 2 (.zero [(.string ⟨#[]⟩), (.string ⟨#[]⟩), (.string ⟨#[]⟩)]) []), (oM 3 (.k (.bool false)) [])]
def spinetref43_Cut_i1 : List Op1 := [(oM 4 (.k (.int .i64 0)) [])]
def spinetref43_Cut_i2 : List Op1 := [(oM 8 (.t 4) []), (oM 9 (.t 0) []), (oE 10 (.lens (.t 9)) [1]), (oE 11 (.bin .lss (.t 8) (.t 10)) [0, 2]), (oM 12 (.t 11) [3]), (oG 13 (.mv (.t 0)) 12 true [4]), (oG 14 (.mv (.t 4)) 12 true [4]), (oG 15 (.ixs (.t 13) (.t 14)) 12 true [5, 6, 4]), (oG 16 (.bin .neq (.t 15) (.k (.int .u8 59))) 12 true [7, 4]), (oE 17 (.pick (.t 12) (.t 16) (.k (.bool false))) [4, 8])]
def spinetref43_Cut_i3 : IR := (.cond (.t 17) .skip (.exit 0))
def spinetref43_Cut_i4 : List Op1 := [(oM 18 (.t 4) []), (oE 19 (.bin .add (.t 18) (.k (.int .i64 1))) [0]), (oM 4 (.t 19) [1, 0, 1])]
def spinetref43_Cut_i5 : IR := (.block 1 (.reg false spinetref43_Cut_i4))
def spinetref43_Cut_i6 : IR := (.seq (.seq (.reg false spinetref43_Cut_i2) spinetref43_Cut_i3) spinetref43_Cut_i5)
def spinetref43_Cut_i7 : List Op1 := [(oM 20 (.t 0) []), (oM 21 (.t 4) []), (oE 22 (.sstr (.t 20) none (some (.t 21))) [0, 1]), (oM 0 (.t 22) [2, 0, 1, 2])]
def spinetref43_Cut_i8 : List Op1 := [(oE 5 (.zero [(.string ⟨#[]⟩), (.string ⟨#[]⟩), (.string ⟨#[]⟩)]) [])]
def spinetref43_Cut_i9 : List Op1 := [(oM 6 (.k (.int .i64 0)) [])]
def spinetref43_Cut_i10 : List Op1 := [(oM 23 (.t 0) []), (oE 24 (.lens (.t 23)) [0]), (oE 25 (.bin .gtr (.t 24) (.k (.int .i64 0))) [1]), (oM 26 (.t 25) [2]), (oG 27 (.mv (.t 0)) 26 true [3]), (oG 28 (.ixs (.t 27) (.k (.int .i64 0))) 26 true [4, 3]), ⟨(some 29), (.call 14 [(.t 28)]), (some (26, true)), [5, 3, 3]⟩, (oG 30 (.un .not (.t 29)) 26 true [6, 3]), (oE 31 (.pick (.t 26) (.t 30) (.k (.bool false))) [3, 7])]
def spinetref43_Cut_i11 : List Op1 := [(oM 32 (.t 6) []), (oM 33 (.t 0) []), (oE 34 (.lens (.t 33)) [1]), (oE 35 (.bin .lss (.t 32) (.t 34)) [0, 2]), (oM 36 (.t 35) [3]), (oG 37 (.mv (.t 0)) 36 true [4]), (oG 38 (.mv (.t 6)) 36 true [4]), (oG 39 (.ixs (.t 37) (.t 38)) 36 true [5, 6, 4]), ⟨(some 40), (.call 14 [(.t 39)]), (some (36, true)), [7, 4, 4]⟩, (oG 41 (.un .not (.t 40)) 36 true [8, 4]), (oE 42 (.pick (.t 36) (.t 41) (.k (.bool false))) [4, 9]), (oM 43 (.t 42) [10, 8]), (oG 44 (.mv (.t 0)) 43 true [11]), (oG 45 (.mv (.t 6)) 43 true [11]), (oG 46 (.ixs (.t 44) (.t 45)) 43 true [12, 13, 11]), (oG 47 (.bin .neq (.t 46) (.k (.int .u8 58))) 43 true [14, 11]), (oE 48 (.pick (.t 43) (.t 47) (.k (.bool false))) [11, 15])]
def spinetref43_Cut_i12 : IR := (.cond (.t 48) .skip (.exit 2))
def spinetref43_Cut_i13 : List Op1 := [(oM 49 (.t 6) []), (oE 50 (.bin .add (.t 49) (.k (.int .i64 1))) [0]), (oM 6 (.t 50) [1, 0, 1])]
def spinetref43_Cut_i14 : IR := (.block 3 (.reg false spinetref43_Cut_i13))
def spinetref43_Cut_i15 : IR := (.seq (.seq (.reg false spinetref43_Cut_i11) spinetref43_Cut_i12) spinetref43_Cut_i14)
def spinetref43_Cut_i16 : List Op1 := [(oM 51 (.t 0) []), (oM 52 (.t 6) []), (oE 53 (.sstr (.t 51) none (some (.t 52))) [0, 1]), (oE 54 (.fld 0 (.t 5)) [0, 1, 2]), (oN (.store 1 (.t 54) (.t 53)) [3, 2, 0, 1, 2])]
def spinetref43_Cut_i17 : List Op1 := [(oE 55 (.fld 0 (.t 5)) []), (oE 56 (.load false 1 (.t 55)) [0]), (oC 57 15 [(.t 56)] [1]), (oE 58 (.un .not (.t 57)) [2])]
def spinetref43_Cut_i18 : List Op1 := [(oE 59 (.build [(.string ⟨#[]⟩), (.string ⟨#[]⟩), (.string ⟨#[]⟩)] []) []), (oN (.store 3 (.t 2) (.t 59)) [0, 0]), (oM 3 (.k (.bool false)) [1, 0, 1])]
def spinetref43_Cut_i19 : IR := .ret
def spinetref43_Cut_i20 : IR := (.cond (.t 58) (.seq (.reg false spinetref43_Cut_i18) spinetref43_Cut_i19) .skip)
def spinetref43_Cut_i21 : List Op1 := [(oM 60 (.t 6) []), (oM 61 (.t 0) []), (oE 62 (.lens (.t 61)) [1]), (oE 63 (.bin .lss (.t 60) (.t 62)) [0, 2]), (oM 64 (.t 63) [3]), (oG 65 (.mv (.t 0)) 64 true [4]), (oG 66 (.mv (.t 6)) 64 true [4]), (oG 67 (.ixs (.t 65) (.t 66)) 64 true [5, 6, 4]), (oG 68 (.bin .eql (.t 67) (.k (.int .u8 58))) 64 true [7, 4]), (oE 69 (.pick (.t 64) (.t 68) (.k (.bool false))) [4, 8])]
def spinetref43_Cut_i22 : List Op1 := [(oM 70 (.t 6) []), (oE 71 (.bin .add (.t 70) (.k (.int .i64 1))) [0]), (oM 6 (.t 71) [1, 0, 1])]
def spinetref43_Cut_i23 : IR := (.cond (.t 69) (.reg false spinetref43_Cut_i22) .skip)
def spinetref43_Cut_i24 : IR := (.seq (.reg false spinetref43_Cut_i21) spinetref43_Cut_i23)
def spinetref43_Cut_i25 : IR := (.seq (.seq (.reg false spinetref43_Cut_i17) spinetref43_Cut_i20) spinetref43_Cut_i24)
def spinetref43_Cut_i26 : IR := (.seq (.reg false spinetref43_Cut_i16) spinetref43_Cut_i25)
def spinetref43_Cut_i27 : IR := (.cond (.t 31) (.seq (.block 2 (.loop spinetref43_Cut_i15)) spinetref43_Cut_i26) .skip)
def spinetref43_Cut_i28 : List Op1 := [(oM 72 (.t 6) []), (oM 73 (.t 0) []), (oE 74 (.lens (.t 73)) [1]), (oE 75 (.bin .lss (.t 72) (.t 74)) [0, 2]), (oM 76 (.t 75) [3]), (oG 77 (.mv (.t 0)) 76 true [4]), (oG 78 (.mv (.t 6)) 76 true [4]), (oG 79 (.ixs (.t 77) (.t 78)) 76 true [5, 6, 4]), ⟨(some 80), (.call 14 [(.t 79)]), (some (76, true)), [7, 4, 4]⟩, (oE 81 (.pick (.t 76) (.t 80) (.k (.bool false))) [4, 8])]
def spinetref43_Cut_i29 : IR := (.cond (.t 81) .skip (.exit 4))
def spinetref43_Cut_i30 : List Op1 := [(oM 82 (.t 6) []), (oE 83 (.bin .add (.t 82) (.k (.int .i64 1))) [0]), (oM 6 (.t 83) [1, 0, 1])]
def spinetref43_Cut_i31 : IR := (.block 5 (.reg false spinetref43_Cut_i30))
def spinetref43_Cut_i32 : IR := (.seq (.seq (.reg false spinetref43_Cut_i28) spinetref43_Cut_i29) spinetref43_Cut_i31)
def spinetref43_Cut_i33 : List Op1 := [(oM 84 (.t 6) []), (oM 85 (.t 0) []), (oE 86 (.lens (.t 85)) [1]), (oE 87 (.bin .lss (.t 84) (.t 86)) [0, 2]), (oM 88 (.t 87) [3]), (oG 89 (.mv (.t 0)) 88 true [4]), (oG 90 (.mv (.t 6)) 88 true [4]), (oG 91 (.ixs (.t 89) (.t 90)) 88 true [5, 6, 4]), ⟨(some 92), (.call 14 [(.t 91)]), (some (88, true)), [7, 4, 4]⟩, (oG 93 (.un .not (.t 92)) 88 true [8, 4]), (oE 94 (.pick (.t 88) (.t 93) (.k (.bool false))) [4, 9])]
def spinetref43_Cut_i34 : IR := (.cond (.t 94) .skip (.exit 6))
def spinetref43_Cut_i35 : List Op1 := [(oM 95 (.t 0) []), (oM 96 (.t 6) []), (oE 97 (.ixs (.t 95) (.t 96)) [0, 1]), (oM 7 (.t 97) [2, 0, 1, 2])]
def spinetref43_Cut_i36 : List Op1 := [(oM 98 (.t 7) []), (oE 99 (.bin .geq (.t 98) (.k (.int .u8 97))) [0]), (oM 100 (.t 99) [1]), (oG 101 (.mv (.t 7)) 100 true [2]), (oG 102 (.bin .leq (.t 101) (.k (.int .u8 122))) 100 true [3, 2]), (oE 103 (.pick (.t 100) (.t 102) (.k (.bool false))) [2, 4])]
def spinetref43_Cut_i37 : List Op1 := [(oM 104 (.t 7) []), (oE 105 (.bin .sub (.t 104) (.k (.int .u8 32))) [0]), (oM 7 (.t 105) [1, 0, 1])]
def spinetref43_Cut_i38 : IR := (.cond (.t 103) (.reg false spinetref43_Cut_i37) .skip)
def spinetref43_Cut_i39 : List Op1 := [(oE 106 (.fld 1 (.t 5)) []), (oE 107 (.load false 1 (.t 106)) [0]), (oM 108 (.t 7) []), (oE 109 (.bslo 1 1 [(.int .u8 0)] [(0, (1, (.t 108)))]) [2]), (oE 110 (.bstr (.t 109)) [3]), (oE 111 (.bin .add (.t 107) (.t 110)) [1, 4]), (oE 112 (.fld 1 (.t 5)) [0, 1, 2, 3, 4, 5]), (oN (.store 1 (.t 112) (.t 111)) [6, 5, 0, 1, 2, 3, 4, 5])]
def spinetref43_Cut_i40 : List Op1 := [(oM 113 (.t 6) []), (oE 114 (.bin .add (.t 113) (.k (.int .i64 1))) [0]), (oM 6 (.t 114) [1, 0, 1])]
def spinetref43_Cut_i41 : IR := (.reg false spinetref43_Cut_i40)
def spinetref43_Cut_i42 : IR := (.seq (.reg false spinetref43_Cut_i39) spinetref43_Cut_i41)
def spinetref43_Cut_i43 : IR := (.seq (.seq (.reg false spinetref43_Cut_i36) spinetref43_Cut_i38) spinetref43_Cut_i42)
def spinetref43_Cut_i44 : IR := (.block 7 (.seq (.reg false spinetref43_Cut_i35) spinetref43_Cut_i43))
def spinetref43_Cut_i45 : IR := (.seq (.seq (.reg false spinetref43_Cut_i33) spinetref43_Cut_i34) spinetref43_Cut_i44)
def spinetref43_Cut_i46 : List Op1 := [(oM 115 (.t 6) []), (oM 116 (.t 0) []), (oE 117 (.lens (.t 116)) [1]), (oE 118 (.bin .lss (.t 115) (.t 117)) [0, 2])]
def spinetref43_Cut_i47 : IR := (.cond (.t 118) .skip (.exit 8))
def spinetref43_Cut_i48 : List Op1 := [(oM 119 (.t 0) []), (oM 120 (.t 6) []), (oE 121 (.ixs (.t 119) (.t 120)) [0, 1]), (oC 122 14 [(.t 121)] [2]), (oE 123 (.un .not (.t 122)) [3])]
def spinetref43_Cut_i49 : List An := [(aO (oE 124 (.fld 2 (.t 5)) []) false 0 0), (aO (oE 125 (.load false 1 (.t 124)) [0]) false 0 0), (aO (oM 126 (.t 0) []) false 0 0), (aO (oM 127 (.t 6) []) false 0 0), (aO (oM 128 (.t 6) []) false 0 0), (aO (oE 129 (.bin .add (.t 128) (.k (.int .i64 1))) [4]) false 0 0), (aO (oE 130 (.sstr (.t 126) (some (.t 127)) (some (.t 129))) [2, 3, 5]) false 0 0), (aO (oE 131 (.bin .add (.t 125) (.t 130)) [1, 6]) false 0 0), (aO (oE 132 (.fld 2 (.t 5)) [0, 1, 2, 3, 4, 5, 6, 7]) false 0 0), (aO (oN (.store 1 (.t 132) (.t 131)) [8, 7, 0, 1, 2, 3, 4, 5, 6, 7]) true 0 1)]
def spinetref43_Cut_i50 : IR := (.cond (.t 123) (.regw spinetref43_Cut_i49) .skip)
def spinetref43_Cut_i51 : List Op1 := [(oM 133 (.t 6) []), (oE 134 (.bin .add (.t 133) (.k (.int .i64 1))) [0]), (oM 6 (.t 134) [1, 0, 1])]
def spinetref43_Cut_i52 : IR := (.reg false spinetref43_Cut_i51)
def spinetref43_Cut_i53 : IR := (.block 9 (.seq (.seq (.reg false spinetref43_Cut_i48) spinetref43_Cut_i50) spinetref43_Cut_i52))
def spinetref43_Cut_i54 : IR := (.seq (.seq (.reg false spinetref43_Cut_i46) spinetref43_Cut_i47) spinetref43_Cut_i53)
def spinetref43_Cut_i55 : List Op1 := [(oE 135 (.load true 3 (.t 5)) []), (oN (.store 3 (.t 2) (.t 135)) [0, 0]), (oM 3 (.k (.bool true)) [1, 0, 1])]
def spinetref43_Cut_i56 : IR := .ret
def spinetref43_Cut_i57 : IR := (.seq (.reg false spinetref43_Cut_i55) spinetref43_Cut_i56)
def spinetref43_Cut_i58 : IR := (.seq (.block 8 (.loop spinetref43_Cut_i54)) spinetref43_Cut_i57)
def spinetref43_Cut_i59 : IR := (.seq (.block 6 (.loop spinetref43_Cut_i45)) spinetref43_Cut_i58)
def spinetref43_Cut_i60 : IR := (.seq (.block 4 (.loop spinetref43_Cut_i32)) spinetref43_Cut_i59)
def spinetref43_Cut_i61 : IR := (.seq (.seq (.reg false spinetref43_Cut_i10) spinetref43_Cut_i27) spinetref43_Cut_i60)
def spinetref43_Cut_i62 : IR := (.seq (.reg false spinetref43_Cut_i9) spinetref43_Cut_i61)
def spinetref43_Cut_i63 : IR := (.seq (.reg false spinetref43_Cut_i8) spinetref43_Cut_i62)
def spinetref43_Cut_i64 : IR := (.seq (.reg false spinetref43_Cut_i7) spinetref43_Cut_i63)
def spinetref43_Cut_i65 : IR := (.seq (.block 0 (.loop spinetref43_Cut_i6)) spinetref43_Cut_i64)
def spinetref43_Cut_i66 : IR := (.seq (.reg false spinetref43_Cut_i1) spinetref43_Cut_i65)
def spinetref43_Cut_ir : IR := (.seq (.reg false spinetref43_Cut_i0) spinetref43_Cut_i66)
theorem spinetref43_Cut_cfn : cFn Tryd.prog 7 = some (spinetref43_Cut_ir, [(.c 2 true 3), (.t 3)], 136) := by kernel_rfl
def spinetref43_Cut_V (r : (spinetref43_Line × Bool)) : V := .tup [.agg [.s (.string r.1.Label), .s (.string r.1.Op), .s (.string r.1.Arg)], .s (.bool r.2)]
def spinetref43_Cut_C (r : (spinetref43_Line × Bool)) : X → Fr → Hp → Prop := FinL [(.c 2 true 3), (.t 3)] [] (spinetref43_Cut_V r) []
theorem spinetref43_Cut_ok (s_ : ByteArray) (r : (spinetref43_Line × Bool)) (h : spinetref43_Cut s_ = some r) : Pure Tryd.prog 7 [.s (.string s_)] (spinetref43_Cut_V r) := by
  refine ConL.of spinetref43_Cut_cfn (Nat.le_of_ble_eq_true (by kernel_rfl)) (Nat.le_of_ble_eq_true (by kernel_rfl)) ?_
  refine k_start ?_
  show dwv Tryd.prog [] spinetref43_Cut_ir (kont Tryd.prog [] (spinetref43_Cut_C r) []) (fr0 [.s (.string s_)]) []
  have hf : FOk (fr0 [.s (.string s_)]) [⟨0, [], .s (.string s_)⟩] := ⟨⟨fun _ => rfl, fun h => (h trivial).elim⟩, trivial⟩
  generalize fr0 [.s (.string s_)] = f at hf ⊢
  unfold spinetref43_Cut at h
  refine k_seq ?_
  refine k_reg ?_
  refine mops_en hf (by kernel_rfl) fun f1 hf1 => ?_
  refine k_c ?_
  refine k_seq ?_
  refine k_reg ?_
  refine mops_en hf1 (by kernel_rfl) fun f2 hf2 => ?_
  refine k_c ?_
  refine k_seq ?_
  refine k_block ?_
  obtain ⟨o0, hx0, h⟩ := Option.bind_eq_some_iff.1 h
  have hgo0 : ∀ (n_2 : Int), n_2 = o0 → ∀ f, FOk f [⟨0, [], .s (.string s_)⟩, ⟨2, [], .ptr 0 0 0⟩, ⟨3, [], .s (.bool false)⟩, ⟨4, [], .s (.int .i64 n_2)⟩] → kont Tryd.prog [] (spinetref43_Cut_C r) ((.c spinetref43_Cut_i64) :: []) .normal f [⟨0, .mem, 1, [.s (.string (⟨#[]⟩ : ByteArray)), .s (.string (⟨#[]⟩ : ByteArray)), .s (.string (⟨#[]⟩ : ByteArray))]⟩] := by
    intro n_2 e f hf
    subst e
    refine k_c ?_
    refine k_seq ?_
    refine k_reg ?_
    refine mops_sg 2 hf (by kernel_rfl) fun f1 hf1 => ?_
    obtain ⟨c4, h⟩ := as_ok h
    refine mops_adv rfl (v := .s (.string (s_.extract 0 (n_2 : Int).toNat))) hf1 (by kernel_rfl) (e_sstr (t := s_) (by kernel_rfl) (b_ns (k := .i64) (iv := n_2) (by kernel_rfl) c4)) fun f2 hf2 => ?_
    refine mops_en hf2 (by kernel_rfl) fun f3 hf3 => ?_
    refine k_c ?_
    refine k_seq ?_
    refine k_reg ?_
    refine mops_en hf3 (by kernel_rfl) fun f4 hf4 => ?_
    refine k_c ?_
    refine k_seq ?_
    refine k_reg ?_
    refine mops_en hf4 (by kernel_rfl) fun f5 hf5 => ?_
    refine k_c ?_
    refine k_seq ?_
    refine k_seq ?_
    refine k_reg ?_
    refine mops_sg 5 hf5 (by kernel_rfl) fun f6 hf6 => ?_
    obtain ⟨c5, h⟩ := as_ok h
    refine mops_gadv (dst := (some 28)) (op := (.ixs (.t 27) (.k (.int .i64 0)))) (aft := [4, 3]) (t := 26) (w := true) (ch := [(26, true)]) (b := (decide (0 < (sln (s_.extract 0 (n_2 : Int).toNat))))) (v := .s (.int .u8 (bt (s_.extract 0 (n_2 : Int).toNat) (0)))) (by kernel_rfl) hf6 (by kernel_rfl) (by kernel_rfl) (by kernel_rfl) (fun hb6 => e_ixs (t := (s_.extract 0 (n_2 : Int).toNat)) (k := .i64) (iv := 0) (by kernel_rfl) (by kernel_rfl) (c5 hb6)) fun f7 hf7 => ?_
    obtain ⟨r_, hx_r_, h⟩ := Option.bind_eq_some_iff.1 h
    refine mops_gcall (dst := (some 29)) (m := 14) (args := [(.t 28)]) (aft := [5, 3, 3]) (t := 26) (w := true) (ch := [(26, true)]) (b := (decide (0 < (sln (s_.extract 0 (n_2 : Int).toNat))))) (by kernel_rfl) hf7 (by kernel_rfl) (by kernel_rfl) (av := [.s (.int .u8 (bt (s_.extract 0 (n_2 : Int).toNat) (0)))]) (by kernel_rfl) (v := .s (.bool r_)) (by kernel_rfl) (fun hb7 => (CalL.pure (spinetref43_blank_ok (bt (s_.extract 0 (n_2 : Int).toNat) (0)) r_ (if_t hx_r_ hb7)) rfl rfl (Nat.le_of_ble_eq_true (by kernel_rfl)))) fun f8 hf8 => ?_
    refine mops_en hf8 (by kernel_rfl) fun f9 hf9 => ?_
    refine k_c ?_
    have hj1 : ∀ (m_ : ByteArray) (i_3 : Int), spinetref43_Cut_j1 s_ n_2 m_ i_3 = some r → ∀ f, FOk f [⟨0, [], .s (.string (s_.extract 0 (n_2 : Int).toNat))⟩, ⟨2, [], .ptr 0 0 0⟩, ⟨3, [], .s (.bool false)⟩, ⟨5, [], .ptr 1 0 0⟩, ⟨6, [], .s (.int .i64 i_3)⟩] → kont Tryd.prog [] (spinetref43_Cut_C r) ((.c spinetref43_Cut_i60) :: []) .normal f [⟨0, .mem, 1, [.s (.string (⟨#[]⟩ : ByteArray)), .s (.string (⟨#[]⟩ : ByteArray)), .s (.string (⟨#[]⟩ : ByteArray))]⟩, ⟨0, .mem, 1, [.s (.string m_), .s (.string (⟨#[]⟩ : ByteArray)), .s (.string (⟨#[]⟩ : ByteArray))]⟩] := by
      intro m_ i_3 h f hf
      unfold spinetref43_Cut_j1 at h
      refine k_c ?_
      refine k_seq ?_
      refine k_block ?_
      obtain ⟨o2, hx2, h⟩ := Option.bind_eq_some_iff.1 h
      have hgo2 : ∀ (i_6 : Int), i_6 = o2 → ∀ f, FOk f [⟨0, [], .s (.string (s_.extract 0 (n_2 : Int).toNat))⟩, ⟨2, [], .ptr 0 0 0⟩, ⟨3, [], .s (.bool false)⟩, ⟨5, [], .ptr 1 0 0⟩, ⟨6, [], .s (.int .i64 i_6)⟩] → kont Tryd.prog [] (spinetref43_Cut_C r) ((.c spinetref43_Cut_i59) :: []) .normal f [⟨0, .mem, 1, [.s (.string (⟨#[]⟩ : ByteArray)), .s (.string (⟨#[]⟩ : ByteArray)), .s (.string (⟨#[]⟩ : ByteArray))]⟩, ⟨0, .mem, 1, [.s (.string m_), .s (.string (⟨#[]⟩ : ByteArray)), .s (.string (⟨#[]⟩ : ByteArray))]⟩] := by
        intro i_6 e f hf
        subst e
        refine k_c ?_
        refine k_seq ?_
        refine k_block ?_
        obtain ⟨o3, hx3, h⟩ := Option.bind_eq_some_iff.1 h
        have hgo3 : ∀ (m_3 : ByteArray) (i_9 : Int), (m_3, i_9) = o3 → ∀ f, FOk f [⟨0, [], .s (.string (s_.extract 0 (n_2 : Int).toNat))⟩, ⟨2, [], .ptr 0 0 0⟩, ⟨3, [], .s (.bool false)⟩, ⟨5, [], .ptr 1 0 0⟩, ⟨6, [], .s (.int .i64 i_9)⟩] → kont Tryd.prog [] (spinetref43_Cut_C r) ((.c spinetref43_Cut_i58) :: []) .normal f [⟨0, .mem, 1, [.s (.string (⟨#[]⟩ : ByteArray)), .s (.string (⟨#[]⟩ : ByteArray)), .s (.string (⟨#[]⟩ : ByteArray))]⟩, ⟨0, .mem, 1, [.s (.string m_), .s (.string m_3), .s (.string (⟨#[]⟩ : ByteArray))]⟩] := by
          intro m_3 i_9 e f hf
          subst e
          refine k_c ?_
          refine k_seq ?_
          refine k_block ?_
          obtain ⟨o4, hx4, h⟩ := Option.bind_eq_some_iff.1 h
          have hgo4 : ∀ (m_6 : ByteArray), m_6 = o4 → ∀ f, FOk f [⟨2, [], .ptr 0 0 0⟩, ⟨3, [], .s (.bool false)⟩, ⟨5, [], .ptr 1 0 0⟩] → kont Tryd.prog [] (spinetref43_Cut_C r) ((.c spinetref43_Cut_i57) :: []) .normal f [⟨0, .mem, 1, [.s (.string (⟨#[]⟩ : ByteArray)), .s (.string (⟨#[]⟩ : ByteArray)), .s (.string (⟨#[]⟩ : ByteArray))]⟩, ⟨0, .mem, 1, [.s (.string m_), .s (.string m_3), .s (.string m_6)]⟩] := by
            intro m_6 e f hf
            subst e
            refine k_c ?_
            refine k_seq ?_
            refine k_reg ?_
            refine mops_en hf (by kernel_rfl) fun f1 hf1 => ?_
            refine k_c ?_
            refine k_ret ?_
            obtain rfl := Option.some.inj h
            exact k_fin (fin_ret (.inl rfl) hf1 (vs := [.agg [.s (.string m_), .s (.string m_3), .s (.string m_6)], .s (.bool true)]) (by kernel_rfl) (SettL.pure (FzL.tup (FzsL.cons (FzL.stat rfl) (FzsL.cons (FzL.stat rfl) FzsL.nil)))))
          refine k_loop BIG ?_
          refine loop_ind (fun n f L => ∃ (m_5 : ByteArray) (i_11 : Int), spinetref43_Cut_l4 s_ n_2 n m_5 i_11 = some o4 ∧ FOk f [⟨0, [], .s (.string (s_.extract 0 (n_2 : Int).toNat))⟩, ⟨2, [], .ptr 0 0 0⟩, ⟨3, [], .s (.bool false)⟩, ⟨5, [], .ptr 1 0 0⟩, ⟨6, [], .s (.int .i64 i_11)⟩] ∧ L = [⟨0, .mem, 1, [.s (.string (⟨#[]⟩ : ByteArray)), .s (.string (⟨#[]⟩ : ByteArray)), .s (.string (⟨#[]⟩ : ByteArray))]⟩, ⟨0, .mem, 1, [.s (.string m_), .s (.string m_3), .s (.string m_5)]⟩]) ?_ ?_ BIG _ _ ⟨(⟨#[]⟩ : ByteArray), i_9, hx4, FOk_of [0, 2, 3, 5, 6] hf (by kernel_rfl), rfl⟩
          · rintro f L ⟨m_5, i_11, h, _⟩
            cases (show (none : Option _) = some _ from h)
          · rintro n4 R4 ih f L ⟨m_5, i_11, h, hf, rfl⟩
            rw [spinetref43_Cut_l4] at h
            refine k_seq ?_
            refine k_seq ?_
            refine k_reg ?_
            refine mops_en hf (by kernel_rfl) fun f1 hf1 => ?_
            refine k_c ?_
            refine k_cond hf1 (t := (decide (i_11 < (sln (s_.extract 0 (n_2 : Int).toNat))))) (by kernel_rfl) (fun hc31 => ?_) (fun hc31 => ?_)
            · have h := if_t h hc31
              refine k_skip ?_
              refine k_c ?_
              refine k_block ?_
              refine k_seq ?_
              refine k_seq ?_
              refine k_reg ?_
              refine mops_sg 2 hf1 (by kernel_rfl) fun f2 hf2 => ?_
              obtain ⟨c32, h⟩ := as_ok h
              refine mops_adv rfl (v := .s (.int .u8 (bt (s_.extract 0 (n_2 : Int).toNat) i_11))) hf2 (by kernel_rfl) (e_ixs (t := (s_.extract 0 (n_2 : Int).toNat)) (k := .i64) (iv := i_11) (by kernel_rfl) (by kernel_rfl) c32) fun f3 hf3 => ?_
              obtain ⟨r_13, hx_r_13, h⟩ := Option.bind_eq_some_iff.1 h
              refine mops_call rfl hf3 (av := [.s (.int .u8 (bt (s_.extract 0 (n_2 : Int).toNat) i_11))]) (by kernel_rfl) (v := .s (.bool r_13)) (CalL.pure (spinetref43_blank_ok (bt (s_.extract 0 (n_2 : Int).toNat) i_11) r_13 hx_r_13) rfl rfl (Nat.le_of_ble_eq_true (by kernel_rfl))) (fun _ => rfl) fun f4 hf4 => ?_
              refine mops_en hf4 (by kernel_rfl) fun f5 hf5 => ?_
              refine k_c ?_
              refine k_cond hf5 (t := (!r_13)) (by kernel_rfl) (fun hc33 => ?_) (fun hc33 => ?_)
              · have h := if_t h hc33
                refine k_regw ?_
                refine lw_tight 9 (by kernel_rfl) ?_
                refine mops_seg [0, 2, 3, 5, 6, 115, 116, 117, 118, 119, 120, 121, 122, 123, 124, 125, 126, 127, 128, 129] 6 hf5 (l' := [⟨0, [], .s (.string (s_.extract 0 (n_2 : Int).toNat))⟩, ⟨2, [], .ptr 0 0 0⟩, ⟨3, [], .s (.bool false)⟩, ⟨5, [], .ptr 1 0 0⟩, ⟨6, [], .s (.int .i64 i_11)⟩, ⟨115, [], .s (.int .i64 i_11)⟩, ⟨116, [], .s (.string (s_.extract 0 (n_2 : Int).toNat))⟩, ⟨117, [], .s (.int .i64 (sln (s_.extract 0 (n_2 : Int).toNat)))⟩, ⟨118, [], .s (.bool (decide (i_11 < (sln (s_.extract 0 (n_2 : Int).toNat)))))⟩, ⟨119, [], .s (.string (s_.extract 0 (n_2 : Int).toNat))⟩, ⟨120, [], .s (.int .i64 i_11)⟩, ⟨121, [], .s (.int .u8 (bt (s_.extract 0 (n_2 : Int).toNat) i_11))⟩, ⟨122, [], .s (.bool r_13)⟩, ⟨123, [], .s (.bool (!r_13))⟩, ⟨124, [], .ptr 1 0 2⟩, ⟨125, [], .s (.string m_5)⟩, ⟨126, [], .s (.string (s_.extract 0 (n_2 : Int).toNat))⟩, ⟨127, [], .s (.int .i64 i_11)⟩, ⟨128, [], .s (.int .i64 i_11)⟩, ⟨129, [], .s (.int .i64 (IntKind.wrap .i64 (i_11 + 1)))⟩]) (L' := [⟨0, .mem, 1, [.s (.string (⟨#[]⟩ : ByteArray)), .s (.string (⟨#[]⟩ : ByteArray)), .s (.string (⟨#[]⟩ : ByteArray))]⟩, ⟨0, .mem, 1, [.s (.string m_), .s (.string m_3), .s (.string m_5)]⟩]) (by kernel_rfl) fun f6 hf6 => ?_
                obtain ⟨c34, h⟩ := as_ok h
                refine mops_adv rfl (v := .s (.string ((s_.extract 0 (n_2 : Int).toNat).extract (i_11 : Int).toNat ((IntKind.wrap .i64 (i_11 + 1)) : Int).toNat))) hf6 (by kernel_rfl) (e_sstr (t := (s_.extract 0 (n_2 : Int).toNat)) (by kernel_rfl) (b_ss (k := .i64) (k' := .i64) (iv := i_11) (jv := (IntKind.wrap .i64 (i_11 + 1))) (by kernel_rfl) (by kernel_rfl) c34)) fun f7 hf7 => ?_
                obtain ⟨c35, h⟩ := as_ok h
                refine mops_adv rfl (v := .s (.string (m_5 ++ ((s_.extract 0 (n_2 : Int).toNat).extract (i_11 : Int).toNat ((IntKind.wrap .i64 (i_11 + 1)) : Int).toNat)))) hf7 (by kernel_rfl) (e_sadd (t := m_5) (t' := ((s_.extract 0 (n_2 : Int).toNat).extract (i_11 : Int).toNat ((IntKind.wrap .i64 (i_11 + 1)) : Int).toNat)) (by kernel_rfl) (by kernel_rfl) c35) fun f8 hf8 => ?_
                refine mops_end [0, 2, 3, 5, 6, 115, 116, 117, 118, 119, 120, 121, 122, 123, 124, 125, 126, 127, 128, 129, 130, 131, 132] hf8 (l' := [⟨0, [], .s (.string (s_.extract 0 (n_2 : Int).toNat))⟩, ⟨2, [], .ptr 0 0 0⟩, ⟨3, [], .s (.bool false)⟩, ⟨5, [], .ptr 1 0 0⟩, ⟨6, [], .s (.int .i64 i_11)⟩, ⟨115, [], .s (.int .i64 i_11)⟩, ⟨116, [], .s (.string (s_.extract 0 (n_2 : Int).toNat))⟩, ⟨117, [], .s (.int .i64 (sln (s_.extract 0 (n_2 : Int).toNat)))⟩, ⟨118, [], .s (.bool (decide (i_11 < (sln (s_.extract 0 (n_2 : Int).toNat)))))⟩, ⟨119, [], .s (.string (s_.extract 0 (n_2 : Int).toNat))⟩, ⟨120, [], .s (.int .i64 i_11)⟩, ⟨121, [], .s (.int .u8 (bt (s_.extract 0 (n_2 : Int).toNat) i_11))⟩, ⟨122, [], .s (.bool r_13)⟩, ⟨123, [], .s (.bool (!r_13))⟩, ⟨124, [], .ptr 1 0 2⟩, ⟨125, [], .s (.string m_5)⟩, ⟨126, [], .s (.string (s_.extract 0 (n_2 : Int).toNat))⟩, ⟨127, [], .s (.int .i64 i_11)⟩, ⟨128, [], .s (.int .i64 i_11)⟩, ⟨129, [], .s (.int .i64 (IntKind.wrap .i64 (i_11 + 1)))⟩, ⟨130, [], .s (.string ((s_.extract 0 (n_2 : Int).toNat).extract (i_11 : Int).toNat ((IntKind.wrap .i64 (i_11 + 1)) : Int).toNat))⟩, ⟨131, [], .s (.string (m_5 ++ ((s_.extract 0 (n_2 : Int).toNat).extract (i_11 : Int).toNat ((IntKind.wrap .i64 (i_11 + 1)) : Int).toNat)))⟩, ⟨132, [], .ptr 1 0 2⟩]) (L' := [⟨0, .mem, 1, [.s (.string (⟨#[]⟩ : ByteArray)), .s (.string (⟨#[]⟩ : ByteArray)), .s (.string (⟨#[]⟩ : ByteArray))]⟩, ⟨0, .mem, 1, [.s (.string m_), .s (.string m_3), .s (.string m_5)]⟩]) (by kernel_rfl) fun f9 hf9 => ?_
                intro _
                refine lw_w (a := ⟨⟨none, (.e (.store 1 (.t 132) (.t 131))), none, [8, 7, 0, 1, 2, 3, 4, 5, 6, 7]⟩, true, 0, 1⟩) (by kernel_rfl) rfl rfl ?_
                refine mops_end [0, 2, 3, 5, 6, 115, 116, 117, 118, 119, 120, 121, 122, 123, 124, 125, 126, 127, 128, 129, 130, 131, 132] hf9 (l' := [⟨0, [], .s (.string (s_.extract 0 (n_2 : Int).toNat))⟩, ⟨2, [], .ptr 0 0 0⟩, ⟨3, [], .s (.bool false)⟩, ⟨5, [], .ptr 1 0 0⟩, ⟨6, [], .s (.int .i64 i_11)⟩, ⟨115, [], .s (.int .i64 i_11)⟩, ⟨116, [], .s (.string (s_.extract 0 (n_2 : Int).toNat))⟩, ⟨117, [], .s (.int .i64 (sln (s_.extract 0 (n_2 : Int).toNat)))⟩, ⟨118, [], .s (.bool (decide (i_11 < (sln (s_.extract 0 (n_2 : Int).toNat)))))⟩, ⟨119, [], .s (.string (s_.extract 0 (n_2 : Int).toNat))⟩, ⟨120, [], .s (.int .i64 i_11)⟩, ⟨121, [], .s (.int .u8 (bt (s_.extract 0 (n_2 : Int).toNat) i_11))⟩, ⟨122, [], .s (.bool r_13)⟩, ⟨123, [], .s (.bool (!r_13))⟩, ⟨124, [], .ptr 1 0 2⟩, ⟨125, [], .s (.string m_5)⟩, ⟨126, [], .s (.string (s_.extract 0 (n_2 : Int).toNat))⟩, ⟨127, [], .s (.int .i64 i_11)⟩, ⟨128, [], .s (.int .i64 i_11)⟩, ⟨129, [], .s (.int .i64 (IntKind.wrap .i64 (i_11 + 1)))⟩, ⟨130, [], .s (.string ((s_.extract 0 (n_2 : Int).toNat).extract (i_11 : Int).toNat ((IntKind.wrap .i64 (i_11 + 1)) : Int).toNat))⟩, ⟨131, [], .s (.string (m_5 ++ ((s_.extract 0 (n_2 : Int).toNat).extract (i_11 : Int).toNat ((IntKind.wrap .i64 (i_11 + 1)) : Int).toNat)))⟩, ⟨132, [], .ptr 1 0 2⟩]) (L' := [⟨0, .mem, 1, [.s (.string (⟨#[]⟩ : ByteArray)), .s (.string (⟨#[]⟩ : ByteArray)), .s (.string (⟨#[]⟩ : ByteArray))]⟩, ⟨0, .mem, 1, [.s (.string m_), .s (.string m_3), .s (.string (m_5 ++ ((s_.extract 0 (n_2 : Int).toNat).extract (i_11 : Int).toNat ((IntKind.wrap .i64 (i_11 + 1)) : Int).toNat)))]⟩]) (by kernel_rfl) fun f10 hf10 => ?_
                refine ⟨trivial, ?_⟩
                refine lw_end (by kernel_rfl) ?_
                refine k_c ?_
                refine k_reg ?_
                refine mops_en hf10 (by kernel_rfl) fun f11 hf11 => ?_
                refine k_b ?_
                refine k_l ?_
                exact ih _ _ ⟨(m_5 ++ ((s_.extract 0 (n_2 : Int).toNat).extract (i_11 : Int).toNat ((IntKind.wrap .i64 (i_11 + 1)) : Int).toNat)), (IntKind.wrap .i64 (i_11 + 1)), h, FOk_of [0, 2, 3, 5, 6] hf11 (by kernel_rfl), (by kernel_rfl)⟩
              · have h := if_f h hc33
                refine k_skip ?_
                refine k_c ?_
                refine k_reg ?_
                refine mops_en hf5 (by kernel_rfl) fun f6 hf6 => ?_
                refine k_b ?_
                refine k_l ?_
                exact ih _ _ ⟨m_5, (IntKind.wrap .i64 (i_11 + 1)), h, FOk_of [0, 2, 3, 5, 6] hf6 (by kernel_rfl), (by kernel_rfl)⟩
            · have h := if_f h hc31
              refine k_exit ?_
              refine x_c nofun ?_
              refine x_l nofun ?_
              refine x_b ?_
              refine k_hp (L' := [⟨0, .mem, 1, [.s (.string (⟨#[]⟩ : ByteArray)), .s (.string (⟨#[]⟩ : ByteArray)), .s (.string (⟨#[]⟩ : ByteArray))]⟩, ⟨0, .mem, 1, [.s (.string m_), .s (.string m_3), .s (.string m_5)]⟩]) (by kernel_rfl) ?_
              exact hgo4 m_5 (Option.some.inj h) _ (FOk_of [2, 3, 5] hf1 (by kernel_rfl))
        refine k_loop BIG ?_
        refine loop_ind (fun n f L => ∃ (m_2 : ByteArray) (i_8 : Int), spinetref43_Cut_l3 s_ n_2 n m_2 i_8 = some o3 ∧ FOk f [⟨0, [], .s (.string (s_.extract 0 (n_2 : Int).toNat))⟩, ⟨2, [], .ptr 0 0 0⟩, ⟨3, [], .s (.bool false)⟩, ⟨5, [], .ptr 1 0 0⟩, ⟨6, [], .s (.int .i64 i_8)⟩] ∧ L = [⟨0, .mem, 1, [.s (.string (⟨#[]⟩ : ByteArray)), .s (.string (⟨#[]⟩ : ByteArray)), .s (.string (⟨#[]⟩ : ByteArray))]⟩, ⟨0, .mem, 1, [.s (.string m_), .s (.string m_2), .s (.string (⟨#[]⟩ : ByteArray))]⟩]) ?_ ?_ BIG _ _ ⟨(⟨#[]⟩ : ByteArray), i_6, hx3, FOk_of [0, 2, 3, 5, 6] hf (by kernel_rfl), rfl⟩
        · rintro f L ⟨m_2, i_8, h, _⟩
          cases (show (none : Option _) = some _ from h)
        · rintro n3 R3 ih f L ⟨m_2, i_8, h, hf, rfl⟩
          rw [spinetref43_Cut_l3] at h
          refine k_seq ?_
          refine k_seq ?_
          refine k_reg ?_
          refine mops_sg 7 hf (by kernel_rfl) fun f1 hf1 => ?_
          obtain ⟨c24, h⟩ := as_ok h
          refine mops_gadv (dst := (some 91)) (op := (.ixs (.t 89) (.t 90))) (aft := [5, 6, 4]) (t := 88) (w := true) (ch := [(88, true)]) (b := (decide (i_8 < (sln (s_.extract 0 (n_2 : Int).toNat))))) (v := .s (.int .u8 (bt (s_.extract 0 (n_2 : Int).toNat) i_8))) (by kernel_rfl) hf1 (by kernel_rfl) (by kernel_rfl) (by kernel_rfl) (fun hb25 => e_ixs (t := (s_.extract 0 (n_2 : Int).toNat)) (k := .i64) (iv := i_8) (by kernel_rfl) (by kernel_rfl) (c24 hb25)) fun f2 hf2 => ?_
          obtain ⟨r_10, hx_r_10, h⟩ := Option.bind_eq_some_iff.1 h
          refine mops_gcall (dst := (some 92)) (m := 14) (args := [(.t 91)]) (aft := [7, 4, 4]) (t := 88) (w := true) (ch := [(88, true)]) (b := (decide (i_8 < (sln (s_.extract 0 (n_2 : Int).toNat))))) (by kernel_rfl) hf2 (by kernel_rfl) (by kernel_rfl) (av := [.s (.int .u8 (bt (s_.extract 0 (n_2 : Int).toNat) i_8))]) (by kernel_rfl) (v := .s (.bool r_10)) (by kernel_rfl) (fun hb26 => (CalL.pure (spinetref43_blank_ok (bt (s_.extract 0 (n_2 : Int).toNat) i_8) r_10 (if_t hx_r_10 hb26)) rfl rfl (Nat.le_of_ble_eq_true (by kernel_rfl)))) fun f3 hf3 => ?_
          refine mops_en hf3 (by kernel_rfl) fun f4 hf4 => ?_
          refine k_c ?_
          refine k_cond hf4 (t := ((decide (i_8 < (sln (s_.extract 0 (n_2 : Int).toNat)))) && (!r_10))) (by kernel_rfl) (fun hc27 => ?_) (fun hc27 => ?_)
          · have h := if_t h hc27
            refine k_skip ?_
            refine k_c ?_
            refine k_block ?_
            refine k_seq ?_
            refine k_reg ?_
            refine mops_sg 2 hf4 (by kernel_rfl) fun f5 hf5 => ?_
            obtain ⟨c28, h⟩ := as_ok h
            refine mops_adv rfl (v := .s (.int .u8 (bt (s_.extract 0 (n_2 : Int).toNat) i_8))) hf5 (by kernel_rfl) (e_ixs (t := (s_.extract 0 (n_2 : Int).toNat)) (k := .i64) (iv := i_8) (by kernel_rfl) (by kernel_rfl) c28) fun f6 hf6 => ?_
            refine mops_en hf6 (by kernel_rfl) fun f7 hf7 => ?_
            refine k_c ?_
            refine k_seq ?_
            refine k_seq ?_
            refine k_reg ?_
            refine mops_en hf7 (by kernel_rfl) fun f8 hf8 => ?_
            refine k_c ?_
            have hj2 : ∀ (c_2 : Int), spinetref43_Cut_j0 ((spinetref43_Cut_l3 s_ n_2 n3)) m_2 i_8 c_2 = some o3 → ∀ f, FOk f [⟨0, [], .s (.string (s_.extract 0 (n_2 : Int).toNat))⟩, ⟨2, [], .ptr 0 0 0⟩, ⟨3, [], .s (.bool false)⟩, ⟨5, [], .ptr 1 0 0⟩, ⟨6, [], .s (.int .i64 i_8)⟩, ⟨7, [], .s (.int .u8 c_2)⟩, ⟨84, [], .s (.int .i64 i_8)⟩, ⟨85, [], .s (.string (s_.extract 0 (n_2 : Int).toNat))⟩, ⟨86, [], .s (.int .i64 (sln (s_.extract 0 (n_2 : Int).toNat)))⟩, ⟨87, [], .s (.bool (decide (i_8 < (sln (s_.extract 0 (n_2 : Int).toNat)))))⟩, ⟨88, [], .s (.bool (decide (i_8 < (sln (s_.extract 0 (n_2 : Int).toNat)))))⟩, ⟨94, [], .s (.bool ((decide (i_8 < (sln (s_.extract 0 (n_2 : Int).toNat)))) && (!r_10)))⟩, ⟨95, [], .s (.string (s_.extract 0 (n_2 : Int).toNat))⟩, ⟨96, [], .s (.int .i64 i_8)⟩, ⟨97, [], .s (.int .u8 (bt (s_.extract 0 (n_2 : Int).toNat) i_8))⟩, ⟨98, [], .s (.int .u8 (bt (s_.extract 0 (n_2 : Int).toNat) i_8))⟩, ⟨99, [], .s (.bool (decide (97 ≤ (bt (s_.extract 0 (n_2 : Int).toNat) i_8))))⟩, ⟨100, [], .s (.bool (decide (97 ≤ (bt (s_.extract 0 (n_2 : Int).toNat) i_8))))⟩, ⟨103, [], .s (.bool ((decide (97 ≤ (bt (s_.extract 0 (n_2 : Int).toNat) i_8))) && (decide ((bt (s_.extract 0 (n_2 : Int).toNat) i_8) ≤ 122))))⟩] → kont Tryd.prog [] (spinetref43_Cut_C r) ((.c spinetref43_Cut_i42) :: (.b 7) :: (.l R3) :: (.b 6) :: (.c spinetref43_Cut_i58) :: []) .normal f [⟨0, .mem, 1, [.s (.string (⟨#[]⟩ : ByteArray)), .s (.string (⟨#[]⟩ : ByteArray)), .s (.string (⟨#[]⟩ : ByteArray))]⟩, ⟨0, .mem, 1, [.s (.string m_), .s (.string m_2), .s (.string (⟨#[]⟩ : ByteArray))]⟩] := by
              intro c_2 h f hf
              unfold spinetref43_Cut_j0 at h
              refine k_c ?_
              refine k_seq ?_
              refine k_reg ?_
              refine mops_sg 4 hf (by kernel_rfl) fun f1 hf1 => ?_
              refine mops_adv rfl (v := .s (.string (bs [c_2]))) hf1 (by kernel_rfl) (e_bstr (q := [c_2]) (slc_ev (v := .ref 2 0 0 1) (by kernel_rfl) (slc_ref (g := (nI .u8)) (l := [c_2]) (kd := .grow) (q := 1) (by kernel_rfl) (live_grow (by kernel_rfl))))) fun f2 hf2 => ?_
              obtain ⟨c30, h⟩ := as_ok h
              refine mops_adv rfl (v := .s (.string (m_2 ++ (bs [c_2])))) hf2 (by kernel_rfl) (e_sadd (t := m_2) (t' := (bs [c_2])) (by kernel_rfl) (by kernel_rfl) c30) fun f3 hf3 => ?_
              refine mops_en hf3 (by kernel_rfl) fun f4 hf4 => ?_
              refine k_c ?_
              refine k_reg ?_
              refine mops_en hf4 (by kernel_rfl) fun f5 hf5 => ?_
              refine k_b ?_
              refine k_l' (vs_cut (l := [⟨0, [], .s (.string (s_.extract 0 (n_2 : Int).toNat))⟩, ⟨2, [], .ptr 0 0 0⟩, ⟨3, [], .s (.bool false)⟩, ⟨5, [], .ptr 1 0 0⟩, ⟨6, [], .s (.int .i64 (IntKind.wrap .i64 (i_8 + 1)))⟩]) 2 (by kernel_rfl) (by kernel_rfl) (L' := [⟨0, .mem, 1, [.s (.string (⟨#[]⟩ : ByteArray)), .s (.string (⟨#[]⟩ : ByteArray)), .s (.string (⟨#[]⟩ : ByteArray))]⟩, ⟨0, .mem, 1, [.s (.string m_), .s (.string (m_2 ++ (bs [c_2]))), .s (.string (⟨#[]⟩ : ByteArray))]⟩]) (by kernel_rfl) ⟨⟨rfl, rfl⟩, ⟨rfl, rfl⟩, ⟨rfl, rfl⟩, ⟨rfl, rfl⟩, ⟨rfl, rfl⟩, trivial⟩ ⟨.inr (.inr rfl), .inr (.inr rfl), trivial⟩ (FOk_of [0, 2, 3, 5, 6] hf5 (by kernel_rfl)) fun f hf => ?_)
              exact ih _ _ ⟨(m_2 ++ (bs [c_2])), (IntKind.wrap .i64 (i_8 + 1)), h, hf, rfl⟩
            refine k_cond hf8 (t := ((decide (97 ≤ (bt (s_.extract 0 (n_2 : Int).toNat) i_8))) && (decide ((bt (s_.extract 0 (n_2 : Int).toNat) i_8) ≤ 122)))) (by kernel_rfl) (fun hc29 => ?_) (fun hc29 => ?_)
            · have h := if_t h hc29
              refine k_reg ?_
              refine mops_en hf8 (by kernel_rfl) fun f9 hf9 => ?_
              refine k_hp (L' := [⟨0, .mem, 1, [.s (.string (⟨#[]⟩ : ByteArray)), .s (.string (⟨#[]⟩ : ByteArray)), .s (.string (⟨#[]⟩ : ByteArray))]⟩, ⟨0, .mem, 1, [.s (.string m_), .s (.string m_2), .s (.string (⟨#[]⟩ : ByteArray))]⟩]) (by kernel_rfl) ?_
              exact hj2 (IntKind.wrap .u8 ((bt (s_.extract 0 (n_2 : Int).toNat) i_8) - 32)) h _ (FOk_of [0, 2, 3, 5, 6, 7, 84, 85, 86, 87, 88, 94, 95, 96, 97, 98, 99, 100, 103] hf9 (by kernel_rfl))
            · have h := if_f h hc29
              refine k_skip ?_
              refine k_hp (L' := [⟨0, .mem, 1, [.s (.string (⟨#[]⟩ : ByteArray)), .s (.string (⟨#[]⟩ : ByteArray)), .s (.string (⟨#[]⟩ : ByteArray))]⟩, ⟨0, .mem, 1, [.s (.string m_), .s (.string m_2), .s (.string (⟨#[]⟩ : ByteArray))]⟩]) (by kernel_rfl) ?_
              exact hj2 (bt (s_.extract 0 (n_2 : Int).toNat) i_8) h _ (FOk_of [0, 2, 3, 5, 6, 7, 84, 85, 86, 87, 88, 94, 95, 96, 97, 98, 99, 100, 103] hf8 (by kernel_rfl))
          · have h := if_f h hc27
            refine k_exit ?_
            refine x_c nofun ?_
            refine x_l nofun ?_
            refine x_b ?_
            refine k_hp (L' := [⟨0, .mem, 1, [.s (.string (⟨#[]⟩ : ByteArray)), .s (.string (⟨#[]⟩ : ByteArray)), .s (.string (⟨#[]⟩ : ByteArray))]⟩, ⟨0, .mem, 1, [.s (.string m_), .s (.string m_2), .s (.string (⟨#[]⟩ : ByteArray))]⟩]) (by kernel_rfl) ?_
            exact hgo3 m_2 i_8 (Option.some.inj h) _ (FOk_of [0, 2, 3, 5, 6] hf4 (by kernel_rfl))
      refine k_loop BIG ?_
      refine loop_ind (fun n f L => ∃ (i_5 : Int), spinetref43_Cut_l2 s_ n_2 n i_5 = some o2 ∧ FOk f [⟨0, [], .s (.string (s_.extract 0 (n_2 : Int).toNat))⟩, ⟨2, [], .ptr 0 0 0⟩, ⟨3, [], .s (.bool false)⟩, ⟨5, [], .ptr 1 0 0⟩, ⟨6, [], .s (.int .i64 i_5)⟩] ∧ L = [⟨0, .mem, 1, [.s (.string (⟨#[]⟩ : ByteArray)), .s (.string (⟨#[]⟩ : ByteArray)), .s (.string (⟨#[]⟩ : ByteArray))]⟩, ⟨0, .mem, 1, [.s (.string m_), .s (.string (⟨#[]⟩ : ByteArray)), .s (.string (⟨#[]⟩ : ByteArray))]⟩]) ?_ ?_ BIG _ _ ⟨i_3, hx2, FOk_of [0, 2, 3, 5, 6] hf (by kernel_rfl), rfl⟩
      · rintro f L ⟨i_5, h, _⟩
        cases (show (none : Option _) = some _ from h)
      · rintro n2 R2 ih f L ⟨i_5, h, hf, rfl⟩
        rw [spinetref43_Cut_l2] at h
        refine k_seq ?_
        refine k_seq ?_
        refine k_reg ?_
        refine mops_sg 7 hf (by kernel_rfl) fun f1 hf1 => ?_
        obtain ⟨c20, h⟩ := as_ok h
        refine mops_gadv (dst := (some 79)) (op := (.ixs (.t 77) (.t 78))) (aft := [5, 6, 4]) (t := 76) (w := true) (ch := [(76, true)]) (b := (decide (i_5 < (sln (s_.extract 0 (n_2 : Int).toNat))))) (v := .s (.int .u8 (bt (s_.extract 0 (n_2 : Int).toNat) i_5))) (by kernel_rfl) hf1 (by kernel_rfl) (by kernel_rfl) (by kernel_rfl) (fun hb21 => e_ixs (t := (s_.extract 0 (n_2 : Int).toNat)) (k := .i64) (iv := i_5) (by kernel_rfl) (by kernel_rfl) (c20 hb21)) fun f2 hf2 => ?_
        obtain ⟨r_7, hx_r_7, h⟩ := Option.bind_eq_some_iff.1 h
        refine mops_gcall (dst := (some 80)) (m := 14) (args := [(.t 79)]) (aft := [7, 4, 4]) (t := 76) (w := true) (ch := [(76, true)]) (b := (decide (i_5 < (sln (s_.extract 0 (n_2 : Int).toNat))))) (by kernel_rfl) hf2 (by kernel_rfl) (by kernel_rfl) (av := [.s (.int .u8 (bt (s_.extract 0 (n_2 : Int).toNat) i_5))]) (by kernel_rfl) (v := .s (.bool r_7)) (by kernel_rfl) (fun hb22 => (CalL.pure (spinetref43_blank_ok (bt (s_.extract 0 (n_2 : Int).toNat) i_5) r_7 (if_t hx_r_7 hb22)) rfl rfl (Nat.le_of_ble_eq_true (by kernel_rfl)))) fun f3 hf3 => ?_
        refine mops_en hf3 (by kernel_rfl) fun f4 hf4 => ?_
        refine k_c ?_
        refine k_cond hf4 (t := ((decide (i_5 < (sln (s_.extract 0 (n_2 : Int).toNat)))) && r_7)) (by kernel_rfl) (fun hc23 => ?_) (fun hc23 => ?_)
        · have h := if_t h hc23
          refine k_skip ?_
          refine k_c ?_
          refine k_block ?_
          refine k_reg ?_
          refine mops_en hf4 (by kernel_rfl) fun f5 hf5 => ?_
          refine k_b ?_
          refine k_l ?_
          exact ih _ _ ⟨(IntKind.wrap .i64 (i_5 + 1)), h, FOk_of [0, 2, 3, 5, 6] hf5 (by kernel_rfl), (by kernel_rfl)⟩
        · have h := if_f h hc23
          refine k_exit ?_
          refine x_c nofun ?_
          refine x_l nofun ?_
          refine x_b ?_
          refine k_hp (L' := [⟨0, .mem, 1, [.s (.string (⟨#[]⟩ : ByteArray)), .s (.string (⟨#[]⟩ : ByteArray)), .s (.string (⟨#[]⟩ : ByteArray))]⟩, ⟨0, .mem, 1, [.s (.string m_), .s (.string (⟨#[]⟩ : ByteArray)), .s (.string (⟨#[]⟩ : ByteArray))]⟩]) (by kernel_rfl) ?_
          exact hgo2 i_5 (Option.some.inj h) _ (FOk_of [0, 2, 3, 5, 6] hf4 (by kernel_rfl))
    refine k_cond hf9 (t := ((decide (0 < (sln (s_.extract 0 (n_2 : Int).toNat)))) && (!r_))) (by kernel_rfl) (fun hc8 => ?_) (fun hc8 => ?_)
    · have h := if_t h hc8
      refine k_seq ?_
      refine k_block ?_
      obtain ⟨o1, hx1, h⟩ := Option.bind_eq_some_iff.1 h
      have hgo1 : ∀ (i_2 : Int), i_2 = o1 → ∀ f, FOk f [⟨0, [], .s (.string (s_.extract 0 (n_2 : Int).toNat))⟩, ⟨2, [], .ptr 0 0 0⟩, ⟨3, [], .s (.bool false)⟩, ⟨5, [], .ptr 1 0 0⟩, ⟨6, [], .s (.int .i64 i_2)⟩] → kont Tryd.prog [] (spinetref43_Cut_C r) ((.c spinetref43_Cut_i26) :: ((.c spinetref43_Cut_i60) :: [])) .normal f [⟨0, .mem, 1, [.s (.string (⟨#[]⟩ : ByteArray)), .s (.string (⟨#[]⟩ : ByteArray)), .s (.string (⟨#[]⟩ : ByteArray))]⟩, ⟨0, .mem, 1, [.s (.string (⟨#[]⟩ : ByteArray)), .s (.string (⟨#[]⟩ : ByteArray)), .s (.string (⟨#[]⟩ : ByteArray))]⟩] := by
        intro i_2 e f hf
        subst e
        refine k_c ?_
        refine k_seq ?_
        refine k_reg ?_
        refine mops_sg 2 hf (by kernel_rfl) fun f1 hf1 => ?_
        obtain ⟨c15, h⟩ := as_ok h
        refine mops_adv rfl (v := .s (.string ((s_.extract 0 (n_2 : Int).toNat).extract 0 (i_2 : Int).toNat))) hf1 (by kernel_rfl) (e_sstr (t := (s_.extract 0 (n_2 : Int).toNat)) (by kernel_rfl) (b_ns (k := .i64) (iv := i_2) (by kernel_rfl) c15)) fun f2 hf2 => ?_
        refine mops_en hf2 (by kernel_rfl) fun f3 hf3 => ?_
        refine k_c ?_
        refine k_seq ?_
        refine k_seq ?_
        refine k_reg ?_
        refine mops_sg 2 hf3 (by kernel_rfl) fun f4 hf4 => ?_
        obtain ⟨r_4, hx_r_4, h⟩ := Option.bind_eq_some_iff.1 h
        refine mops_call rfl hf4 (av := [.s (.string ((s_.extract 0 (n_2 : Int).toNat).extract 0 (i_2 : Int).toNat))]) (by kernel_rfl) (v := .s (.bool r_4)) (CalL.pure (spinetref41_Right_ok ((s_.extract 0 (n_2 : Int).toNat).extract 0 (i_2 : Int).toNat) r_4 hx_r_4) rfl rfl (Nat.le_of_ble_eq_true (by kernel_rfl))) (fun _ => rfl) fun f5 hf5 => ?_
        refine mops_en hf5 (by kernel_rfl) fun f6 hf6 => ?_
        refine k_c ?_
        refine k_cond hf6 (t := (!r_4)) (by kernel_rfl) (fun hc16 => ?_) (fun hc16 => ?_)
        · have h := if_t h hc16
          refine k_seq ?_
          refine k_reg ?_
          refine mops_en hf6 (by kernel_rfl) fun f7 hf7 => ?_
          refine k_c ?_
          refine k_ret ?_
          refine x_c nofun ?_
          refine x_c nofun ?_
          obtain rfl := Option.some.inj h
          exact k_fin (fin_ret (.inl rfl) hf7 (vs := [.agg [.s (.string (⟨#[]⟩ : ByteArray)), .s (.string (⟨#[]⟩ : ByteArray)), .s (.string (⟨#[]⟩ : ByteArray))], .s (.bool false)]) (by kernel_rfl) (SettL.pure (FzL.tup (FzsL.cons (FzL.stat rfl) (FzsL.cons (FzL.stat rfl) FzsL.nil)))))
        · have h := if_f h hc16
          refine k_skip ?_
          refine k_c ?_
          refine k_seq ?_
          refine k_reg ?_
          refine mops_sg 7 hf6 (by kernel_rfl) fun f7 hf7 => ?_
          obtain ⟨c17, h⟩ := as_ok h
          refine mops_gadv (dst := (some 67)) (op := (.ixs (.t 65) (.t 66))) (aft := [5, 6, 4]) (t := 64) (w := true) (ch := [(64, true)]) (b := (decide (i_2 < (sln (s_.extract 0 (n_2 : Int).toNat))))) (v := .s (.int .u8 (bt (s_.extract 0 (n_2 : Int).toNat) i_2))) (by kernel_rfl) hf7 (by kernel_rfl) (by kernel_rfl) (by kernel_rfl) (fun hb18 => e_ixs (t := (s_.extract 0 (n_2 : Int).toNat)) (k := .i64) (iv := i_2) (by kernel_rfl) (by kernel_rfl) (c17 hb18)) fun f8 hf8 => ?_
          refine mops_en hf8 (by kernel_rfl) fun f9 hf9 => ?_
          refine k_c ?_
          refine k_cond hf9 (t := ((decide (i_2 < (sln (s_.extract 0 (n_2 : Int).toNat)))) && ((bt (s_.extract 0 (n_2 : Int).toNat) i_2) == 58))) (by kernel_rfl) (fun hc19 => ?_) (fun hc19 => ?_)
          · have h := if_t h hc19
            refine k_reg ?_
            refine mops_en hf9 (by kernel_rfl) fun f10 hf10 => ?_
            refine k_hp (L' := [⟨0, .mem, 1, [.s (.string (⟨#[]⟩ : ByteArray)), .s (.string (⟨#[]⟩ : ByteArray)), .s (.string (⟨#[]⟩ : ByteArray))]⟩, ⟨0, .mem, 1, [.s (.string ((s_.extract 0 (n_2 : Int).toNat).extract 0 (i_2 : Int).toNat)), .s (.string (⟨#[]⟩ : ByteArray)), .s (.string (⟨#[]⟩ : ByteArray))]⟩]) (by kernel_rfl) ?_
            exact hj1 ((s_.extract 0 (n_2 : Int).toNat).extract 0 (i_2 : Int).toNat) (IntKind.wrap .i64 (i_2 + 1)) h _ (FOk_of [0, 2, 3, 5, 6] hf10 (by kernel_rfl))
          · have h := if_f h hc19
            refine k_skip ?_
            refine k_hp (L' := [⟨0, .mem, 1, [.s (.string (⟨#[]⟩ : ByteArray)), .s (.string (⟨#[]⟩ : ByteArray)), .s (.string (⟨#[]⟩ : ByteArray))]⟩, ⟨0, .mem, 1, [.s (.string ((s_.extract 0 (n_2 : Int).toNat).extract 0 (i_2 : Int).toNat)), .s (.string (⟨#[]⟩ : ByteArray)), .s (.string (⟨#[]⟩ : ByteArray))]⟩]) (by kernel_rfl) ?_
            exact hj1 ((s_.extract 0 (n_2 : Int).toNat).extract 0 (i_2 : Int).toNat) i_2 h _ (FOk_of [0, 2, 3, 5, 6] hf9 (by kernel_rfl))
      refine k_loop BIG ?_
      refine loop_ind (fun n f L => ∃ (i_1 : Int), spinetref43_Cut_l1 s_ n_2 n i_1 = some o1 ∧ FOk f [⟨0, [], .s (.string (s_.extract 0 (n_2 : Int).toNat))⟩, ⟨2, [], .ptr 0 0 0⟩, ⟨3, [], .s (.bool false)⟩, ⟨5, [], .ptr 1 0 0⟩, ⟨6, [], .s (.int .i64 i_1)⟩] ∧ L = [⟨0, .mem, 1, [.s (.string (⟨#[]⟩ : ByteArray)), .s (.string (⟨#[]⟩ : ByteArray)), .s (.string (⟨#[]⟩ : ByteArray))]⟩, ⟨0, .mem, 1, [.s (.string (⟨#[]⟩ : ByteArray)), .s (.string (⟨#[]⟩ : ByteArray)), .s (.string (⟨#[]⟩ : ByteArray))]⟩]) ?_ ?_ BIG _ _ ⟨(0), hx1, FOk_of [0, 2, 3, 5, 6] hf9 (by kernel_rfl), (by kernel_rfl)⟩
      · rintro f L ⟨i_1, h, _⟩
        cases (show (none : Option _) = some _ from h)
      · rintro n1 R1 ih f L ⟨i_1, h, hf, rfl⟩
        rw [spinetref43_Cut_l1] at h
        refine k_seq ?_
        refine k_seq ?_
        refine k_reg ?_
        refine mops_sg 7 hf (by kernel_rfl) fun f1 hf1 => ?_
        obtain ⟨c9, h⟩ := as_ok h
        refine mops_gadv (dst := (some 39)) (op := (.ixs (.t 37) (.t 38))) (aft := [5, 6, 4]) (t := 36) (w := true) (ch := [(36, true)]) (b := (decide (i_1 < (sln (s_.extract 0 (n_2 : Int).toNat))))) (v := .s (.int .u8 (bt (s_.extract 0 (n_2 : Int).toNat) i_1))) (by kernel_rfl) hf1 (by kernel_rfl) (by kernel_rfl) (by kernel_rfl) (fun hb10 => e_ixs (t := (s_.extract 0 (n_2 : Int).toNat)) (k := .i64) (iv := i_1) (by kernel_rfl) (by kernel_rfl) (c9 hb10)) fun f2 hf2 => ?_
        obtain ⟨r_3, hx_r_3, h⟩ := Option.bind_eq_some_iff.1 h
        refine mops_gcall (dst := (some 40)) (m := 14) (args := [(.t 39)]) (aft := [7, 4, 4]) (t := 36) (w := true) (ch := [(36, true)]) (b := (decide (i_1 < (sln (s_.extract 0 (n_2 : Int).toNat))))) (by kernel_rfl) hf2 (by kernel_rfl) (by kernel_rfl) (av := [.s (.int .u8 (bt (s_.extract 0 (n_2 : Int).toNat) i_1))]) (by kernel_rfl) (v := .s (.bool r_3)) (by kernel_rfl) (fun hb11 => (CalL.pure (spinetref43_blank_ok (bt (s_.extract 0 (n_2 : Int).toNat) i_1) r_3 (if_t hx_r_3 hb11)) rfl rfl (Nat.le_of_ble_eq_true (by kernel_rfl)))) fun f3 hf3 => ?_
        refine mops_sg 5 hf3 (by kernel_rfl) fun f4 hf4 => ?_
        obtain ⟨c12, h⟩ := as_ok h
        refine mops_gadv (dst := (some 46)) (op := (.ixs (.t 44) (.t 45))) (aft := [12, 13, 11]) (t := 43) (w := true) (ch := [(43, true)]) (b := ((decide (i_1 < (sln (s_.extract 0 (n_2 : Int).toNat)))) && (!r_3))) (v := .s (.int .u8 (bt (s_.extract 0 (n_2 : Int).toNat) i_1))) (by kernel_rfl) hf4 (by kernel_rfl) (by kernel_rfl) (by kernel_rfl) (fun hb13 => e_ixs (t := (s_.extract 0 (n_2 : Int).toNat)) (k := .i64) (iv := i_1) (by kernel_rfl) (by kernel_rfl) (c12 hb13)) fun f5 hf5 => ?_
        refine mops_en hf5 (by kernel_rfl) fun f6 hf6 => ?_
        refine k_c ?_
        refine k_cond hf6 (t := (((decide (i_1 < (sln (s_.extract 0 (n_2 : Int).toNat)))) && (!r_3)) && ((bt (s_.extract 0 (n_2 : Int).toNat) i_1) != 58))) (by kernel_rfl) (fun hc14 => ?_) (fun hc14 => ?_)
        · have h := if_t h hc14
          refine k_skip ?_
          refine k_c ?_
          refine k_block ?_
          refine k_reg ?_
          refine mops_en hf6 (by kernel_rfl) fun f7 hf7 => ?_
          refine k_b ?_
          refine k_l ?_
          exact ih _ _ ⟨(IntKind.wrap .i64 (i_1 + 1)), h, FOk_of [0, 2, 3, 5, 6] hf7 (by kernel_rfl), (by kernel_rfl)⟩
        · have h := if_f h hc14
          refine k_exit ?_
          refine x_c nofun ?_
          refine x_l nofun ?_
          refine x_b ?_
          refine k_hp (L' := [⟨0, .mem, 1, [.s (.string (⟨#[]⟩ : ByteArray)), .s (.string (⟨#[]⟩ : ByteArray)), .s (.string (⟨#[]⟩ : ByteArray))]⟩, ⟨0, .mem, 1, [.s (.string (⟨#[]⟩ : ByteArray)), .s (.string (⟨#[]⟩ : ByteArray)), .s (.string (⟨#[]⟩ : ByteArray))]⟩]) (by kernel_rfl) ?_
          exact hgo1 i_1 (Option.some.inj h) _ (FOk_of [0, 2, 3, 5, 6] hf6 (by kernel_rfl))
    · have h := if_f h hc8
      refine k_skip ?_
      refine k_hp (L' := [⟨0, .mem, 1, [.s (.string (⟨#[]⟩ : ByteArray)), .s (.string (⟨#[]⟩ : ByteArray)), .s (.string (⟨#[]⟩ : ByteArray))]⟩, ⟨0, .mem, 1, [.s (.string (⟨#[]⟩ : ByteArray)), .s (.string (⟨#[]⟩ : ByteArray)), .s (.string (⟨#[]⟩ : ByteArray))]⟩]) (by kernel_rfl) ?_
      exact hj1 (⟨#[]⟩ : ByteArray) (0) h _ (FOk_of [0, 2, 3, 5, 6] hf9 (by kernel_rfl))
  refine k_loop BIG ?_
  refine loop_ind (fun n f L => ∃ (n_1 : Int), spinetref43_Cut_l0 s_ n n_1 = some o0 ∧ FOk f [⟨0, [], .s (.string s_)⟩, ⟨2, [], .ptr 0 0 0⟩, ⟨3, [], .s (.bool false)⟩, ⟨4, [], .s (.int .i64 n_1)⟩] ∧ L = [⟨0, .mem, 1, [.s (.string (⟨#[]⟩ : ByteArray)), .s (.string (⟨#[]⟩ : ByteArray)), .s (.string (⟨#[]⟩ : ByteArray))]⟩]) ?_ ?_ BIG _ _ ⟨(0), hx0, FOk_of [0, 2, 3, 4] hf2 (by kernel_rfl), (by kernel_rfl)⟩
  · rintro f L ⟨n_1, h, _⟩
    cases (show (none : Option _) = some _ from h)
  · rintro n0 R0 ih f L ⟨n_1, h, hf, rfl⟩
    rw [spinetref43_Cut_l0] at h
    refine k_seq ?_
    refine k_seq ?_
    refine k_reg ?_
    refine mops_sg 7 hf (by kernel_rfl) fun f1 hf1 => ?_
    obtain ⟨c1, h⟩ := as_ok h
    refine mops_gadv (dst := (some 15)) (op := (.ixs (.t 13) (.t 14))) (aft := [5, 6, 4]) (t := 12) (w := true) (ch := [(12, true)]) (b := (decide (n_1 < (sln s_)))) (v := .s (.int .u8 (bt s_ n_1))) (by kernel_rfl) hf1 (by kernel_rfl) (by kernel_rfl) (by kernel_rfl) (fun hb2 => e_ixs (t := s_) (k := .i64) (iv := n_1) (by kernel_rfl) (by kernel_rfl) (c1 hb2)) fun f2 hf2 => ?_
    refine mops_en hf2 (by kernel_rfl) fun f3 hf3 => ?_
    refine k_c ?_
    refine k_cond hf3 (t := ((decide (n_1 < (sln s_))) && ((bt s_ n_1) != 59))) (by kernel_rfl) (fun hc3 => ?_) (fun hc3 => ?_)
    · have h := if_t h hc3
      refine k_skip ?_
      refine k_c ?_
      refine k_block ?_
      refine k_reg ?_
      refine mops_en hf3 (by kernel_rfl) fun f4 hf4 => ?_
      refine k_b ?_
      refine k_l ?_
      exact ih _ _ ⟨(IntKind.wrap .i64 (n_1 + 1)), h, FOk_of [0, 2, 3, 4] hf4 (by kernel_rfl), (by kernel_rfl)⟩
    · have h := if_f h hc3
      refine k_exit ?_
      refine x_c nofun ?_
      refine x_l nofun ?_
      refine x_b ?_
      refine k_hp (L' := [⟨0, .mem, 1, [.s (.string (⟨#[]⟩ : ByteArray)), .s (.string (⟨#[]⟩ : ByteArray)), .s (.string (⟨#[]⟩ : ByteArray))]⟩]) (by kernel_rfl) ?_
      exact hgo0 n_1 (Option.some.inj h) _ (FOk_of [0, 2, 3, 4] hf3 (by kernel_rfl))
end Go.Proofs.YthooddibdmigmaaDoorK
