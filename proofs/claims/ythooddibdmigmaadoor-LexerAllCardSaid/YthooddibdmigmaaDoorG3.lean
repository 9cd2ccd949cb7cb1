/- The Go functions come to the functions over typed data. Printed by a program of this work. -/
import Derived.Test.YthooddibdmigmaaDoorF
import Derived.Test.YthooddibdmigmaaDoorProg
import Derived.Test.YthooddibdmigmaaDoorG0
import Derived.Test.YthooddibdmigmaaDoorG1
import Derived.Test.YthooddibdmigmaaDoorG2
namespace Go.Proofs.YthooddibdmigmaaDoorK
set_option linter.unusedVariables false
set_option linter.unusedSimpArgs false
set_option maxHeartbeats 4000000
open Go.RowKit
attribute [local irreducible] dwv mops lops lqops lwops kont iter run runK rk okK ex E1 vals val chain chB sel resF
def lexer_Cut_i0 : List Op1 := [(oE 2 (.zero [(.string ⟨#[]⟩), (.string ⟨#[]⟩), (.string ⟨#[]⟩)]) []), (oM 3 (.k (.int .i64 0)) [])]
def lexer_Cut_i1 : List Op1 := [(oM 8 (.t 0) []), (oC 9 16 [(.t 8), (.k (.string ⟨#[59]⟩))] [0]), (oM 7 (.t 9) [1]), (oE 10 (.ext 0 (.t 7)) [2]), (oE 11 (.ext 1 (.t 7)) [2]), (oE 12 (.ext 2 (.t 7)) [2]), (oM 0 (.t 10) [3, 1, 0, 1, 2, 3])]
def lexer_Cut_i2 : List Op1 := [(oE 4 (.zero [(.string ⟨#[]⟩), (.string ⟨#[]⟩), (.string ⟨#[]⟩)]) [])]
def lexer_Cut_i3 : List Op1 := [(oM 13 (.t 0) []), (oE 14 (.bin .neq (.t 13) (.k (.string ⟨#[]⟩))) [0]), (oM 15 (.t 14) [1]), (oG 16 (.mv (.t 0)) 15 true [2]), (oG 17 (.ixs (.t 16) (.k (.int .i64 0))) 15 true [3, 2]), ⟨(some 18), (.call 17 [(.t 17)]), (some (15, true)), [4, 2, 2]⟩, (oG 19 (.un .not (.t 18)) 15 true [5, 2]), (oE 20 (.pick (.t 15) (.t 19) (.k (.bool false))) [2, 6])]
def lexer_Cut_i4 : List Op1 := [(oM 22 (.t 0) []), (oC 23 18 [(.t 22)] [0]), (oM 21 (.t 23) [1]), (oE 24 (.ext 0 (.t 21)) [2]), (oE 25 (.ext 1 (.t 21)) [2]), (oE 26 (.fld 0 (.t 4)) [0, 1, 2, 3]), (oN (.store 1 (.t 26) (.t 24)) [5, 3, 1, 0, 1, 2, 3]), (oM 0 (.t 25) [4, 6, 0, 1, 2, 3, 4, 5, 6])]
def lexer_Cut_i5 : List Op1 := [(oE 27 (.fld 0 (.t 4)) []), (oE 28 (.load false 1 (.t 27)) [0]), (oC 29 19 [(.t 28)] [1]), (oE 30 (.un .not (.t 29)) [2])]
def lexer_Cut_i6 : List Op1 := [(oE 31 (.build [(.string ⟨#[]⟩), (.string ⟨#[]⟩), (.string ⟨#[]⟩)] []) []), (oN (.store 3 (.t 2) (.t 31)) [0, 0]), (oM 3 (.k (.int .i64 40)) [1, 0, 1])]
def lexer_Cut_i7 : IR := .ret
def lexer_Cut_i8 : IR := (.cond (.t 30) (.seq (.reg false lexer_Cut_i6) lexer_Cut_i7) .skip)
def lexer_Cut_i9 : IR := (.seq (.reg false lexer_Cut_i5) lexer_Cut_i8)
def lexer_Cut_i10 : IR := (.cond (.t 20) (.seq (.reg false lexer_Cut_i4) lexer_Cut_i9) .skip)
def lexer_Cut_i11 : List Op1 := [(oM 33 (.t 0) []), (oC 34 21 [(.t 33)] [0]), (oC 35 20 [(.t 34)] [1, 1]), (oM 32 (.t 35) [2]), (oE 36 (.ext 0 (.t 32)) [3]), (oE 37 (.ext 1 (.t 32)) [3]), (oM 5 (.t 36) [4, 2, 0, 1, 2, 3, 4]), (oM 6 (.t 37) [5, 6, 0, 1, 2, 3, 4, 5, 6])]
def lexer_Cut_i12 : List Op1 := [(oM 38 (.t 5) []), (oC 39 22 [(.t 38)] [0]), (oM 40 (.t 6) []), (oC 41 23 [(.t 40)] [2, 1]), (oE 42 (.fld 1 (.t 4)) [0, 1]), (oN (.store 1 (.t 42) (.t 39)) [4, 1, 3, 0, 1]), (oE 43 (.fld 2 (.t 4)) [0, 1, 2, 3, 4, 5]), (oN (.store 1 (.t 43) (.t 41)) [6, 3, 5, 0, 1, 2, 3, 4, 5])]
def lexer_Cut_i13 : List Op1 := [(oE 44 (.load true 3 (.t 4)) []), (oN (.store 3 (.t 2) (.t 44)) [0, 0]), (oM 3 (.k (.int .i64 0)) [1, 0, 1])]
def lexer_Cut_i14 : IR := .ret
def lexer_Cut_i15 : IR := (.seq (.reg false lexer_Cut_i13) lexer_Cut_i14)
def lexer_Cut_i16 : IR := (.seq (.reg false lexer_Cut_i12) lexer_Cut_i15)
def lexer_Cut_i17 : IR := (.seq (.reg false lexer_Cut_i11) lexer_Cut_i16)
def lexer_Cut_i18 : IR := (.seq (.seq (.reg false lexer_Cut_i3) lexer_Cut_i10) lexer_Cut_i17)
def lexer_Cut_i19 : IR := (.seq (.reg false lexer_Cut_i2) lexer_Cut_i18)
def lexer_Cut_i20 : IR := (.seq (.reg false lexer_Cut_i1) lexer_Cut_i19)
def lexer_Cut_ir : IR := (.seq (.reg false lexer_Cut_i0) lexer_Cut_i20)
theorem lexer_Cut_cfn : cFn Tryd.prog 9 = some (lexer_Cut_ir, [(.c 2 true 3), (.t 3)], 45) := by kernel_rfl
def lexer_Cut_V (r : (lexer_Line × Int)) : V := .tup [.agg [.s (.string r.1.Label), .s (.string r.1.Op), .s (.string r.1.Arg)], .s (.int .i64 r.2)]
def lexer_Cut_C (r : (lexer_Line × Int)) : X → Fr → Hp → Prop := FinL [(.c 2 true 3), (.t 3)] [] (lexer_Cut_V r) []
theorem lexer_Cut_ok (s_ : ByteArray) (r : (lexer_Line × Int)) (h : lexer_Cut s_ = some r) : Pure Tryd.prog 9 [.s (.string s_)] (lexer_Cut_V r) := by
  refine ConL.of lexer_Cut_cfn (Nat.le_of_ble_eq_true (by kernel_rfl)) (Nat.le_of_ble_eq_true (by kernel_rfl)) ?_
  refine k_start ?_
  show dwv Tryd.prog [] lexer_Cut_ir (kont Tryd.prog [] (lexer_Cut_C r) []) (fr0 [.s (.string s_)]) []
  have hf : FOk (fr0 [.s (.string s_)]) [⟨0, [], .s (.string s_)⟩] := ⟨⟨fun _ => rfl, fun h => (h trivial).elim⟩, trivial⟩
  generalize fr0 [.s (.string s_)] = f at hf ⊢
  unfold lexer_Cut at h
  refine k_seq ?_
  refine k_reg ?_
  refine mops_en hf (by kernel_rfl) fun f1 hf1 => ?_
  refine k_c ?_
  refine k_seq ?_
  refine k_reg ?_
  refine mops_sg 1 hf1 (by kernel_rfl) fun f2 hf2 => ?_
  obtain ⟨r_, hx_r_, h⟩ := Option.bind_eq_some_iff.1 h
  refine mops_call rfl hf2 (av := [.s (.string s_), .s (.string (⟨#[59]⟩ : ByteArray))]) (by kernel_rfl) (v := .tup [.s (.string r_.1), .s (.string r_.2.1), .s (.bool r_.2.2)]) (CalL.pure (strings_Cut_ok s_ (⟨#[59]⟩ : ByteArray) r_ hx_r_) rfl rfl (Nat.le_of_ble_eq_true (by kernel_rfl))) (fun _ => rfl) fun f3 hf3 => ?_
  refine mops_en hf3 (by kernel_rfl) fun f4 hf4 => ?_
  refine k_c ?_
  refine k_seq ?_
  refine k_reg ?_
  refine mops_en hf4 (by kernel_rfl) fun f5 hf5 => ?_
  refine k_c ?_
  refine k_seq ?_
  refine k_seq ?_
  refine k_reg ?_
  refine mops_sg 4 hf5 (by kernel_rfl) fun f6 hf6 => ?_
  obtain ⟨c1, h⟩ := as_ok h
  refine mops_gadv (dst := (some 17)) (op := (.ixs (.t 16) (.k (.int .i64 0)))) (aft := [3, 2]) (t := 15) (w := true) (ch := [(15, true)]) (b := (!(r_.1.toList == (⟨#[]⟩ : ByteArray).toList))) (v := .s (.int .u8 (bt r_.1 (0)))) (by kernel_rfl) hf6 (by kernel_rfl) (by kernel_rfl) (by kernel_rfl) (fun hb2 => e_ixs (t := r_.1) (k := .i64) (iv := 0) (by kernel_rfl) (by kernel_rfl) (c1 hb2)) fun f7 hf7 => ?_
  obtain ⟨r_1, hx_r_1, h⟩ := Option.bind_eq_some_iff.1 h
  refine mops_gcall (dst := (some 18)) (m := 17) (args := [(.t 17)]) (aft := [4, 2, 2]) (t := 15) (w := true) (ch := [(15, true)]) (b := (!(r_.1.toList == (⟨#[]⟩ : ByteArray).toList))) (by kernel_rfl) hf7 (by kernel_rfl) (by kernel_rfl) (av := [.s (.int .u8 (bt r_.1 (0)))]) (by kernel_rfl) (v := .s (.bool r_1)) (by kernel_rfl) (fun hb3 => (CalL.pure (lexer_blank_ok (bt r_.1 (0)) r_1 (if_t hx_r_1 hb3)) rfl rfl (Nat.le_of_ble_eq_true (by kernel_rfl)))) fun f8 hf8 => ?_
  refine mops_en hf8 (by kernel_rfl) fun f9 hf9 => ?_
  refine k_c ?_
  have hj1 : ∀ (m_ : ByteArray) (t_ : ByteArray), lexer_Cut_j0 m_ t_ = some r → ∀ f, FOk f [⟨0, [], .s (.string t_)⟩, ⟨2, [], .ptr 0 0 0⟩, ⟨3, [], .s (.int .i64 0)⟩, ⟨4, [], .ptr 1 0 0⟩] → kont Tryd.prog [] (lexer_Cut_C r) ((.c lexer_Cut_i17) :: []) .normal f [⟨0, .mem, 1, [.s (.string (⟨#[]⟩ : ByteArray)), .s (.string (⟨#[]⟩ : ByteArray)), .s (.string (⟨#[]⟩ : ByteArray))]⟩, ⟨0, .mem, 1, [.s (.string m_), .s (.string (⟨#[]⟩ : ByteArray)), .s (.string (⟨#[]⟩ : ByteArray))]⟩] := by
    intro m_ t_ h f hf
    unfold lexer_Cut_j0 at h
    refine k_c ?_
    refine k_seq ?_
    refine k_reg ?_
    refine mops_sg 1 hf (by kernel_rfl) fun f1 hf1 => ?_
    obtain ⟨r_4, hx_r_4, h⟩ := Option.bind_eq_some_iff.1 h
    refine mops_call rfl hf1 (av := [.s (.string t_)]) (by kernel_rfl) (v := .s (.string r_4)) (CalL.pure (lexer_skip_ok t_ r_4 hx_r_4) rfl rfl (Nat.le_of_ble_eq_true (by kernel_rfl))) (fun _ => rfl) fun f2 hf2 => ?_
    obtain ⟨r_5, hx_r_5, h⟩ := Option.bind_eq_some_iff.1 h
    refine mops_call rfl hf2 (av := [.s (.string r_4)]) (by kernel_rfl) (v := .tup [.s (.string r_5.1), .s (.string r_5.2)]) (CalL.pure (lexer_word_ok r_4 r_5 hx_r_5) rfl rfl (Nat.le_of_ble_eq_true (by kernel_rfl))) (fun _ => rfl) fun f3 hf3 => ?_
    refine mops_en hf3 (by kernel_rfl) fun f4 hf4 => ?_
    refine k_c ?_
    refine k_seq ?_
    refine k_reg ?_
    refine mops_sg 1 hf4 (by kernel_rfl) fun f5 hf5 => ?_
    obtain ⟨r_6, hx_r_6, h⟩ := Option.bind_eq_some_iff.1 h
    refine mops_call rfl hf5 (av := [.s (.string r_5.1)]) (by kernel_rfl) (v := .s (.string r_6)) (CalL.pure (lexer_capital_ok r_5.1 r_6 hx_r_6) rfl rfl (Nat.le_of_ble_eq_true (by kernel_rfl))) (fun _ => rfl) fun f6 hf6 => ?_
    refine mops_sg 1 hf6 (by kernel_rfl) fun f7 hf7 => ?_
    obtain ⟨r_7, hx_r_7, h⟩ := Option.bind_eq_some_iff.1 h
    refine mops_call rfl hf7 (av := [.s (.string r_5.2)]) (by kernel_rfl) (v := .s (.string r_7)) (CalL.pure (lexer_tight_ok r_5.2 r_7 hx_r_7) rfl rfl (Nat.le_of_ble_eq_true (by kernel_rfl))) (fun _ => rfl) fun f8 hf8 => ?_
    refine mops_en hf8 (by kernel_rfl) fun f9 hf9 => ?_
    refine k_c ?_
    refine k_seq ?_
    refine k_reg ?_
    refine mops_en hf9 (by kernel_rfl) fun f10 hf10 => ?_
    refine k_c ?_
    refine k_ret ?_
    obtain rfl := Option.some.inj h
    exact k_fin (fin_ret (.inl rfl) hf10 (vs := [.agg [.s (.string m_), .s (.string r_6), .s (.string r_7)], .s (.int .i64 0)]) (by kernel_rfl) (SettL.pure (FzL.tup (FzsL.cons (FzL.stat rfl) (FzsL.cons (FzL.stat rfl) FzsL.nil)))))
  refine k_cond hf9 (t := ((!(r_.1.toList == (⟨#[]⟩ : ByteArray).toList)) && (!r_1))) (by kernel_rfl) (fun hc4 => ?_) (fun hc4 => ?_)
  · have h := if_t h hc4
    refine k_seq ?_
    refine k_reg ?_
    refine mops_sg 1 hf9 (by kernel_rfl) fun f10 hf10 => ?_
    obtain ⟨r_2, hx_r_2, h⟩ := Option.bind_eq_some_iff.1 h
    refine mops_call rfl hf10 (av := [.s (.string r_.1)]) (by kernel_rfl) (v := .tup [.s (.string r_2.1), .s (.string r_2.2)]) (CalL.pure (lexer_label_ok r_.1 r_2 hx_r_2) rfl rfl (Nat.le_of_ble_eq_true (by kernel_rfl))) (fun _ => rfl) fun f11 hf11 => ?_
    refine mops_en hf11 (by kernel_rfl) fun f12 hf12 => ?_
    refine k_c ?_
    refine k_seq ?_
    refine k_reg ?_
    refine mops_sg 2 hf12 (by kernel_rfl) fun f13 hf13 => ?_
    obtain ⟨r_3, hx_r_3, h⟩ := Option.bind_eq_some_iff.1 h
    refine mops_call rfl hf13 (av := [.s (.string r_2.1)]) (by kernel_rfl) (v := .s (.bool r_3)) (CalL.pure (symbols_Right_ok r_2.1 r_3 hx_r_3) rfl rfl (Nat.le_of_ble_eq_true (by kernel_rfl))) (fun _ => rfl) fun f14 hf14 => ?_
    refine mops_en hf14 (by kernel_rfl) fun f15 hf15 => ?_
    refine k_c ?_
    refine k_cond hf15 (t := (!r_3)) (by kernel_rfl) (fun hc5 => ?_) (fun hc5 => ?_)
    · have h := if_t h hc5
      refine k_seq ?_
      refine k_reg ?_
      refine mops_end [0, 2, 3, 4] hf15 (l' := [⟨0, [], .s (.string r_2.2)⟩, ⟨2, [], .ptr 0 0 0⟩, ⟨3, [], .s (.int .i64 40)⟩, ⟨4, [], .ptr 1 0 0⟩]) (L' := [⟨0, .mem, 1, [.s (.string (⟨#[]⟩ : ByteArray)), .s (.string (⟨#[]⟩ : ByteArray)), .s (.string (⟨#[]⟩ : ByteArray))]⟩, ⟨0, .mem, 1, [.s (.string r_2.1), .s (.string (⟨#[]⟩ : ByteArray)), .s (.string (⟨#[]⟩ : ByteArray))]⟩]) (by kernel_rfl) fun f16 hf16 => ?_
      refine k_c ?_
      refine k_ret ?_
      refine x_c nofun ?_
      obtain rfl := Option.some.inj h
      exact k_fin (fin_ret (.inl rfl) hf16 (vs := [.agg [.s (.string (⟨#[]⟩ : ByteArray)), .s (.string (⟨#[]⟩ : ByteArray)), .s (.string (⟨#[]⟩ : ByteArray))], .s (.int .i64 40)]) (by kernel_rfl) (SettL.pure (FzL.tup (FzsL.cons (FzL.stat rfl) (FzsL.cons (FzL.stat rfl) FzsL.nil)))))
    · have h := if_f h hc5
      refine k_skip ?_
      refine k_hp (L' := [⟨0, .mem, 1, [.s (.string (⟨#[]⟩ : ByteArray)), .s (.string (⟨#[]⟩ : ByteArray)), .s (.string (⟨#[]⟩ : ByteArray))]⟩, ⟨0, .mem, 1, [.s (.string r_2.1), .s (.string (⟨#[]⟩ : ByteArray)), .s (.string (⟨#[]⟩ : ByteArray))]⟩]) (by kernel_rfl) ?_
      exact hj1 r_2.1 r_2.2 h _ (FOk_of [0, 2, 3, 4] hf15 (by kernel_rfl))
  · have h := if_f h hc4
    refine k_skip ?_
    refine k_hp (L' := [⟨0, .mem, 1, [.s (.string (⟨#[]⟩ : ByteArray)), .s (.string (⟨#[]⟩ : ByteArray)), .s (.string (⟨#[]⟩ : ByteArray))]⟩, ⟨0, .mem, 1, [.s (.string (⟨#[]⟩ : ByteArray)), .s (.string (⟨#[]⟩ : ByteArray)), .s (.string (⟨#[]⟩ : ByteArray))]⟩]) (by kernel_rfl) ?_
    exact hj1 (⟨#[]⟩ : ByteArray) r_.1 h _ (FOk_of [0, 2, 3, 4] hf9 (by kernel_rfl))
def lexer_Fields_i0 : List Op1 := [(oE 2 (.nilg 1) [])]
def lexer_Fields_i1 : List Op1 := [(oM 3 (.t 0) []), (oE 4 (.bin .eql (.t 3) (.k (.string ⟨#[]⟩))) [0])]
def lexer_Fields_i2 : List Op1 := [(oE 2 (.nilg 1) [])]
def lexer_Fields_i3 : IR := .ret
def lexer_Fields_i4 : IR := (.cond (.t 4) (.seq (.reg false lexer_Fields_i2) lexer_Fields_i3) .skip)
def lexer_Fields_i5 : List Op1 := [(oM 5 (.t 0) []), (oC 6 13 [(.t 5), (.k (.string ⟨#[44]⟩))] [0]), (oM 2 (.t 6) [1, 1, 0, 1])]
def lexer_Fields_i6 : IR := .ret
def lexer_Fields_i7 : IR := (.seq (.reg false lexer_Fields_i5) lexer_Fields_i6)
def lexer_Fields_i8 : IR := (.seq (.seq (.reg false lexer_Fields_i1) lexer_Fields_i4) lexer_Fields_i7)
def lexer_Fields_ir : IR := (.seq (.reg false lexer_Fields_i0) lexer_Fields_i8)
theorem lexer_Fields_cfn : cFn Tryd.prog 11 = some (lexer_Fields_ir, [(.t 2)], 7) := by kernel_rfl
def lexer_Fields_V (r : ((List ByteArray))) : V := .sl false r.length (cat nS r)
def lexer_Fields_C (r : ((List ByteArray))) : X → Fr → Hp → Prop := FinL [(.t 2)] [] (lexer_Fields_V r) []
theorem lexer_Fields_ok (s_ : ByteArray) (r : ((List ByteArray))) (h : lexer_Fields s_ = some r) : Pure Tryd.prog 11 [.s (.string s_)] (lexer_Fields_V r) := by
  refine ConL.of lexer_Fields_cfn (Nat.le_of_ble_eq_true (by kernel_rfl)) (Nat.le_of_ble_eq_true (by kernel_rfl)) ?_
  refine k_start ?_
  show dwv Tryd.prog [] lexer_Fields_ir (kont Tryd.prog [] (lexer_Fields_C r) []) (fr0 [.s (.string s_)]) []
  have hf : FOk (fr0 [.s (.string s_)]) [⟨0, [], .s (.string s_)⟩] := ⟨⟨fun _ => rfl, fun h => (h trivial).elim⟩, trivial⟩
  generalize fr0 [.s (.string s_)] = f at hf ⊢
  unfold lexer_Fields at h
  refine k_seq ?_
  refine k_reg ?_
  refine mops_en hf (by kernel_rfl) fun f1 hf1 => ?_
  refine k_c ?_
  refine k_seq ?_
  refine k_seq ?_
  refine k_reg ?_
  refine mops_en hf1 (by kernel_rfl) fun f2 hf2 => ?_
  refine k_c ?_
  refine k_cond hf2 (t := (s_.toList == (⟨#[]⟩ : ByteArray).toList)) (by kernel_rfl) (fun hc1 => ?_) (fun hc1 => ?_)
  · have h := if_t h hc1
    refine k_seq ?_
    refine k_reg ?_
    refine mops_en hf2 (by kernel_rfl) fun f3 hf3 => ?_
    refine k_c ?_
    refine k_ret ?_
    refine x_c nofun ?_
    obtain rfl := Option.some.inj h
    exact k_fin (fin_ret (.inl rfl) hf3 (vs := [.ref 1 0 0 0]) (by kernel_rfl) (SettL.pure (FzL.whole (g := nS) (kd := .grow) (l := ([] : List ByteArray)) (by kernel_rfl) rfl (live_grow (by kernel_rfl)))))
  · have h := if_f h hc1
    refine k_skip ?_
    refine k_c ?_
    refine k_seq ?_
    refine k_reg ?_
    refine mops_sg 1 hf2 (by kernel_rfl) fun f3 hf3 => ?_
    obtain ⟨r_, hx_r_, h⟩ := Option.bind_eq_some_iff.1 h
    refine mops_call rfl hf3 (av := [.s (.string s_), .s (.string (⟨#[44]⟩ : ByteArray))]) (by kernel_rfl) (v := .sl false r_.length (cat nS r_)) (CalL.pure (strings_Split_ok s_ (⟨#[44]⟩ : ByteArray) r_ hx_r_) rfl (by simp [V.static, statics, cat_stat, strings_Split_V]) (Nat.le_of_ble_eq_true (by kernel_rfl))) (fun _ => rfl) fun f4 hf4 => ?_
    refine mops_en hf4 (by kernel_rfl) fun f5 hf5 => ?_
    refine k_c ?_
    refine k_ret ?_
    obtain rfl := Option.some.inj h
    exact k_fin (fin_ret (.inl rfl) hf5 (vs := [.sl false r_.length (cat nS r_)]) (by kernel_rfl) (SettL.pure (FzL.slf (g := nS))))
def lexer_All_i0 : List Op1 := [(oE 2 (.nilg 3) []), (oM 3 (.k (.int .i64 0)) [0]), (oM 4 (.k (.int .i64 0)) [1])]
def lexer_All_i1 : List Op1 := [(oE 5 (.nilg 3) [])]
def lexer_All_i2 : List Op1 := [(oM 10 (.t 0) []), (oC 11 13 [(.t 10), (.k (.string ⟨#[10]⟩))] [0]), (oE 12 (.len (.t 11)) [1]), (oM 13 (.k (.int .i64 0)) [])]
def lexer_All_i3 : List Op1 := [(oE 14 (.bin .lss (.t 13) (.t 12)) [])]
def lexer_All_i4 : List Op1 := [(oM 15 (.t 13) []), (oE 16 (.ias 1 (.t 11) (.t 13)) []), (oE 17 (.load false 1 (.t 16)) [1]), (oM 6 (.t 15) [0, 0, 1, 2]), (oM 7 (.t 17) [2, 3, 0, 1, 2, 3])]
def lexer_All_i5 : List Op1 := [(oM 19 (.t 7) []), (oC 20 9 [(.t 19)] [0]), (oM 18 (.t 20) [1]), (oE 21 (.ext 0 (.t 18)) [2]), (oE 22 (.ext 1 (.t 18)) [2]), (oE 8 (.zero [(.string ⟨#[]⟩), (.string ⟨#[]⟩), (.string ⟨#[]⟩)]) []), (oN (.store 3 (.t 8) (.t 21)) [5, 3, 1, 0, 1, 2, 3, 5]), (oM 9 (.t 22) [4, 6, 0, 1, 2, 3, 4, 5, 6])]
def lexer_All_i6 : List Op1 := [(oM 23 (.t 9) []), (oE 24 (.bin .neq (.t 23) (.k (.int .i64 0))) [0])]
def lexer_All_i7 : List Op1 := [(oM 25 (.t 6) []), (oE 26 (.bin .add (.t 25) (.k (.int .i64 1))) [0]), (oM 27 (.t 9) []), (oE 2 (.nilg 3) []), (oM 3 (.t 26) [1, 3, 0, 1, 3]), (oM 4 (.t 27) [2, 4, 0, 1, 2, 3, 4])]
def lexer_All_i8 : IR := .ret
def lexer_All_i9 : IR := (.cond (.t 24) (.seq (.reg false lexer_All_i7) lexer_All_i8) .skip)
def lexer_All_i10 : List Op1 := [(oM 28 (.t 5) []), (oE 29 (.load true 3 (.t 8)) []), (oE 30 (.bslo 3 1 [(.string ⟨#[]⟩), (.string ⟨#[]⟩), (.string ⟨#[]⟩)] [(0, (3, (.t 29)))]) [1]), (oE 31 (.app 33 3 48 (.t 28) (.t 30)) [0, 2]), (oM 5 (.t 31) [3, 3, 0, 1, 2, 3])]
def lexer_All_i11 : IR := (.reg false lexer_All_i10)
def lexer_All_i12 : IR := (.seq (.seq (.reg false lexer_All_i6) lexer_All_i9) lexer_All_i11)
def lexer_All_i13 : IR := (.seq (.reg false lexer_All_i5) lexer_All_i12)
def lexer_All_i14 : List Op1 := [(oE 32 (.bin .add (.t 13) (.k (.int .i64 1))) []), (oM 13 (.t 32) [0])]
def lexer_All_i15 : IR := (.reg false lexer_All_i14)
def lexer_All_i16 : IR := (.seq (.block 1 (.seq (.reg false lexer_All_i4) lexer_All_i13)) lexer_All_i15)
def lexer_All_i17 : IR := (.seq (.cond (.t 14) .skip (.exit 0)) lexer_All_i16)
def lexer_All_i18 : IR := (.seq (.reg false lexer_All_i3) lexer_All_i17)
def lexer_All_i19 : IR := (.block 0 (.loop lexer_All_i18))
def lexer_All_i20 : List Op1 := [(oM 33 (.t 5) []), (oM 2 (.t 33) [0, 0]), (oM 3 (.k (.int .i64 0)) [1, 0, 1]), (oM 4 (.k (.int .i64 0)) [2, 0, 1, 2])]
def lexer_All_i21 : IR := .ret
def lexer_All_i22 : IR := (.seq (.reg false lexer_All_i20) lexer_All_i21)
def lexer_All_i23 : IR := (.seq (.seq (.reg false lexer_All_i2) lexer_All_i19) lexer_All_i22)
def lexer_All_i24 : IR := (.seq (.reg false lexer_All_i1) lexer_All_i23)
def lexer_All_ir : IR := (.seq (.reg false lexer_All_i0) lexer_All_i24)
theorem lexer_All_cfn : cFn Tryd.prog 5 = some (lexer_All_ir, [(.t 2), (.t 3), (.t 4)], 34) := by kernel_rfl
def lexer_All_V (r : ((List lexer_Line) × Int × Int)) : V := .tup [.sl false r.1.length (cat lexer_Line.v r.1), .s (.int .i64 r.2.1), .s (.int .i64 r.2.2)]
def lexer_All_C (r : ((List lexer_Line) × Int × Int)) : X → Fr → Hp → Prop := FinL [(.t 2), (.t 3), (.t 4)] [] (lexer_All_V r) []
theorem lexer_All_ok (s_ : ByteArray) (r : ((List lexer_Line) × Int × Int)) (h : lexer_All s_ = some r) : Pure Tryd.prog 5 [.s (.string s_)] (lexer_All_V r) := by
  refine ConL.of lexer_All_cfn (Nat.le_of_ble_eq_true (by kernel_rfl)) (Nat.le_of_ble_eq_true (by kernel_rfl)) ?_
  refine k_start ?_
  show dwv Tryd.prog [] lexer_All_ir (kont Tryd.prog [] (lexer_All_C r) []) (fr0 [.s (.string s_)]) []
  have hf : FOk (fr0 [.s (.string s_)]) [⟨0, [], .s (.string s_)⟩] := ⟨⟨fun _ => rfl, fun h => (h trivial).elim⟩, trivial⟩
  generalize fr0 [.s (.string s_)] = f at hf ⊢
  unfold lexer_All at h
  refine k_seq ?_
  refine k_reg ?_
  refine mops_en hf (by kernel_rfl) fun f1 hf1 => ?_
  refine k_c ?_
  refine k_seq ?_
  refine k_reg ?_
  refine mops_en hf1 (by kernel_rfl) fun f2 hf2 => ?_
  refine k_c ?_
  refine k_seq ?_
  refine k_seq ?_
  refine k_reg ?_
  refine mops_sg 1 hf2 (by kernel_rfl) fun f3 hf3 => ?_
  obtain ⟨r_, hx_r_, h⟩ := Option.bind_eq_some_iff.1 h
  refine mops_call rfl hf3 (av := [.s (.string s_), .s (.string (⟨#[10]⟩ : ByteArray))]) (by kernel_rfl) (v := .sl false r_.length (cat nS r_)) (CalL.pure (strings_Split_ok s_ (⟨#[10]⟩ : ByteArray) r_ hx_r_) rfl (by simp [V.static, statics, cat_stat, strings_Split_V]) (Nat.le_of_ble_eq_true (by kernel_rfl))) (fun _ => rfl) fun f4 hf4 => ?_
  refine mops_en hf4 (by kernel_rfl) fun f5 hf5 => ?_
  refine k_c ?_
  refine k_block ?_
  obtain ⟨o0, hx0, h⟩ := Option.bind_eq_some_iff.1 h
  have hret0 : ∀ r0, .ret r0 = o0 → r0 = r := fun r0 e => by subst e; exact Option.some.inj h
  have hgo0 : ∀ (l_2 : (List lexer_Line)) (v_2 : Nat), .go l_2 = o0 → ∀ f, FOk f [⟨2, [], .ref 0 0 0 0⟩, ⟨3, [], .s (.int .i64 0)⟩, ⟨4, [], .s (.int .i64 0)⟩, ⟨5, [], .ref 1 v_2 0 l_2.length⟩] → kont Tryd.prog [] (lexer_All_C r) ((.c lexer_All_i22) :: []) .normal f [⟨0, .grow, 3, cat lexer_Line.v ([] : List lexer_Line)⟩, ⟨v_2, .grow, 3, cat lexer_Line.v l_2⟩] := by
    intro l_2 v_2 e f hf
    subst e
    refine k_c ?_
    refine k_seq ?_
    refine k_reg ?_
    refine mops_en hf (by kernel_rfl) fun f1 hf1 => ?_
    refine k_c ?_
    refine k_ret ?_
    obtain rfl := Option.some.inj h
    exact k_fin (fin_ret (.inl rfl) hf1 (vs := [.ref 1 v_2 0 l_2.length, .s (.int .i64 0), .s (.int .i64 0)]) (by kernel_rfl) (SettL.pure (FzL.tup (FzsL.cons (FzL.whole (g := lexer_Line.v) (kd := .grow) (l := l_2) (by kernel_rfl) rfl (live_grow (by kernel_rfl))) (FzsL.cons (FzL.stat rfl) (FzsL.cons (FzL.stat rfl) FzsL.nil))))))
  refine k_loop BIG ?_
  refine loop_ind (fun n f L => ∃ (l_1 : (List lexer_Line)) (t_1 : Int) (v_1 : Nat), lexer_All_l0 r_ n l_1 t_1 = some o0 ∧ FOk f [⟨2, [], .ref 0 0 0 0⟩, ⟨3, [], .s (.int .i64 0)⟩, ⟨4, [], .s (.int .i64 0)⟩, ⟨5, [], .ref 1 v_1 0 l_1.length⟩, ⟨11, [], .sl false r_.length (cat nS r_)⟩, ⟨12, [], .s (.int .i64 (ln r_))⟩, ⟨13, [], .s (.int .i64 t_1)⟩] ∧ L = [⟨0, .grow, 3, cat lexer_Line.v ([] : List lexer_Line)⟩, ⟨v_1, .grow, 3, cat lexer_Line.v l_1⟩]) ?_ ?_ BIG _ _ ⟨([] : List lexer_Line), (0), (0), hx0, FOk_of [2, 3, 4, 5, 11, 12, 13] hf5 (by kernel_rfl), (by kernel_rfl)⟩
  · rintro f L ⟨l_1, t_1, v_1, h, _⟩
    cases (show (none : Option _) = some _ from h)
  · rintro n0 R0 ih f L ⟨l_1, t_1, v_1, h, hf, rfl⟩
    rw [lexer_All_l0] at h
    refine k_seq ?_
    refine k_reg ?_
    refine mops_en hf (by kernel_rfl) fun f1 hf1 => ?_
    refine k_c ?_
    refine k_seq ?_
    refine k_cond hf1 (t := (decide (t_1 < (ln r_)))) (by kernel_rfl) (fun hc1 => ?_) (fun hc1 => ?_)
    · have h := if_t h hc1
      refine k_skip ?_
      refine k_c ?_
      refine k_seq ?_
      refine k_block ?_
      refine k_seq ?_
      refine k_reg ?_
      refine mops_sg 1 hf1 (by kernel_rfl) fun f2 hf2 => ?_
      obtain ⟨c2, h⟩ := as_ok h
      refine mops_adv rfl (v := .ip ((cat nS r_).drop ((t_1 : Int).toNat * 1))) hf2 (by kernel_rfl) (e_ias (n := r_.length) (xv := .sl false r_.length (cat nS r_)) (k := .i64) (iv := t_1) (p := .ip ((cat nS r_).drop ((t_1 : Int).toNat * 1))) (by kernel_rfl) (by kernel_rfl) (by kernel_rfl) (by kernel_rfl) c2) fun f3 hf3 => ?_
      refine mops_adv rfl (v := .s (.string (gt r_ t_1))) hf3 (by kernel_rfl) (e_load_ip (g := nS) (l := r_) (iv := t_1) [] (by kernel_rfl) c2 (by kernel_rfl) (by kernel_rfl)) fun f4 hf4 => ?_
      refine mops_en hf4 (by kernel_rfl) fun f5 hf5 => ?_
      refine k_c ?_
      refine k_seq ?_
      refine k_reg ?_
      refine mops_sg 1 hf5 (by kernel_rfl) fun f6 hf6 => ?_
      obtain ⟨r_3, hx_r_3, h⟩ := Option.bind_eq_some_iff.1 h
      refine mops_call rfl hf6 (av := [.s (.string (gt r_ t_1))]) (by kernel_rfl) (v := .tup [.agg [.s (.string r_3.1.Label), .s (.string r_3.1.Op), .s (.string r_3.1.Arg)], .s (.int .i64 r_3.2)]) (CalL.pure (lexer_Cut_ok (gt r_ t_1) r_3 hx_r_3) rfl rfl (Nat.le_of_ble_eq_true (by kernel_rfl))) (fun _ => rfl) fun f7 hf7 => ?_
      refine mops_en hf7 (by kernel_rfl) fun f8 hf8 => ?_
      refine k_c ?_
      refine k_seq ?_
      refine k_seq ?_
      refine k_reg ?_
      refine mops_en hf8 (by kernel_rfl) fun f9 hf9 => ?_
      refine k_c ?_
      refine k_cond hf9 (t := (r_3.2 != 0)) (by kernel_rfl) (fun hc3 => ?_) (fun hc3 => ?_)
      · have h := if_t h hc3
        refine k_seq ?_
        refine k_reg ?_
        refine mops_en hf9 (by kernel_rfl) fun f10 hf10 => ?_
        refine k_c ?_
        refine k_ret ?_
        refine x_c nofun ?_
        refine x_br ?_
        refine x_c nofun ?_
        refine x_l nofun ?_
        refine x_br ?_
        refine x_c nofun ?_
        obtain rfl := hret0 _ (Option.some.inj h)
        exact k_fin (fin_ret (.inl rfl) hf10 (vs := [.ref 3 0 0 0, .s (.int .i64 (IntKind.wrap .i64 (t_1 + 1))), .s (.int .i64 r_3.2)]) (by kernel_rfl) (SettL.pure (FzL.tup (FzsL.cons (FzL.whole (g := lexer_Line.v) (kd := .grow) (l := ([] : List lexer_Line)) (by kernel_rfl) rfl (live_grow (by kernel_rfl))) (FzsL.cons (FzL.stat rfl) (FzsL.cons (FzL.stat rfl) FzsL.nil))))))
      · have h := if_f h hc3
        refine k_skip ?_
        refine k_c ?_
        refine k_reg ?_
        refine mops_sg 3 hf9 (by kernel_rfl) fun f10 hf10 => ?_
        obtain ⟨c4, h⟩ := as_ok h
        refine mops_adv rfl (v := .ref 1 (v_1 + 1) 0 (l_1 ++ [r_3.1]).length) hf10 (by kernel_rfl) (e_app (g := lexer_Line.v) (l := l_1) (l' := [r_3.1]) (b := 1) (ver := v_1) (n := l_1.length) rfl (by kernel_rfl) rfl (live_grow (by kernel_rfl)) (sll_ev (v := .ref 3 0 0 1) (by kernel_rfl) (sll_ref (B := ⟨0, .grow, 3, cat lexer_Line.v [r_3.1]⟩) (by kernel_rfl) (live_grow (by kernel_rfl)))) (slc_ev (v := .ref 3 0 0 1) (by kernel_rfl) (slc_ref (g := lexer_Line.v) (l := [r_3.1]) (kd := .grow) (q := 3) (by kernel_rfl) (live_grow (by kernel_rfl)))) c4) fun f11 hf11 => ?_
        refine mops_en hf11 (by kernel_rfl) fun f12 hf12 => ?_
        refine k_b ?_
        refine k_c ?_
        refine k_reg ?_
        refine mops_en hf12 (by kernel_rfl) fun f13 hf13 => ?_
        refine k_l' (vs_cut (l := [⟨2, [], .ref 0 0 0 0⟩, ⟨3, [], .s (.int .i64 0)⟩, ⟨4, [], .s (.int .i64 0)⟩, ⟨5, [], .ref 1 (v_1 + 1) 0 (l_1 ++ [r_3.1]).length⟩, ⟨11, [], .sl false r_.length (cat nS r_)⟩, ⟨12, [], .s (.int .i64 (ln r_))⟩, ⟨13, [], .s (.int .i64 (IntKind.wrap .i64 (t_1 + 1)))⟩]) 2 (by kernel_rfl) (by kernel_rfl) (L' := [⟨0, .grow, 3, cat lexer_Line.v ([] : List lexer_Line)⟩, ⟨(v_1 + 1), .grow, 3, cat lexer_Line.v (l_1 ++ [r_3.1])⟩]) (by kernel_rfl) ⟨⟨rfl, rfl⟩, ⟨rfl, rfl⟩, ⟨rfl, rfl⟩, ⟨rfl, rfl⟩, ⟨rfl, (static_under _ _ (by simp [V.static, statics, cat_stat, dropcat_stat]))⟩, ⟨rfl, rfl⟩, ⟨rfl, rfl⟩, trivial⟩ ⟨.inr (.inr (statics_unders _ _ (cat_stat _))), .inr (.inr (statics_unders _ _ (cat_stat _))), trivial⟩ (FOk_of [2, 3, 4, 5, 11, 12, 13] hf13 (by kernel_rfl)) fun f hf => ?_)
        exact ih _ _ ⟨(l_1 ++ [r_3.1]), (IntKind.wrap .i64 (t_1 + 1)), (v_1 + 1), h, hf, rfl⟩
    · have h := if_f h hc1
      refine k_exit ?_
      refine x_c nofun ?_
      refine x_l nofun ?_
      refine x_b ?_
      refine k_hp (L' := [⟨0, .grow, 3, cat lexer_Line.v ([] : List lexer_Line)⟩, ⟨v_1, .grow, 3, cat lexer_Line.v l_1⟩]) (by kernel_rfl) ?_
      exact hgo0 l_1 v_1 (Option.some.inj h) _ (FOk_of [2, 3, 4, 5] hf1 (by kernel_rfl))
def spinetlaw43_alive_i0 : List Op1 := [(oM 0 (.k (.bool false)) [])]
def spinetlaw43_alive_i1 : List Op1 := [(oC 4 9 [(.k (.string ⟨#[97, 58, 32, 108, 100, 97, 32, 35, 32, 53, 32, 59, 32, 120]⟩))] []), (oM 3 (.t 4) [0]), (oE 5 (.ext 0 (.t 3)) [1]), (oE 6 (.ext 1 (.t 3)) [1]), (oE 1 (.zero [(.string ⟨#[]⟩), (.string ⟨#[]⟩), (.string ⟨#[]⟩)]) []), (oN (.store 3 (.t 1) (.t 5)) [4, 2, 0, 0, 1, 2, 4]), (oM 2 (.t 6) [3, 5, 0, 1, 2, 3, 4, 5])]
def spinetlaw43_alive_i2 : List Op1 := [(oE 7 (.load true 3 (.t 1)) []), (oE 8 (.build [(.string ⟨#[]⟩), (.string ⟨#[]⟩), (.string ⟨#[]⟩)] [(0, (1, (.k (.string ⟨#[97]⟩)))), (1, (1, (.k (.string ⟨#[76, 68, 65]⟩)))), (2, (1, (.k (.string ⟨#[35, 53]⟩))))]) []), (oE 9 (.eqa false [.str, .str, .str] (.t 7) (.t 8)) [0, 1]), (oM 10 (.t 9) [2]), (oG 11 (.mv (.t 2)) 10 true [3]), (oG 12 (.bin .eql (.t 11) (.k (.int .i64 0))) 10 true [4, 3]), (oE 13 (.pick (.t 10) (.t 12) (.k (.bool false))) [3, 5]), (oM 0 (.t 13) [6, 3, 0, 1, 2, 3, 4, 5, 6])]
def spinetlaw43_alive_i3 : IR := .ret
def spinetlaw43_alive_i4 : IR := (.seq (.reg false spinetlaw43_alive_i2) spinetlaw43_alive_i3)
def spinetlaw43_alive_i5 : IR := (.seq (.reg false spinetlaw43_alive_i1) spinetlaw43_alive_i4)
def spinetlaw43_alive_ir : IR := (.seq (.reg false spinetlaw43_alive_i0) spinetlaw43_alive_i5)
theorem spinetlaw43_alive_cfn : cFn Tryd.prog 8 = some (spinetlaw43_alive_ir, [(.t 0)], 14) := by kernel_rfl
def spinetlaw43_alive_V (r : (Bool)) : V := .s (.bool r)
def spinetlaw43_alive_C (r : (Bool)) : X → Fr → Hp → Prop := FinL [(.t 0)] [] (spinetlaw43_alive_V r) []
theorem spinetlaw43_alive_ok (r : (Bool)) (h : spinetlaw43_alive = some r) : Pure Tryd.prog 8 [] (spinetlaw43_alive_V r) := by
  refine ConL.of spinetlaw43_alive_cfn (Nat.le_of_ble_eq_true (by kernel_rfl)) (Nat.le_of_ble_eq_true (by kernel_rfl)) ?_
  refine k_start ?_
  show dwv Tryd.prog [] spinetlaw43_alive_ir (kont Tryd.prog [] (spinetlaw43_alive_C r) []) (fr0 []) []
  have hf : FOk (fr0 []) [] := trivial
  generalize fr0 [] = f at hf ⊢
  unfold spinetlaw43_alive at h
  refine k_seq ?_
  refine k_reg ?_
  refine mops_en hf (by kernel_rfl) fun f1 hf1 => ?_
  refine k_c ?_
  refine k_seq ?_
  refine k_reg ?_
  obtain ⟨r_, hx_r_, h⟩ := Option.bind_eq_some_iff.1 h
  refine mops_call rfl hf1 (av := [.s (.string (⟨#[97, 58, 32, 108, 100, 97, 32, 35, 32, 53, 32, 59, 32, 120]⟩ : ByteArray))]) (by kernel_rfl) (v := .tup [.agg [.s (.string r_.1.Label), .s (.string r_.1.Op), .s (.string r_.1.Arg)], .s (.int .i64 r_.2)]) (CalL.pure (lexer_Cut_ok (⟨#[97, 58, 32, 108, 100, 97, 32, 35, 32, 53, 32, 59, 32, 120]⟩ : ByteArray) r_ hx_r_) rfl rfl (Nat.le_of_ble_eq_true (by kernel_rfl))) (fun _ => rfl) fun f2 hf2 => ?_
  refine mops_en hf2 (by kernel_rfl) fun f3 hf3 => ?_
  refine k_c ?_
  refine k_seq ?_
  refine k_reg ?_
  refine mops_en hf3 (by kernel_rfl) fun f4 hf4 => ?_
  refine k_c ?_
  refine k_ret ?_
  obtain rfl := Option.some.inj h
  exact k_fin (fin_ret (.inl rfl) hf4 (vs := [.s (.bool (((r_.1.Label == (⟨#[97]⟩ : ByteArray)) && ((r_.1.Op == (⟨#[76, 68, 65]⟩ : ByteArray)) && ((r_.1.Arg == (⟨#[35, 53]⟩ : ByteArray)) && true))) && (r_.2 == 0)))]) (by kernel_rfl) (SettL.pure (FzL.stat rfl)))
end Go.Proofs.YthooddibdmigmaaDoorK
