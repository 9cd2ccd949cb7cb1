/- The Go functions come to the functions over typed data. Printed by a program of this work. -/
import Derived.Test.YthooddibdmigmaaDoorF
import Derived.Test.YthooddibdmigmaaDoorProg
import Derived.Test.YthooddibdmigmaaDoorSf
namespace Go.Proofs.YthooddibdmigmaaDoorK
set_option linter.unusedVariables false
set_option linter.unusedSimpArgs false
set_option maxHeartbeats 4000000
open Go.RowKit
attribute [local irreducible] dwv mops lops lqops lwops kont iter run runK rk okK ex E1 vals val chain chB sel resF
def internal_stringslite_Cut_i0 : List Op1 := [(oM 4 (.k (.string ⟨#[]⟩)) []), (oM 5 (.k (.string ⟨#[]⟩)) [0]), (oM 6 (.k (.bool false)) [1])]
def internal_stringslite_Cut_i1 : List Op1 := [(oM 8 (.t 0) []), (oM 9 (.t 1) []), (oC 10 32 [(.t 8), (.t 9)] [0, 1]), (oM 7 (.t 10) [2, 2, 0, 1, 2])]
def internal_stringslite_Cut_i2 : List Op1 := [(oM 11 (.t 7) []), (oE 12 (.bin .geq (.t 11) (.k (.int .i64 0))) [0])]
def internal_stringslite_Cut_i3 : List Op1 := [(oM 13 (.t 0) []), (oM 14 (.t 7) []), (oE 15 (.sstr (.t 13) none (some (.t 14))) [0, 1]), (oM 16 (.t 0) []), (oM 17 (.t 7) []), (oM 18 (.t 1) []), (oE 19 (.lens (.t 18)) [5]), (oE 20 (.bin .add (.t 17) (.t 19)) [4, 6]), (oE 21 (.sstr (.t 16) (some (.t 20)) none) [3, 7]), (oM 4 (.t 15) [2, 0, 1, 2]), (oM 5 (.t 21) [8, 9, 0, 1, 2, 3, 4, 5, 6, 7, 8, 9]), (oM 6 (.k (.bool true)) [10, 0, 1, 2, 3, 4, 5, 6, 7, 8, 9, 10])]
def internal_stringslite_Cut_i4 : IR := .ret
def internal_stringslite_Cut_i5 : IR := (.cond (.t 12) (.seq (.reg true internal_stringslite_Cut_i3) internal_stringslite_Cut_i4) .skip)
def internal_stringslite_Cut_i6 : IR := (.seq (.reg false internal_stringslite_Cut_i2) internal_stringslite_Cut_i5)
def internal_stringslite_Cut_i7 : List Op1 := [(oM 22 (.t 0) []), (oM 4 (.t 22) [0, 0]), (oM 5 (.k (.string ⟨#[]⟩)) [1, 0, 1]), (oM 6 (.k (.bool false)) [2, 0, 1, 2])]
def internal_stringslite_Cut_i8 : IR := .ret
def internal_stringslite_Cut_i9 : IR := (.seq (.reg false internal_stringslite_Cut_i7) internal_stringslite_Cut_i8)
def internal_stringslite_Cut_i10 : IR := (.seq (.seq (.reg false internal_stringslite_Cut_i1) internal_stringslite_Cut_i6) internal_stringslite_Cut_i9)
def internal_stringslite_Cut_ir : IR := (.seq (.reg false internal_stringslite_Cut_i0) internal_stringslite_Cut_i10)
theorem internal_stringslite_Cut_cfn : cFn Tryd.prog 26 = some (internal_stringslite_Cut_ir, [(.t 4), (.t 5), (.t 6)], 23) := by kernel_rfl
def internal_stringslite_Cut_V (r : (ByteArray × ByteArray × Bool)) : V := .tup [.s (.string r.1), .s (.string r.2.1), .s (.bool r.2.2)]
def internal_stringslite_Cut_C (r : (ByteArray × ByteArray × Bool)) : X → Fr → Hp → Prop := FinL [(.t 4), (.t 5), (.t 6)] [] (internal_stringslite_Cut_V r) []
theorem internal_stringslite_Cut_ok (s_ : ByteArray) (sep_ : ByteArray) (r : (ByteArray × ByteArray × Bool)) (h : internal_stringslite_Cut s_ sep_ = some r) : Pure Tryd.prog 26 [.s (.string s_), .s (.string sep_)] (internal_stringslite_Cut_V r) := by
  refine ConL.of internal_stringslite_Cut_cfn (Nat.le_of_ble_eq_true (by kernel_rfl)) (Nat.le_of_ble_eq_true (by kernel_rfl)) ?_
  refine k_start ?_
  show dwv Tryd.prog [] internal_stringslite_Cut_ir (kont Tryd.prog [] (internal_stringslite_Cut_C r) []) (fr0 [.s (.string s_), .s (.string sep_)]) []
  have hf : FOk (fr0 [.s (.string s_), .s (.string sep_)]) [⟨0, [], .s (.string s_)⟩, ⟨1, [], .s (.string sep_)⟩] := ⟨⟨fun _ => rfl, fun h => (h trivial).elim⟩, ⟨fun _ => rfl, fun h => (h trivial).elim⟩, trivial⟩
  generalize fr0 [.s (.string s_), .s (.string sep_)] = f at hf ⊢
  unfold internal_stringslite_Cut at h
  refine k_seq ?_
  refine k_reg ?_
  refine mops_en hf (by kernel_rfl) fun f1 hf1 => ?_
  refine k_c ?_
  refine k_seq ?_
  refine k_seq ?_
  refine k_reg ?_
  refine mops_sg 2 hf1 (by kernel_rfl) fun f2 hf2 => ?_
  obtain ⟨r_, hx_r_, h⟩ := Option.bind_eq_some_iff.1 h
  refine mops_call rfl hf2 (av := [.s (.string s_), .s (.string sep_)]) (by kernel_rfl) (v := .s (.int .i64 r_)) (CalL.pure (internal_stringslite_Index_ok s_ sep_ r_ hx_r_) rfl rfl (Nat.le_of_ble_eq_true (by kernel_rfl))) (fun _ => rfl) fun f3 hf3 => ?_
  refine mops_en hf3 (by kernel_rfl) fun f4 hf4 => ?_
  refine k_c ?_
  refine k_seq ?_
  refine k_reg ?_
  refine mops_en hf4 (by kernel_rfl) fun f5 hf5 => ?_
  refine k_c ?_
  refine k_cond hf5 (t := (decide (0 ≤ r_))) (by kernel_rfl) (fun hc1 => ?_) (fun hc1 => ?_)
  · have h := if_t h hc1
    refine k_seq ?_
    refine k_regq ?_
    refine mops_sg 2 hf5 (by kernel_rfl) fun f6 hf6 => ?_
    obtain ⟨c2, h⟩ := as_ok h
    refine mops_adv rfl (v := .s (.string (s_.extract 0 (r_ : Int).toNat))) hf6 (by kernel_rfl) (e_sstr (t := s_) (by kernel_rfl) (b_ns (k := .i64) (iv := r_) (by kernel_rfl) c2)) fun f7 hf7 => ?_
    refine mops_sg 5 hf7 (by kernel_rfl) fun f8 hf8 => ?_
    obtain ⟨c3, h⟩ := as_ok h
    refine mops_adv rfl (v := .s (.string (s_.extract ((IntKind.wrap .i64 (r_ + (sln sep_))) : Int).toNat s_.size))) hf8 (by kernel_rfl) (e_sstr (t := s_) (by kernel_rfl) (b_sn (k := .i64) (iv := (IntKind.wrap .i64 (r_ + (sln sep_)))) (by kernel_rfl) c3)) fun f9 hf9 => ?_
    refine mops_en hf9 (by kernel_rfl) fun f10 hf10 => ?_
    refine k_c ?_
    refine k_ret ?_
    refine x_c nofun ?_
    obtain rfl := Option.some.inj h
    exact k_fin (fin_ret (.inl rfl) hf10 (vs := [.s (.string (s_.extract 0 (r_ : Int).toNat)), .s (.string (s_.extract ((IntKind.wrap .i64 (r_ + (sln sep_))) : Int).toNat s_.size)), .s (.bool true)]) (by kernel_rfl) (SettL.pure (FzL.tup (FzsL.cons (FzL.stat rfl) (FzsL.cons (FzL.stat rfl) (FzsL.cons (FzL.stat rfl) FzsL.nil))))))
  · have h := if_f h hc1
    refine k_skip ?_
    refine k_c ?_
    refine k_seq ?_
    refine k_reg ?_
    refine mops_en hf5 (by kernel_rfl) fun f6 hf6 => ?_
    refine k_c ?_
    refine k_ret ?_
    obtain rfl := Option.some.inj h
    exact k_fin (fin_ret (.inl rfl) hf6 (vs := [.s (.string s_), .s (.string (⟨#[]⟩ : ByteArray)), .s (.bool false)]) (by kernel_rfl) (SettL.pure (FzL.tup (FzsL.cons (FzL.stat rfl) (FzsL.cons (FzL.stat rfl) (FzsL.cons (FzL.stat rfl) FzsL.nil))))))
def lexer_blank_i0 : List Op1 := [(oM 2 (.k (.bool false)) [])]
def lexer_blank_i1 : List Op1 := [(oM 3 (.t 0) []), (oE 4 (.bin .eql (.t 3) (.k (.int .u8 32))) [0]), (oM 5 (.t 4) [1]), (oG 6 (.mv (.t 0)) 5 false [2]), (oG 7 (.bin .eql (.t 6) (.k (.int .u8 9))) 5 false [3, 2]), (oE 8 (.pick (.t 5) (.k (.bool true)) (.t 7)) [2, 4]), (oM 2 (.t 8) [5, 2, 0, 1, 2, 3, 4, 5])]
def lexer_blank_i2 : IR := .ret
def lexer_blank_i3 : IR := (.seq (.reg false lexer_blank_i1) lexer_blank_i2)
def lexer_blank_ir : IR := (.seq (.reg false lexer_blank_i0) lexer_blank_i3)
theorem lexer_blank_cfn : cFn Tryd.prog 17 = some (lexer_blank_ir, [(.t 2)], 9) := by kernel_rfl
def lexer_blank_V (r : (Bool)) : V := .s (.bool r)
def lexer_blank_C (r : (Bool)) : X → Fr → Hp → Prop := FinL [(.t 2)] [] (lexer_blank_V r) []
theorem lexer_blank_ok (c_ : Int) (r : (Bool)) (h : lexer_blank c_ = some r) : Pure Tryd.prog 17 [.s (.int .u8 c_)] (lexer_blank_V r) := by
  refine ConL.of lexer_blank_cfn (Nat.le_of_ble_eq_true (by kernel_rfl)) (Nat.le_of_ble_eq_true (by kernel_rfl)) ?_
  refine k_start ?_
  show dwv Tryd.prog [] lexer_blank_ir (kont Tryd.prog [] (lexer_blank_C r) []) (fr0 [.s (.int .u8 c_)]) []
  have hf : FOk (fr0 [.s (.int .u8 c_)]) [⟨0, [], .s (.int .u8 c_)⟩] := ⟨⟨fun _ => rfl, fun h => (h trivial).elim⟩, trivial⟩
  generalize fr0 [.s (.int .u8 c_)] = f at hf ⊢
  unfold lexer_blank at h
  refine k_seq ?_
  refine k_reg ?_
  refine mops_en hf (by kernel_rfl) fun f1 hf1 => ?_
  refine k_c ?_
  refine k_seq ?_
  refine k_reg ?_
  refine mops_en hf1 (by kernel_rfl) fun f2 hf2 => ?_
  refine k_c ?_
  refine k_ret ?_
  obtain rfl := Option.some.inj h
  exact k_fin (fin_ret (.inl rfl) hf2 (vs := [.s (.bool ((c_ == 32) || (c_ == 9)))]) (by kernel_rfl) (SettL.pure (FzL.stat rfl)))
def symbols_Right_i0 : List Op1 := [(oM 2 (.k (.bool false)) [])]
def symbols_Right_i1 : List Op1 := [(oM 6 (.t 0) []), (oE 7 (.lens (.t 6)) [0]), (oM 8 (.k (.int .i64 0)) [])]
def symbols_Right_i2 : List Op1 := [(oE 9 (.bin .lss (.t 8) (.t 7)) [])]
def symbols_Right_i3 : List Op1 := [(oM 10 (.t 8) []), (oM 3 (.t 10) [0, 0])]
def symbols_Right_i4 : List Op1 := [(oM 11 (.t 0) []), (oM 12 (.t 3) []), (oE 13 (.ixs (.t 11) (.t 12)) [0, 1]), (oM 4 (.t 13) [2, 0, 1, 2])]
def symbols_Right_i5 : List Op1 := [(oM 14 (.t 4) []), (oE 15 (.bin .geq (.t 14) (.k (.int .u8 65))) [0]), (oM 16 (.t 15) [1]), (oG 17 (.mv (.t 4)) 16 true [2]), (oG 18 (.bin .leq (.t 17) (.k (.int .u8 90))) 16 true [3, 2]), (oE 19 (.pick (.t 16) (.t 18) (.k (.bool false))) [2, 4]), (oM 20 (.t 19) [5, 2]), (oG 21 (.mv (.t 4)) 20 false [6]), (oG 22 (.bin .geq (.t 21) (.k (.int .u8 97))) 20 false [7, 6]), (oG 23 (.mv (.t 22)) 20 false [8, 6, 6]), (oG 24 (.mv (.t 4)) 23 true [9]), (oG 25 (.bin .leq (.t 24) (.k (.int .u8 122))) 23 true [10, 9]), (oG 26 (.pick (.t 23) (.t 25) (.k (.bool false))) 20 false [9, 11, 6]), (oE 27 (.pick (.t 20) (.k (.bool true)) (.t 26)) [6, 12]), (oM 28 (.t 27) [13, 9]), (oG 29 (.mv (.t 4)) 28 false [14]), (oG 30 (.bin .eql (.t 29) (.k (.int .u8 95))) 28 false [15, 14]), (oE 31 (.pick (.t 28) (.k (.bool true)) (.t 30)) [14, 16]), (oM 32 (.t 31) [17, 14]), (oG 33 (.mv (.t 4)) 32 false [18]), (oG 34 (.bin .eql (.t 33) (.k (.int .u8 46))) 32 false [19, 18]), (oE 35 (.pick (.t 32) (.k (.bool true)) (.t 34)) [18, 20]), (oM 5 (.t 35) [21, 18, 0, 1, 2, 3, 4, 5, 6, 7, 8, 9, 10, 11, 12, 13, 14, 15, 16, 17, 18, 19, 20, 21])]
def symbols_Right_i6 : List Op1 := [(oM 36 (.t 5) []), (oE 37 (.un .not (.t 36)) [0]), (oM 38 (.t 37) [1]), (oG 39 (.mv (.t 3)) 38 true [2]), (oG 40 (.bin .eql (.t 39) (.k (.int .i64 0))) 38 true [3, 2]), (oG 41 (.mv (.t 40)) 38 true [4, 2, 2]), (oG 42 (.mv (.t 4)) 41 false [5]), (oG 43 (.bin .lss (.t 42) (.k (.int .u8 48))) 41 false [6, 5]), (oG 44 (.pick (.t 41) (.k (.bool true)) (.t 43)) 38 true [5, 7, 2]), (oG 45 (.mv (.t 44)) 38 true [8, 5, 2]), (oG 46 (.mv (.t 4)) 45 false [9]), (oG 47 (.bin .gtr (.t 46) (.k (.int .u8 57))) 45 false [10, 9]), (oG 48 (.pick (.t 45) (.k (.bool true)) (.t 47)) 38 true [9, 11, 2]), (oE 49 (.pick (.t 38) (.t 48) (.k (.bool false))) [2, 12])]
def symbols_Right_i7 : List Op1 := [(oM 2 (.k (.bool false)) [])]
def symbols_Right_i8 : IR := .ret
def symbols_Right_i9 : IR := (.cond (.t 49) (.seq (.reg false symbols_Right_i7) symbols_Right_i8) .skip)
def symbols_Right_i10 : IR := (.seq (.reg false symbols_Right_i6) symbols_Right_i9)
def symbols_Right_i11 : IR := (.seq (.reg false symbols_Right_i5) symbols_Right_i10)
def symbols_Right_i12 : IR := (.seq (.reg false symbols_Right_i4) symbols_Right_i11)
def symbols_Right_i13 : List Op1 := [(oE 50 (.bin .add (.t 8) (.k (.int .i64 1))) []), (oM 8 (.t 50) [0])]
def symbols_Right_i14 : IR := (.reg false symbols_Right_i13)
def symbols_Right_i15 : IR := (.seq (.block 1 (.seq (.reg false symbols_Right_i3) symbols_Right_i12)) symbols_Right_i14)
def symbols_Right_i16 : IR := (.seq (.cond (.t 9) .skip (.exit 0)) symbols_Right_i15)
def symbols_Right_i17 : IR := (.seq (.reg false symbols_Right_i2) symbols_Right_i16)
def symbols_Right_i18 : IR := (.block 0 (.loop symbols_Right_i17))
def symbols_Right_i19 : List Op1 := [(oM 51 (.t 0) []), (oE 52 (.lens (.t 51)) [0]), (oE 53 (.bin .geq (.t 52) (.k (.int .i64 1))) [1]), (oM 54 (.t 53) [2]), (oG 55 (.mv (.t 0)) 54 true [3]), (oG 56 (.lens (.t 55)) 54 true [4, 3]), (oG 57 (.bin .leq (.t 56) (.k (.int .i64 16))) 54 true [5, 3]), (oE 58 (.pick (.t 54) (.t 57) (.k (.bool false))) [3, 6]), (oM 2 (.t 58) [7, 3, 0, 1, 2, 3, 4, 5, 6, 7])]
def symbols_Right_i20 : IR := .ret
def symbols_Right_i21 : IR := (.seq (.reg false symbols_Right_i19) symbols_Right_i20)
def symbols_Right_i22 : IR := (.seq (.seq (.reg false symbols_Right_i1) symbols_Right_i18) symbols_Right_i21)
def symbols_Right_ir : IR := (.seq (.reg false symbols_Right_i0) symbols_Right_i22)
theorem symbols_Right_cfn : cFn Tryd.prog 19 = some (symbols_Right_ir, [(.t 2)], 59) := by kernel_rfl
def symbols_Right_V (r : (Bool)) : V := .s (.bool r)
def symbols_Right_C (r : (Bool)) : X → Fr → Hp → Prop := FinL [(.t 2)] [] (symbols_Right_V r) []
theorem symbols_Right_ok (s_ : ByteArray) (r : (Bool)) (h : symbols_Right s_ = some r) : Pure Tryd.prog 19 [.s (.string s_)] (symbols_Right_V r) := by
  refine ConL.of symbols_Right_cfn (Nat.le_of_ble_eq_true (by kernel_rfl)) (Nat.le_of_ble_eq_true (by kernel_rfl)) ?_
  refine k_start ?_
  show dwv Tryd.prog [] symbols_Right_ir (kont Tryd.prog [] (symbols_Right_C r) []) (fr0 [.s (.string s_)]) []
  have hf : FOk (fr0 [.s (.string s_)]) [⟨0, [], .s (.string s_)⟩] := ⟨⟨fun _ => rfl, fun h => (h trivial).elim⟩, trivial⟩
  generalize fr0 [.s (.string s_)] = f at hf ⊢
  unfold symbols_Right at h
  refine k_seq ?_
  refine k_reg ?_
  refine mops_en hf (by kernel_rfl) fun f1 hf1 => ?_
  refine k_c ?_
  refine k_seq ?_
  refine k_seq ?_
  refine k_reg ?_
  refine mops_en hf1 (by kernel_rfl) fun f2 hf2 => ?_
  refine k_c ?_
  refine k_block ?_
  obtain ⟨o0, hx0, h⟩ := Option.bind_eq_some_iff.1 h
  have hret0 : ∀ r0, .ret r0 = o0 → r0 = r := fun r0 e => by subst e; exact Option.some.inj h
  have hgo0 : .go () = o0 → ∀ f, FOk f [⟨0, [], .s (.string s_)⟩, ⟨2, [], .s (.bool false)⟩] → kont Tryd.prog [] (symbols_Right_C r) ((.c symbols_Right_i21) :: []) .normal f [] := by
    intro  e f hf
    subst e
    refine k_c ?_
    refine k_seq ?_
    refine k_reg ?_
    refine mops_en hf (by kernel_rfl) fun f1 hf1 => ?_
    refine k_c ?_
    refine k_ret ?_
    obtain rfl := Option.some.inj h
    exact k_fin (fin_ret (.inl rfl) hf1 (vs := [.s (.bool ((decide (1 ≤ (sln s_))) && (decide ((sln s_) ≤ 16))))]) (by kernel_rfl) (SettL.pure (FzL.stat rfl)))
  refine k_loop BIG ?_
  refine loop_ind (fun n f L => ∃ (t_1 : Int), symbols_Right_l0 s_ n t_1 = some o0 ∧ FOk f [⟨0, [], .s (.string s_)⟩, ⟨2, [], .s (.bool false)⟩, ⟨7, [], .s (.int .i64 (sln s_))⟩, ⟨8, [], .s (.int .i64 t_1)⟩] ∧ L = []) ?_ ?_ BIG _ _ ⟨(0), hx0, FOk_of [0, 2, 7, 8] hf2 (by kernel_rfl), (by kernel_rfl)⟩
  · rintro f L ⟨t_1, h, _⟩
    cases (show (none : Option _) = some _ from h)
  · rintro n0 R0 ih f L ⟨t_1, h, hf, rfl⟩
    rw [symbols_Right_l0] at h
    refine k_seq ?_
    refine k_reg ?_
    refine mops_en hf (by kernel_rfl) fun f1 hf1 => ?_
    refine k_c ?_
    refine k_seq ?_
    refine k_cond hf1 (t := (decide (t_1 < (sln s_)))) (by kernel_rfl) (fun hc1 => ?_) (fun hc1 => ?_)
    · have h := if_t h hc1
      refine k_skip ?_
      refine k_c ?_
      refine k_seq ?_
      refine k_block ?_
      refine k_seq ?_
      refine k_reg ?_
      refine mops_en hf1 (by kernel_rfl) fun f2 hf2 => ?_
      refine k_c ?_
      refine k_seq ?_
      refine k_reg ?_
      refine mops_sg 2 hf2 (by kernel_rfl) fun f3 hf3 => ?_
      obtain ⟨c2, h⟩ := as_ok h
      refine mops_adv rfl (v := .s (.int .u8 (bt s_ t_1))) hf3 (by kernel_rfl) (e_ixs (t := s_) (k := .i64) (iv := t_1) (by kernel_rfl) (by kernel_rfl) c2) fun f4 hf4 => ?_
      refine mops_en hf4 (by kernel_rfl) fun f5 hf5 => ?_
      refine k_c ?_
      refine k_seq ?_
      refine k_reg ?_
      refine mops_en hf5 (by kernel_rfl) fun f6 hf6 => ?_
      refine k_c ?_
      refine k_seq ?_
      refine k_reg ?_
      refine mops_end [0, 2, 3, 4, 5, 7, 8, 9, 10, 11, 12, 13, 14, 15, 16, 17, 18, 19, 20, 21, 22, 23, 24, 25, 26, 27, 28, 29, 30, 31, 32, 33, 34, 35, 36, 37, 38, 39, 40, 41, 42, 43, 44, 45, 46, 47, 48, 49] hf6 (l' := [⟨0, [], .s (.string s_)⟩, ⟨2, [], .s (.bool false)⟩, ⟨3, [], .s (.int .i64 t_1)⟩, ⟨4, [], .s (.int .u8 (bt s_ t_1))⟩, ⟨5, [], .s (.bool (((((decide (65 ≤ (bt s_ t_1))) && (decide ((bt s_ t_1) ≤ 90))) || ((decide (97 ≤ (bt s_ t_1))) && (decide ((bt s_ t_1) ≤ 122)))) || ((bt s_ t_1) == 95)) || ((bt s_ t_1) == 46)))⟩, ⟨7, [], .s (.int .i64 (sln s_))⟩, ⟨8, [], .s (.int .i64 t_1)⟩, ⟨9, [], .s (.bool (decide (t_1 < (sln s_))))⟩, ⟨10, [], .s (.int .i64 t_1)⟩, ⟨11, [], .s (.string s_)⟩, ⟨12, [], .s (.int .i64 t_1)⟩, ⟨13, [], .s (.int .u8 (bt s_ t_1))⟩, ⟨14, [], .s (.int .u8 (bt s_ t_1))⟩, ⟨15, [], .s (.bool (decide (65 ≤ (bt s_ t_1))))⟩, ⟨16, [], .s (.bool (decide (65 ≤ (bt s_ t_1))))⟩, ⟨17, [(16, true)], .s (.int .u8 (bt s_ t_1))⟩, ⟨18, [(16, true)], .s (.bool (decide ((bt s_ t_1) ≤ 90)))⟩, ⟨19, [], .s (.bool ((decide (65 ≤ (bt s_ t_1))) && (decide ((bt s_ t_1) ≤ 90))))⟩, ⟨20, [], .s (.bool ((decide (65 ≤ (bt s_ t_1))) && (decide ((bt s_ t_1) ≤ 90))))⟩, ⟨21, [(20, false)], .s (.int .u8 (bt s_ t_1))⟩, ⟨22, [(20, false)], .s (.bool (decide (97 ≤ (bt s_ t_1))))⟩, ⟨23, [(20, false)], .s (.bool (decide (97 ≤ (bt s_ t_1))))⟩, ⟨24, [(23, true), (20, false)], .s (.int .u8 (bt s_ t_1))⟩, ⟨25, [(23, true), (20, false)], .s (.bool (decide ((bt s_ t_1) ≤ 122)))⟩, ⟨26, [(20, false)], .s (.bool ((decide (97 ≤ (bt s_ t_1))) && (decide ((bt s_ t_1) ≤ 122))))⟩, ⟨27, [], .s (.bool (((decide (65 ≤ (bt s_ t_1))) && (decide ((bt s_ t_1) ≤ 90))) || ((decide (97 ≤ (bt s_ t_1))) && (decide ((bt s_ t_1) ≤ 122)))))⟩, ⟨28, [], .s (.bool (((decide (65 ≤ (bt s_ t_1))) && (decide ((bt s_ t_1) ≤ 90))) || ((decide (97 ≤ (bt s_ t_1))) && (decide ((bt s_ t_1) ≤ 122)))))⟩, ⟨29, [(28, false)], .s (.int .u8 (bt s_ t_1))⟩, ⟨30, [(28, false)], .s (.bool ((bt s_ t_1) == 95))⟩, ⟨31, [], .s (.bool ((((decide (65 ≤ (bt s_ t_1))) && (decide ((bt s_ t_1) ≤ 90))) || ((decide (97 ≤ (bt s_ t_1))) && (decide ((bt s_ t_1) ≤ 122)))) || ((bt s_ t_1) == 95)))⟩, ⟨32, [], .s (.bool ((((decide (65 ≤ (bt s_ t_1))) && (decide ((bt s_ t_1) ≤ 90))) || ((decide (97 ≤ (bt s_ t_1))) && (decide ((bt s_ t_1) ≤ 122)))) || ((bt s_ t_1) == 95)))⟩, ⟨33, [(32, false)], .s (.int .u8 (bt s_ t_1))⟩, ⟨34, [(32, false)], .s (.bool ((bt s_ t_1) == 46))⟩, ⟨35, [], .s (.bool (((((decide (65 ≤ (bt s_ t_1))) && (decide ((bt s_ t_1) ≤ 90))) || ((decide (97 ≤ (bt s_ t_1))) && (decide ((bt s_ t_1) ≤ 122)))) || ((bt s_ t_1) == 95)) || ((bt s_ t_1) == 46)))⟩, ⟨36, [], .s (.bool (((((decide (65 ≤ (bt s_ t_1))) && (decide ((bt s_ t_1) ≤ 90))) || ((decide (97 ≤ (bt s_ t_1))) && (decide ((bt s_ t_1) ≤ 122)))) || ((bt s_ t_1) == 95)) || ((bt s_ t_1) == 46)))⟩, ⟨37, [], .s (.bool (!(((((decide (65 ≤ (bt s_ t_1))) && (decide ((bt s_ t_1) ≤ 90))) || ((decide (97 ≤ (bt s_ t_1))) && (decide ((bt s_ t_1) ≤ 122)))) || ((bt s_ t_1) == 95)) || ((bt s_ t_1) == 46))))⟩, ⟨38, [], .s (.bool (!(((((decide (65 ≤ (bt s_ t_1))) && (decide ((bt s_ t_1) ≤ 90))) || ((decide (97 ≤ (bt s_ t_1))) && (decide ((bt s_ t_1) ≤ 122)))) || ((bt s_ t_1) == 95)) || ((bt s_ t_1) == 46))))⟩, ⟨39, [(38, true)], .s (.int .i64 t_1)⟩, ⟨40, [(38, true)], .s (.bool (t_1 == 0))⟩, ⟨41, [(38, true)], .s (.bool (t_1 == 0))⟩, ⟨42, [(41, false), (38, true)], .s (.int .u8 (bt s_ t_1))⟩, ⟨43, [(41, false), (38, true)], .s (.bool (decide ((bt s_ t_1) < 48)))⟩, ⟨44, [(38, true)], .s (.bool ((t_1 == 0) || (decide ((bt s_ t_1) < 48))))⟩, ⟨45, [(38, true)], .s (.bool ((t_1 == 0) || (decide ((bt s_ t_1) < 48))))⟩, ⟨46, [(45, false), (38, true)], .s (.int .u8 (bt s_ t_1))⟩, ⟨47, [(45, false), (38, true)], .s (.bool (decide (57 < (bt s_ t_1))))⟩, ⟨48, [(38, true)], .s (.bool (((t_1 == 0) || (decide ((bt s_ t_1) < 48))) || (decide (57 < (bt s_ t_1)))))⟩, ⟨49, [], .s (.bool ((!(((((decide (65 ≤ (bt s_ t_1))) && (decide ((bt s_ t_1) ≤ 90))) || ((decide (97 ≤ (bt s_ t_1))) && (decide ((bt s_ t_1) ≤ 122)))) || ((bt s_ t_1) == 95)) || ((bt s_ t_1) == 46))) && (((t_1 == 0) || (decide ((bt s_ t_1) < 48))) || (decide (57 < (bt s_ t_1))))))⟩]) (L' := []) (by kernel_rfl) fun f7 hf7 => ?_
      refine k_c ?_
      refine k_cond hf7 (t := ((!(((((decide (65 ≤ (bt s_ t_1))) && (decide ((bt s_ t_1) ≤ 90))) || ((decide (97 ≤ (bt s_ t_1))) && (decide ((bt s_ t_1) ≤ 122)))) || ((bt s_ t_1) == 95)) || ((bt s_ t_1) == 46))) && (((t_1 == 0) || (decide ((bt s_ t_1) < 48))) || (decide (57 < (bt s_ t_1)))))) (by kernel_rfl) (fun hc3 => ?_) (fun hc3 => ?_)
      · have h := if_t h hc3
        refine k_seq ?_
        refine k_reg ?_
        refine mops_en hf7 (by kernel_rfl) fun f8 hf8 => ?_
        refine k_c ?_
        refine k_ret ?_
        refine x_br ?_
        refine x_c nofun ?_
        refine x_l nofun ?_
        refine x_br ?_
        refine x_c nofun ?_
        obtain rfl := hret0 _ (Option.some.inj h)
        exact k_fin (fin_ret (.inl rfl) hf8 (vs := [.s (.bool false)]) (by kernel_rfl) (SettL.pure (FzL.stat rfl)))
      · have h := if_f h hc3
        refine k_skip ?_
        refine k_b ?_
        refine k_c ?_
        refine k_reg ?_
        refine mops_en hf7 (by kernel_rfl) fun f8 hf8 => ?_
        refine k_l ?_
        exact ih _ _ ⟨(IntKind.wrap .i64 (t_1 + 1)), h, FOk_of [0, 2, 7, 8] hf8 (by kernel_rfl), (by kernel_rfl)⟩
    · have h := if_f h hc1
      refine k_exit ?_
      refine x_c nofun ?_
      refine x_l nofun ?_
      refine x_b ?_
      refine k_hp (L' := []) (by kernel_rfl) ?_
      exact hgo0  (Option.some.inj h) _ (FOk_of [0, 2] hf1 (by kernel_rfl))
def lexer_capital_i0 : List Op1 := [(oM 2 (.k (.string ⟨#[]⟩)) [])]
def lexer_capital_i1 : List Op1 := [(oM 6 (.t 0) []), (oE 7 (.strb (.t 6)) [0]), (oM 3 (.t 7) [1, 0, 1])]
def lexer_capital_i2 : List Op1 := [(oM 8 (.t 3) []), (oE 9 (.len (.t 8)) [0]), (oM 10 (.k (.int .i64 0)) [])]
def lexer_capital_i3 : List Op1 := [(oE 11 (.bin .lss (.t 10) (.t 9)) [])]
def lexer_capital_i4 : List Op1 := [(oM 12 (.t 10) []), (oE 13 (.ias 1 (.t 8) (.t 10)) []), (oE 14 (.load false 1 (.t 13)) [1]), (oM 4 (.t 12) [0, 0, 1, 2]), (oM 5 (.t 14) [2, 3, 0, 1, 2, 3])]
def lexer_capital_i5 : List Op1 := [(oM 15 (.t 5) []), (oE 16 (.bin .geq (.t 15) (.k (.int .u8 97))) [0]), (oM 17 (.t 16) [1]), (oG 18 (.mv (.t 5)) 17 true [2]), (oG 19 (.bin .leq (.t 18) (.k (.int .u8 122))) 17 true [3, 2]), (oE 20 (.pick (.t 17) (.t 19) (.k (.bool false))) [2, 4])]
def lexer_capital_i6 : List Op1 := [(oM 21 (.t 3) []), (oM 22 (.t 4) []), (oM 23 (.t 5) []), (oE 24 (.bin .sub (.t 23) (.k (.int .u8 97))) [2]), (oE 25 (.bin .add (.t 24) (.k (.int .u8 65))) [3]), (oE 26 (.ias 1 (.t 21) (.t 22)) [0, 1, 0, 1, 2, 3, 4]), (oN (.store 1 (.t 26) (.t 25)) [5, 4, 0, 1, 2, 3, 4])]
def lexer_capital_i7 : IR := (.cond (.t 20) (.reg false lexer_capital_i6) .skip)
def lexer_capital_i8 : IR := (.seq (.reg false lexer_capital_i5) lexer_capital_i7)
def lexer_capital_i9 : List Op1 := [(oE 27 (.bin .add (.t 10) (.k (.int .i64 1))) []), (oM 10 (.t 27) [0])]
def lexer_capital_i10 : IR := (.reg false lexer_capital_i9)
def lexer_capital_i11 : IR := (.seq (.block 1 (.seq (.reg false lexer_capital_i4) lexer_capital_i8)) lexer_capital_i10)
def lexer_capital_i12 : IR := (.seq (.cond (.t 11) .skip (.exit 0)) lexer_capital_i11)
def lexer_capital_i13 : IR := (.seq (.reg false lexer_capital_i3) lexer_capital_i12)
def lexer_capital_i14 : IR := (.block 0 (.loop lexer_capital_i13))
def lexer_capital_i15 : List Op1 := [(oM 28 (.t 3) []), (oE 29 (.bstr (.t 28)) [0]), (oM 2 (.t 29) [1, 0, 1])]
def lexer_capital_i16 : IR := .ret
def lexer_capital_i17 : IR := (.seq (.reg false lexer_capital_i15) lexer_capital_i16)
def lexer_capital_i18 : IR := (.seq (.seq (.reg false lexer_capital_i2) lexer_capital_i14) lexer_capital_i17)
def lexer_capital_i19 : IR := (.seq (.reg false lexer_capital_i1) lexer_capital_i18)
def lexer_capital_ir : IR := (.seq (.reg false lexer_capital_i0) lexer_capital_i19)
theorem lexer_capital_cfn : cFn Tryd.prog 22 = some (lexer_capital_ir, [(.t 2)], 30) := by kernel_rfl
def lexer_capital_V (r : (ByteArray)) : V := .s (.string r)
def lexer_capital_C (r : (ByteArray)) : X → Fr → Hp → Prop := FinL [(.t 2)] [] (lexer_capital_V r) []
theorem lexer_capital_ok (s_ : ByteArray) (r : (ByteArray)) (h : lexer_capital s_ = some r) : Pure Tryd.prog 22 [.s (.string s_)] (lexer_capital_V r) := by
  refine ConL.of lexer_capital_cfn (Nat.le_of_ble_eq_true (by kernel_rfl)) (Nat.le_of_ble_eq_true (by kernel_rfl)) ?_
  refine k_start ?_
  show dwv Tryd.prog [] lexer_capital_ir (kont Tryd.prog [] (lexer_capital_C r) []) (fr0 [.s (.string s_)]) []
  have hf : FOk (fr0 [.s (.string s_)]) [⟨0, [], .s (.string s_)⟩] := ⟨⟨fun _ => rfl, fun h => (h trivial).elim⟩, trivial⟩
  generalize fr0 [.s (.string s_)] = f at hf ⊢
  unfold lexer_capital at h
  refine k_seq ?_
  refine k_reg ?_
  refine mops_en hf (by kernel_rfl) fun f1 hf1 => ?_
  refine k_c ?_
  refine k_seq ?_
  refine k_reg ?_
  refine mops_sg 1 hf1 (by kernel_rfl) fun f2 hf2 => ?_
  obtain ⟨c1, h⟩ := as_ok h
  refine mops_adv rfl (v := .ref 0 0 0 (sbl s_).length) hf2 (by kernel_rfl) (e_strb (t := s_) (by kernel_rfl) c1 (by kernel_rfl)) fun f3 hf3 => ?_
  refine mops_en hf3 (by kernel_rfl) fun f4 hf4 => ?_
  refine k_c ?_
  refine k_seq ?_
  refine k_seq ?_
  refine k_reg ?_
  refine mops_sg 1 hf4 (by kernel_rfl) fun f5 hf5 => ?_
  refine mops_adv rfl (v := .s (.int .i64 (ln (sbl s_)))) hf5 (by kernel_rfl) (e_len_ref (l := (sbl s_)) (B := ⟨0, .grow, 1, cat (nI .u8) (sbl s_)⟩) (b := 0) (ver := 0) (n := (sbl s_).length) (by kernel_rfl) rfl (live_grow (by kernel_rfl))) fun f6 hf6 => ?_
  refine mops_en hf6 (by kernel_rfl) fun f7 hf7 => ?_
  refine k_c ?_
  refine k_block ?_
  obtain ⟨o0, hx0, h⟩ := Option.bind_eq_some_iff.1 h
  have hgo0 : ∀ (l_2 : (List Int)) (m_2 : Nat) (hn_2 : l_2.length = m_2), l_2 = o0 → ∀ f, FOk f [⟨2, [], .s (.string (⟨#[]⟩ : ByteArray))⟩, ⟨3, [], .ref 0 0 0 m_2⟩] → kont Tryd.prog [] (lexer_capital_C r) ((.c lexer_capital_i17) :: []) .normal f [⟨0, .grow, 1, cat (nI .u8) l_2⟩] := by
    intro l_2 m_2 hn_2 e f hf
    subst e
    refine k_c ?_
    refine k_seq ?_
    refine k_reg ?_
    refine mops_sg 1 hf (by kernel_rfl) fun f1 hf1 => ?_
    refine mops_adv rfl (v := .s (.string (bs l_2))) hf1 (by kernel_rfl) (e_bstr (q := l_2) (slc_ev (v := .ref 0 0 0 m_2) (by kernel_rfl) (slc_ref (g := (nI .u8)) (l := l_2) (kd := .grow) (q := 1) hn_2 (live_grow (by kernel_rfl))))) fun f2 hf2 => ?_
    refine mops_en hf2 (by kernel_rfl) fun f3 hf3 => ?_
    refine k_c ?_
    refine k_ret ?_
    obtain rfl := Option.some.inj h
    exact k_fin (fin_ret (.inl rfl) hf3 (vs := [.s (.string (bs l_2))]) (by kernel_rfl) (SettL.pure (FzL.stat rfl)))
  refine k_loop BIG ?_
  refine loop_ind (fun n f L => ∃ (l_1 : (List Int)) (t_1 : Int) (m_1 : Nat) (hn_1 : l_1.length = m_1), lexer_capital_l0 s_ n l_1 t_1 = some o0 ∧ FOk f [⟨2, [], .s (.string (⟨#[]⟩ : ByteArray))⟩, ⟨3, [], .ref 0 0 0 m_1⟩, ⟨8, [], .ref 0 0 0 m_1⟩, ⟨9, [], .s (.int .i64 (ln (sbl s_)))⟩, ⟨10, [], .s (.int .i64 t_1)⟩] ∧ L = [⟨0, .grow, 1, cat (nI .u8) l_1⟩]) ?_ ?_ BIG _ _ ⟨(sbl s_), (0), ((sbl s_).length), rfl, hx0, FOk_of [2, 3, 8, 9, 10] hf7 (by kernel_rfl), (by kernel_rfl)⟩
  · rintro f L ⟨l_1, t_1, m_1, hn_1, h, _⟩
    cases (show (none : Option _) = some _ from h)
  · rintro n0 R0 ih f L ⟨l_1, t_1, m_1, hn_1, h, hf, rfl⟩
    rw [lexer_capital_l0] at h
    refine k_seq ?_
    refine k_reg ?_
    refine mops_en hf (by kernel_rfl) fun f1 hf1 => ?_
    refine k_c ?_
    refine k_seq ?_
    refine k_cond hf1 (t := (decide (t_1 < (ln (sbl s_))))) (by kernel_rfl) (fun hc2 => ?_) (fun hc2 => ?_)
    · have h := if_t h hc2
      refine k_skip ?_
      refine k_c ?_
      refine k_seq ?_
      refine k_block ?_
      refine k_seq ?_
      refine k_reg ?_
      refine mops_sg 1 hf1 (by kernel_rfl) fun f2 hf2 => ?_
      obtain ⟨c3, h⟩ := as_ok h
      refine mops_adv rfl (v := .ptr 0 0 (0 + (t_1 : Int).toNat * 1)) hf2 (by kernel_rfl) (e_ias_ref (l := l_1) (B := ⟨0, .grow, 1, cat (nI .u8) l_1⟩) (b := 0) (ver := 0) (n := m_1) (k := .i64) (iv := t_1) (by kernel_rfl) (by kernel_rfl) hn_1 (live_grow (by kernel_rfl)) c3) fun f3 hf3 => ?_
      refine mops_adv rfl (v := .s (.int .u8 (gt l_1 t_1))) hf3 (by kernel_rfl) (e_load_pe (g := (nI .u8)) (l := l_1) (iv := t_1) (kd := .grow) (q := 1) (b := 0) (ver := 0) [] (by kernel_rfl) (live_grow (by kernel_rfl)) c3 (by kernel_rfl) (by kernel_rfl)) fun f4 hf4 => ?_
      refine mops_en hf4 (by kernel_rfl) fun f5 hf5 => ?_
      refine k_c ?_
      refine k_seq ?_
      refine k_reg ?_
      refine mops_en hf5 (by kernel_rfl) fun f6 hf6 => ?_
      refine k_c ?_
      refine k_cond hf6 (t := ((decide (97 ≤ (gt l_1 t_1))) && (decide ((gt l_1 t_1) ≤ 122)))) (by kernel_rfl) (fun hc4 => ?_) (fun hc4 => ?_)
      · have h := if_t h hc4
        refine k_reg ?_
        refine mops_sg 5 hf6 (by kernel_rfl) fun f7 hf7 => ?_
        obtain ⟨c5, h⟩ := as_ok h
        refine mops_adv rfl (v := .ptr 0 0 (0 + (t_1 : Int).toNat * 1)) hf7 (by kernel_rfl) (e_ias_ref (l := l_1) (B := ⟨0, .grow, 1, cat (nI .u8) l_1⟩) (b := 0) (ver := 0) (n := m_1) (k := .i64) (iv := t_1) (by kernel_rfl) (by kernel_rfl) hn_1 (live_grow (by kernel_rfl)) c5) fun f8 hf8 => ?_
        refine mops_adv rfl (v := .s undef) hf8 (by kernel_rfl) (e_store_pe (g := (nI .u8)) (l := l_1) (iv := t_1) (kd := .grow) (q := 1) (b := 0) (ver := 0) (ys := [.s (.int .u8 (IntKind.wrap .u8 ((IntKind.wrap .u8 ((gt l_1 t_1) - 97)) + 65)))]) (a := (IntKind.wrap .u8 ((IntKind.wrap .u8 ((gt l_1 t_1) - 97)) + 65))) [] (by kernel_rfl) (live_grow (by kernel_rfl)) (by kernel_rfl) (by kernel_rfl) (by kernel_rfl) c5 (by kernel_rfl) (by kernel_rfl)) fun f9 hf9 => ?_
        refine mops_en hf9 (by kernel_rfl) fun f10 hf10 => ?_
        refine k_b ?_
        refine k_c ?_
        refine k_reg ?_
        refine mops_en hf10 (by kernel_rfl) fun f11 hf11 => ?_
        refine k_l ?_
        exact ih _ _ ⟨(st l_1 t_1 (IntKind.wrap .u8 ((IntKind.wrap .u8 ((gt l_1 t_1) - 97)) + 65))), (IntKind.wrap .i64 (t_1 + 1)), m_1, (st_len.trans hn_1), h, FOk_of [2, 3, 8, 9, 10] hf11 (by kernel_rfl), (by kernel_rfl)⟩
      · have h := if_f h hc4
        refine k_skip ?_
        refine k_b ?_
        refine k_c ?_
        refine k_reg ?_
        refine mops_en hf6 (by kernel_rfl) fun f7 hf7 => ?_
        refine k_l ?_
        exact ih _ _ ⟨l_1, (IntKind.wrap .i64 (t_1 + 1)), m_1, hn_1, h, FOk_of [2, 3, 8, 9, 10] hf7 (by kernel_rfl), (by kernel_rfl)⟩
    · have h := if_f h hc2
      refine k_exit ?_
      refine x_c nofun ?_
      refine x_l nofun ?_
      refine x_b ?_
      refine k_hp (L' := [⟨0, .grow, 1, cat (nI .u8) l_1⟩]) (by kernel_rfl) ?_
      exact hgo0 l_1 m_1 hn_1 (Option.some.inj h) _ (FOk_of [2, 3] hf1 (by kernel_rfl))
def unicode_utf8_DecodeRuneInString_i0 : List Op1 := [(oM 2 (.k (.int .i32 0)) []), (oM 3 (.k (.int .i64 0)) [0])]
def unicode_utf8_DecodeRuneInString_i1 : List Op1 := [(oM 4 (.t 0) []), (oE 5 (.bin .neq (.t 4) (.k (.string ⟨#[]⟩))) [0]), (oM 6 (.t 5) [1]), (oG 7 (.mv (.t 0)) 6 true [2]), (oG 8 (.ixs (.t 7) (.k (.int .i64 0))) 6 true [3, 2]), (oG 9 (.bin .lss (.t 8) (.k (.int .u8 128))) 6 true [4, 2]), (oE 10 (.pick (.t 6) (.t 9) (.k (.bool false))) [2, 5])]
def unicode_utf8_DecodeRuneInString_i2 : List Op1 := [(oM 11 (.t 0) []), (oE 12 (.ixs (.t 11) (.k (.int .i64 0))) [0]), (oE 13 (.cint .i32 (.t 12)) [1]), (oM 2 (.t 13) [2, 0, 1, 2]), (oM 3 (.k (.int .i64 1)) [3, 0, 1, 2, 3])]
def unicode_utf8_DecodeRuneInString_i3 : IR := .ret
def unicode_utf8_DecodeRuneInString_i4 : List Op1 := [(oM 15 (.t 0) []), (oC 16 42 [(.t 15)] [0]), (oM 14 (.t 16) [1]), (oE 17 (.ext 0 (.t 14)) [2]), (oE 18 (.ext 1 (.t 14)) [2]), (oM 2 (.t 17) [3, 1, 0, 1, 2, 3]), (oM 3 (.t 18) [4, 5, 0, 1, 2, 3, 4, 5])]
def unicode_utf8_DecodeRuneInString_i5 : IR := (.cond (.t 10) (.seq (.reg false unicode_utf8_DecodeRuneInString_i2) unicode_utf8_DecodeRuneInString_i3) (.reg false unicode_utf8_DecodeRuneInString_i4))
def unicode_utf8_DecodeRuneInString_i6 : IR := .ret
def unicode_utf8_DecodeRuneInString_i7 : IR := (.seq (.seq (.reg false unicode_utf8_DecodeRuneInString_i1) unicode_utf8_DecodeRuneInString_i5) unicode_utf8_DecodeRuneInString_i6)
def unicode_utf8_DecodeRuneInString_ir : IR := (.seq (.reg false unicode_utf8_DecodeRuneInString_i0) unicode_utf8_DecodeRuneInString_i7)
theorem unicode_utf8_DecodeRuneInString_cfn : cFn Tryd.prog 35 = some (unicode_utf8_DecodeRuneInString_ir, [(.t 2), (.t 3)], 19) := by kernel_rfl
def unicode_utf8_DecodeRuneInString_V (r : (Int × Int)) : V := .tup [.s (.int .i32 r.1), .s (.int .i64 r.2)]
def unicode_utf8_DecodeRuneInString_C (r : (Int × Int)) : X → Fr → Hp → Prop := FinL [(.t 2), (.t 3)] [] (unicode_utf8_DecodeRuneInString_V r) []
theorem unicode_utf8_DecodeRuneInString_ok (s_ : ByteArray) (r : (Int × Int)) (h : unicode_utf8_DecodeRuneInString s_ = some r) : Pure Tryd.prog 35 [.s (.string s_)] (unicode_utf8_DecodeRuneInString_V r) := by
  refine ConL.of unicode_utf8_DecodeRuneInString_cfn (Nat.le_of_ble_eq_true (by kernel_rfl)) (Nat.le_of_ble_eq_true (by kernel_rfl)) ?_
  refine k_start ?_
  show dwv Tryd.prog [] unicode_utf8_DecodeRuneInString_ir (kont Tryd.prog [] (unicode_utf8_DecodeRuneInString_C r) []) (fr0 [.s (.string s_)]) []
  have hf : FOk (fr0 [.s (.string s_)]) [⟨0, [], .s (.string s_)⟩] := ⟨⟨fun _ => rfl, fun h => (h trivial).elim⟩, trivial⟩
  generalize fr0 [.s (.string s_)] = f at hf ⊢
  unfold unicode_utf8_DecodeRuneInString at h
  refine k_seq ?_
  refine k_reg ?_
  refine mops_en hf (by kernel_rfl) fun f1 hf1 => ?_
  refine k_c ?_
  refine k_seq ?_
  refine k_seq ?_
  refine k_reg ?_
  refine mops_sg 4 hf1 (by kernel_rfl) fun f2 hf2 => ?_
  obtain ⟨c1, h⟩ := as_ok h
  refine mops_gadv (dst := (some 8)) (op := (.ixs (.t 7) (.k (.int .i64 0)))) (aft := [3, 2]) (t := 6) (w := true) (ch := [(6, true)]) (b := (!(s_.toList == (⟨#[]⟩ : ByteArray).toList))) (v := .s (.int .u8 (bt s_ (0)))) (by kernel_rfl) hf2 (by kernel_rfl) (by kernel_rfl) (by kernel_rfl) (fun hb2 => e_ixs (t := s_) (k := .i64) (iv := 0) (by kernel_rfl) (by kernel_rfl) (c1 hb2)) fun f3 hf3 => ?_
  refine mops_en hf3 (by kernel_rfl) fun f4 hf4 => ?_
  refine k_c ?_
  refine k_cond hf4 (t := ((!(s_.toList == (⟨#[]⟩ : ByteArray).toList)) && (decide ((bt s_ (0)) < 128)))) (by kernel_rfl) (fun hc3 => ?_) (fun hc3 => ?_)
  · have h := if_t h hc3
    refine k_seq ?_
    refine k_reg ?_
    refine mops_sg 1 hf4 (by kernel_rfl) fun f5 hf5 => ?_
    obtain ⟨c4, h⟩ := as_ok h
    refine mops_adv rfl (v := .s (.int .u8 (bt s_ (0)))) hf5 (by kernel_rfl) (e_ixs (t := s_) (k := .i64) (iv := 0) (by kernel_rfl) (by kernel_rfl) c4) fun f6 hf6 => ?_
    refine mops_en hf6 (by kernel_rfl) fun f7 hf7 => ?_
    refine k_c ?_
    refine k_ret ?_
    refine x_c nofun ?_
    obtain rfl := Option.some.inj h
    exact k_fin (fin_ret (.inl rfl) hf7 (vs := [.s (.int .i32 (IntKind.wrap .i32 (bt s_ (0)))), .s (.int .i64 1)]) (by kernel_rfl) (SettL.pure (FzL.tup (FzsL.cons (FzL.stat rfl) (FzsL.cons (FzL.stat rfl) FzsL.nil)))))
  · have h := if_f h hc3
    cases h
def strings_Index_i0 : List Op1 := [(oM 4 (.k (.int .i64 0)) [])]
def strings_Index_i1 : List Op1 := [(oM 5 (.t 0) []), (oM 6 (.t 1) []), (oC 7 32 [(.t 5), (.t 6)] [0, 1]), (oM 4 (.t 7) [2, 2, 0, 1, 2])]
def strings_Index_i2 : IR := .ret
def strings_Index_i3 : IR := (.seq (.reg false strings_Index_i1) strings_Index_i2)
def strings_Index_ir : IR := (.seq (.reg false strings_Index_i0) strings_Index_i3)
theorem strings_Index_cfn : cFn Tryd.prog 31 = some (strings_Index_ir, [(.t 4)], 8) := by kernel_rfl
def strings_Index_V (r : (Int)) : V := .s (.int .i64 r)
def strings_Index_C (r : (Int)) : X → Fr → Hp → Prop := FinL [(.t 4)] [] (strings_Index_V r) []
theorem strings_Index_ok (s_ : ByteArray) (substr_ : ByteArray) (r : (Int)) (h : strings_Index s_ substr_ = some r) : Pure Tryd.prog 31 [.s (.string s_), .s (.string substr_)] (strings_Index_V r) := by
  refine ConL.of strings_Index_cfn (Nat.le_of_ble_eq_true (by kernel_rfl)) (Nat.le_of_ble_eq_true (by kernel_rfl)) ?_
  refine k_start ?_
  show dwv Tryd.prog [] strings_Index_ir (kont Tryd.prog [] (strings_Index_C r) []) (fr0 [.s (.string s_), .s (.string substr_)]) []
  have hf : FOk (fr0 [.s (.string s_), .s (.string substr_)]) [⟨0, [], .s (.string s_)⟩, ⟨1, [], .s (.string substr_)⟩] := ⟨⟨fun _ => rfl, fun h => (h trivial).elim⟩, ⟨fun _ => rfl, fun h => (h trivial).elim⟩, trivial⟩
  generalize fr0 [.s (.string s_), .s (.string substr_)] = f at hf ⊢
  unfold strings_Index at h
  refine k_seq ?_
  refine k_reg ?_
  refine mops_en hf (by kernel_rfl) fun f1 hf1 => ?_
  refine k_c ?_
  refine k_seq ?_
  refine k_reg ?_
  refine mops_sg 2 hf1 (by kernel_rfl) fun f2 hf2 => ?_
  obtain ⟨r_, hx_r_, h⟩ := Option.bind_eq_some_iff.1 h
  refine mops_call rfl hf2 (av := [.s (.string s_), .s (.string substr_)]) (by kernel_rfl) (v := .s (.int .i64 r_)) (CalL.pure (internal_stringslite_Index_ok s_ substr_ r_ hx_r_) rfl rfl (Nat.le_of_ble_eq_true (by kernel_rfl))) (fun _ => rfl) fun f3 hf3 => ?_
  refine mops_en hf3 (by kernel_rfl) fun f4 hf4 => ?_
  refine k_c ?_
  refine k_ret ?_
  obtain rfl := Option.some.inj h
  exact k_fin (fin_ret (.inl rfl) hf4 (vs := [.s (.int .i64 r_)]) (by kernel_rfl) (SettL.pure (FzL.stat rfl)))
def spinetref43_Lines_i0 : List Op1 := [(oE 2 (.nilg 1) [])]
def spinetref43_Lines_i1 : List Op1 := [(oE 5 (.bslo 1 1 [(.string ⟨#[]⟩)] [(0, (1, (.k (.string ⟨#[]⟩))))]) []), (oM 3 (.t 5) [0, 0])]
def spinetref43_Lines_i2 : List Op1 := [(oM 4 (.k (.int .i64 0)) [])]
def spinetref43_Lines_i3 : List Op1 := [(oM 6 (.t 4) []), (oM 7 (.t 0) []), (oE 8 (.lens (.t 7)) [1]), (oE 9 (.bin .lss (.t 6) (.t 8)) [0, 2])]
def spinetref43_Lines_i4 : IR := (.cond (.t 9) .skip (.exit 0))
def spinetref43_Lines_i5 : List Op1 := [(oM 12 (.t 0) []), (oM 13 (.t 4) []), (oE 14 (.ixs (.t 12) (.t 13)) [0, 1]), (oE 15 (.bin .eql (.t 14) (.k (.int .u8 10))) [2])]
def spinetref43_Lines_i6 : List Op1 := [(oM 16 (.t 3) []), (oE 17 (.bslo 1 1 [(.string ⟨#[]⟩)] [(0, (1, (.k (.string ⟨#[]⟩))))]) []), (oE 18 (.app 9 1 16 (.t 16) (.t 17)) [0, 1]), (oM 3 (.t 18) [2, 2, 0, 1, 2])]
def spinetref43_Lines_i7 : List An := [(aO (oM 19 (.t 3) []) false 0 0), (aO (oM 20 (.t 3) []) false 0 0), (aO (oE 21 (.len (.t 20)) [1]) false 0 0), (aO (oE 22 (.bin .sub (.t 21) (.k (.int .i64 1))) [2]) false 0 0), (aO (oE 23 (.ias 1 (.t 19) (.t 22)) [0, 3]) false 0 0), (aO (oE 24 (.load false 1 (.t 23)) [4]) false 0 0), (aO (oM 25 (.t 0) []) false 0 0), (aO (oM 26 (.t 4) []) false 0 0), (aO (oM 27 (.t 4) []) false 0 0), (aO (oE 28 (.bin .add (.t 27) (.k (.int .i64 1))) [8]) false 0 0), (aO (oE 29 (.sstr (.t 25) (some (.t 26)) (some (.t 28))) [6, 7, 9]) false 0 0), (aO (oE 30 (.bin .add (.t 24) (.t 29)) [5, 10]) false 0 0), (aO (oE 31 (.ias 1 (.t 19) (.t 22)) [0, 3, 0, 1, 2, 3, 4, 5, 6, 7, 8, 9, 10, 11]) false 0 0), (aO (oN (.store 1 (.t 31) (.t 30)) [12, 11, 0, 1, 2, 3, 4, 5, 6, 7, 8, 9, 10, 11]) true 0 1)]
def spinetref43_Lines_i8 : IR := (.cond (.t 15) (.reg false spinetref43_Lines_i6) (.regw spinetref43_Lines_i7))
def spinetref43_Lines_i9 : List Op1 := [(oM 10 (.t 4) []), (oE 11 (.bin .add (.t 10) (.k (.int .i64 1))) [0]), (oM 4 (.t 11) [1, 0, 1])]
def spinetref43_Lines_i10 : IR := (.reg false spinetref43_Lines_i9)
def spinetref43_Lines_i11 : IR := (.seq (.block 1 (.seq (.reg false spinetref43_Lines_i5) spinetref43_Lines_i8)) spinetref43_Lines_i10)
def spinetref43_Lines_i12 : IR := (.seq (.seq (.reg false spinetref43_Lines_i3) spinetref43_Lines_i4) spinetref43_Lines_i11)
def spinetref43_Lines_i13 : IR := (.block 0 (.loop spinetref43_Lines_i12))
def spinetref43_Lines_i14 : List Op1 := [(oM 32 (.t 3) []), (oM 2 (.t 32) [0, 0])]
def spinetref43_Lines_i15 : IR := .ret
def spinetref43_Lines_i16 : IR := (.seq (.reg false spinetref43_Lines_i14) spinetref43_Lines_i15)
def spinetref43_Lines_i17 : IR := (.seq (.seq (.reg false spinetref43_Lines_i2) spinetref43_Lines_i13) spinetref43_Lines_i16)
def spinetref43_Lines_i18 : IR := (.seq (.reg false spinetref43_Lines_i1) spinetref43_Lines_i17)
def spinetref43_Lines_ir : IR := (.seq (.reg false spinetref43_Lines_i0) spinetref43_Lines_i18)
theorem spinetref43_Lines_cfn : cFn Tryd.prog 6 = some (spinetref43_Lines_ir, [(.t 2)], 33) := by kernel_rfl
def spinetref43_Lines_V (r : ((List ByteArray))) : V := .sl false r.length (cat nS r)
def spinetref43_Lines_C (r : ((List ByteArray))) : X → Fr → Hp → Prop := FinL [(.t 2)] [] (spinetref43_Lines_V r) []
theorem spinetref43_Lines_ok (s_ : ByteArray) (r : ((List ByteArray))) (h : spinetref43_Lines s_ = some r) : Pure Tryd.prog 6 [.s (.string s_)] (spinetref43_Lines_V r) := by
  refine ConL.of spinetref43_Lines_cfn (Nat.le_of_ble_eq_true (by kernel_rfl)) (Nat.le_of_ble_eq_true (by kernel_rfl)) ?_
  refine k_start ?_
  show dwv Tryd.prog [] spinetref43_Lines_ir (kont Tryd.prog [] (spinetref43_Lines_C r) []) (fr0 [.s (.string s_)]) []
  have hf : FOk (fr0 [.s (.string s_)]) [⟨0, [], .s (.string s_)⟩] := ⟨⟨fun _ => rfl, fun h => (h trivial).elim⟩, trivial⟩
  generalize fr0 [.s (.string s_)] = f at hf ⊢
  unfold spinetref43_Lines at h
  refine k_seq ?_
  refine k_reg ?_
  refine mops_en hf (by kernel_rfl) fun f1 hf1 => ?_
  refine k_c ?_
  refine k_seq ?_
  refine k_reg ?_
  refine mops_en hf1 (by kernel_rfl) fun f2 hf2 => ?_
  refine k_c ?_
  refine k_seq ?_
  refine k_seq ?_
  refine k_reg ?_
  refine mops_en hf2 (by kernel_rfl) fun f3 hf3 => ?_
  refine k_c ?_
  refine k_block ?_
  obtain ⟨o0, hx0, h⟩ := Option.bind_eq_some_iff.1 h
  have hgo0 : ∀ (l_2 : (List ByteArray)) (v_2 : Nat) (m_2 : Nat) (hn_2 : l_2.length = m_2), l_2 = o0 → ∀ f, FOk f [⟨2, [], .ref 0 0 0 0⟩, ⟨3, [], .ref 1 v_2 0 m_2⟩] → kont Tryd.prog [] (spinetref43_Lines_C r) ((.c spinetref43_Lines_i16) :: []) .normal f [⟨0, .grow, 1, cat nS ([] : List ByteArray)⟩, ⟨v_2, .grow, 1, cat nS l_2⟩] := by
    intro l_2 v_2 m_2 hn_2 e f hf
    subst e
    refine k_c ?_
    refine k_seq ?_
    refine k_reg ?_
    refine mops_en hf (by kernel_rfl) fun f1 hf1 => ?_
    refine k_c ?_
    refine k_ret ?_
    obtain rfl := Option.some.inj h
    exact k_fin (fin_ret (.inl rfl) hf1 (vs := [.ref 1 v_2 0 m_2]) (by kernel_rfl) (SettL.pure (FzL.whole (g := nS) (kd := .grow) (l := l_2) (by kernel_rfl) hn_2 (live_grow (by kernel_rfl)))))
  refine k_loop BIG ?_
  refine loop_ind (fun n f L => ∃ (l_1 : (List ByteArray)) (i_1 : Int) (v_1 : Nat) (m_1 : Nat) (hn_1 : l_1.length = m_1), spinetref43_Lines_l0 s_ n l_1 i_1 = some o0 ∧ FOk f [⟨0, [], .s (.string s_)⟩, ⟨2, [], .ref 0 0 0 0⟩, ⟨3, [], .ref 1 v_1 0 m_1⟩, ⟨4, [], .s (.int .i64 i_1)⟩] ∧ L = [⟨0, .grow, 1, cat nS ([] : List ByteArray)⟩, ⟨v_1, .grow, 1, cat nS l_1⟩]) ?_ ?_ BIG _ _ ⟨[(⟨#[]⟩ : ByteArray)], (0), (0), (1), (by kernel_rfl), hx0, FOk_of [0, 2, 3, 4] hf3 (by kernel_rfl), (by kernel_rfl)⟩
  · rintro f L ⟨l_1, i_1, v_1, m_1, hn_1, h, _⟩
    cases (show (none : Option _) = some _ from h)
  · rintro n0 R0 ih f L ⟨l_1, i_1, v_1, m_1, hn_1, h, hf, rfl⟩
    rw [spinetref43_Lines_l0] at h
    refine k_seq ?_
    refine k_seq ?_
    refine k_reg ?_
    refine mops_en hf (by kernel_rfl) fun f1 hf1 => ?_
    refine k_c ?_
    refine k_cond hf1 (t := (decide (i_1 < (sln s_)))) (by kernel_rfl) (fun hc1 => ?_) (fun hc1 => ?_)
    · have h := if_t h hc1
      refine k_skip ?_
      refine k_c ?_
      refine k_seq ?_
      refine k_block ?_
      refine k_seq ?_
      refine k_reg ?_
      refine mops_sg 2 hf1 (by kernel_rfl) fun f2 hf2 => ?_
      obtain ⟨c2, h⟩ := as_ok h
      refine mops_adv rfl (v := .s (.int .u8 (bt s_ i_1))) hf2 (by kernel_rfl) (e_ixs (t := s_) (k := .i64) (iv := i_1) (by kernel_rfl) (by kernel_rfl) c2) fun f3 hf3 => ?_
      refine mops_en hf3 (by kernel_rfl) fun f4 hf4 => ?_
      refine k_c ?_
      refine k_cond hf4 (t := ((bt s_ i_1) == 10)) (by kernel_rfl) (fun hc3 => ?_) (fun hc3 => ?_)
      · have h := if_t h hc3
        refine k_reg ?_
        refine mops_sg 2 hf4 (by kernel_rfl) fun f5 hf5 => ?_
        obtain ⟨c4, h⟩ := as_ok h
        refine mops_adv rfl (v := .ref 1 (v_1 + 1) 0 (l_1 ++ [(⟨#[]⟩ : ByteArray)]).length) hf5 (by kernel_rfl) (e_app (g := nS) (l := l_1) (l' := [(⟨#[]⟩ : ByteArray)]) (b := 1) (ver := v_1) (n := m_1) rfl (by kernel_rfl) hn_1 (live_grow (by kernel_rfl)) (sll_ev (v := .ref 2 0 0 1) (by kernel_rfl) (sll_ref (B := ⟨0, .grow, 1, cat nS [(⟨#[]⟩ : ByteArray)]⟩) (by kernel_rfl) (live_grow (by kernel_rfl)))) (slc_ev (v := .ref 2 0 0 1) (by kernel_rfl) (slc_ref (g := nS) (l := [(⟨#[]⟩ : ByteArray)]) (kd := .grow) (q := 1) (by kernel_rfl) (live_grow (by kernel_rfl)))) c4) fun f6 hf6 => ?_
        refine mops_en hf6 (by kernel_rfl) fun f7 hf7 => ?_
        refine k_b ?_
        refine k_c ?_
        refine k_reg ?_
        refine mops_en hf7 (by kernel_rfl) fun f8 hf8 => ?_
        refine k_l' (vs_cut (l := [⟨0, [], .s (.string s_)⟩, ⟨2, [], .ref 0 0 0 0⟩, ⟨3, [], .ref 1 (v_1 + 1) 0 (l_1 ++ [(⟨#[]⟩ : ByteArray)]).length⟩, ⟨4, [], .s (.int .i64 (IntKind.wrap .i64 (i_1 + 1)))⟩]) 2 (by kernel_rfl) (by kernel_rfl) (L' := [⟨0, .grow, 1, cat nS ([] : List ByteArray)⟩, ⟨(v_1 + 1), .grow, 1, cat nS (l_1 ++ [(⟨#[]⟩ : ByteArray)])⟩]) (by kernel_rfl) ⟨⟨rfl, rfl⟩, ⟨rfl, rfl⟩, ⟨rfl, rfl⟩, ⟨rfl, rfl⟩, trivial⟩ ⟨.inr (.inr (statics_unders _ _ (cat_stat _))), .inr (.inr (statics_unders _ _ (cat_stat _))), trivial⟩ (FOk_of [0, 2, 3, 4] hf8 (by kernel_rfl)) fun f hf => ?_)
        exact ih _ _ ⟨(l_1 ++ [(⟨#[]⟩ : ByteArray)]), (IntKind.wrap .i64 (i_1 + 1)), (v_1 + 1), ((l_1 ++ [(⟨#[]⟩ : ByteArray)]).length), rfl, h, hf, rfl⟩
      · have h := if_f h hc3
        refine k_regw ?_
        refine lw_tight 13 (by kernel_rfl) ?_
        refine mops_seg [0, 2, 3, 4, 6, 7, 8, 9, 12, 13, 14, 15, 19, 20] 2 hf4 (l' := [⟨0, [], .s (.string s_)⟩, ⟨2, [], .ref 0 0 0 0⟩, ⟨3, [], .ref 1 v_1 0 m_1⟩, ⟨4, [], .s (.int .i64 i_1)⟩, ⟨6, [], .s (.int .i64 i_1)⟩, ⟨7, [], .s (.string s_)⟩, ⟨8, [], .s (.int .i64 (sln s_))⟩, ⟨9, [], .s (.bool (decide (i_1 < (sln s_))))⟩, ⟨12, [], .s (.string s_)⟩, ⟨13, [], .s (.int .i64 i_1)⟩, ⟨14, [], .s (.int .u8 (bt s_ i_1))⟩, ⟨15, [], .s (.bool ((bt s_ i_1) == 10))⟩, ⟨19, [], .ref 1 v_1 0 m_1⟩, ⟨20, [], .ref 1 v_1 0 m_1⟩]) (L' := [⟨0, .grow, 1, cat nS ([] : List ByteArray)⟩, ⟨v_1, .grow, 1, cat nS l_1⟩]) (by kernel_rfl) fun f5 hf5 => ?_
        refine mops_adv rfl (v := .s (.int .i64 (ln l_1))) hf5 (by kernel_rfl) (e_len_ref (l := l_1) (B := ⟨v_1, .grow, 1, cat nS l_1⟩) (b := 1) (ver := v_1) (n := m_1) (by kernel_rfl) hn_1 (live_grow (by kernel_rfl))) fun f6 hf6 => ?_
        refine mops_seg [0, 2, 3, 4, 6, 7, 8, 9, 12, 13, 14, 15, 19, 20, 21, 22] 1 hf6 (l' := [⟨0, [], .s (.string s_)⟩, ⟨2, [], .ref 0 0 0 0⟩, ⟨3, [], .ref 1 v_1 0 m_1⟩, ⟨4, [], .s (.int .i64 i_1)⟩, ⟨6, [], .s (.int .i64 i_1)⟩, ⟨7, [], .s (.string s_)⟩, ⟨8, [], .s (.int .i64 (sln s_))⟩, ⟨9, [], .s (.bool (decide (i_1 < (sln s_))))⟩, ⟨12, [], .s (.string s_)⟩, ⟨13, [], .s (.int .i64 i_1)⟩, ⟨14, [], .s (.int .u8 (bt s_ i_1))⟩, ⟨15, [], .s (.bool ((bt s_ i_1) == 10))⟩, ⟨19, [], .ref 1 v_1 0 m_1⟩, ⟨20, [], .ref 1 v_1 0 m_1⟩, ⟨21, [], .s (.int .i64 (ln l_1))⟩, ⟨22, [], .s (.int .i64 (IntKind.wrap .i64 ((ln l_1) - 1)))⟩]) (L' := [⟨0, .grow, 1, cat nS ([] : List ByteArray)⟩, ⟨v_1, .grow, 1, cat nS l_1⟩]) (by kernel_rfl) fun f7 hf7 => ?_
        obtain ⟨c5, h⟩ := as_ok h
        refine mops_adv rfl (v := .ptr 1 v_1 (0 + ((IntKind.wrap .i64 ((ln l_1) - 1)) : Int).toNat * 1)) hf7 (by kernel_rfl) (e_ias_ref (l := l_1) (B := ⟨v_1, .grow, 1, cat nS l_1⟩) (b := 1) (ver := v_1) (n := m_1) (k := .i64) (iv := (IntKind.wrap .i64 ((ln l_1) - 1))) (by kernel_rfl) (by kernel_rfl) hn_1 (live_grow (by kernel_rfl)) c5) fun f8 hf8 => ?_
        refine mops_adv rfl (v := .s (.string (gt l_1 (IntKind.wrap .i64 ((ln l_1) - 1))))) hf8 (by kernel_rfl) (e_load_pe (g := nS) (l := l_1) (iv := (IntKind.wrap .i64 ((ln l_1) - 1))) (kd := .grow) (q := 1) (b := 1) (ver := v_1) [] (by kernel_rfl) (live_grow (by kernel_rfl)) c5 (by kernel_rfl) (by kernel_rfl)) fun f9 hf9 => ?_
        refine mops_seg [0, 2, 3, 4, 6, 7, 8, 9, 12, 13, 14, 15, 19, 20, 21, 22, 23, 24, 25, 26, 27, 28] 4 hf9 (l' := [⟨0, [], .s (.string s_)⟩, ⟨2, [], .ref 0 0 0 0⟩, ⟨3, [], .ref 1 v_1 0 m_1⟩, ⟨4, [], .s (.int .i64 i_1)⟩, ⟨6, [], .s (.int .i64 i_1)⟩, ⟨7, [], .s (.string s_)⟩, ⟨8, [], .s (.int .i64 (sln s_))⟩, ⟨9, [], .s (.bool (decide (i_1 < (sln s_))))⟩, ⟨12, [], .s (.string s_)⟩, ⟨13, [], .s (.int .i64 i_1)⟩, ⟨14, [], .s (.int .u8 (bt s_ i_1))⟩, ⟨15, [], .s (.bool ((bt s_ i_1) == 10))⟩, ⟨19, [], .ref 1 v_1 0 m_1⟩, ⟨20, [], .ref 1 v_1 0 m_1⟩, ⟨21, [], .s (.int .i64 (ln l_1))⟩, ⟨22, [], .s (.int .i64 (IntKind.wrap .i64 ((ln l_1) - 1)))⟩, ⟨23, [], .ptr 1 v_1 (0 + ((IntKind.wrap .i64 ((ln l_1) - 1)) : Int).toNat * 1)⟩, ⟨24, [], .s (.string (gt l_1 (IntKind.wrap .i64 ((ln l_1) - 1))))⟩, ⟨25, [], .s (.string s_)⟩, ⟨26, [], .s (.int .i64 i_1)⟩, ⟨27, [], .s (.int .i64 i_1)⟩, ⟨28, [], .s (.int .i64 (IntKind.wrap .i64 (i_1 + 1)))⟩]) (L' := [⟨0, .grow, 1, cat nS ([] : List ByteArray)⟩, ⟨v_1, .grow, 1, cat nS l_1⟩]) (by kernel_rfl) fun f10 hf10 => ?_
        obtain ⟨c6, h⟩ := as_ok h
        refine mops_adv rfl (v := .s (.string (s_.extract (i_1 : Int).toNat ((IntKind.wrap .i64 (i_1 + 1)) : Int).toNat))) hf10 (by kernel_rfl) (e_sstr (t := s_) (by kernel_rfl) (b_ss (k := .i64) (k' := .i64) (iv := i_1) (jv := (IntKind.wrap .i64 (i_1 + 1))) (by kernel_rfl) (by kernel_rfl) c6)) fun f11 hf11 => ?_
        obtain ⟨c7, h⟩ := as_ok h
        refine mops_adv rfl (v := .s (.string ((gt l_1 (IntKind.wrap .i64 ((ln l_1) - 1))) ++ (s_.extract (i_1 : Int).toNat ((IntKind.wrap .i64 (i_1 + 1)) : Int).toNat)))) hf11 (by kernel_rfl) (e_sadd (t := (gt l_1 (IntKind.wrap .i64 ((ln l_1) - 1)))) (t' := (s_.extract (i_1 : Int).toNat ((IntKind.wrap .i64 (i_1 + 1)) : Int).toNat)) (by kernel_rfl) (by kernel_rfl) c7) fun f12 hf12 => ?_
        obtain ⟨c8, h⟩ := as_ok h
        refine mops_adv rfl (v := .ptr 1 v_1 (0 + ((IntKind.wrap .i64 ((ln l_1) - 1)) : Int).toNat * 1)) hf12 (by kernel_rfl) (e_ias_ref (l := l_1) (B := ⟨v_1, .grow, 1, cat nS l_1⟩) (b := 1) (ver := v_1) (n := m_1) (k := .i64) (iv := (IntKind.wrap .i64 ((ln l_1) - 1))) (by kernel_rfl) (by kernel_rfl) hn_1 (live_grow (by kernel_rfl)) c8) fun f13 hf13 => ?_
        refine mops_end [0, 2, 3, 4, 6, 7, 8, 9, 12, 13, 14, 15, 19, 20, 21, 22, 23, 24, 25, 26, 27, 28, 29, 30, 31] hf13 (l' := [⟨0, [], .s (.string s_)⟩, ⟨2, [], .ref 0 0 0 0⟩, ⟨3, [], .ref 1 v_1 0 m_1⟩, ⟨4, [], .s (.int .i64 i_1)⟩, ⟨6, [], .s (.int .i64 i_1)⟩, ⟨7, [], .s (.string s_)⟩, ⟨8, [], .s (.int .i64 (sln s_))⟩, ⟨9, [], .s (.bool (decide (i_1 < (sln s_))))⟩, ⟨12, [], .s (.string s_)⟩, ⟨13, [], .s (.int .i64 i_1)⟩, ⟨14, [], .s (.int .u8 (bt s_ i_1))⟩, ⟨15, [], .s (.bool ((bt s_ i_1) == 10))⟩, ⟨19, [], .ref 1 v_1 0 m_1⟩, ⟨20, [], .ref 1 v_1 0 m_1⟩, ⟨21, [], .s (.int .i64 (ln l_1))⟩, ⟨22, [], .s (.int .i64 (IntKind.wrap .i64 ((ln l_1) - 1)))⟩, ⟨23, [], .ptr 1 v_1 (0 + ((IntKind.wrap .i64 ((ln l_1) - 1)) : Int).toNat * 1)⟩, ⟨24, [], .s (.string (gt l_1 (IntKind.wrap .i64 ((ln l_1) - 1))))⟩, ⟨25, [], .s (.string s_)⟩, ⟨26, [], .s (.int .i64 i_1)⟩, ⟨27, [], .s (.int .i64 i_1)⟩, ⟨28, [], .s (.int .i64 (IntKind.wrap .i64 (i_1 + 1)))⟩, ⟨29, [], .s (.string (s_.extract (i_1 : Int).toNat ((IntKind.wrap .i64 (i_1 + 1)) : Int).toNat))⟩, ⟨30, [], .s (.string ((gt l_1 (IntKind.wrap .i64 ((ln l_1) - 1))) ++ (s_.extract (i_1 : Int).toNat ((IntKind.wrap .i64 (i_1 + 1)) : Int).toNat)))⟩, ⟨31, [], .ptr 1 v_1 (0 + ((IntKind.wrap .i64 ((ln l_1) - 1)) : Int).toNat * 1)⟩]) (L' := [⟨0, .grow, 1, cat nS ([] : List ByteArray)⟩, ⟨v_1, .grow, 1, cat nS l_1⟩]) (by kernel_rfl) fun f14 hf14 => ?_
        intro _
        refine lw_w (a := ⟨⟨none, (.e (.store 1 (.t 31) (.t 30))), none, [12, 11, 0, 1, 2, 3, 4, 5, 6, 7, 8, 9, 10, 11]⟩, true, 0, 1⟩) (by kernel_rfl) rfl rfl ?_
        refine mops_adv rfl (v := .s undef) hf14 (by kernel_rfl) (e_store_pe (g := nS) (l := l_1) (iv := (IntKind.wrap .i64 ((ln l_1) - 1))) (kd := .grow) (q := 1) (b := 1) (ver := v_1) (ys := [.s (.string ((gt l_1 (IntKind.wrap .i64 ((ln l_1) - 1))) ++ (s_.extract (i_1 : Int).toNat ((IntKind.wrap .i64 (i_1 + 1)) : Int).toNat)))]) (a := ((gt l_1 (IntKind.wrap .i64 ((ln l_1) - 1))) ++ (s_.extract (i_1 : Int).toNat ((IntKind.wrap .i64 (i_1 + 1)) : Int).toNat))) [] (by kernel_rfl) (live_grow (by kernel_rfl)) (by kernel_rfl) (by kernel_rfl) (by kernel_rfl) c8 (by kernel_rfl) (by kernel_rfl)) fun f15 hf15 => ?_
        refine mops_end [0, 2, 3, 4, 6, 7, 8, 9, 12, 13, 14, 15, 19, 20, 21, 22, 23, 24, 25, 26, 27, 28, 29, 30, 31] hf15 (l' := [⟨0, [], .s (.string s_)⟩, ⟨2, [], .ref 0 0 0 0⟩, ⟨3, [], .ref 1 v_1 0 m_1⟩, ⟨4, [], .s (.int .i64 i_1)⟩, ⟨6, [], .s (.int .i64 i_1)⟩, ⟨7, [], .s (.string s_)⟩, ⟨8, [], .s (.int .i64 (sln s_))⟩, ⟨9, [], .s (.bool (decide (i_1 < (sln s_))))⟩, ⟨12, [], .s (.string s_)⟩, ⟨13, [], .s (.int .i64 i_1)⟩, ⟨14, [], .s (.int .u8 (bt s_ i_1))⟩, ⟨15, [], .s (.bool ((bt s_ i_1) == 10))⟩, ⟨19, [], .ref 1 v_1 0 m_1⟩, ⟨20, [], .ref 1 v_1 0 m_1⟩, ⟨21, [], .s (.int .i64 (ln l_1))⟩, ⟨22, [], .s (.int .i64 (IntKind.wrap .i64 ((ln l_1) - 1)))⟩, ⟨23, [], .ptr 1 v_1 (0 + ((IntKind.wrap .i64 ((ln l_1) - 1)) : Int).toNat * 1)⟩, ⟨24, [], .s (.string (gt l_1 (IntKind.wrap .i64 ((ln l_1) - 1))))⟩, ⟨25, [], .s (.string s_)⟩, ⟨26, [], .s (.int .i64 i_1)⟩, ⟨27, [], .s (.int .i64 i_1)⟩, ⟨28, [], .s (.int .i64 (IntKind.wrap .i64 (i_1 + 1)))⟩, ⟨29, [], .s (.string (s_.extract (i_1 : Int).toNat ((IntKind.wrap .i64 (i_1 + 1)) : Int).toNat))⟩, ⟨30, [], .s (.string ((gt l_1 (IntKind.wrap .i64 ((ln l_1) - 1))) ++ (s_.extract (i_1 : Int).toNat ((IntKind.wrap .i64 (i_1 + 1)) : Int).toNat)))⟩, ⟨31, [], .ptr 1 v_1 (0 + ((IntKind.wrap .i64 ((ln l_1) - 1)) : Int).toNat * 1)⟩]) (L' := [⟨0, .grow, 1, cat nS ([] : List ByteArray)⟩, ⟨v_1, .grow, 1, cat nS (st l_1 (IntKind.wrap .i64 ((ln l_1) - 1)) ((gt l_1 (IntKind.wrap .i64 ((ln l_1) - 1))) ++ (s_.extract (i_1 : Int).toNat ((IntKind.wrap .i64 (i_1 + 1)) : Int).toNat)))⟩]) (by kernel_rfl) fun f16 hf16 => ?_
        refine ⟨trivial, ?_⟩
        refine lw_end (by kernel_rfl) ?_
        refine k_b ?_
        refine k_c ?_
        refine k_reg ?_
        refine mops_en hf16 (by kernel_rfl) fun f17 hf17 => ?_
        refine k_l ?_
        exact ih _ _ ⟨(st l_1 (IntKind.wrap .i64 ((ln l_1) - 1)) ((gt l_1 (IntKind.wrap .i64 ((ln l_1) - 1))) ++ (s_.extract (i_1 : Int).toNat ((IntKind.wrap .i64 (i_1 + 1)) : Int).toNat))), (IntKind.wrap .i64 (i_1 + 1)), v_1, m_1, (st_len.trans hn_1), h, FOk_of [0, 2, 3, 4] hf17 (by kernel_rfl), (by kernel_rfl)⟩
    · have h := if_f h hc1
      refine k_exit ?_
      refine x_c nofun ?_
      refine x_l nofun ?_
      refine x_b ?_
      refine k_hp (L' := [⟨0, .grow, 1, cat nS ([] : List ByteArray)⟩, ⟨v_1, .grow, 1, cat nS l_1⟩]) (by kernel_rfl) ?_
      exact hgo0 l_1 v_1 m_1 hn_1 (Option.some.inj h) _ (FOk_of [2, 3] hf1 (by kernel_rfl))
def spinetref43_blank_i0 : List Op1 := [(oM 2 (.k (.bool false)) [])]
def spinetref43_blank_i1 : List Op1 := [(oM 3 (.t 0) []), (oE 4 (.bin .eql (.t 3) (.k (.int .u8 32))) [0]), (oM 5 (.t 4) [1]), (oG 6 (.mv (.t 0)) 5 false [2]), (oG 7 (.bin .eql (.t 6) (.k (.int .u8 9))) 5 false [3, 2]), (oE 8 (.pick (.t 5) (.k (.bool true)) (.t 7)) [2, 4]), (oM 2 (.t 8) [5, 2, 0, 1, 2, 3, 4, 5])]
def spinetref43_blank_i2 : IR := .ret
def spinetref43_blank_i3 : IR := (.seq (.reg false spinetref43_blank_i1) spinetref43_blank_i2)
def spinetref43_blank_ir : IR := (.seq (.reg false spinetref43_blank_i0) spinetref43_blank_i3)
theorem spinetref43_blank_cfn : cFn Tryd.prog 14 = some (spinetref43_blank_ir, [(.t 2)], 9) := by kernel_rfl
def spinetref43_blank_V (r : (Bool)) : V := .s (.bool r)
def spinetref43_blank_C (r : (Bool)) : X → Fr → Hp → Prop := FinL [(.t 2)] [] (spinetref43_blank_V r) []
theorem spinetref43_blank_ok (c_ : Int) (r : (Bool)) (h : spinetref43_blank c_ = some r) : Pure Tryd.prog 14 [.s (.int .u8 c_)] (spinetref43_blank_V r) := by
  refine ConL.of spinetref43_blank_cfn (Nat.le_of_ble_eq_true (by kernel_rfl)) (Nat.le_of_ble_eq_true (by kernel_rfl)) ?_
  refine k_start ?_
  show dwv Tryd.prog [] spinetref43_blank_ir (kont Tryd.prog [] (spinetref43_blank_C r) []) (fr0 [.s (.int .u8 c_)]) []
  have hf : FOk (fr0 [.s (.int .u8 c_)]) [⟨0, [], .s (.int .u8 c_)⟩] := ⟨⟨fun _ => rfl, fun h => (h trivial).elim⟩, trivial⟩
  generalize fr0 [.s (.int .u8 c_)] = f at hf ⊢
  unfold spinetref43_blank at h
  refine k_seq ?_
  refine k_reg ?_
  refine mops_en hf (by kernel_rfl) fun f1 hf1 => ?_
  refine k_c ?_
  refine k_seq ?_
  refine k_reg ?_
  refine mops_en hf1 (by kernel_rfl) fun f2 hf2 => ?_
  refine k_c ?_
  refine k_ret ?_
  obtain rfl := Option.some.inj h
  exact k_fin (fin_ret (.inl rfl) hf2 (vs := [.s (.bool ((c_ == 32) || (c_ == 9)))]) (by kernel_rfl) (SettL.pure (FzL.stat rfl)))
def spinetref41_Letter_i0 : List Op1 := [(oM 2 (.k (.bool false)) [])]
def spinetref41_Letter_i1 : List Op1 := [(oM 3 (.t 0) []), (oE 4 (.bin .geq (.t 3) (.k (.int .u8 65))) [0]), (oM 5 (.t 4) [1]), (oG 6 (.mv (.t 0)) 5 true [2]), (oG 7 (.bin .leq (.t 6) (.k (.int .u8 90))) 5 true [3, 2]), (oE 8 (.pick (.t 5) (.t 7) (.k (.bool false))) [2, 4]), (oM 9 (.t 8) [5, 2]), (oG 10 (.mv (.t 0)) 9 false [6]), (oG 11 (.bin .geq (.t 10) (.k (.int .u8 97))) 9 false [7, 6]), (oG 12 (.mv (.t 11)) 9 false [8, 6, 6]), (oG 13 (.mv (.t 0)) 12 true [9]), (oG 14 (.bin .leq (.t 13) (.k (.int .u8 122))) 12 true [10, 9]), (oG 15 (.pick (.t 12) (.t 14) (.k (.bool false))) 9 false [9, 11, 6]), (oE 16 (.pick (.t 9) (.k (.bool true)) (.t 15)) [6, 12]), (oM 17 (.t 16) [13, 9]), (oG 18 (.mv (.t 0)) 17 false [14]), (oG 19 (.bin .eql (.t 18) (.k (.int .u8 46))) 17 false [15, 14]), (oE 20 (.pick (.t 17) (.k (.bool true)) (.t 19)) [14, 16]), (oM 21 (.t 20) [17, 14]), (oG 22 (.mv (.t 0)) 21 false [18]), (oG 23 (.bin .eql (.t 22) (.k (.int .u8 95))) 21 false [19, 18]), (oE 24 (.pick (.t 21) (.k (.bool true)) (.t 23)) [18, 20]), (oM 2 (.t 24) [21, 18, 0, 1, 2, 3, 4, 5, 6, 7, 8, 9, 10, 11, 12, 13, 14, 15, 16, 17, 18, 19, 20, 21])]
def spinetref41_Letter_i2 : IR := .ret
def spinetref41_Letter_i3 : IR := (.seq (.reg false spinetref41_Letter_i1) spinetref41_Letter_i2)
def spinetref41_Letter_ir : IR := (.seq (.reg false spinetref41_Letter_i0) spinetref41_Letter_i3)
theorem spinetref41_Letter_cfn : cFn Tryd.prog 25 = some (spinetref41_Letter_ir, [(.t 2)], 25) := by kernel_rfl
def spinetref41_Letter_V (r : (Bool)) : V := .s (.bool r)
def spinetref41_Letter_C (r : (Bool)) : X → Fr → Hp → Prop := FinL [(.t 2)] [] (spinetref41_Letter_V r) []
theorem spinetref41_Letter_ok (c_ : Int) (r : (Bool)) (h : spinetref41_Letter c_ = some r) : Pure Tryd.prog 25 [.s (.int .u8 c_)] (spinetref41_Letter_V r) := by
  refine ConL.of spinetref41_Letter_cfn (Nat.le_of_ble_eq_true (by kernel_rfl)) (Nat.le_of_ble_eq_true (by kernel_rfl)) ?_
  refine k_start ?_
  show dwv Tryd.prog [] spinetref41_Letter_ir (kont Tryd.prog [] (spinetref41_Letter_C r) []) (fr0 [.s (.int .u8 c_)]) []
  have hf : FOk (fr0 [.s (.int .u8 c_)]) [⟨0, [], .s (.int .u8 c_)⟩] := ⟨⟨fun _ => rfl, fun h => (h trivial).elim⟩, trivial⟩
  generalize fr0 [.s (.int .u8 c_)] = f at hf ⊢
  unfold spinetref41_Letter at h
  refine k_seq ?_
  refine k_reg ?_
  refine mops_en hf (by kernel_rfl) fun f1 hf1 => ?_
  refine k_c ?_
  refine k_seq ?_
  refine k_reg ?_
  refine mops_en hf1 (by kernel_rfl) fun f2 hf2 => ?_
  refine k_c ?_
  refine k_ret ?_
  obtain rfl := Option.some.inj h
  exact k_fin (fin_ret (.inl rfl) hf2 (vs := [.s (.bool (((((decide (65 ≤ c_)) && (decide (c_ ≤ 90))) || ((decide (97 ≤ c_)) && (decide (c_ ≤ 122)))) || (c_ == 46)) || (c_ == 95)))]) (by kernel_rfl) (SettL.pure (FzL.stat rfl)))
def slices_Equal_sl_string_string_i0 : List Op1 := [(oM 4 (.k (.bool false)) [])]
def slices_Equal_sl_string_string_i1 : List Op1 := [(oM 6 (.t 0) []), (oE 7 (.len (.t 6)) [0]), (oM 8 (.t 1) []), (oE 9 (.len (.t 8)) [2]), (oE 10 (.bin .neq (.t 7) (.t 9)) [1, 3])]
def slices_Equal_sl_string_string_i2 : List Op1 := [(oM 4 (.k (.bool false)) [])]
def slices_Equal_sl_string_string_i3 : IR := .ret
def slices_Equal_sl_string_string_i4 : IR := (.cond (.t 10) (.seq (.reg false slices_Equal_sl_string_string_i2) slices_Equal_sl_string_string_i3) .skip)
def slices_Equal_sl_string_string_i5 : List Op1 := [(oM 11 (.t 0) []), (oE 12 (.len (.t 11)) [0]), (oM 13 (.k (.int .i64 0)) [])]
def slices_Equal_sl_string_string_i6 : List Op1 := [(oE 14 (.bin .lss (.t 13) (.t 12)) [])]
def slices_Equal_sl_string_string_i7 : List Op1 := [(oM 15 (.t 13) []), (oM 5 (.t 15) [0, 0])]
def slices_Equal_sl_string_string_i8 : List Op1 := [(oM 16 (.t 0) []), (oM 17 (.t 5) []), (oE 18 (.ias 1 (.t 16) (.t 17)) [0, 1]), (oE 19 (.load false 1 (.t 18)) [2]), (oM 20 (.t 1) []), (oM 21 (.t 5) []), (oE 22 (.ias 1 (.t 20) (.t 21)) [4, 5]), (oE 23 (.load false 1 (.t 22)) [6]), (oE 24 (.bin .neq (.t 19) (.t 23)) [3, 7])]
def slices_Equal_sl_string_string_i9 : List Op1 := [(oM 4 (.k (.bool false)) [])]
def slices_Equal_sl_string_string_i10 : IR := .ret
def slices_Equal_sl_string_string_i11 : IR := (.cond (.t 24) (.seq (.reg false slices_Equal_sl_string_string_i9) slices_Equal_sl_string_string_i10) .skip)
def slices_Equal_sl_string_string_i12 : IR := (.seq (.reg true slices_Equal_sl_string_string_i8) slices_Equal_sl_string_string_i11)
def slices_Equal_sl_string_string_i13 : List Op1 := [(oE 25 (.bin .add (.t 13) (.k (.int .i64 1))) []), (oM 13 (.t 25) [0])]
def slices_Equal_sl_string_string_i14 : IR := (.reg false slices_Equal_sl_string_string_i13)
def slices_Equal_sl_string_string_i15 : IR := (.seq (.block 1 (.seq (.reg false slices_Equal_sl_string_string_i7) slices_Equal_sl_string_string_i12)) slices_Equal_sl_string_string_i14)
def slices_Equal_sl_string_string_i16 : IR := (.seq (.cond (.t 14) .skip (.exit 0)) slices_Equal_sl_string_string_i15)
def slices_Equal_sl_string_string_i17 : IR := (.seq (.reg false slices_Equal_sl_string_string_i6) slices_Equal_sl_string_string_i16)
def slices_Equal_sl_string_string_i18 : IR := (.block 0 (.loop slices_Equal_sl_string_string_i17))
def slices_Equal_sl_string_string_i19 : List Op1 := [(oM 4 (.k (.bool true)) [])]
def slices_Equal_sl_string_string_i20 : IR := .ret
def slices_Equal_sl_string_string_i21 : IR := (.seq (.reg false slices_Equal_sl_string_string_i19) slices_Equal_sl_string_string_i20)
def slices_Equal_sl_string_string_i22 : IR := (.seq (.seq (.reg false slices_Equal_sl_string_string_i5) slices_Equal_sl_string_string_i18) slices_Equal_sl_string_string_i21)
def slices_Equal_sl_string_string_i23 : IR := (.seq (.seq (.reg false slices_Equal_sl_string_string_i1) slices_Equal_sl_string_string_i4) slices_Equal_sl_string_string_i22)
def slices_Equal_sl_string_string_ir : IR := (.seq (.reg false slices_Equal_sl_string_string_i0) slices_Equal_sl_string_string_i23)
theorem slices_Equal_sl_string_string_cfn : cFn Tryd.prog 10 = some (slices_Equal_sl_string_string_ir, [(.t 4)], 26) := by kernel_rfl
def slices_Equal_sl_string_string_V (r : (Bool)) : V := .s (.bool r)
def slices_Equal_sl_string_string_C (r : (Bool)) : X → Fr → Hp → Prop := FinL [(.t 4)] [] (slices_Equal_sl_string_string_V r) []
theorem slices_Equal_sl_string_string_ok (s1_ : (List ByteArray)) (s2_ : (List ByteArray)) (r : (Bool)) (h : slices_Equal_sl_string_string s1_ s2_ = some r) : Pure Tryd.prog 10 [.sl false s1_.length (cat nS s1_), .sl false s2_.length (cat nS s2_)] (slices_Equal_sl_string_string_V r) := by
  refine ConL.of slices_Equal_sl_string_string_cfn (Nat.le_of_ble_eq_true (by kernel_rfl)) (Nat.le_of_ble_eq_true (by kernel_rfl)) ?_
  refine k_start ?_
  show dwv Tryd.prog [] slices_Equal_sl_string_string_ir (kont Tryd.prog [] (slices_Equal_sl_string_string_C r) []) (fr0 [.sl false s1_.length (cat nS s1_), .sl false s2_.length (cat nS s2_)]) []
  have hf : FOk (fr0 [.sl false s1_.length (cat nS s1_), .sl false s2_.length (cat nS s2_)]) [⟨0, [], .sl false s1_.length (cat nS s1_)⟩, ⟨1, [], .sl false s2_.length (cat nS s2_)⟩] := ⟨⟨fun _ => rfl, fun h => (h trivial).elim⟩, ⟨fun _ => rfl, fun h => (h trivial).elim⟩, trivial⟩
  generalize fr0 [.sl false s1_.length (cat nS s1_), .sl false s2_.length (cat nS s2_)] = f at hf ⊢
  unfold slices_Equal_sl_string_string at h
  refine k_seq ?_
  refine k_reg ?_
  refine mops_en hf (by kernel_rfl) fun f1 hf1 => ?_
  refine k_c ?_
  refine k_seq ?_
  refine k_seq ?_
  refine k_reg ?_
  refine mops_en hf1 (by kernel_rfl) fun f2 hf2 => ?_
  refine k_c ?_
  refine k_cond hf2 (t := ((ln s1_) != (ln s2_))) (by kernel_rfl) (fun hc1 => ?_) (fun hc1 => ?_)
  · have h := if_t h hc1
    refine k_seq ?_
    refine k_reg ?_
    refine mops_en hf2 (by kernel_rfl) fun f3 hf3 => ?_
    refine k_c ?_
    refine k_ret ?_
    refine x_c nofun ?_
    obtain rfl := Option.some.inj h
    exact k_fin (fin_ret (.inl rfl) hf3 (vs := [.s (.bool false)]) (by kernel_rfl) (SettL.pure (FzL.stat rfl)))
  · have h := if_f h hc1
    refine k_skip ?_
    refine k_c ?_
    refine k_seq ?_
    refine k_seq ?_
    refine k_reg ?_
    refine mops_en hf2 (by kernel_rfl) fun f3 hf3 => ?_
    refine k_c ?_
    refine k_block ?_
    obtain ⟨o0, hx0, h⟩ := Option.bind_eq_some_iff.1 h
    have hret0 : ∀ r0, .ret r0 = o0 → r0 = r := fun r0 e => by subst e; exact Option.some.inj h
    have hgo0 : .go () = o0 → ∀ f, FOk f [⟨4, [], .s (.bool false)⟩] → kont Tryd.prog [] (slices_Equal_sl_string_string_C r) ((.c slices_Equal_sl_string_string_i21) :: []) .normal f [] := by
      intro  e f hf
      subst e
      refine k_c ?_
      refine k_seq ?_
      refine k_reg ?_
      refine mops_en hf (by kernel_rfl) fun f1 hf1 => ?_
      refine k_c ?_
      refine k_ret ?_
      obtain rfl := Option.some.inj h
      exact k_fin (fin_ret (.inl rfl) hf1 (vs := [.s (.bool true)]) (by kernel_rfl) (SettL.pure (FzL.stat rfl)))
    refine k_loop BIG ?_
    refine loop_ind (fun n f L => ∃ (t_1 : Int), slices_Equal_sl_string_string_l0 s1_ s2_ n t_1 = some o0 ∧ FOk f [⟨0, [], .sl false s1_.length (cat nS s1_)⟩, ⟨1, [], .sl false s2_.length (cat nS s2_)⟩, ⟨4, [], .s (.bool false)⟩, ⟨12, [], .s (.int .i64 (ln s1_))⟩, ⟨13, [], .s (.int .i64 t_1)⟩] ∧ L = []) ?_ ?_ BIG _ _ ⟨(0), hx0, FOk_of [0, 1, 4, 12, 13] hf3 (by kernel_rfl), (by kernel_rfl)⟩
    · rintro f L ⟨t_1, h, _⟩
      cases (show (none : Option _) = some _ from h)
    · rintro n0 R0 ih f L ⟨t_1, h, hf, rfl⟩
      rw [slices_Equal_sl_string_string_l0] at h
      refine k_seq ?_
      refine k_reg ?_
      refine mops_en hf (by kernel_rfl) fun f1 hf1 => ?_
      refine k_c ?_
      refine k_seq ?_
      refine k_cond hf1 (t := (decide (t_1 < (ln s1_)))) (by kernel_rfl) (fun hc2 => ?_) (fun hc2 => ?_)
      · have h := if_t h hc2
        refine k_skip ?_
        refine k_c ?_
        refine k_seq ?_
        refine k_block ?_
        refine k_seq ?_
        refine k_reg ?_
        refine mops_en hf1 (by kernel_rfl) fun f2 hf2 => ?_
        refine k_c ?_
        refine k_seq ?_
        refine k_regq ?_
        refine mops_sg 2 hf2 (by kernel_rfl) fun f3 hf3 => ?_
        obtain ⟨c3, h⟩ := as_ok h
        refine mops_adv rfl (v := .ip ((cat nS s1_).drop ((t_1 : Int).toNat * 1))) hf3 (by kernel_rfl) (e_ias (n := s1_.length) (xv := .sl false s1_.length (cat nS s1_)) (k := .i64) (iv := t_1) (p := .ip ((cat nS s1_).drop ((t_1 : Int).toNat * 1))) (by kernel_rfl) (by kernel_rfl) (by kernel_rfl) (by kernel_rfl) c3) fun f4 hf4 => ?_
        refine mops_adv rfl (v := .s (.string (gt s1_ t_1))) hf4 (by kernel_rfl) (e_load_ip (g := nS) (l := s1_) (iv := t_1) [] (by kernel_rfl) c3 (by kernel_rfl) (by kernel_rfl)) fun f5 hf5 => ?_
        refine mops_sg 2 hf5 (by kernel_rfl) fun f6 hf6 => ?_
        obtain ⟨c4, h⟩ := as_ok h
        refine mops_adv rfl (v := .ip ((cat nS s2_).drop ((t_1 : Int).toNat * 1))) hf6 (by kernel_rfl) (e_ias (n := s2_.length) (xv := .sl false s2_.length (cat nS s2_)) (k := .i64) (iv := t_1) (p := .ip ((cat nS s2_).drop ((t_1 : Int).toNat * 1))) (by kernel_rfl) (by kernel_rfl) (by kernel_rfl) (by kernel_rfl) c4) fun f7 hf7 => ?_
        refine mops_adv rfl (v := .s (.string (gt s2_ t_1))) hf7 (by kernel_rfl) (e_load_ip (g := nS) (l := s2_) (iv := t_1) [] (by kernel_rfl) c4 (by kernel_rfl) (by kernel_rfl)) fun f8 hf8 => ?_
        refine mops_en hf8 (by kernel_rfl) fun f9 hf9 => ?_
        refine k_c ?_
        refine k_cond hf9 (t := (!((gt s1_ t_1).toList == (gt s2_ t_1).toList))) (by kernel_rfl) (fun hc5 => ?_) (fun hc5 => ?_)
        · have h := if_t h hc5
          refine k_seq ?_
          refine k_reg ?_
          refine mops_en hf9 (by kernel_rfl) fun f10 hf10 => ?_
          refine k_c ?_
          refine k_ret ?_
          refine x_br ?_
          refine x_c nofun ?_
          refine x_l nofun ?_
          refine x_br ?_
          refine x_c nofun ?_
          obtain rfl := hret0 _ (Option.some.inj h)
          exact k_fin (fin_ret (.inl rfl) hf10 (vs := [.s (.bool false)]) (by kernel_rfl) (SettL.pure (FzL.stat rfl)))
        · have h := if_f h hc5
          refine k_skip ?_
          refine k_b ?_
          refine k_c ?_
          refine k_reg ?_
          refine mops_en hf9 (by kernel_rfl) fun f10 hf10 => ?_
          refine k_l ?_
          exact ih _ _ ⟨(IntKind.wrap .i64 (t_1 + 1)), h, FOk_of [0, 1, 4, 12, 13] hf10 (by kernel_rfl), (by kernel_rfl)⟩
      · have h := if_f h hc2
        refine k_exit ?_
        refine x_c nofun ?_
        refine x_l nofun ?_
        refine x_b ?_
        refine k_hp (L' := []) (by kernel_rfl) ?_
        exact hgo0  (Option.some.inj h) _ (FOk_of [4] hf1 (by kernel_rfl))
end Go.Proofs.YthooddibdmigmaaDoorK
