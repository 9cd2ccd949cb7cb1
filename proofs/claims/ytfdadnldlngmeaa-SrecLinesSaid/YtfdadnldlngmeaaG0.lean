/- The Go functions come to the functions over typed data. Printed by a program of this work. -/
import Derived.Test.YtfdadnldlngmeaaF
import Derived.Test.YtfdadnldlngmeaaProg
namespace Go.Proofs.YtfdadnldlngmeaaK
set_option linter.unusedVariables false
set_option linter.unusedSimpArgs false
set_option maxHeartbeats 4000000
open Go.RowKit
attribute [local irreducible] dwv mops lops lqops lwops kont iter run runK rk okK ex E1 vals val chain chB sel resF
def digit_value_i0 : List Op1 := [(oM 2 (.k (.int .u8 0)) []), (oM 3 (.k (.bool false)) [0])]
def digit_value_i1 : List Op1 := [(oM 5 (.t 0) []), (oE 6 (.bin .geq (.t 5) (.k (.int .u8 48))) [0]), (oM 7 (.t 6) [1]), (oG 8 (.mv (.t 0)) 7 true [2]), (oG 9 (.bin .leq (.t 8) (.k (.int .u8 57))) 7 true [3, 2]), (oE 10 (.pick (.t 7) (.t 9) (.k (.bool false))) [2, 4]), (oM 4 (.t 10) [5, 2])]
def digit_value_i2 : List Op1 := [(oM 11 (.t 0) []), (oE 12 (.bin .sub (.t 11) (.k (.int .u8 48))) [0]), (oM 2 (.t 12) [1, 0, 1]), (oM 3 (.k (.bool true)) [2, 0, 1, 2])]
def digit_value_i3 : IR := .ret
def digit_value_i4 : List Op1 := [(oM 14 (.t 0) []), (oE 15 (.bin .geq (.t 14) (.k (.int .u8 65))) [0]), (oM 16 (.t 15) [1]), (oG 17 (.mv (.t 0)) 16 true [2]), (oG 18 (.bin .leq (.t 17) (.k (.int .u8 70))) 16 true [3, 2]), (oE 19 (.pick (.t 16) (.t 18) (.k (.bool false))) [2, 4]), (oM 13 (.t 19) [5, 2])]
def digit_value_i5 : List Op1 := [(oM 20 (.t 0) []), (oE 21 (.bin .sub (.t 20) (.k (.int .u8 65))) [0]), (oE 22 (.bin .add (.t 21) (.k (.int .u8 10))) [1]), (oM 2 (.t 22) [2, 0, 1, 2]), (oM 3 (.k (.bool true)) [3, 0, 1, 2, 3])]
def digit_value_i6 : IR := .ret
def digit_value_i7 : List Op1 := [(oM 24 (.t 0) []), (oE 25 (.bin .geq (.t 24) (.k (.int .u8 97))) [0]), (oM 26 (.t 25) [1]), (oG 27 (.mv (.t 0)) 26 true [2]), (oG 28 (.bin .leq (.t 27) (.k (.int .u8 102))) 26 true [3, 2]), (oE 29 (.pick (.t 26) (.t 28) (.k (.bool false))) [2, 4]), (oM 23 (.t 29) [5, 2])]
def digit_value_i8 : List Op1 := [(oM 30 (.t 0) []), (oE 31 (.bin .sub (.t 30) (.k (.int .u8 97))) [0]), (oE 32 (.bin .add (.t 31) (.k (.int .u8 10))) [1]), (oM 2 (.t 32) [2, 0, 1, 2]), (oM 3 (.k (.bool true)) [3, 0, 1, 2, 3])]
def digit_value_i9 : IR := .ret
def digit_value_i10 : IR := (.cond (.t 23) (.seq (.reg false digit_value_i8) digit_value_i9) .skip)
def digit_value_i11 : IR := (.cond (.t 13) (.seq (.reg false digit_value_i5) digit_value_i6) (.seq (.reg false digit_value_i7) digit_value_i10))
def digit_value_i12 : IR := (.cond (.t 4) (.seq (.reg false digit_value_i2) digit_value_i3) (.seq (.reg false digit_value_i4) digit_value_i11))
def digit_value_i13 : List Op1 := [(oM 2 (.k (.int .u8 0)) []), (oM 3 (.k (.bool false)) [0, 0])]
def digit_value_i14 : IR := .ret
def digit_value_i15 : IR := (.seq (.reg false digit_value_i13) digit_value_i14)
def digit_value_i16 : IR := (.seq (.block 0 (.seq (.reg false digit_value_i1) digit_value_i12)) digit_value_i15)
def digit_value_ir : IR := (.seq (.reg false digit_value_i0) digit_value_i16)
theorem digit_value_cfn : cFn Try.prog 48 = some (digit_value_ir, [(.t 2), (.t 3)], 33) := by kernel_rfl
def digit_value_V (r : (Int × Bool)) : V := .tup [.s (.int .u8 r.1), .s (.bool r.2)]
def digit_value_C (r : (Int × Bool)) : X → Fr → Hp → Prop := FinL [(.t 2), (.t 3)] [] (digit_value_V r) []
theorem digit_value_ok (c_ : Int) (r : (Int × Bool)) (h : digit_value c_ = some r) : Pure Try.prog 48 [.s (.int .u8 c_)] (digit_value_V r) := by
  refine ConL.of digit_value_cfn (Nat.le_of_ble_eq_true (by kernel_rfl)) (Nat.le_of_ble_eq_true (by kernel_rfl)) ?_
  refine k_start ?_
  show dwv Try.prog [] digit_value_ir (kont Try.prog [] (digit_value_C r) []) (fr0 [.s (.int .u8 c_)]) []
  have hf : FOk (fr0 [.s (.int .u8 c_)]) [⟨0, [], .s (.int .u8 c_)⟩] := ⟨⟨fun _ => rfl, fun h => (h trivial).elim⟩, trivial⟩
  generalize fr0 [.s (.int .u8 c_)] = f at hf ⊢
  unfold digit_value at h
  refine k_seq ?_
  refine k_reg ?_
  refine mops_en hf (by kernel_rfl) fun f1 hf1 => ?_
  refine k_c ?_
  refine k_seq ?_
  refine k_block ?_
  refine k_seq ?_
  refine k_reg ?_
  refine mops_en hf1 (by kernel_rfl) fun f2 hf2 => ?_
  refine k_c ?_
  refine k_cond hf2 (t := ((decide (48 ≤ c_)) && (decide (c_ ≤ 57)))) (by kernel_rfl) (fun hc1 => ?_) (fun hc1 => ?_)
  · have h := if_t h hc1
    refine k_seq ?_
    refine k_reg ?_
    refine mops_en hf2 (by kernel_rfl) fun f3 hf3 => ?_
    refine k_c ?_
    refine k_ret ?_
    refine x_br ?_
    refine x_c nofun ?_
    obtain rfl := Option.some.inj h
    exact k_fin (fin_ret (.inl rfl) hf3 (vs := [.s (.int .u8 (IntKind.wrap .u8 (c_ - 48))), .s (.bool true)]) (by kernel_rfl) (SettL.pure (FzL.tup (FzsL.cons (FzL.stat rfl) (FzsL.cons (FzL.stat rfl) FzsL.nil)))))
  · have h := if_f h hc1
    refine k_seq ?_
    refine k_reg ?_
    refine mops_en hf2 (by kernel_rfl) fun f3 hf3 => ?_
    refine k_c ?_
    refine k_cond hf3 (t := ((decide (65 ≤ c_)) && (decide (c_ ≤ 70)))) (by kernel_rfl) (fun hc2 => ?_) (fun hc2 => ?_)
    · have h := if_t h hc2
      refine k_seq ?_
      refine k_reg ?_
      refine mops_en hf3 (by kernel_rfl) fun f4 hf4 => ?_
      refine k_c ?_
      refine k_ret ?_
      refine x_br ?_
      refine x_c nofun ?_
      obtain rfl := Option.some.inj h
      exact k_fin (fin_ret (.inl rfl) hf4 (vs := [.s (.int .u8 (IntKind.wrap .u8 ((IntKind.wrap .u8 (c_ - 65)) + 10))), .s (.bool true)]) (by kernel_rfl) (SettL.pure (FzL.tup (FzsL.cons (FzL.stat rfl) (FzsL.cons (FzL.stat rfl) FzsL.nil)))))
    · have h := if_f h hc2
      refine k_seq ?_
      refine k_reg ?_
      refine mops_en hf3 (by kernel_rfl) fun f4 hf4 => ?_
      refine k_c ?_
      refine k_cond hf4 (t := ((decide (97 ≤ c_)) && (decide (c_ ≤ 102)))) (by kernel_rfl) (fun hc3 => ?_) (fun hc3 => ?_)
      · have h := if_t h hc3
        refine k_seq ?_
        refine k_reg ?_
        refine mops_en hf4 (by kernel_rfl) fun f5 hf5 => ?_
        refine k_c ?_
        refine k_ret ?_
        refine x_br ?_
        refine x_c nofun ?_
        obtain rfl := Option.some.inj h
        exact k_fin (fin_ret (.inl rfl) hf5 (vs := [.s (.int .u8 (IntKind.wrap .u8 ((IntKind.wrap .u8 (c_ - 97)) + 10))), .s (.bool true)]) (by kernel_rfl) (SettL.pure (FzL.tup (FzsL.cons (FzL.stat rfl) (FzsL.cons (FzL.stat rfl) FzsL.nil)))))
      · have h := if_f h hc3
        refine k_skip ?_
        refine k_b ?_
        refine k_c ?_
        refine k_seq ?_
        refine k_reg ?_
        refine mops_en hf4 (by kernel_rfl) fun f5 hf5 => ?_
        refine k_c ?_
        refine k_ret ?_
        obtain rfl := Option.some.inj h
        exact k_fin (fin_ret (.inl rfl) hf5 (vs := [.s (.int .u8 0), .s (.bool false)]) (by kernel_rfl) (SettL.pure (FzL.tup (FzsL.cons (FzL.stat rfl) (FzsL.cons (FzL.stat rfl) FzsL.nil)))))
def octet_Sum_i0 : List Op1 := [(oM 2 (.k (.int .u8 0)) [])]
def octet_Sum_i1 : List Op1 := [(oM 3 (.k (.int .u8 0)) [])]
def octet_Sum_i2 : List Op1 := [(oM 6 (.t 0) []), (oE 7 (.len (.t 6)) [0]), (oM 8 (.k (.int .i64 0)) [])]
def octet_Sum_i3 : List Op1 := [(oE 9 (.bin .lss (.t 8) (.t 7)) [])]
def octet_Sum_i4 : List Op1 := [(oE 10 (.ias 1 (.t 6) (.t 8)) []), (oE 11 (.load false 1 (.t 10)) [0]), (oM 5 (.t 11) [1, 0, 1])]
def octet_Sum_i5 : List Op1 := [(oM 12 (.t 3) []), (oM 13 (.t 5) []), (oE 14 (.bin .add (.t 12) (.t 13)) [0, 1]), (oM 3 (.t 14) [2, 0, 1, 2])]
def octet_Sum_i6 : IR := (.reg false octet_Sum_i5)
def octet_Sum_i7 : List Op1 := [(oE 15 (.bin .add (.t 8) (.k (.int .i64 1))) []), (oM 8 (.t 15) [0])]
def octet_Sum_i8 : IR := (.reg false octet_Sum_i7)
def octet_Sum_i9 : IR := (.seq (.block 1 (.seq (.reg false octet_Sum_i4) octet_Sum_i6)) octet_Sum_i8)
def octet_Sum_i10 : IR := (.seq (.cond (.t 9) .skip (.exit 0)) octet_Sum_i9)
def octet_Sum_i11 : IR := (.seq (.reg false octet_Sum_i3) octet_Sum_i10)
def octet_Sum_i12 : IR := (.block 0 (.loop octet_Sum_i11))
def octet_Sum_i13 : List Op1 := [(oM 16 (.t 3) []), (oM 2 (.t 16) [0, 0])]
def octet_Sum_i14 : IR := .ret
def octet_Sum_i15 : IR := (.seq (.reg false octet_Sum_i13) octet_Sum_i14)
def octet_Sum_i16 : IR := (.seq (.seq (.reg false octet_Sum_i2) octet_Sum_i12) octet_Sum_i15)
def octet_Sum_i17 : IR := (.seq (.reg false octet_Sum_i1) octet_Sum_i16)
def octet_Sum_ir : IR := (.seq (.reg false octet_Sum_i0) octet_Sum_i17)
theorem octet_Sum_cfn : cFn Try.prog 28 = some (octet_Sum_ir, [(.t 2)], 17) := by kernel_rfl
def octet_Sum_V (r : (Int)) : V := .s (.int .u8 r)
def octet_Sum_C (r : (Int)) : X → Fr → Hp → Prop := FinL [(.t 2)] [] (octet_Sum_V r) []
theorem octet_Sum_ok (b_ : (List Int)) (r : (Int)) (h : octet_Sum b_ = some r) : Pure Try.prog 28 [.sl false b_.length (cat (nI .u8) b_)] (octet_Sum_V r) := by
  refine ConL.of octet_Sum_cfn (Nat.le_of_ble_eq_true (by kernel_rfl)) (Nat.le_of_ble_eq_true (by kernel_rfl)) ?_
  refine k_start ?_
  show dwv Try.prog [] octet_Sum_ir (kont Try.prog [] (octet_Sum_C r) []) (fr0 [.sl false b_.length (cat (nI .u8) b_)]) []
  have hf : FOk (fr0 [.sl false b_.length (cat (nI .u8) b_)]) [⟨0, [], .sl false b_.length (cat (nI .u8) b_)⟩] := ⟨⟨fun _ => rfl, fun h => (h trivial).elim⟩, trivial⟩
  generalize fr0 [.sl false b_.length (cat (nI .u8) b_)] = f at hf ⊢
  unfold octet_Sum at h
  refine k_seq ?_
  refine k_reg ?_
  refine mops_en hf (by kernel_rfl) fun f1 hf1 => ?_
  refine k_c ?_
  refine k_seq ?_
  refine k_reg ?_
  refine mops_en hf1 (by kernel_rfl) fun f2 hf2 => ?_
  refine k_c ?_
  refine k_seq ?_
  refine k_seq ?_
  refine k_reg ?_
  refine mops_en hf2 (by kernel_rfl) fun f3 hf3 => ?_
  refine k_c ?_
  refine k_block ?_
  obtain ⟨o0, hx0, h⟩ := Option.bind_eq_some_iff.1 h
  have hgo0 : ∀ (s_2 : Int), s_2 = o0 → ∀ f, FOk f [⟨2, [], .s (.int .u8 0)⟩, ⟨3, [], .s (.int .u8 s_2)⟩] → kont Try.prog [] (octet_Sum_C r) ((.c octet_Sum_i15) :: []) .normal f [] := by
    intro s_2 e f hf
    subst e
    refine k_c ?_
    refine k_seq ?_
    refine k_reg ?_
    refine mops_en hf (by kernel_rfl) fun f1 hf1 => ?_
    refine k_c ?_
    refine k_ret ?_
    obtain rfl := Option.some.inj h
    exact k_fin (fin_ret (.inl rfl) hf1 (vs := [.s (.int .u8 s_2)]) (by kernel_rfl) (SettL.pure (FzL.stat rfl)))
  refine k_loop BIG ?_
  refine loop_ind (fun n f L => ∃ (s_1 : Int) (t_1 : Int), octet_Sum_l0 b_ n s_1 t_1 = some o0 ∧ FOk f [⟨2, [], .s (.int .u8 0)⟩, ⟨3, [], .s (.int .u8 s_1)⟩, ⟨6, [], .sl false b_.length (cat (nI .u8) b_)⟩, ⟨7, [], .s (.int .i64 (ln b_))⟩, ⟨8, [], .s (.int .i64 t_1)⟩] ∧ L = []) ?_ ?_ BIG _ _ ⟨(0), (0), hx0, FOk_of [2, 3, 6, 7, 8] hf3 (by kernel_rfl), (by kernel_rfl)⟩
  · rintro f L ⟨s_1, t_1, h, _⟩
    cases (show (none : Option _) = some _ from h)
  · rintro n0 R0 ih f L ⟨s_1, t_1, h, hf, rfl⟩
    rw [octet_Sum_l0] at h
    refine k_seq ?_
    refine k_reg ?_
    refine mops_en hf (by kernel_rfl) fun f1 hf1 => ?_
    refine k_c ?_
    refine k_seq ?_
    refine k_cond hf1 (t := (decide (t_1 < (ln b_)))) (by kernel_rfl) (fun hc1 => ?_) (fun hc1 => ?_)
    · have h := if_t h hc1
      refine k_skip ?_
      refine k_c ?_
      refine k_seq ?_
      refine k_block ?_
      refine k_seq ?_
      refine k_reg ?_
      obtain ⟨c2, h⟩ := as_ok h
      refine mops_adv rfl (v := .ip ((cat (nI .u8) b_).drop ((t_1 : Int).toNat * 1))) hf1 (by kernel_rfl) (e_ias (n := b_.length) (xv := .sl false b_.length (cat (nI .u8) b_)) (k := .i64) (iv := t_1) (p := .ip ((cat (nI .u8) b_).drop ((t_1 : Int).toNat * 1))) (by kernel_rfl) (by kernel_rfl) (by kernel_rfl) (by kernel_rfl) c2) fun f2 hf2 => ?_
      refine mops_adv rfl (v := .s (.int .u8 (gt b_ t_1))) hf2 (by kernel_rfl) (e_load_ip (g := (nI .u8)) (l := b_) (iv := t_1) [] (by kernel_rfl) c2 (by kernel_rfl) (by kernel_rfl)) fun f3 hf3 => ?_
      refine mops_en hf3 (by kernel_rfl) fun f4 hf4 => ?_
      refine k_c ?_
      refine k_reg ?_
      refine mops_en hf4 (by kernel_rfl) fun f5 hf5 => ?_
      refine k_b ?_
      refine k_c ?_
      refine k_reg ?_
      refine mops_en hf5 (by kernel_rfl) fun f6 hf6 => ?_
      refine k_l ?_
      exact ih _ _ ⟨(IntKind.wrap .u8 (s_1 + (gt b_ t_1))), (IntKind.wrap .i64 (t_1 + 1)), h, FOk_of [2, 3, 6, 7, 8] hf6 (by kernel_rfl), (by kernel_rfl)⟩
    · have h := if_f h hc1
      refine k_exit ?_
      refine x_c nofun ?_
      refine x_l nofun ?_
      refine x_b ?_
      refine k_hp (L' := []) (by kernel_rfl) ?_
      exact hgo0 s_1 (Option.some.inj h) _ (FOk_of [2, 3] hf1 (by kernel_rfl))
def octet_Word_i0 : List Op1 := [(oM 4 (.k (.int .u16 0)) [])]
def octet_Word_i1 : List Op1 := [(oM 5 (.t 0) []), (oE 6 (.cint .u16 (.t 5)) [0]), (oE 7 (.bin .shl (.t 6) (.k (.int .u64 8))) [1]), (oM 8 (.t 1) []), (oE 9 (.cint .u16 (.t 8)) [3]), (oE 10 (.bin .or (.t 7) (.t 9)) [2, 4]), (oM 4 (.t 10) [5, 0, 1, 2, 3, 4, 5])]
def octet_Word_i2 : IR := .ret
def octet_Word_i3 : IR := (.seq (.reg false octet_Word_i1) octet_Word_i2)
def octet_Word_ir : IR := (.seq (.reg false octet_Word_i0) octet_Word_i3)
theorem octet_Word_cfn : cFn Try.prog 29 = some (octet_Word_ir, [(.t 4)], 11) := by kernel_rfl
def octet_Word_V (r : (Int)) : V := .s (.int .u16 r)
def octet_Word_C (r : (Int)) : X → Fr → Hp → Prop := FinL [(.t 4)] [] (octet_Word_V r) []
theorem octet_Word_ok (hi_ : Int) (lo_ : Int) (r : (Int)) (h : octet_Word hi_ lo_ = some r) : Pure Try.prog 29 [.s (.int .u8 hi_), .s (.int .u8 lo_)] (octet_Word_V r) := by
  refine ConL.of octet_Word_cfn (Nat.le_of_ble_eq_true (by kernel_rfl)) (Nat.le_of_ble_eq_true (by kernel_rfl)) ?_
  refine k_start ?_
  show dwv Try.prog [] octet_Word_ir (kont Try.prog [] (octet_Word_C r) []) (fr0 [.s (.int .u8 hi_), .s (.int .u8 lo_)]) []
  have hf : FOk (fr0 [.s (.int .u8 hi_), .s (.int .u8 lo_)]) [⟨0, [], .s (.int .u8 hi_)⟩, ⟨1, [], .s (.int .u8 lo_)⟩] := ⟨⟨fun _ => rfl, fun h => (h trivial).elim⟩, ⟨fun _ => rfl, fun h => (h trivial).elim⟩, trivial⟩
  generalize fr0 [.s (.int .u8 hi_), .s (.int .u8 lo_)] = f at hf ⊢
  unfold octet_Word at h
  refine k_seq ?_
  refine k_reg ?_
  refine mops_en hf (by kernel_rfl) fun f1 hf1 => ?_
  refine k_c ?_
  refine k_seq ?_
  refine k_reg ?_
  refine mops_en hf1 (by kernel_rfl) fun f2 hf2 => ?_
  refine k_c ?_
  refine k_ret ?_
  obtain rfl := Option.some.inj h
  exact k_fin (fin_ret (.inl rfl) hf2 (vs := [.s (.int .u16 (bits .or .u16 (IntKind.wrap .u16 ((IntKind.wrap .u16 hi_) * 2 ^ (8))) (IntKind.wrap .u16 lo_)))]) (by kernel_rfl) (SettL.pure (FzL.stat rfl)))
def srec_Line_right_i0 : List Op1 := [(oE 1 (.box (.t 0)) []), (oM 2 (.k (.bool false)) [])]
def srec_Line_right_i1 : List Op1 := [(oE 3 (.fld 0 (.t 1)) []), (oE 4 (.load false 1 (.t 3)) [0]), (oE 5 (.bin .eql (.t 4) (.k (.int .i64 0))) [1]), (oM 6 (.t 5) [2]), (oG 7 (.fld 0 (.t 1)) 6 false [3]), (oG 8 (.load false 1 (.t 7)) 6 false [4, 3]), (oG 9 (.bin .eql (.t 8) (.k (.int .i64 1))) 6 false [5, 3]), (oE 10 (.pick (.t 6) (.k (.bool true)) (.t 9)) [3, 6]), (oM 11 (.t 10) [7, 3]), (oG 12 (.fld 0 (.t 1)) 11 false [8]), (oG 13 (.load false 1 (.t 12)) 11 false [9, 8]), (oG 14 (.bin .eql (.t 13) (.k (.int .i64 9))) 11 false [10, 8]), (oG 15 (.mv (.t 14)) 11 false [11, 8, 8]), (oG 16 (.fld 2 (.t 1)) 15 true [12]), (oG 17 (.load false 1 (.t 16)) 15 true [13, 12]), (oG 18 (.len (.t 17)) 15 true [14, 12]), (oG 19 (.bin .eql (.t 18) (.k (.int .i64 0))) 15 true [15, 12]), (oG 20 (.pick (.t 15) (.t 19) (.k (.bool false))) 11 false [12, 16, 8]), (oE 21 (.pick (.t 11) (.k (.bool true)) (.t 20)) [8, 17]), (oM 22 (.t 21) [18, 12]), (oG 23 (.fld 2 (.t 1)) 22 true [19]), (oG 24 (.load false 1 (.t 23)) 22 true [20, 19]), (oG 25 (.len (.t 24)) 22 true [21, 19]), (oG 26 (.bin .leq (.t 25) (.k (.int .i64 252))) 22 true [22, 19]), (oE 27 (.pick (.t 22) (.t 26) (.k (.bool false))) [19, 23]), (oM 2 (.t 27) [24, 19, 0, 1, 2, 3, 4, 5, 6, 7, 8, 9, 10, 11, 12, 13, 14, 15, 16, 17, 18, 19, 20, 21, 22, 23, 24])]
def srec_Line_right_i2 : IR := .ret
def srec_Line_right_i3 : IR := (.seq (.reg false srec_Line_right_i1) srec_Line_right_i2)
def srec_Line_right_ir : IR := (.seq (.reg false srec_Line_right_i0) srec_Line_right_i3)
theorem srec_Line_right_cfn : cFn Try.prog 30 = some (srec_Line_right_ir, [(.t 2)], 28) := by kernel_rfl
def srec_Line_right_V (r : (Bool)) : V := .s (.bool r)
def srec_Line_right_C (r : (Bool)) : X → Fr → Hp → Prop := FinL [(.t 2)] [] (srec_Line_right_V r) []
theorem srec_Line_right_ok (l_ : srec_Line) (r : (Bool)) (h : srec_Line_right l_ = some r) : Pure Try.prog 30 [.agg [.s (.int .i64 l_.Kind), .s (.int .u16 l_.At), .sl false l_.B.length (cat (nI .u8) l_.B)]] (srec_Line_right_V r) := by
  refine ConL.of srec_Line_right_cfn (Nat.le_of_ble_eq_true (by kernel_rfl)) (Nat.le_of_ble_eq_true (by kernel_rfl)) ?_
  refine k_start ?_
  show dwv Try.prog [] srec_Line_right_ir (kont Try.prog [] (srec_Line_right_C r) []) (fr0 [.agg [.s (.int .i64 l_.Kind), .s (.int .u16 l_.At), .sl false l_.B.length (cat (nI .u8) l_.B)]]) []
  have hf : FOk (fr0 [.agg [.s (.int .i64 l_.Kind), .s (.int .u16 l_.At), .sl false l_.B.length (cat (nI .u8) l_.B)]]) [⟨0, [], .agg [.s (.int .i64 l_.Kind), .s (.int .u16 l_.At), .sl false l_.B.length (cat (nI .u8) l_.B)]⟩] := ⟨⟨fun _ => rfl, fun h => (h trivial).elim⟩, trivial⟩
  generalize fr0 [.agg [.s (.int .i64 l_.Kind), .s (.int .u16 l_.At), .sl false l_.B.length (cat (nI .u8) l_.B)]] = f at hf ⊢
  unfold srec_Line_right at h
  refine k_seq ?_
  refine k_reg ?_
  refine mops_en hf (by kernel_rfl) fun f1 hf1 => ?_
  refine k_c ?_
  refine k_seq ?_
  refine k_reg ?_
  refine mops_en hf1 (by kernel_rfl) fun f2 hf2 => ?_
  refine k_c ?_
  refine k_ret ?_
  obtain rfl := Option.some.inj h
  exact k_fin (fin_ret (.inl rfl) hf2 (vs := [.s (.bool ((((l_.Kind == 0) || (l_.Kind == 1)) || ((l_.Kind == 9) && ((ln l_.B) == 0))) && (decide ((ln l_.B) ≤ 252))))]) (by kernel_rfl) (SettL.pure (FzL.stat rfl)))
def spinetref02_Value_i0 : List Op1 := [(oM 2 (.k (.int .i64 0)) [])]
def spinetref02_Value_i1 : List Op1 := [(oM 3 (.t 0) []), (oE 4 (.bin .geq (.t 3) (.k (.int .u8 48))) [0]), (oM 5 (.t 4) [1]), (oG 6 (.mv (.t 0)) 5 true [2]), (oG 7 (.bin .leq (.t 6) (.k (.int .u8 57))) 5 true [3, 2]), (oE 8 (.pick (.t 5) (.t 7) (.k (.bool false))) [2, 4])]
def spinetref02_Value_i2 : List Op1 := [(oM 9 (.t 0) []), (oE 10 (.cint .i64 (.t 9)) [0]), (oE 11 (.bin .sub (.t 10) (.k (.int .i64 48))) [1]), (oM 2 (.t 11) [2, 0, 1, 2])]
def spinetref02_Value_i3 : IR := .ret
def spinetref02_Value_i4 : IR := (.cond (.t 8) (.seq (.reg false spinetref02_Value_i2) spinetref02_Value_i3) .skip)
def spinetref02_Value_i5 : List Op1 := [(oM 12 (.t 0) []), (oE 13 (.bin .geq (.t 12) (.k (.int .u8 65))) [0]), (oM 14 (.t 13) [1]), (oG 15 (.mv (.t 0)) 14 true [2]), (oG 16 (.bin .leq (.t 15) (.k (.int .u8 70))) 14 true [3, 2]), (oE 17 (.pick (.t 14) (.t 16) (.k (.bool false))) [2, 4])]
def spinetref02_Value_i6 : List Op1 := [(oM 18 (.t 0) []), (oE 19 (.cint .i64 (.t 18)) [0]), (oE 20 (.bin .sub (.t 19) (.k (.int .i64 55))) [1]), (oM 2 (.t 20) [2, 0, 1, 2])]
def spinetref02_Value_i7 : IR := .ret
def spinetref02_Value_i8 : IR := (.cond (.t 17) (.seq (.reg false spinetref02_Value_i6) spinetref02_Value_i7) .skip)
def spinetref02_Value_i9 : List Op1 := [(oM 21 (.t 0) []), (oE 22 (.bin .geq (.t 21) (.k (.int .u8 97))) [0]), (oM 23 (.t 22) [1]), (oG 24 (.mv (.t 0)) 23 true [2]), (oG 25 (.bin .leq (.t 24) (.k (.int .u8 102))) 23 true [3, 2]), (oE 26 (.pick (.t 23) (.t 25) (.k (.bool false))) [2, 4])]
def spinetref02_Value_i10 : List Op1 := [(oM 27 (.t 0) []), (oE 28 (.cint .i64 (.t 27)) [0]), (oE 29 (.bin .sub (.t 28) (.k (.int .i64 87))) [1]), (oM 2 (.t 29) [2, 0, 1, 2])]
def spinetref02_Value_i11 : IR := .ret
def spinetref02_Value_i12 : IR := (.cond (.t 26) (.seq (.reg false spinetref02_Value_i10) spinetref02_Value_i11) .skip)
def spinetref02_Value_i13 : List Op1 := [(oM 2 (.k (.int .i64 99)) [])]
def spinetref02_Value_i14 : IR := .ret
def spinetref02_Value_i15 : IR := (.seq (.reg false spinetref02_Value_i13) spinetref02_Value_i14)
def spinetref02_Value_i16 : IR := (.seq (.seq (.reg false spinetref02_Value_i9) spinetref02_Value_i12) spinetref02_Value_i15)
def spinetref02_Value_i17 : IR := (.seq (.seq (.reg false spinetref02_Value_i5) spinetref02_Value_i8) spinetref02_Value_i16)
def spinetref02_Value_i18 : IR := (.seq (.seq (.reg false spinetref02_Value_i1) spinetref02_Value_i4) spinetref02_Value_i17)
def spinetref02_Value_ir : IR := (.seq (.reg false spinetref02_Value_i0) spinetref02_Value_i18)
theorem spinetref02_Value_cfn : cFn Try.prog 56 = some (spinetref02_Value_ir, [(.t 2)], 30) := by kernel_rfl
def spinetref02_Value_V (r : (Int)) : V := .s (.int .i64 r)
def spinetref02_Value_C (r : (Int)) : X → Fr → Hp → Prop := FinL [(.t 2)] [] (spinetref02_Value_V r) []
theorem spinetref02_Value_ok (c_ : Int) (r : (Int)) (h : spinetref02_Value c_ = some r) : Pure Try.prog 56 [.s (.int .u8 c_)] (spinetref02_Value_V r) := by
  refine ConL.of spinetref02_Value_cfn (Nat.le_of_ble_eq_true (by kernel_rfl)) (Nat.le_of_ble_eq_true (by kernel_rfl)) ?_
  refine k_start ?_
  show dwv Try.prog [] spinetref02_Value_ir (kont Try.prog [] (spinetref02_Value_C r) []) (fr0 [.s (.int .u8 c_)]) []
  have hf : FOk (fr0 [.s (.int .u8 c_)]) [⟨0, [], .s (.int .u8 c_)⟩] := ⟨⟨fun _ => rfl, fun h => (h trivial).elim⟩, trivial⟩
  generalize fr0 [.s (.int .u8 c_)] = f at hf ⊢
  unfold spinetref02_Value at h
  refine k_seq ?_
  refine k_reg ?_
  refine mops_en hf (by kernel_rfl) fun f1 hf1 => ?_
  refine k_c ?_
  refine k_seq ?_
  refine k_seq ?_
  refine k_reg ?_
  refine mops_en hf1 (by kernel_rfl) fun f2 hf2 => ?_
  refine k_c ?_
  refine k_cond hf2 (t := ((decide (48 ≤ c_)) && (decide (c_ ≤ 57)))) (by kernel_rfl) (fun hc1 => ?_) (fun hc1 => ?_)
  · have h := if_t h hc1
    refine k_seq ?_
    refine k_reg ?_
    refine mops_en hf2 (by kernel_rfl) fun f3 hf3 => ?_
    refine k_c ?_
    refine k_ret ?_
    refine x_c nofun ?_
    obtain rfl := Option.some.inj h
    exact k_fin (fin_ret (.inl rfl) hf3 (vs := [.s (.int .i64 (IntKind.wrap .i64 ((IntKind.wrap .i64 c_) - 48)))]) (by kernel_rfl) (SettL.pure (FzL.stat rfl)))
  · have h := if_f h hc1
    refine k_skip ?_
    refine k_c ?_
    refine k_seq ?_
    refine k_seq ?_
    refine k_reg ?_
    refine mops_en hf2 (by kernel_rfl) fun f3 hf3 => ?_
    refine k_c ?_
    refine k_cond hf3 (t := ((decide (65 ≤ c_)) && (decide (c_ ≤ 70)))) (by kernel_rfl) (fun hc2 => ?_) (fun hc2 => ?_)
    · have h := if_t h hc2
      refine k_seq ?_
      refine k_reg ?_
      refine mops_en hf3 (by kernel_rfl) fun f4 hf4 => ?_
      refine k_c ?_
      refine k_ret ?_
      refine x_c nofun ?_
      obtain rfl := Option.some.inj h
      exact k_fin (fin_ret (.inl rfl) hf4 (vs := [.s (.int .i64 (IntKind.wrap .i64 ((IntKind.wrap .i64 c_) - 55)))]) (by kernel_rfl) (SettL.pure (FzL.stat rfl)))
    · have h := if_f h hc2
      refine k_skip ?_
      refine k_c ?_
      refine k_seq ?_
      refine k_seq ?_
      refine k_reg ?_
      refine mops_en hf3 (by kernel_rfl) fun f4 hf4 => ?_
      refine k_c ?_
      refine k_cond hf4 (t := ((decide (97 ≤ c_)) && (decide (c_ ≤ 102)))) (by kernel_rfl) (fun hc3 => ?_) (fun hc3 => ?_)
      · have h := if_t h hc3
        refine k_seq ?_
        refine k_reg ?_
        refine mops_en hf4 (by kernel_rfl) fun f5 hf5 => ?_
        refine k_c ?_
        refine k_ret ?_
        refine x_c nofun ?_
        obtain rfl := Option.some.inj h
        exact k_fin (fin_ret (.inl rfl) hf5 (vs := [.s (.int .i64 (IntKind.wrap .i64 ((IntKind.wrap .i64 c_) - 87)))]) (by kernel_rfl) (SettL.pure (FzL.stat rfl)))
      · have h := if_f h hc3
        refine k_skip ?_
        refine k_c ?_
        refine k_seq ?_
        refine k_reg ?_
        refine mops_en hf4 (by kernel_rfl) fun f5 hf5 => ?_
        refine k_c ?_
        refine k_ret ?_
        obtain rfl := Option.some.inj h
        exact k_fin (fin_ret (.inl rfl) hf5 (vs := [.s (.int .i64 99)]) (by kernel_rfl) (SettL.pure (FzL.stat rfl)))
def bytes_Equal_i0 : List Op1 := [(oM 4 (.k (.bool false)) [])]
def bytes_Equal_i1 : List Op1 := [(oM 5 (.t 0) []), (oE 6 (.bstr (.t 5)) [0]), (oM 7 (.t 1) []), (oE 8 (.bstr (.t 7)) [2]), (oE 9 (.bin .eql (.t 6) (.t 8)) [1, 3]), (oM 4 (.t 9) [4, 0, 1, 2, 3, 4])]
def bytes_Equal_i2 : IR := .ret
def bytes_Equal_i3 : IR := (.seq (.reg false bytes_Equal_i1) bytes_Equal_i2)
def bytes_Equal_ir : IR := (.seq (.reg false bytes_Equal_i0) bytes_Equal_i3)
theorem bytes_Equal_cfn : cFn Try.prog 14 = some (bytes_Equal_ir, [(.t 4)], 10) := by kernel_rfl
def bytes_Equal_V (r : (Bool)) : V := .s (.bool r)
def bytes_Equal_C (r : (Bool)) : X → Fr → Hp → Prop := FinL [(.t 4)] [] (bytes_Equal_V r) []
theorem bytes_Equal_ok (a_ : (List Int)) (b_ : (List Int)) (r : (Bool)) (h : bytes_Equal a_ b_ = some r) : Pure Try.prog 14 [.sl false a_.length (cat (nI .u8) a_), .sl false b_.length (cat (nI .u8) b_)] (bytes_Equal_V r) := by
  refine ConL.of bytes_Equal_cfn (Nat.le_of_ble_eq_true (by kernel_rfl)) (Nat.le_of_ble_eq_true (by kernel_rfl)) ?_
  refine k_start ?_
  show dwv Try.prog [] bytes_Equal_ir (kont Try.prog [] (bytes_Equal_C r) []) (fr0 [.sl false a_.length (cat (nI .u8) a_), .sl false b_.length (cat (nI .u8) b_)]) []
  have hf : FOk (fr0 [.sl false a_.length (cat (nI .u8) a_), .sl false b_.length (cat (nI .u8) b_)]) [⟨0, [], .sl false a_.length (cat (nI .u8) a_)⟩, ⟨1, [], .sl false b_.length (cat (nI .u8) b_)⟩] := ⟨⟨fun _ => rfl, fun h => (h trivial).elim⟩, ⟨fun _ => rfl, fun h => (h trivial).elim⟩, trivial⟩
  generalize fr0 [.sl false a_.length (cat (nI .u8) a_), .sl false b_.length (cat (nI .u8) b_)] = f at hf ⊢
  unfold bytes_Equal at h
  refine k_seq ?_
  refine k_reg ?_
  refine mops_en hf (by kernel_rfl) fun f1 hf1 => ?_
  refine k_c ?_
  refine k_seq ?_
  refine k_reg ?_
  refine mops_sg 1 hf1 (by kernel_rfl) fun f2 hf2 => ?_
  refine mops_adv rfl (v := .s (.string (bs a_))) hf2 (by kernel_rfl) (e_bstr (q := a_) (slc_ev (v := .sl false a_.length (cat (nI .u8) a_)) (by kernel_rfl) (slc_sl (g := (nI .u8)) a_))) fun f3 hf3 => ?_
  refine mops_sg 1 hf3 (by kernel_rfl) fun f4 hf4 => ?_
  refine mops_adv rfl (v := .s (.string (bs b_))) hf4 (by kernel_rfl) (e_bstr (q := b_) (slc_ev (v := .sl false b_.length (cat (nI .u8) b_)) (by kernel_rfl) (slc_sl (g := (nI .u8)) b_))) fun f5 hf5 => ?_
  refine mops_en hf5 (by kernel_rfl) fun f6 hf6 => ?_
  refine k_c ?_
  refine k_ret ?_
  obtain rfl := Option.some.inj h
  exact k_fin (fin_ret (.inl rfl) hf6 (vs := [.s (.bool ((bs a_).toList == (bs b_).toList))]) (by kernel_rfl) (SettL.pure (FzL.stat rfl)))
def octet_High_i0 : List Op1 := [(oM 2 (.k (.int .u8 0)) [])]
def octet_High_i1 : List Op1 := [(oM 3 (.t 0) []), (oE 4 (.bin .shr (.t 3) (.k (.int .u64 8))) [0]), (oE 5 (.cint .u8 (.t 4)) [1]), (oM 2 (.t 5) [2, 0, 1, 2])]
def octet_High_i2 : IR := .ret
def octet_High_i3 : IR := (.seq (.reg false octet_High_i1) octet_High_i2)
def octet_High_ir : IR := (.seq (.reg false octet_High_i0) octet_High_i3)
theorem octet_High_cfn : cFn Try.prog 32 = some (octet_High_ir, [(.t 2)], 6) := by kernel_rfl
def octet_High_V (r : (Int)) : V := .s (.int .u8 r)
def octet_High_C (r : (Int)) : X → Fr → Hp → Prop := FinL [(.t 2)] [] (octet_High_V r) []
theorem octet_High_ok (w_ : Int) (r : (Int)) (h : octet_High w_ = some r) : Pure Try.prog 32 [.s (.int .u16 w_)] (octet_High_V r) := by
  refine ConL.of octet_High_cfn (Nat.le_of_ble_eq_true (by kernel_rfl)) (Nat.le_of_ble_eq_true (by kernel_rfl)) ?_
  refine k_start ?_
  show dwv Try.prog [] octet_High_ir (kont Try.prog [] (octet_High_C r) []) (fr0 [.s (.int .u16 w_)]) []
  have hf : FOk (fr0 [.s (.int .u16 w_)]) [⟨0, [], .s (.int .u16 w_)⟩] := ⟨⟨fun _ => rfl, fun h => (h trivial).elim⟩, trivial⟩
  generalize fr0 [.s (.int .u16 w_)] = f at hf ⊢
  unfold octet_High at h
  refine k_seq ?_
  refine k_reg ?_
  refine mops_en hf (by kernel_rfl) fun f1 hf1 => ?_
  refine k_c ?_
  refine k_seq ?_
  refine k_reg ?_
  refine mops_en hf1 (by kernel_rfl) fun f2 hf2 => ?_
  refine k_c ?_
  refine k_ret ?_
  obtain rfl := Option.some.inj h
  exact k_fin (fin_ret (.inl rfl) hf2 (vs := [.s (.int .u8 (IntKind.wrap .u8 (Int.fdiv w_ (2 ^ (8)))))]) (by kernel_rfl) (SettL.pure (FzL.stat rfl)))
def octet_Low_i0 : List Op1 := [(oM 2 (.k (.int .u8 0)) [])]
def octet_Low_i1 : List Op1 := [(oM 3 (.t 0) []), (oE 4 (.cint .u8 (.t 3)) [0]), (oM 2 (.t 4) [1, 0, 1])]
def octet_Low_i2 : IR := .ret
def octet_Low_i3 : IR := (.seq (.reg false octet_Low_i1) octet_Low_i2)
def octet_Low_ir : IR := (.seq (.reg false octet_Low_i0) octet_Low_i3)
theorem octet_Low_cfn : cFn Try.prog 33 = some (octet_Low_ir, [(.t 2)], 5) := by kernel_rfl
def octet_Low_V (r : (Int)) : V := .s (.int .u8 r)
def octet_Low_C (r : (Int)) : X → Fr → Hp → Prop := FinL [(.t 2)] [] (octet_Low_V r) []
theorem octet_Low_ok (w_ : Int) (r : (Int)) (h : octet_Low w_ = some r) : Pure Try.prog 33 [.s (.int .u16 w_)] (octet_Low_V r) := by
  refine ConL.of octet_Low_cfn (Nat.le_of_ble_eq_true (by kernel_rfl)) (Nat.le_of_ble_eq_true (by kernel_rfl)) ?_
  refine k_start ?_
  show dwv Try.prog [] octet_Low_ir (kont Try.prog [] (octet_Low_C r) []) (fr0 [.s (.int .u16 w_)]) []
  have hf : FOk (fr0 [.s (.int .u16 w_)]) [⟨0, [], .s (.int .u16 w_)⟩] := ⟨⟨fun _ => rfl, fun h => (h trivial).elim⟩, trivial⟩
  generalize fr0 [.s (.int .u16 w_)] = f at hf ⊢
  unfold octet_Low at h
  refine k_seq ?_
  refine k_reg ?_
  refine mops_en hf (by kernel_rfl) fun f1 hf1 => ?_
  refine k_c ?_
  refine k_seq ?_
  refine k_reg ?_
  refine mops_en hf1 (by kernel_rfl) fun f2 hf2 => ?_
  refine k_c ?_
  refine k_ret ?_
  obtain rfl := Option.some.inj h
  exact k_fin (fin_ret (.inl rfl) hf2 (vs := [.s (.int .u8 (IntKind.wrap .u8 w_))]) (by kernel_rfl) (SettL.pure (FzL.stat rfl)))
def digit_sign_i0 : List Op1 := [(oM 2 (.k (.int .u8 0)) [])]
def digit_sign_i1 : List Op1 := [(oM 3 (.t 0) []), (oE 4 (.bin .lss (.t 3) (.k (.int .u8 10))) [0])]
def digit_sign_i2 : List Op1 := [(oM 5 (.t 0) []), (oE 6 (.bin .add (.k (.int .u8 48)) (.t 5)) [0]), (oM 2 (.t 6) [1, 0, 1])]
def digit_sign_i3 : IR := .ret
def digit_sign_i4 : IR := (.cond (.t 4) (.seq (.reg false digit_sign_i2) digit_sign_i3) .skip)
def digit_sign_i5 : List Op1 := [(oM 7 (.t 0) []), (oE 8 (.bin .add (.k (.int .u8 65)) (.t 7)) [0]), (oE 9 (.bin .sub (.t 8) (.k (.int .u8 10))) [1]), (oM 2 (.t 9) [2, 0, 1, 2])]
def digit_sign_i6 : IR := .ret
def digit_sign_i7 : IR := (.seq (.reg false digit_sign_i5) digit_sign_i6)
def digit_sign_i8 : IR := (.seq (.seq (.reg false digit_sign_i1) digit_sign_i4) digit_sign_i7)
def digit_sign_ir : IR := (.seq (.reg false digit_sign_i0) digit_sign_i8)
theorem digit_sign_cfn : cFn Try.prog 50 = some (digit_sign_ir, [(.t 2)], 10) := by kernel_rfl
def digit_sign_V (r : (Int)) : V := .s (.int .u8 r)
def digit_sign_C (r : (Int)) : X → Fr → Hp → Prop := FinL [(.t 2)] [] (digit_sign_V r) []
theorem digit_sign_ok (n_ : Int) (r : (Int)) (h : digit_sign n_ = some r) : Pure Try.prog 50 [.s (.int .u8 n_)] (digit_sign_V r) := by
  refine ConL.of digit_sign_cfn (Nat.le_of_ble_eq_true (by kernel_rfl)) (Nat.le_of_ble_eq_true (by kernel_rfl)) ?_
  refine k_start ?_
  show dwv Try.prog [] digit_sign_ir (kont Try.prog [] (digit_sign_C r) []) (fr0 [.s (.int .u8 n_)]) []
  have hf : FOk (fr0 [.s (.int .u8 n_)]) [⟨0, [], .s (.int .u8 n_)⟩] := ⟨⟨fun _ => rfl, fun h => (h trivial).elim⟩, trivial⟩
  generalize fr0 [.s (.int .u8 n_)] = f at hf ⊢
  unfold digit_sign at h
  refine k_seq ?_
  refine k_reg ?_
  refine mops_en hf (by kernel_rfl) fun f1 hf1 => ?_
  refine k_c ?_
  refine k_seq ?_
  refine k_seq ?_
  refine k_reg ?_
  refine mops_en hf1 (by kernel_rfl) fun f2 hf2 => ?_
  refine k_c ?_
  refine k_cond hf2 (t := (decide (n_ < 10))) (by kernel_rfl) (fun hc1 => ?_) (fun hc1 => ?_)
  · have h := if_t h hc1
    refine k_seq ?_
    refine k_reg ?_
    refine mops_en hf2 (by kernel_rfl) fun f3 hf3 => ?_
    refine k_c ?_
    refine k_ret ?_
    refine x_c nofun ?_
    obtain rfl := Option.some.inj h
    exact k_fin (fin_ret (.inl rfl) hf3 (vs := [.s (.int .u8 (IntKind.wrap .u8 (48 + n_)))]) (by kernel_rfl) (SettL.pure (FzL.stat rfl)))
  · have h := if_f h hc1
    refine k_skip ?_
    refine k_c ?_
    refine k_seq ?_
    refine k_reg ?_
    refine mops_en hf2 (by kernel_rfl) fun f3 hf3 => ?_
    refine k_c ?_
    refine k_ret ?_
    obtain rfl := Option.some.inj h
    exact k_fin (fin_ret (.inl rfl) hf3 (vs := [.s (.int .u8 (IntKind.wrap .u8 ((IntKind.wrap .u8 (65 + n_)) - 10)))]) (by kernel_rfl) (SettL.pure (FzL.stat rfl)))
def spinetref02_Digits_i0 : List Op1 := [(oM 6 (.k (.string ⟨#[]⟩)) [])]
def spinetref02_Digits_i1 : List Op1 := [(oM 7 (.k (.string ⟨#[]⟩)) [])]
def spinetref02_Digits_i2 : List Op1 := [(oM 9 (.t 0) []), (oE 10 (.bin .gtr (.t 9) (.k (.int .u64 0))) [0]), (oM 11 (.t 10) [1]), (oG 12 (.mv (.t 7)) 11 false [2]), (oG 13 (.lens (.t 12)) 11 false [3, 2]), (oG 14 (.mv (.t 2)) 11 false [2]), (oG 15 (.bin .lss (.t 13) (.t 14)) 11 false [4, 5, 2]), (oE 16 (.pick (.t 11) (.k (.bool true)) (.t 15)) [2, 6]), (oM 17 (.t 16) [7, 2]), (oG 18 (.mv (.t 7)) 17 false [8]), (oG 19 (.bin .eql (.t 18) (.k (.string ⟨#[]⟩))) 17 false [9, 8]), (oE 20 (.pick (.t 17) (.k (.bool true)) (.t 19)) [8, 10])]
def spinetref02_Digits_i3 : IR := (.cond (.t 20) .skip (.exit 0))
def spinetref02_Digits_i4 : List Op1 := [(oM 21 (.t 0) []), (oM 22 (.t 1) []), (oE 23 (.bin .rem (.t 21) (.t 22)) [0, 1]), (oE 24 (.cint .i64 (.t 23)) [2]), (oM 8 (.t 24) [3, 0, 1, 2, 3])]
def spinetref02_Digits_i5 : List Op1 := [(oM 25 (.t 8) []), (oM 26 (.t 8) []), (oE 27 (.bin .add (.t 26) (.k (.int .i64 1))) [1]), (oE 28 (.sstr (.k (.string ⟨#[48, 49, 50, 51, 52, 53, 54, 55, 56, 57, 65, 66, 67, 68, 69, 70]⟩)) (some (.t 25)) (some (.t 27))) [0, 2]), (oM 29 (.t 7) []), (oE 30 (.bin .add (.t 28) (.t 29)) [3, 4]), (oM 7 (.t 30) [5, 0, 1, 2, 3, 4, 5])]
def spinetref02_Digits_i6 : List Op1 := [(oM 31 (.t 0) []), (oM 32 (.t 1) []), (oE 33 (.bin .quo (.t 31) (.t 32)) [0, 1]), (oM 0 (.t 33) [2, 0, 1, 2])]
def spinetref02_Digits_i7 : IR := (.reg false spinetref02_Digits_i6)
def spinetref02_Digits_i8 : IR := (.seq (.reg false spinetref02_Digits_i5) spinetref02_Digits_i7)
def spinetref02_Digits_i9 : IR := (.block 1 (.seq (.reg false spinetref02_Digits_i4) spinetref02_Digits_i8))
def spinetref02_Digits_i10 : IR := (.seq (.seq (.reg false spinetref02_Digits_i2) spinetref02_Digits_i3) spinetref02_Digits_i9)
def spinetref02_Digits_i11 : List Op1 := [(oM 34 (.t 7) []), (oM 6 (.t 34) [0, 0])]
def spinetref02_Digits_i12 : IR := .ret
def spinetref02_Digits_i13 : IR := (.seq (.reg false spinetref02_Digits_i11) spinetref02_Digits_i12)
def spinetref02_Digits_i14 : IR := (.seq (.block 0 (.loop spinetref02_Digits_i10)) spinetref02_Digits_i13)
def spinetref02_Digits_i15 : IR := (.seq (.reg false spinetref02_Digits_i1) spinetref02_Digits_i14)
def spinetref02_Digits_ir : IR := (.seq (.reg false spinetref02_Digits_i0) spinetref02_Digits_i15)
theorem spinetref02_Digits_cfn : cFn Try.prog 36 = some (spinetref02_Digits_ir, [(.t 6)], 35) := by kernel_rfl
def spinetref02_Digits_V (r : (ByteArray)) : V := .s (.string r)
def spinetref02_Digits_C (r : (ByteArray)) : X → Fr → Hp → Prop := FinL [(.t 6)] [] (spinetref02_Digits_V r) []
theorem spinetref02_Digits_ok (n_ : Int) (base_ : Int) (width_ : Int) (r : (ByteArray)) (h : spinetref02_Digits n_ base_ width_ = some r) : Pure Try.prog 36 [.s (.int .u64 n_), .s (.int .u64 base_), .s (.int .i64 width_)] (spinetref02_Digits_V r) := by
  refine ConL.of spinetref02_Digits_cfn (Nat.le_of_ble_eq_true (by kernel_rfl)) (Nat.le_of_ble_eq_true (by kernel_rfl)) ?_
  refine k_start ?_
  show dwv Try.prog [] spinetref02_Digits_ir (kont Try.prog [] (spinetref02_Digits_C r) []) (fr0 [.s (.int .u64 n_), .s (.int .u64 base_), .s (.int .i64 width_)]) []
  have hf : FOk (fr0 [.s (.int .u64 n_), .s (.int .u64 base_), .s (.int .i64 width_)]) [⟨0, [], .s (.int .u64 n_)⟩, ⟨1, [], .s (.int .u64 base_)⟩, ⟨2, [], .s (.int .i64 width_)⟩] := ⟨⟨fun _ => rfl, fun h => (h trivial).elim⟩, ⟨fun _ => rfl, fun h => (h trivial).elim⟩, ⟨fun _ => rfl, fun h => (h trivial).elim⟩, trivial⟩
  generalize fr0 [.s (.int .u64 n_), .s (.int .u64 base_), .s (.int .i64 width_)] = f at hf ⊢
  unfold spinetref02_Digits at h
  refine k_seq ?_
  refine k_reg ?_
  refine mops_en hf (by kernel_rfl) fun f1 hf1 => ?_
  refine k_c ?_
  refine k_seq ?_
  refine k_reg ?_
  refine mops_en hf1 (by kernel_rfl) fun f2 hf2 => ?_
  refine k_c ?_
  refine k_seq ?_
  refine k_block ?_
  obtain ⟨o0, hx0, h⟩ := Option.bind_eq_some_iff.1 h
  have hgo0 : ∀ (s_2 : ByteArray), s_2 = o0 → ∀ f, FOk f [⟨6, [], .s (.string (⟨#[]⟩ : ByteArray))⟩, ⟨7, [], .s (.string s_2)⟩] → kont Try.prog [] (spinetref02_Digits_C r) ((.c spinetref02_Digits_i13) :: []) .normal f [] := by
    intro s_2 e f hf
    subst e
    refine k_c ?_
    refine k_seq ?_
    refine k_reg ?_
    refine mops_en hf (by kernel_rfl) fun f1 hf1 => ?_
    refine k_c ?_
    refine k_ret ?_
    obtain rfl := Option.some.inj h
    exact k_fin (fin_ret (.inl rfl) hf1 (vs := [.s (.string s_2)]) (by kernel_rfl) (SettL.pure (FzL.stat rfl)))
  refine k_loop BIG ?_
  refine loop_ind (fun n f L => ∃ (t_1 : Int) (s_1 : ByteArray), spinetref02_Digits_l0 base_ width_ n t_1 s_1 = some o0 ∧ FOk f [⟨0, [], .s (.int .u64 t_1)⟩, ⟨1, [], .s (.int .u64 base_)⟩, ⟨2, [], .s (.int .i64 width_)⟩, ⟨6, [], .s (.string (⟨#[]⟩ : ByteArray))⟩, ⟨7, [], .s (.string s_1)⟩] ∧ L = []) ?_ ?_ BIG _ _ ⟨n_, (⟨#[]⟩ : ByteArray), hx0, FOk_of [0, 1, 2, 6, 7] hf2 (by kernel_rfl), (by kernel_rfl)⟩
  · rintro f L ⟨t_1, s_1, h, _⟩
    cases (show (none : Option _) = some _ from h)
  · rintro n0 R0 ih f L ⟨t_1, s_1, h, hf, rfl⟩
    rw [spinetref02_Digits_l0] at h
    refine k_seq ?_
    refine k_seq ?_
    refine k_reg ?_
    refine mops_en hf (by kernel_rfl) fun f1 hf1 => ?_
    refine k_c ?_
    refine k_cond hf1 (t := (((decide (0 < t_1)) || (decide ((sln s_1) < width_))) || (s_1.toList == (⟨#[]⟩ : ByteArray).toList))) (by kernel_rfl) (fun hc1 => ?_) (fun hc1 => ?_)
    · have h := if_t h hc1
      refine k_skip ?_
      refine k_c ?_
      refine k_block ?_
      refine k_seq ?_
      refine k_reg ?_
      refine mops_sg 2 hf1 (by kernel_rfl) fun f2 hf2 => ?_
      obtain ⟨c2, h⟩ := as_ok h
      refine mops_adv rfl (v := .s (.int .u64 (Int.tmod t_1 base_))) hf2 (by kernel_rfl) (e_rem (k := .u64) (iv := t_1) (jv := base_) (by kernel_rfl) (by kernel_rfl) c2) fun f3 hf3 => ?_
      refine mops_en hf3 (by kernel_rfl) fun f4 hf4 => ?_
      refine k_c ?_
      refine k_seq ?_
      refine k_reg ?_
      refine mops_sg 3 hf4 (by kernel_rfl) fun f5 hf5 => ?_
      obtain ⟨c3, h⟩ := as_ok h
      refine mops_adv rfl (v := .s (.string ((⟨#[48, 49, 50, 51, 52, 53, 54, 55, 56, 57, 65, 66, 67, 68, 69, 70]⟩ : ByteArray).extract ((IntKind.wrap .i64 (Int.tmod t_1 base_)) : Int).toNat ((IntKind.wrap .i64 ((IntKind.wrap .i64 (Int.tmod t_1 base_)) + 1)) : Int).toNat))) hf5 (by kernel_rfl) (e_sstr (t := (⟨#[48, 49, 50, 51, 52, 53, 54, 55, 56, 57, 65, 66, 67, 68, 69, 70]⟩ : ByteArray)) (by kernel_rfl) (b_ss (k := .i64) (k' := .i64) (iv := (IntKind.wrap .i64 (Int.tmod t_1 base_))) (jv := (IntKind.wrap .i64 ((IntKind.wrap .i64 (Int.tmod t_1 base_)) + 1))) (by kernel_rfl) (by kernel_rfl) c3)) fun f6 hf6 => ?_
      refine mops_sg 1 hf6 (by kernel_rfl) fun f7 hf7 => ?_
      obtain ⟨c4, h⟩ := as_ok h
      refine mops_adv rfl (v := .s (.string (((⟨#[48, 49, 50, 51, 52, 53, 54, 55, 56, 57, 65, 66, 67, 68, 69, 70]⟩ : ByteArray).extract ((IntKind.wrap .i64 (Int.tmod t_1 base_)) : Int).toNat ((IntKind.wrap .i64 ((IntKind.wrap .i64 (Int.tmod t_1 base_)) + 1)) : Int).toNat) ++ s_1))) hf7 (by kernel_rfl) (e_sadd (t := ((⟨#[48, 49, 50, 51, 52, 53, 54, 55, 56, 57, 65, 66, 67, 68, 69, 70]⟩ : ByteArray).extract ((IntKind.wrap .i64 (Int.tmod t_1 base_)) : Int).toNat ((IntKind.wrap .i64 ((IntKind.wrap .i64 (Int.tmod t_1 base_)) + 1)) : Int).toNat)) (t' := s_1) (by kernel_rfl) (by kernel_rfl) c4) fun f8 hf8 => ?_
      refine mops_en hf8 (by kernel_rfl) fun f9 hf9 => ?_
      refine k_c ?_
      refine k_reg ?_
      refine mops_sg 2 hf9 (by kernel_rfl) fun f10 hf10 => ?_
      obtain ⟨c5, h⟩ := as_ok h
      refine mops_adv rfl (v := .s (.int .u64 (IntKind.wrap .u64 (Int.tdiv t_1 base_)))) hf10 (by kernel_rfl) (e_quo (k := .u64) (iv := t_1) (jv := base_) (by kernel_rfl) (by kernel_rfl) c5) fun f11 hf11 => ?_
      refine mops_en hf11 (by kernel_rfl) fun f12 hf12 => ?_
      refine k_b ?_
      refine k_l ?_
      exact ih _ _ ⟨(IntKind.wrap .u64 (Int.tdiv t_1 base_)), (((⟨#[48, 49, 50, 51, 52, 53, 54, 55, 56, 57, 65, 66, 67, 68, 69, 70]⟩ : ByteArray).extract ((IntKind.wrap .i64 (Int.tmod t_1 base_)) : Int).toNat ((IntKind.wrap .i64 ((IntKind.wrap .i64 (Int.tmod t_1 base_)) + 1)) : Int).toNat) ++ s_1), h, FOk_of [0, 1, 2, 6, 7] hf12 (by kernel_rfl), (by kernel_rfl)⟩
    · have h := if_f h hc1
      refine k_exit ?_
      refine x_c nofun ?_
      refine x_l nofun ?_
      refine x_b ?_
      refine k_hp (L' := []) (by kernel_rfl) ?_
      exact hgo0 s_1 (Option.some.inj h) _ (FOk_of [6, 7] hf1 (by kernel_rfl))
end Go.Proofs.YtfdadnldlngmeaaK
