/- The Go functions come to the functions over typed data. Printed by a program of this work. -/
import Derived.Test.YtfdadnldlngmeaaF
import Derived.Test.YtfdadnldlngmeaaProg
import Derived.Test.YtfdadnldlngmeaaG2
namespace Go.Proofs.YtfdadnldlngmeaaK
set_option linter.unusedVariables false
set_option linter.unusedSimpArgs false
set_option maxHeartbeats 4000000
open Go.RowKit
attribute [local irreducible] dwv mops lops lqops lwops kont iter run runK rk okK ex E1 vals val chain chB sel resF
def spinetref40_Read_i0 : List Op1 := [(oE 2 (.zero [(.int .i64 0), (.int .u16 0), (.slice none 0 0)]) []), (oM 3 (.k (.int .i64 0)) [])]
def spinetref40_Read_i1 : List Op1 := [(oM 4 (.k (.int .i64 99)) [])]
def spinetref40_Read_i2 : List Op1 := [(oM 9 (.t 0) []), (oE 10 (.lens (.t 9)) [0]), (oE 11 (.bin .geq (.t 10) (.k (.int .i64 2))) [1]), (oM 12 (.t 11) [2]), (oG 13 (.mv (.t 0)) 12 true [3]), (oG 14 (.ixs (.t 13) (.k (.int .i64 0))) 12 true [4, 3]), (oG 15 (.bin .eql (.t 14) (.k (.int .u8 83))) 12 true [5, 3]), (oE 16 (.pick (.t 12) (.t 15) (.k (.bool false))) [3, 6])]
def spinetref40_Read_i3 : List Op1 := [(oM 17 (.t 0) []), (oE 18 (.ixs (.t 17) (.k (.int .i64 1))) [0]), (oE 19 (.cint .i64 (.t 18)) [1]), (oE 20 (.bin .sub (.t 19) (.k (.int .i64 48))) [2]), (oM 4 (.t 20) [3, 0, 1, 2, 3])]
def spinetref40_Read_i4 : IR := (.cond (.t 16) (.reg false spinetref40_Read_i3) .skip)
def spinetref40_Read_i5 : List Op1 := [(oM 21 (.t 4) []), (oE 22 (.bin .neq (.t 21) (.k (.int .i64 0))) [0]), (oM 23 (.t 22) [1]), (oG 24 (.mv (.t 4)) 23 true [2]), (oG 25 (.bin .neq (.t 24) (.k (.int .i64 1))) 23 true [3, 2]), (oE 26 (.pick (.t 23) (.t 25) (.k (.bool false))) [2, 4]), (oM 27 (.t 26) [5, 2]), (oG 28 (.mv (.t 4)) 27 true [6]), (oG 29 (.bin .neq (.t 28) (.k (.int .i64 9))) 27 true [7, 6]), (oE 30 (.pick (.t 27) (.t 29) (.k (.bool false))) [6, 8])]
def spinetref40_Read_i6 : List Op1 := [(oE 31 (.build [(.int .i64 0), (.int .u16 0), (.slice none 0 0)] []) []), (oN (.store 3 (.t 2) (.t 31)) [0, 0]), (oM 3 (.k (.int .i64 21)) [1, 0, 1])]
def spinetref40_Read_i7 : IR := .ret
def spinetref40_Read_i8 : IR := (.cond (.t 30) (.seq (.reg false spinetref40_Read_i6) spinetref40_Read_i7) .skip)
def spinetref40_Read_i9 : List Op1 := [(oM 33 (.t 0) []), (oE 34 (.sstr (.t 33) (some (.k (.int .i64 2))) none) [0]), (oC 35 31 [(.t 34)] [1]), (oM 32 (.t 35) [2]), (oE 36 (.ext 0 (.t 32)) [3]), (oE 37 (.ext 1 (.t 32)) [3]), (oM 5 (.t 36) [4, 2, 0, 1, 2, 3, 4]), (oM 6 (.t 37) [5, 6, 0, 1, 2, 3, 4, 5, 6])]
def spinetref40_Read_i10 : List Op1 := [(oM 38 (.t 6) []), (oE 39 (.bin .neq (.t 38) (.k (.int .i64 0))) [0]), (oM 40 (.t 39) [1]), (oG 41 (.mv (.t 5)) 40 false [2]), (oG 42 (.len (.t 41)) 40 false [3, 2]), (oG 43 (.bin .lss (.t 42) (.k (.int .i64 4))) 40 false [4, 2]), (oE 44 (.pick (.t 40) (.k (.bool true)) (.t 43)) [2, 5])]
def spinetref40_Read_i11 : List Op1 := [(oE 45 (.build [(.int .i64 0), (.int .u16 0), (.slice none 0 0)] []) []), (oN (.store 3 (.t 2) (.t 45)) [0, 0]), (oM 3 (.k (.int .i64 21)) [1, 0, 1])]
def spinetref40_Read_i12 : IR := .ret
def spinetref40_Read_i13 : IR := (.cond (.t 44) (.seq (.reg false spinetref40_Read_i11) spinetref40_Read_i12) .skip)
def spinetref40_Read_i14 : List Op1 := [(oM 46 (.t 5) []), (oE 47 (.ias 1 (.t 46) (.k (.int .i64 0))) [0]), (oE 48 (.load false 1 (.t 47)) [1]), (oE 49 (.cint .i64 (.t 48)) [2]), (oE 50 (.bin .add (.t 49) (.k (.int .i64 1))) [3]), (oM 51 (.t 5) []), (oE 52 (.len (.t 51)) [5]), (oE 53 (.bin .neq (.t 50) (.t 52)) [4, 6])]
def spinetref40_Read_i15 : List Op1 := [(oE 54 (.build [(.int .i64 0), (.int .u16 0), (.slice none 0 0)] []) []), (oN (.store 3 (.t 2) (.t 54)) [0, 0]), (oM 3 (.k (.int .i64 12)) [1, 0, 1])]
def spinetref40_Read_i16 : IR := .ret
def spinetref40_Read_i17 : IR := (.cond (.t 53) (.seq (.reg false spinetref40_Read_i15) spinetref40_Read_i16) .skip)
def spinetref40_Read_i18 : List Op1 := [(oM 7 (.k (.int .i64 0)) [])]
def spinetref40_Read_i19 : List Op1 := [(oM 8 (.k (.int .i64 0)) [])]
def spinetref40_Read_i20 : List Op1 := [(oM 55 (.t 8) []), (oM 56 (.t 5) []), (oE 57 (.len (.t 56)) [1]), (oE 58 (.bin .lss (.t 55) (.t 57)) [0, 2])]
def spinetref40_Read_i21 : IR := (.cond (.t 58) .skip (.exit 0))
def spinetref40_Read_i22 : List Op1 := [(oM 61 (.t 7) []), (oM 62 (.t 5) []), (oM 63 (.t 8) []), (oE 64 (.ias 1 (.t 62) (.t 63)) [1, 2]), (oE 65 (.load false 1 (.t 64)) [3]), (oE 66 (.cint .i64 (.t 65)) [4]), (oE 67 (.bin .add (.t 61) (.t 66)) [0, 5]), (oM 7 (.t 67) [6, 0, 1, 2, 3, 4, 5, 6])]
def spinetref40_Read_i23 : List Op1 := [(oM 59 (.t 8) []), (oE 60 (.bin .add (.t 59) (.k (.int .i64 1))) [0]), (oM 8 (.t 60) [1, 0, 1])]
def spinetref40_Read_i24 : IR := (.reg false spinetref40_Read_i23)
def spinetref40_Read_i25 : IR := (.seq (.block 1 (.reg false spinetref40_Read_i22)) spinetref40_Read_i24)
def spinetref40_Read_i26 : IR := (.seq (.seq (.reg false spinetref40_Read_i20) spinetref40_Read_i21) spinetref40_Read_i25)
def spinetref40_Read_i27 : IR := (.block 0 (.loop spinetref40_Read_i26))
def spinetref40_Read_i28 : List Op1 := [(oM 68 (.t 7) []), (oE 69 (.bin .rem (.t 68) (.k (.int .i64 256))) [0]), (oE 70 (.bin .neq (.t 69) (.k (.int .i64 255))) [1])]
def spinetref40_Read_i29 : List Op1 := [(oE 71 (.build [(.int .i64 0), (.int .u16 0), (.slice none 0 0)] []) []), (oN (.store 3 (.t 2) (.t 71)) [0, 0]), (oM 3 (.k (.int .i64 22)) [1, 0, 1])]
def spinetref40_Read_i30 : IR := .ret
def spinetref40_Read_i31 : IR := (.cond (.t 70) (.seq (.reg false spinetref40_Read_i29) spinetref40_Read_i30) .skip)
def spinetref40_Read_i32 : List Op1 := [(oM 72 (.t 4) []), (oE 73 (.bin .eql (.t 72) (.k (.int .i64 9))) [0]), (oM 74 (.t 73) [1]), (oG 75 (.mv (.t 5)) 74 true [2]), (oG 76 (.len (.t 75)) 74 true [3, 2]), (oG 77 (.bin .gtr (.t 76) (.k (.int .i64 4))) 74 true [4, 2]), (oE 78 (.pick (.t 74) (.t 77) (.k (.bool false))) [2, 5])]
def spinetref40_Read_i33 : List Op1 := [(oE 79 (.build [(.int .i64 0), (.int .u16 0), (.slice none 0 0)] []) []), (oN (.store 3 (.t 2) (.t 79)) [0, 0]), (oM 3 (.k (.int .i64 21)) [1, 0, 1])]
def spinetref40_Read_i34 : IR := .ret
def spinetref40_Read_i35 : IR := (.cond (.t 78) (.seq (.reg false spinetref40_Read_i33) spinetref40_Read_i34) .skip)
def spinetref40_Read_i36 : List An := [(aO (oM 80 (.t 4) []) false 0 0), (aO (oM 81 (.t 5) []) false 0 0), (aO (oE 82 (.ias 1 (.t 81) (.k (.int .i64 1))) [1]) false 0 0), (aO (oE 83 (.load false 1 (.t 82)) [2]) false 0 0), (aO (oE 84 (.cint .u16 (.t 83)) [3]) false 0 0), (aO (oE 85 (.bin .mul (.t 84) (.k (.int .u16 256))) [4]) false 0 0), (aO (oM 86 (.t 5) []) false 0 0), (aO (oE 87 (.ias 1 (.t 86) (.k (.int .i64 2))) [6]) false 0 0), (aO (oE 88 (.load false 1 (.t 87)) [7]) false 0 0), (aO (oE 89 (.cint .u16 (.t 88)) [8]) false 0 0), (aO (oE 90 (.bin .add (.t 85) (.t 89)) [5, 9]) false 0 0), (aO (oM 91 (.t 5) []) false 0 0), (aO (oM 92 (.t 5) []) false 0 0), (aO (oE 93 (.len (.t 92)) [12]) false 0 0), (aO (oE 94 (.bin .sub (.t 93) (.k (.int .i64 1))) [13]) false 0 0), (aO (oE 95 (.slice 1 (.t 91) (some (.k (.int .i64 3))) (some (.t 94))) [11, 14]) false 0 0), (aO (oE 96 (.build [(.int .i64 0), (.int .u16 0), (.slice none 0 0)] [(0, (1, (.t 80))), (1, (1, (.t 90))), (2, (1, (.t 95)))]) [0, 10, 15]) false 0 0), (aO (oN (.store 3 (.t 2) (.t 96)) [16, 0, 1, 2, 3, 4, 5, 6, 7, 8, 9, 10, 11, 12, 13, 14, 15, 16]) true 0 1), (aO (oM 3 (.k (.int .i64 0)) [17, 0, 1, 2, 3, 4, 5, 6, 7, 8, 9, 10, 11, 12, 13, 14, 15, 16, 17]) false 1 1)]
def spinetref40_Read_i37 : IR := .ret
def spinetref40_Read_i38 : IR := (.seq (.regw spinetref40_Read_i36) spinetref40_Read_i37)
def spinetref40_Read_i39 : IR := (.seq (.seq (.reg false spinetref40_Read_i32) spinetref40_Read_i35) spinetref40_Read_i38)
def spinetref40_Read_i40 : IR := (.seq (.seq (.reg false spinetref40_Read_i28) spinetref40_Read_i31) spinetref40_Read_i39)
def spinetref40_Read_i41 : IR := (.seq (.seq (.reg false spinetref40_Read_i19) spinetref40_Read_i27) spinetref40_Read_i40)
def spinetref40_Read_i42 : IR := (.seq (.reg false spinetref40_Read_i18) spinetref40_Read_i41)
def spinetref40_Read_i43 : IR := (.seq (.seq (.reg false spinetref40_Read_i14) spinetref40_Read_i17) spinetref40_Read_i42)
def spinetref40_Read_i44 : IR := (.seq (.seq (.reg false spinetref40_Read_i10) spinetref40_Read_i13) spinetref40_Read_i43)
def spinetref40_Read_i45 : IR := (.seq (.reg false spinetref40_Read_i9) spinetref40_Read_i44)
def spinetref40_Read_i46 : IR := (.seq (.seq (.reg false spinetref40_Read_i5) spinetref40_Read_i8) spinetref40_Read_i45)
def spinetref40_Read_i47 : IR := (.seq (.seq (.reg false spinetref40_Read_i2) spinetref40_Read_i4) spinetref40_Read_i46)
def spinetref40_Read_i48 : IR := (.seq (.reg false spinetref40_Read_i1) spinetref40_Read_i47)
def spinetref40_Read_ir : IR := (.seq (.reg false spinetref40_Read_i0) spinetref40_Read_i48)
theorem spinetref40_Read_cfn : cFn Try.prog 13 = some (spinetref40_Read_ir, [(.c 2 true 3), (.t 3)], 97) := by kernel_rfl
def spinetref40_Read_V (r : (spinetref40_Line × Int)) : V := .tup [.agg [.s (.int .i64 r.1.Kind), .s (.int .u16 r.1.At), .sl false r.1.B.length (cat (nI .u8) r.1.B)], .s (.int .i64 r.2)]
def spinetref40_Read_C (r : (spinetref40_Line × Int)) : X → Fr → Hp → Prop := FinL [(.c 2 true 3), (.t 3)] [] (spinetref40_Read_V r) []
theorem spinetref40_Read_ok (s_ : ByteArray) (r : (spinetref40_Line × Int)) (h : spinetref40_Read s_ = some r) : Pure Try.prog 13 [.s (.string s_)] (spinetref40_Read_V r) := by
  refine ConL.of spinetref40_Read_cfn (Nat.le_of_ble_eq_true (by kernel_rfl)) (Nat.le_of_ble_eq_true (by kernel_rfl)) ?_
  refine k_start ?_
  show dwv Try.prog [] spinetref40_Read_ir (kont Try.prog [] (spinetref40_Read_C r) []) (fr0 [.s (.string s_)]) []
  have hf : FOk (fr0 [.s (.string s_)]) [⟨0, [], .s (.string s_)⟩] := ⟨⟨fun _ => rfl, fun h => (h trivial).elim⟩, trivial⟩
  generalize fr0 [.s (.string s_)] = f at hf ⊢
  unfold spinetref40_Read at h
  refine k_seq ?_
  refine k_reg ?_
  refine mops_en hf (by kernel_rfl) fun f1 hf1 => ?_
  refine k_c ?_
  refine k_seq ?_
  refine k_reg ?_
  refine mops_en hf1 (by kernel_rfl) fun f2 hf2 => ?_
  refine k_c ?_
  refine k_seq ?_
  refine k_seq ?_
  refine k_reg ?_
  refine mops_sg 5 hf2 (by kernel_rfl) fun f3 hf3 => ?_
  obtain ⟨c1, h⟩ := as_ok h
  refine mops_gadv (dst := (some 14)) (op := (.ixs (.t 13) (.k (.int .i64 0)))) (aft := [4, 3]) (t := 12) (w := true) (ch := [(12, true)]) (b := (decide (2 ≤ (sln s_)))) (v := .s (.int .u8 (bt s_ (0)))) (by kernel_rfl) hf3 (by kernel_rfl) (by kernel_rfl) (by kernel_rfl) (fun hb2 => e_ixs (t := s_) (k := .i64) (iv := 0) (by kernel_rfl) (by kernel_rfl) (c1 hb2)) fun f4 hf4 => ?_
  refine mops_en hf4 (by kernel_rfl) fun f5 hf5 => ?_
  refine k_c ?_
  have hj1 : ∀ (kind_ : Int), spinetref40_Read_j0 s_ kind_ = some r → ∀ f, FOk f [⟨0, [], .s (.string s_)⟩, ⟨2, [], .ptr 0 0 0⟩, ⟨3, [], .s (.int .i64 0)⟩, ⟨4, [], .s (.int .i64 kind_)⟩] → kont Try.prog [] (spinetref40_Read_C r) ((.c spinetref40_Read_i46) :: []) .normal f [⟨0, .mem, 1, [.s (.int .i64 0), .s (.int .u16 0), .s (.slice none 0 0)]⟩] := by
    intro kind_ h f hf
    unfold spinetref40_Read_j0 at h
    refine k_c ?_
    refine k_seq ?_
    refine k_seq ?_
    refine k_reg ?_
    refine mops_en hf (by kernel_rfl) fun f1 hf1 => ?_
    refine k_c ?_
    refine k_cond hf1 (t := (((kind_ != 0) && (kind_ != 1)) && (kind_ != 9))) (by kernel_rfl) (fun hc5 => ?_) (fun hc5 => ?_)
    · have h := if_t h hc5
      refine k_seq ?_
      refine k_reg ?_
      refine mops_en hf1 (by kernel_rfl) fun f2 hf2 => ?_
      refine k_c ?_
      refine k_ret ?_
      refine x_c nofun ?_
      obtain rfl := Option.some.inj h
      exact k_fin (fin_ret (.inl rfl) hf2 (vs := [.agg [.s (.int .i64 0), .s (.int .u16 0), .s (.slice none 0 0)], .s (.int .i64 21)]) (by kernel_rfl) (SettL.pure (FzL.tup (FzsL.cons (FzL.agg (FzsL.cons (FzL.stat rfl) (FzsL.cons (FzL.stat rfl) (FzsL.cons FzL.nilsl FzsL.nil)))) (FzsL.cons (FzL.stat rfl) FzsL.nil)))))
    · have h := if_f h hc5
      refine k_skip ?_
      refine k_c ?_
      refine k_seq ?_
      refine k_reg ?_
      refine mops_sg 1 hf1 (by kernel_rfl) fun f2 hf2 => ?_
      obtain ⟨c6, h⟩ := as_ok h
      refine mops_adv rfl (v := .s (.string (s_.extract (2 : Int).toNat s_.size))) hf2 (by kernel_rfl) (e_sstr (t := s_) (by kernel_rfl) (b_sn (k := .i64) (iv := 2) (by kernel_rfl) c6)) fun f3 hf3 => ?_
      obtain ⟨r_, hx_r_, h⟩ := Option.bind_eq_some_iff.1 h
      refine mops_call rfl hf3 (av := [.s (.string (s_.extract (2 : Int).toNat s_.size))]) (by kernel_rfl) (v := .tup [.sl false r_.1.length (cat (nI .u8) r_.1), .s (.int .i64 r_.2)]) (CalL.pure (spinetref02_Unpair_ok (s_.extract (2 : Int).toNat s_.size) r_ hx_r_) rfl (by simp [V.static, statics, cat_stat, spinetref02_Unpair_V]) (Nat.le_of_ble_eq_true (by kernel_rfl))) (fun _ => rfl) fun f4 hf4 => ?_
      refine mops_en hf4 (by kernel_rfl) fun f5 hf5 => ?_
      refine k_c ?_
      refine k_seq ?_
      refine k_seq ?_
      refine k_reg ?_
      refine mops_en hf5 (by kernel_rfl) fun f6 hf6 => ?_
      refine k_c ?_
      refine k_cond hf6 (t := ((r_.2 != 0) || (decide ((ln r_.1) < 4)))) (by kernel_rfl) (fun hc7 => ?_) (fun hc7 => ?_)
      · have h := if_t h hc7
        refine k_seq ?_
        refine k_reg ?_
        refine mops_en hf6 (by kernel_rfl) fun f7 hf7 => ?_
        refine k_c ?_
        refine k_ret ?_
        refine x_c nofun ?_
        obtain rfl := Option.some.inj h
        exact k_fin (fin_ret (.inl rfl) hf7 (vs := [.agg [.s (.int .i64 0), .s (.int .u16 0), .s (.slice none 0 0)], .s (.int .i64 21)]) (by kernel_rfl) (SettL.pure (FzL.tup (FzsL.cons (FzL.agg (FzsL.cons (FzL.stat rfl) (FzsL.cons (FzL.stat rfl) (FzsL.cons FzL.nilsl FzsL.nil)))) (FzsL.cons (FzL.stat rfl) FzsL.nil)))))
      · have h := if_f h hc7
        refine k_skip ?_
        refine k_c ?_
        refine k_seq ?_
        refine k_seq ?_
        refine k_reg ?_
        refine mops_sg 1 hf6 (by kernel_rfl) fun f7 hf7 => ?_
        obtain ⟨c8, h⟩ := as_ok h
        refine mops_adv rfl (v := .ip ((cat (nI .u8) r_.1).drop ((0 : Int).toNat * 1))) hf7 (by kernel_rfl) (e_ias (n := r_.1.length) (xv := .sl false r_.1.length (cat (nI .u8) r_.1)) (k := .i64) (iv := 0) (p := .ip ((cat (nI .u8) r_.1).drop ((0 : Int).toNat * 1))) (by kernel_rfl) (by kernel_rfl) (by kernel_rfl) (by kernel_rfl) c8) fun f8 hf8 => ?_
        refine mops_adv rfl (v := .s (.int .u8 (gt r_.1 (0)))) hf8 (by kernel_rfl) (e_load_ip (g := (nI .u8)) (l := r_.1) (iv := 0) [] (by kernel_rfl) c8 (by kernel_rfl) (by kernel_rfl)) fun f9 hf9 => ?_
        refine mops_en hf9 (by kernel_rfl) fun f10 hf10 => ?_
        refine k_c ?_
        refine k_cond hf10 (t := ((IntKind.wrap .i64 ((IntKind.wrap .i64 (gt r_.1 (0))) + 1)) != (ln r_.1))) (by kernel_rfl) (fun hc9 => ?_) (fun hc9 => ?_)
        · have h := if_t h hc9
          refine k_seq ?_
          refine k_reg ?_
          refine mops_end [2, 3, 4, 5] hf10 (l' := [⟨2, [], .ptr 0 0 0⟩, ⟨3, [], .s (.int .i64 12)⟩, ⟨4, [], .s (.int .i64 kind_)⟩, ⟨5, [], .sl false r_.1.length (cat (nI .u8) r_.1)⟩]) (L' := [⟨0, .mem, 1, [.s (.int .i64 0), .s (.int .u16 0), .s (.slice none 0 0)]⟩]) (by kernel_rfl) fun f11 hf11 => ?_
          refine k_c ?_
          refine k_ret ?_
          refine x_c nofun ?_
          obtain rfl := Option.some.inj h
          exact k_fin (fin_ret (.inl rfl) hf11 (vs := [.agg [.s (.int .i64 0), .s (.int .u16 0), .s (.slice none 0 0)], .s (.int .i64 12)]) (by kernel_rfl) (SettL.pure (FzL.tup (FzsL.cons (FzL.agg (FzsL.cons (FzL.stat rfl) (FzsL.cons (FzL.stat rfl) (FzsL.cons FzL.nilsl FzsL.nil)))) (FzsL.cons (FzL.stat rfl) FzsL.nil)))))
        · have h := if_f h hc9
          refine k_skip ?_
          refine k_c ?_
          refine k_seq ?_
          refine k_reg ?_
          refine mops_en hf10 (by kernel_rfl) fun f11 hf11 => ?_
          refine k_c ?_
          refine k_seq ?_
          refine k_seq ?_
          refine k_reg ?_
          refine mops_end [2, 3, 4, 5, 7, 8] hf11 (l' := [⟨2, [], .ptr 0 0 0⟩, ⟨3, [], .s (.int .i64 0)⟩, ⟨4, [], .s (.int .i64 kind_)⟩, ⟨5, [], .sl false r_.1.length (cat (nI .u8) r_.1)⟩, ⟨7, [], .s (.int .i64 0)⟩, ⟨8, [], .s (.int .i64 0)⟩]) (L' := [⟨0, .mem, 1, [.s (.int .i64 0), .s (.int .u16 0), .s (.slice none 0 0)]⟩]) (by kernel_rfl) fun f12 hf12 => ?_
          refine k_c ?_
          refine k_block ?_
          obtain ⟨o0, hx0, h⟩ := Option.bind_eq_some_iff.1 h
          have hgo0 : ∀ (sum_2 : Int), sum_2 = o0 → ∀ f, FOk f [⟨2, [], .ptr 0 0 0⟩, ⟨3, [], .s (.int .i64 0)⟩, ⟨4, [], .s (.int .i64 kind_)⟩, ⟨5, [], .sl false r_.1.length (cat (nI .u8) r_.1)⟩, ⟨7, [], .s (.int .i64 sum_2)⟩] → kont Try.prog [] (spinetref40_Read_C r) ((.c spinetref40_Read_i40) :: []) .normal f [⟨0, .mem, 1, [.s (.int .i64 0), .s (.int .u16 0), .s (.slice none 0 0)]⟩] := by
            intro sum_2 e f hf
            subst e
            refine k_c ?_
            refine k_seq ?_
            refine k_seq ?_
            refine k_reg ?_
            refine mops_en hf (by kernel_rfl) fun f1 hf1 => ?_
            refine k_c ?_
            refine k_cond hf1 (t := ((Int.tmod sum_2 256) != 255)) (by kernel_rfl) (fun hc12 => ?_) (fun hc12 => ?_)
            · have h := if_t h hc12
              refine k_seq ?_
              refine k_reg ?_
              refine mops_en hf1 (by kernel_rfl) fun f2 hf2 => ?_
              refine k_c ?_
              refine k_ret ?_
              refine x_c nofun ?_
              obtain rfl := Option.some.inj h
              exact k_fin (fin_ret (.inl rfl) hf2 (vs := [.agg [.s (.int .i64 0), .s (.int .u16 0), .s (.slice none 0 0)], .s (.int .i64 22)]) (by kernel_rfl) (SettL.pure (FzL.tup (FzsL.cons (FzL.agg (FzsL.cons (FzL.stat rfl) (FzsL.cons (FzL.stat rfl) (FzsL.cons FzL.nilsl FzsL.nil)))) (FzsL.cons (FzL.stat rfl) FzsL.nil)))))
            · have h := if_f h hc12
              refine k_skip ?_
              refine k_c ?_
              refine k_seq ?_
              refine k_seq ?_
              refine k_reg ?_
              refine mops_en hf1 (by kernel_rfl) fun f2 hf2 => ?_
              refine k_c ?_
              refine k_cond hf2 (t := ((kind_ == 9) && (decide (4 < (ln r_.1))))) (by kernel_rfl) (fun hc13 => ?_) (fun hc13 => ?_)
              · have h := if_t h hc13
                refine k_seq ?_
                refine k_reg ?_
                refine mops_en hf2 (by kernel_rfl) fun f3 hf3 => ?_
                refine k_c ?_
                refine k_ret ?_
                refine x_c nofun ?_
                obtain rfl := Option.some.inj h
                exact k_fin (fin_ret (.inl rfl) hf3 (vs := [.agg [.s (.int .i64 0), .s (.int .u16 0), .s (.slice none 0 0)], .s (.int .i64 21)]) (by kernel_rfl) (SettL.pure (FzL.tup (FzsL.cons (FzL.agg (FzsL.cons (FzL.stat rfl) (FzsL.cons (FzL.stat rfl) (FzsL.cons FzL.nilsl FzsL.nil)))) (FzsL.cons (FzL.stat rfl) FzsL.nil)))))
              · have h := if_f h hc13
                refine k_skip ?_
                refine k_c ?_
                refine k_seq ?_
                refine k_regw ?_
                refine lw_tight 17 (by kernel_rfl) ?_
                refine mops_seg [2, 3, 5, 80, 81] 2 hf2 (l' := [⟨2, [], .ptr 0 0 0⟩, ⟨3, [], .s (.int .i64 0)⟩, ⟨5, [], .sl false r_.1.length (cat (nI .u8) r_.1)⟩, ⟨80, [], .s (.int .i64 kind_)⟩, ⟨81, [], .sl false r_.1.length (cat (nI .u8) r_.1)⟩]) (L' := [⟨0, .mem, 1, [.s (.int .i64 0), .s (.int .u16 0), .s (.slice none 0 0)]⟩]) (by kernel_rfl) fun f3 hf3 => ?_
                obtain ⟨c14, h⟩ := as_ok h
                refine mops_adv rfl (v := .ip ((cat (nI .u8) r_.1).drop ((1 : Int).toNat * 1))) hf3 (by kernel_rfl) (e_ias (n := r_.1.length) (xv := .sl false r_.1.length (cat (nI .u8) r_.1)) (k := .i64) (iv := 1) (p := .ip ((cat (nI .u8) r_.1).drop ((1 : Int).toNat * 1))) (by kernel_rfl) (by kernel_rfl) (by kernel_rfl) (by kernel_rfl) c14) fun f4 hf4 => ?_
                refine mops_adv rfl (v := .s (.int .u8 (gt r_.1 (1)))) hf4 (by kernel_rfl) (e_load_ip (g := (nI .u8)) (l := r_.1) (iv := 1) [] (by kernel_rfl) c14 (by kernel_rfl) (by kernel_rfl)) fun f5 hf5 => ?_
                refine mops_seg [2, 3, 5, 80, 85, 86] 3 hf5 (l' := [⟨2, [], .ptr 0 0 0⟩, ⟨3, [], .s (.int .i64 0)⟩, ⟨5, [], .sl false r_.1.length (cat (nI .u8) r_.1)⟩, ⟨80, [], .s (.int .i64 kind_)⟩, ⟨85, [], .s (.int .u16 (IntKind.wrap .u16 ((IntKind.wrap .u16 (gt r_.1 (1))) * 256)))⟩, ⟨86, [], .sl false r_.1.length (cat (nI .u8) r_.1)⟩]) (L' := [⟨0, .mem, 1, [.s (.int .i64 0), .s (.int .u16 0), .s (.slice none 0 0)]⟩]) (by kernel_rfl) fun f6 hf6 => ?_
                obtain ⟨c15, h⟩ := as_ok h
                refine mops_adv rfl (v := .ip ((cat (nI .u8) r_.1).drop ((2 : Int).toNat * 1))) hf6 (by kernel_rfl) (e_ias (n := r_.1.length) (xv := .sl false r_.1.length (cat (nI .u8) r_.1)) (k := .i64) (iv := 2) (p := .ip ((cat (nI .u8) r_.1).drop ((2 : Int).toNat * 1))) (by kernel_rfl) (by kernel_rfl) (by kernel_rfl) (by kernel_rfl) c15) fun f7 hf7 => ?_
                refine mops_adv rfl (v := .s (.int .u8 (gt r_.1 (2)))) hf7 (by kernel_rfl) (e_load_ip (g := (nI .u8)) (l := r_.1) (iv := 2) [] (by kernel_rfl) c15 (by kernel_rfl) (by kernel_rfl)) fun f8 hf8 => ?_
                refine mops_seg [2, 3, 80, 90, 91, 94] 6 hf8 (l' := [⟨2, [], .ptr 0 0 0⟩, ⟨3, [], .s (.int .i64 0)⟩, ⟨80, [], .s (.int .i64 kind_)⟩, ⟨90, [], .s (.int .u16 (IntKind.wrap .u16 ((IntKind.wrap .u16 ((IntKind.wrap .u16 (gt r_.1 (1))) * 256)) + (IntKind.wrap .u16 (gt r_.1 (2))))))⟩, ⟨91, [], .sl false r_.1.length (cat (nI .u8) r_.1)⟩, ⟨94, [], .s (.int .i64 (IntKind.wrap .i64 ((ln r_.1) - 1)))⟩]) (L' := [⟨0, .mem, 1, [.s (.int .i64 0), .s (.int .u16 0), .s (.slice none 0 0)]⟩]) (by kernel_rfl) fun f9 hf9 => ?_
                obtain ⟨c16, h⟩ := as_ok h
                refine mops_adv rfl (v := .sl (false && ((IntKind.wrap .i64 ((ln r_.1) - 1)) : Int).toNat == r_.1.length) (((IntKind.wrap .i64 ((ln r_.1) - 1)) : Int).toNat - (3 : Int).toNat) (cat (nI .u8) (r_.1.drop (3 : Int).toNat))) hf9 (by kernel_rfl) (e_slice_sl (g := (nI .u8)) (l := r_.1) (n := r_.1.length) (u := false) (by kernel_rfl) (b_ss (k := .i64) (k' := .i64) (iv := 3) (jv := (IntKind.wrap .i64 ((ln r_.1) - 1))) (by kernel_rfl) (by kernel_rfl) c16)) fun f10 hf10 => ?_
                refine mops_end [2, 3, 96] hf10 (l' := [⟨2, [], .ptr 0 0 0⟩, ⟨3, [], .s (.int .i64 0)⟩, ⟨96, [], .agg [.s (.int .i64 kind_), .s (.int .u16 (IntKind.wrap .u16 ((IntKind.wrap .u16 ((IntKind.wrap .u16 (gt r_.1 (1))) * 256)) + (IntKind.wrap .u16 (gt r_.1 (2)))))), .sl (false && ((IntKind.wrap .i64 ((ln r_.1) - 1)) : Int).toNat == r_.1.length) (((IntKind.wrap .i64 ((ln r_.1) - 1)) : Int).toNat - (3 : Int).toNat) (cat (nI .u8) (r_.1.drop (3 : Int).toNat))]⟩]) (L' := [⟨0, .mem, 1, [.s (.int .i64 0), .s (.int .u16 0), .s (.slice none 0 0)]⟩]) (by kernel_rfl) fun f11 hf11 => ?_
                intro _
                refine lw_w (a := ⟨⟨none, (.e (.store 3 (.t 2) (.t 96))), none, [16, 0, 1, 2, 3, 4, 5, 6, 7, 8, 9, 10, 11, 12, 13, 14, 15, 16]⟩, true, 0, 1⟩) (by kernel_rfl) rfl rfl ?_
                refine mops_end [2, 3] hf11 (l' := [⟨2, [], .ptr 0 0 0⟩, ⟨3, [], .s (.int .i64 0)⟩]) (L' := [⟨0, .mem, 1, [.s (.int .i64 kind_), .s (.int .u16 (IntKind.wrap .u16 ((IntKind.wrap .u16 ((IntKind.wrap .u16 (gt r_.1 (1))) * 256)) + (IntKind.wrap .u16 (gt r_.1 (2)))))), .sl (false && ((IntKind.wrap .i64 ((ln r_.1) - 1)) : Int).toNat == r_.1.length) (((IntKind.wrap .i64 ((ln r_.1) - 1)) : Int).toNat - (3 : Int).toNat) (cat (nI .u8) (r_.1.drop (3 : Int).toNat))]⟩]) (by kernel_rfl) fun f12 hf12 => ?_
                refine ⟨trivial, ?_⟩
                refine lw_tight 1 (by kernel_rfl) ?_
                refine mops_end [2, 3] hf12 (l' := [⟨2, [], .ptr 0 0 0⟩, ⟨3, [], .s (.int .i64 0)⟩]) (L' := [⟨0, .mem, 1, [.s (.int .i64 kind_), .s (.int .u16 (IntKind.wrap .u16 ((IntKind.wrap .u16 ((IntKind.wrap .u16 (gt r_.1 (1))) * 256)) + (IntKind.wrap .u16 (gt r_.1 (2)))))), .sl (false && ((IntKind.wrap .i64 ((ln r_.1) - 1)) : Int).toNat == r_.1.length) (((IntKind.wrap .i64 ((ln r_.1) - 1)) : Int).toNat - (3 : Int).toNat) (cat (nI .u8) (r_.1.drop (3 : Int).toNat))]⟩]) (by kernel_rfl) fun f13 hf13 => ?_
                intro _
                refine lw_end (by kernel_rfl) ?_
                refine k_c ?_
                refine k_ret ?_
                obtain rfl := Option.some.inj h
                exact k_fin (fin_ret (.inl rfl) hf13 (vs := [.agg [.s (.int .i64 kind_), .s (.int .u16 (IntKind.wrap .u16 ((IntKind.wrap .u16 ((IntKind.wrap .u16 (gt r_.1 (1))) * 256)) + (IntKind.wrap .u16 (gt r_.1 (2)))))), .sl (false && ((IntKind.wrap .i64 ((ln r_.1) - 1)) : Int).toNat == r_.1.length) (((IntKind.wrap .i64 ((ln r_.1) - 1)) : Int).toNat - (3 : Int).toNat) (cat (nI .u8) (r_.1.drop (3 : Int).toNat))], .s (.int .i64 0)]) (by kernel_rfl) (SettL.pure (FzL.tup (FzsL.cons (FzL.agg (FzsL.cons (FzL.stat rfl) (FzsL.cons (FzL.stat rfl) (FzsL.cons (FzL.part (g := (nI .u8)) (l := r_.1) (a := (3 : Int).toNat) (b := ((IntKind.wrap .i64 ((ln r_.1) - 1)) : Int).toNat) (cut_ss (n := r_.1.length) c16)) FzsL.nil)))) (FzsL.cons (FzL.stat rfl) FzsL.nil)))))
          refine k_loop BIG ?_
          refine loop_ind (fun n f L => ∃ (sum_1 : Int) (i_1 : Int), spinetref40_Read_l0 r_ n sum_1 i_1 = some o0 ∧ FOk f [⟨2, [], .ptr 0 0 0⟩, ⟨3, [], .s (.int .i64 0)⟩, ⟨4, [], .s (.int .i64 kind_)⟩, ⟨5, [], .sl false r_.1.length (cat (nI .u8) r_.1)⟩, ⟨7, [], .s (.int .i64 sum_1)⟩, ⟨8, [], .s (.int .i64 i_1)⟩] ∧ L = [⟨0, .mem, 1, [.s (.int .i64 0), .s (.int .u16 0), .s (.slice none 0 0)]⟩]) ?_ ?_ BIG _ _ ⟨(0), (0), hx0, FOk_of [2, 3, 4, 5, 7, 8] hf12 (by kernel_rfl), rfl⟩
          · rintro f L ⟨sum_1, i_1, h, _⟩
            cases (show (none : Option _) = some _ from h)
          · rintro n0 R0 ih f L ⟨sum_1, i_1, h, hf, rfl⟩
            rw [spinetref40_Read_l0] at h
            refine k_seq ?_
            refine k_seq ?_
            refine k_reg ?_
            refine mops_en hf (by kernel_rfl) fun f1 hf1 => ?_
            refine k_c ?_
            refine k_cond hf1 (t := (decide (i_1 < (ln r_.1)))) (by kernel_rfl) (fun hc10 => ?_) (fun hc10 => ?_)
            · have h := if_t h hc10
              refine k_skip ?_
              refine k_c ?_
              refine k_seq ?_
              refine k_block ?_
              refine k_reg ?_
              refine mops_sg 3 hf1 (by kernel_rfl) fun f2 hf2 => ?_
              obtain ⟨c11, h⟩ := as_ok h
              refine mops_adv rfl (v := .ip ((cat (nI .u8) r_.1).drop ((i_1 : Int).toNat * 1))) hf2 (by kernel_rfl) (e_ias (n := r_.1.length) (xv := .sl false r_.1.length (cat (nI .u8) r_.1)) (k := .i64) (iv := i_1) (p := .ip ((cat (nI .u8) r_.1).drop ((i_1 : Int).toNat * 1))) (by kernel_rfl) (by kernel_rfl) (by kernel_rfl) (by kernel_rfl) c11) fun f3 hf3 => ?_
              refine mops_adv rfl (v := .s (.int .u8 (gt r_.1 i_1))) hf3 (by kernel_rfl) (e_load_ip (g := (nI .u8)) (l := r_.1) (iv := i_1) [] (by kernel_rfl) c11 (by kernel_rfl) (by kernel_rfl)) fun f4 hf4 => ?_
              refine mops_en hf4 (by kernel_rfl) fun f5 hf5 => ?_
              refine k_b ?_
              refine k_c ?_
              refine k_reg ?_
              refine mops_en hf5 (by kernel_rfl) fun f6 hf6 => ?_
              refine k_l ?_
              exact ih _ _ ⟨(IntKind.wrap .i64 (sum_1 + (IntKind.wrap .i64 (gt r_.1 i_1)))), (IntKind.wrap .i64 (i_1 + 1)), h, FOk_of [2, 3, 4, 5, 7, 8] hf6 (by kernel_rfl), (by kernel_rfl)⟩
            · have h := if_f h hc10
              refine k_exit ?_
              refine x_c nofun ?_
              refine x_l nofun ?_
              refine x_b ?_
              refine k_hp (L' := [⟨0, .mem, 1, [.s (.int .i64 0), .s (.int .u16 0), .s (.slice none 0 0)]⟩]) (by kernel_rfl) ?_
              exact hgo0 sum_1 (Option.some.inj h) _ (FOk_of [2, 3, 4, 5, 7] hf1 (by kernel_rfl))
  refine k_cond hf5 (t := ((decide (2 ≤ (sln s_))) && ((bt s_ (0)) == 83))) (by kernel_rfl) (fun hc3 => ?_) (fun hc3 => ?_)
  · have h := if_t h hc3
    refine k_reg ?_
    refine mops_sg 1 hf5 (by kernel_rfl) fun f6 hf6 => ?_
    obtain ⟨c4, h⟩ := as_ok h
    refine mops_adv rfl (v := .s (.int .u8 (bt s_ (1)))) hf6 (by kernel_rfl) (e_ixs (t := s_) (k := .i64) (iv := 1) (by kernel_rfl) (by kernel_rfl) c4) fun f7 hf7 => ?_
    refine mops_en hf7 (by kernel_rfl) fun f8 hf8 => ?_
    refine k_hp (L' := [⟨0, .mem, 1, [.s (.int .i64 0), .s (.int .u16 0), .s (.slice none 0 0)]⟩]) (by kernel_rfl) ?_
    exact hj1 (IntKind.wrap .i64 ((IntKind.wrap .i64 (bt s_ (1))) - 48)) h _ (FOk_of [0, 2, 3, 4] hf8 (by kernel_rfl))
  · have h := if_f h hc3
    refine k_skip ?_
    refine k_hp (L' := [⟨0, .mem, 1, [.s (.int .i64 0), .s (.int .u16 0), .s (.slice none 0 0)]⟩]) (by kernel_rfl) ?_
    exact hj1 (99) h _ (FOk_of [0, 2, 3, 4] hf5 (by kernel_rfl))
def spinetlaw40_alive_i0 : List Op1 := [(oM 0 (.k (.bool false)) [])]
def spinetlaw40_alive_i1 : List Op1 := [(oE 1 (.build [(.int .i64 0), (.int .u16 0), (.slice none 0 0)] [(0, (1, (.k (.int .i64 9))))]) []), (oC 2 16 [(.t 1)] [0]), (oE 3 (.bin .eql (.t 2) (.k (.string ⟨#[83, 57, 48, 51, 48, 48, 48, 48, 70, 67]⟩))) [1]), (oM 4 (.t 3) [2, 1]), (oE 5 (.pick (.t 4) (.k (.bool true)) (.k (.bool false))) [3]), (oM 0 (.t 5) [4, 3, 0, 1, 2, 3, 4])]
def spinetlaw40_alive_i2 : IR := .ret
def spinetlaw40_alive_i3 : IR := (.seq (.reg false spinetlaw40_alive_i1) spinetlaw40_alive_i2)
def spinetlaw40_alive_ir : IR := (.seq (.reg false spinetlaw40_alive_i0) spinetlaw40_alive_i3)
theorem spinetlaw40_alive_cfn : cFn Try.prog 15 = some (spinetlaw40_alive_ir, [(.t 0)], 6) := by kernel_rfl
def spinetlaw40_alive_V (r : (Bool)) : V := .s (.bool r)
def spinetlaw40_alive_C (r : (Bool)) : X → Fr → Hp → Prop := FinL [(.t 0)] [] (spinetlaw40_alive_V r) []
theorem spinetlaw40_alive_ok (r : (Bool)) (h : spinetlaw40_alive = some r) : Pure Try.prog 15 [] (spinetlaw40_alive_V r) := by
  refine ConL.of spinetlaw40_alive_cfn (Nat.le_of_ble_eq_true (by kernel_rfl)) (Nat.le_of_ble_eq_true (by kernel_rfl)) ?_
  refine k_start ?_
  show dwv Try.prog [] spinetlaw40_alive_ir (kont Try.prog [] (spinetlaw40_alive_C r) []) (fr0 []) []
  have hf : FOk (fr0 []) [] := trivial
  generalize fr0 [] = f at hf ⊢
  unfold spinetlaw40_alive at h
  refine k_seq ?_
  refine k_reg ?_
  refine mops_en hf (by kernel_rfl) fun f1 hf1 => ?_
  refine k_c ?_
  refine k_seq ?_
  refine k_reg ?_
  refine mops_sg 1 hf1 (by kernel_rfl) fun f2 hf2 => ?_
  obtain ⟨r_, hx_r_, h⟩ := Option.bind_eq_some_iff.1 h
  refine mops_call rfl hf2 (av := [.agg [.s (.int .i64 9), .s (.int .u16 0), .s (.slice none 0 0)]]) (by kernel_rfl) (v := .s (.string r_)) (CalL.purew (srec_Line_Text_ok (srec_Line.mk (9) (0) ([] : List Int)) r_ hx_r_) (Wks.cons (Wk.agg (Wks.cons Wk.refl (Wks.cons Wk.refl (Wks.cons Wk.nilsl Wks.nil)))) Wks.nil) (by simp [V.static, statics, cat_stat]) rfl (by kernel_rfl)) (fun _ => rfl) fun f3 hf3 => ?_
  refine mops_en hf3 (by kernel_rfl) fun f4 hf4 => ?_
  refine k_c ?_
  refine k_ret ?_
  obtain rfl := Option.some.inj h
  exact k_fin (fin_ret (.inl rfl) hf4 (vs := [.s (.bool ((r_.toList == (⟨#[83, 57, 48, 51, 48, 48, 48, 48, 70, 67]⟩ : ByteArray).toList) || false))]) (by kernel_rfl) (SettL.pure (FzL.stat rfl)))
end Go.Proofs.YtfdadnldlngmeaaK
