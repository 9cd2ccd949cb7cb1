/- The Go functions come to the functions over typed data. Printed by a program of this work. -/
import Derived.Test.YtphfmfbebcconaaDoorF
import Derived.Test.YtphfmfbebcconaaDoorProg
import Derived.Test.YtphfmfbebcconaaDoorG0
import Derived.Test.YtphfmfbebcconaaDoorG1
import Derived.Test.YtphfmfbebcconaaDoorG2
import Derived.Test.YtphfmfbebcconaaDoorG3
namespace Go.Proofs.YtphfmfbebcconaaDoorK
set_option linter.unusedVariables false
set_option linter.unusedSimpArgs false
set_option maxHeartbeats 4000000
open Go.RowKit
attribute [local irreducible] dwv mops lops lqops lwops kont iter run runK rk okK ex E1 vals val chain chB sel resF
def spinetlaw40_SrecPuts_i0 : List Op1 := [(oM 4 (.k (.bool false)) [])]
def spinetlaw40_SrecPuts_i1 : List Op1 := [(oM 15 (.t 1) []), (oE 16 (.len (.t 15)) [0]), (oE 17 (.bin .gtr (.t 16) (.k (.int .i64 10))) [1]), (oM 18 (.t 17) [2]), (oG 19 (.mv (.t 1)) 18 false [3]), ⟨(some 20), (.call 4 [(.t 19)]), (some (18, false)), [4, 3, 3]⟩, (oG 21 (.un .not (.t 20)) 18 false [5, 3]), (oE 22 (.pick (.t 18) (.k (.bool true)) (.t 21)) [3, 6])]
def spinetlaw40_SrecPuts_i2 : List Op1 := [(oM 4 (.k (.bool true)) [])]
def spinetlaw40_SrecPuts_i3 : IR := .ret
def spinetlaw40_SrecPuts_i4 : IR := (.cond (.t 22) (.seq (.reg false spinetlaw40_SrecPuts_i2) spinetlaw40_SrecPuts_i3) .skip)
def spinetlaw40_SrecPuts_i5 : List Op1 := [(oM 5 (.k (.string ⟨#[]⟩)) [])]
def spinetlaw40_SrecPuts_i6 : List Op1 := [(oE 23 (.mks [(.int .u8 0)] 1 (.k (.int .i64 65536)) (.k (.int .i64 65536))) []), (oM 6 (.t 23) [0, 0])]
def spinetlaw40_SrecPuts_i7 : List Op1 := [(oM 7 (.k (.int .i64 0)) [])]
def spinetlaw40_SrecPuts_i8 : List Op1 := [(oM 24 (.t 7) []), (oM 25 (.t 1) []), (oE 26 (.len (.t 25)) [1]), (oE 27 (.bin .lss (.t 24) (.t 26)) [0, 2])]
def spinetlaw40_SrecPuts_i9 : IR := (.cond (.t 27) .skip (.exit 0))
def spinetlaw40_SrecPuts_i10 : List Op1 := [(oM 30 (.t 1) []), (oM 31 (.t 7) []), (oE 32 (.ias 2 (.t 30) (.t 31)) [0, 1]), (oE 33 (.fld 1 (.t 32)) [2]), (oE 34 (.load false 1 (.t 33)) [3]), (oM 8 (.t 34) [4, 0, 1, 2, 3, 4])]
def spinetlaw40_SrecPuts_i11 : List Op1 := [(oM 35 (.t 6) []), (oM 36 (.t 1) []), (oM 37 (.t 7) []), (oE 38 (.ias 2 (.t 36) (.t 37)) [1, 2]), (oE 39 (.fld 0 (.t 38)) [3]), (oE 40 (.load false 1 (.t 39)) [4]), (oE 41 (.slice 1 (.t 35) (some (.t 40)) none) [0, 5]), (oM 42 (.t 8) []), (oE 43 (.cpy (.t 41) (.t 42)) [6, 7])]
def spinetlaw40_SrecPuts_i12 : List Op1 := [(oM 9 (.k (.int .i64 0)) [])]
def spinetlaw40_SrecPuts_i13 : List Op1 := [(oM 44 (.t 9) []), (oM 45 (.t 8) []), (oE 46 (.len (.t 45)) [1]), (oE 47 (.bin .lss (.t 44) (.t 46)) [0, 2])]
def spinetlaw40_SrecPuts_i14 : IR := (.cond (.t 47) .skip (.exit 2))
def spinetlaw40_SrecPuts_i15 : List An := [(aO (oM 50 (.t 5) []) false 0 0), (aO (oM 51 (.t 1) []) false 0 0), (aO (oM 52 (.t 7) []) false 0 0), (aO (oE 53 (.ias 2 (.t 51) (.t 52)) [1, 2]) false 0 0), (aO (oE 54 (.fld 0 (.t 53)) [3]) false 0 0), (aO (oE 55 (.load false 1 (.t 54)) [4]) false 0 0), (aO (oM 56 (.t 9) []) false 0 0), (aO (oE 57 (.cint .u16 (.t 56)) [6]) false 0 0), (aO (oE 58 (.bin .add (.t 55) (.t 57)) [5, 7]) false 0 0), (aO (oM 59 (.t 8) []) false 0 0), (aO (oM 60 (.t 9) []) false 0 0), (aO (oM 61 (.t 9) []) false 0 0), (aO (oE 62 (.bin .add (.t 61) (.k (.int .i64 32))) [11]) false 0 0), (aO (oM 63 (.t 8) []) false 0 0), (aO (oE 64 (.len (.t 63)) [13]) false 0 0), (aO (oE 65 (.mnx false (.t 62) (.t 64)) [12, 14]) false 0 0), (aO (oE 66 (.slice 1 (.t 59) (some (.t 60)) (some (.t 65))) [9, 10, 15]) false 0 0), (aO (oE 67 (.build [(.int .i64 0), (.int .u16 0), (.slice none 0 0)] [(0, (1, (.k (.int .i64 1)))), (1, (1, (.t 58))), (2, (1, (.t 66)))]) [8, 16]) false 0 0), (aO (oC 68 5 [(.t 67)] [17]) false 0 0), (aO (oE 69 (.bin .add (.t 68) (.k (.string ⟨#[10]⟩))) [18]) false 0 0), (aO (oE 70 (.bin .add (.t 50) (.t 69)) [0, 19]) false 0 0), (aO (oM 5 (.t 70) [20, 18, 0, 1, 2, 3, 4, 5, 6, 7, 8, 9, 10, 11, 12, 13, 14, 15, 16, 17, 18, 19, 20]) false 0 0)]
def spinetlaw40_SrecPuts_i16 : List Op1 := [(oM 48 (.t 9) []), (oE 49 (.bin .add (.t 48) (.k (.int .i64 32))) [0]), (oM 9 (.t 49) [1, 0, 1])]
def spinetlaw40_SrecPuts_i17 : IR := (.reg false spinetlaw40_SrecPuts_i16)
def spinetlaw40_SrecPuts_i18 : IR := (.seq (.block 3 (.regw spinetlaw40_SrecPuts_i15)) spinetlaw40_SrecPuts_i17)
def spinetlaw40_SrecPuts_i19 : IR := (.seq (.seq (.reg false spinetlaw40_SrecPuts_i13) spinetlaw40_SrecPuts_i14) spinetlaw40_SrecPuts_i18)
def spinetlaw40_SrecPuts_i20 : IR := (.block 2 (.loop spinetlaw40_SrecPuts_i19))
def spinetlaw40_SrecPuts_i21 : IR := (.seq (.reg false spinetlaw40_SrecPuts_i12) spinetlaw40_SrecPuts_i20)
def spinetlaw40_SrecPuts_i22 : IR := (.seq (.reg false spinetlaw40_SrecPuts_i11) spinetlaw40_SrecPuts_i21)
def spinetlaw40_SrecPuts_i23 : List Op1 := [(oM 28 (.t 7) []), (oE 29 (.bin .add (.t 28) (.k (.int .i64 1))) [0]), (oM 7 (.t 29) [1, 0, 1])]
def spinetlaw40_SrecPuts_i24 : IR := (.reg false spinetlaw40_SrecPuts_i23)
def spinetlaw40_SrecPuts_i25 : IR := (.seq (.block 1 (.seq (.reg false spinetlaw40_SrecPuts_i10) spinetlaw40_SrecPuts_i22)) spinetlaw40_SrecPuts_i24)
def spinetlaw40_SrecPuts_i26 : IR := (.seq (.seq (.reg false spinetlaw40_SrecPuts_i8) spinetlaw40_SrecPuts_i9) spinetlaw40_SrecPuts_i25)
def spinetlaw40_SrecPuts_i27 : IR := (.block 0 (.loop spinetlaw40_SrecPuts_i26))
def spinetlaw40_SrecPuts_i28 : List Op1 := [(oM 71 (.t 5) []), (oM 72 (.t 0) []), (oE 73 (.build [(.int .i64 0), (.int .u16 0), (.slice none 0 0)] [(0, (1, (.k (.int .i64 9)))), (1, (1, (.t 72)))]) [1]), (oC 74 5 [(.t 73)] [2]), (oE 75 (.bin .add (.t 74) (.k (.string ⟨#[10]⟩))) [3]), (oE 76 (.bin .add (.t 71) (.t 75)) [0, 4]), (oM 5 (.t 76) [5, 3, 0, 1, 2, 3, 4, 5])]
def spinetlaw40_SrecPuts_i29 : List Op1 := [(oM 77 (.t 0) []), (oM 78 (.t 1) []), (oC 79 6 [(.t 77), (.t 78)] [0, 1]), (oM 10 (.t 79) [2, 2, 0, 1, 2])]
def spinetlaw40_SrecPuts_i30 : List Op1 := [(oM 81 (.t 10) []), (oC 82 7 [(.t 81)] [0]), (oM 80 (.t 82) [1]), (oE 83 (.ext 0 (.t 80)) [2]), (oE 84 (.ext 1 (.t 80)) [2]), (oE 85 (.ext 2 (.t 80)) [2]), (oE 86 (.ext 3 (.t 80)) [2]), (oM 11 (.t 83) [3, 1, 0, 1, 2, 3]), (oM 12 (.t 84) [4, 7, 0, 1, 2, 3, 4, 7]), (oM 13 (.t 85) [5, 8, 0, 1, 2, 3, 4, 5, 7, 8]), (oM 14 (.t 86) [6, 9, 0, 1, 2, 3, 4, 5, 6, 7, 8, 9])]
def spinetlaw40_SrecPuts_i31 : List Op1 := [(oM 87 (.t 10) []), (oM 88 (.t 5) []), (oE 89 (.bin .neq (.t 87) (.t 88)) [0, 1]), (oM 90 (.t 89) [2]), (oG 91 (.mv (.t 12)) 90 false [3]), (oG 92 (.mv (.t 0)) 90 false [3]), (oG 93 (.bin .neq (.t 91) (.t 92)) 90 false [4, 5, 3]), (oE 94 (.pick (.t 90) (.k (.bool true)) (.t 93)) [3, 6]), (oM 95 (.t 94) [7, 3]), (oG 96 (.mv (.t 13)) 95 false [8]), (oG 97 (.bin .neq (.t 96) (.k (.int .i64 0))) 95 false [9, 8]), (oE 98 (.pick (.t 95) (.k (.bool true)) (.t 97)) [8, 10]), (oM 99 (.t 98) [11, 8]), (oG 100 (.mv (.t 14)) 99 false [12]), (oG 101 (.bin .neq (.t 100) (.k (.int .i64 0))) 99 false [13, 12]), (oE 102 (.pick (.t 99) (.k (.bool true)) (.t 101)) [12, 14]), (oM 103 (.t 102) [15, 12]), (oG 104 (.mv (.t 11)) 103 false [16]), ⟨(some 105), (.call 4 [(.t 104)]), (some (103, false)), [17, 16, 16]⟩, (oG 106 (.un .not (.t 105)) 103 false [18, 16]), (oE 107 (.pick (.t 103) (.k (.bool true)) (.t 106)) [16, 19])]
def spinetlaw40_SrecPuts_i32 : List Op1 := [(oM 4 (.k (.bool false)) [])]
def spinetlaw40_SrecPuts_i33 : IR := .ret
def spinetlaw40_SrecPuts_i34 : IR := (.cond (.t 107) (.seq (.reg false spinetlaw40_SrecPuts_i32) spinetlaw40_SrecPuts_i33) .skip)
def spinetlaw40_SrecPuts_i35 : List Op1 := [(oM 108 (.t 1) []), (oC 109 9 [(.t 108)] [0]), (oM 110 (.t 6) []), (oC 111 8 [(.t 109), (.t 110)] [1, 2, 1]), (oM 112 (.t 111) [3, 3]), (oG 113 (.mv (.t 11)) 112 true [4]), ⟨(some 114), (.call 9 [(.t 113)]), (some (112, true)), [5, 4, 4]⟩, (oG 115 (.mv (.t 6)) 112 true [4]), ⟨(some 116), (.call 8 [(.t 114), (.t 115)]), (some (112, true)), [6, 7, 6, 4]⟩, (oE 117 (.pick (.t 112) (.t 116) (.k (.bool false))) [4, 8]), (oM 118 (.t 117) [9, 8]), ⟨(some 119), (.call 10 []), (some (118, true)), [10, 10]⟩, (oE 120 (.pick (.t 118) (.t 119) (.k (.bool false))) [10, 11]), (oM 4 (.t 120) [12, 11, 0, 1, 2, 3, 4, 5, 6, 7, 8, 9, 10, 11, 12])]
def spinetlaw40_SrecPuts_i36 : IR := .ret
def spinetlaw40_SrecPuts_i37 : IR := (.seq (.reg false spinetlaw40_SrecPuts_i35) spinetlaw40_SrecPuts_i36)
def spinetlaw40_SrecPuts_i38 : IR := (.seq (.seq (.reg false spinetlaw40_SrecPuts_i31) spinetlaw40_SrecPuts_i34) spinetlaw40_SrecPuts_i37)
def spinetlaw40_SrecPuts_i39 : IR := (.seq (.reg false spinetlaw40_SrecPuts_i30) spinetlaw40_SrecPuts_i38)
def spinetlaw40_SrecPuts_i40 : IR := (.seq (.reg false spinetlaw40_SrecPuts_i29) spinetlaw40_SrecPuts_i39)
def spinetlaw40_SrecPuts_i41 : IR := (.seq (.reg false spinetlaw40_SrecPuts_i28) spinetlaw40_SrecPuts_i40)
def spinetlaw40_SrecPuts_i42 : IR := (.seq (.seq (.reg false spinetlaw40_SrecPuts_i7) spinetlaw40_SrecPuts_i27) spinetlaw40_SrecPuts_i41)
def spinetlaw40_SrecPuts_i43 : IR := (.seq (.reg false spinetlaw40_SrecPuts_i6) spinetlaw40_SrecPuts_i42)
def spinetlaw40_SrecPuts_i44 : IR := (.seq (.reg false spinetlaw40_SrecPuts_i5) spinetlaw40_SrecPuts_i43)
def spinetlaw40_SrecPuts_i45 : IR := (.seq (.seq (.reg false spinetlaw40_SrecPuts_i1) spinetlaw40_SrecPuts_i4) spinetlaw40_SrecPuts_i44)
def spinetlaw40_SrecPuts_ir : IR := (.seq (.reg false spinetlaw40_SrecPuts_i0) spinetlaw40_SrecPuts_i45)
theorem spinetlaw40_SrecPuts_cfn : cFn Tryd.prog 3 = some (spinetlaw40_SrecPuts_ir, [(.t 4)], 121) := by kernel_rfl
def spinetlaw40_SrecPuts_V (r : (Bool)) : V := .s (.bool r)
def spinetlaw40_SrecPuts_C (r : (Bool)) : X → Fr → Hp → Prop := FinL [(.t 4)] [] (spinetlaw40_SrecPuts_V r) []
theorem spinetlaw40_SrecPuts_ok (start_ : Int) (l_ : (List srec_Piece)) (r : (Bool)) (h : spinetlaw40_SrecPuts start_ l_ = some r) : Pure Tryd.prog 3 [.s (.int .u16 start_), .sl false l_.length (cat srec_Piece.v l_)] (spinetlaw40_SrecPuts_V r) := by
  refine ConL.of spinetlaw40_SrecPuts_cfn (Nat.le_of_ble_eq_true (by kernel_rfl)) (Nat.le_of_ble_eq_true (by kernel_rfl)) ?_
  refine k_start ?_
  show dwv Tryd.prog [] spinetlaw40_SrecPuts_ir (kont Tryd.prog [] (spinetlaw40_SrecPuts_C r) []) (fr0 [.s (.int .u16 start_), .sl false l_.length (cat srec_Piece.v l_)]) []
  have hf : FOk (fr0 [.s (.int .u16 start_), .sl false l_.length (cat srec_Piece.v l_)]) [⟨0, [], .s (.int .u16 start_)⟩, ⟨1, [], .sl false l_.length (cat srec_Piece.v l_)⟩] := ⟨⟨fun _ => rfl, fun h => (h trivial).elim⟩, ⟨fun _ => rfl, fun h => (h trivial).elim⟩, trivial⟩
  generalize fr0 [.s (.int .u16 start_), .sl false l_.length (cat srec_Piece.v l_)] = f at hf ⊢
  unfold spinetlaw40_SrecPuts at h
  refine k_seq ?_
  refine k_reg ?_
  refine mops_en hf (by kernel_rfl) fun f1 hf1 => ?_
  refine k_c ?_
  refine k_seq ?_
  refine k_seq ?_
  refine k_reg ?_
  refine mops_sg 5 hf1 (by kernel_rfl) fun f2 hf2 => ?_
  obtain ⟨r_, hx_r_, h⟩ := Option.bind_eq_some_iff.1 h
  refine mops_gcall (dst := (some 20)) (m := 4) (args := [(.t 19)]) (aft := [4, 3, 3]) (t := 18) (w := false) (ch := [(18, false)]) (b := (!(decide (10 < (ln l_))))) (by kernel_rfl) hf2 (by kernel_rfl) (by kernel_rfl) (av := [.sl false l_.length (cat srec_Piece.v l_)]) (by kernel_rfl) (v := .s (.bool r_)) (by kernel_rfl) (fun hb1 => (CalL.pure (spinetlaw40_fits_ok l_ r_ (if_t hx_r_ hb1)) (by simp [V.static, statics, cat_stat]) rfl (Nat.le_of_ble_eq_true (by kernel_rfl)))) fun f3 hf3 => ?_
  refine mops_en hf3 (by kernel_rfl) fun f4 hf4 => ?_
  refine k_c ?_
  refine k_cond hf4 (t := ((decide (10 < (ln l_))) || (!r_))) (by kernel_rfl) (fun hc2 => ?_) (fun hc2 => ?_)
  · have h := if_t h hc2
    refine k_seq ?_
    refine k_reg ?_
    refine mops_en hf4 (by kernel_rfl) fun f5 hf5 => ?_
    refine k_c ?_
    refine k_ret ?_
    refine x_c nofun ?_
    obtain rfl := Option.some.inj h
    exact k_fin (fin_ret (.inl rfl) hf5 (vs := [.s (.bool true)]) (by kernel_rfl) (SettL.pure (FzL.stat rfl)))
  · have h := if_f h hc2
    refine k_skip ?_
    refine k_c ?_
    refine k_seq ?_
    refine k_reg ?_
    refine mops_en hf4 (by kernel_rfl) fun f5 hf5 => ?_
    refine k_c ?_
    refine k_seq ?_
    refine k_reg ?_
    obtain ⟨c3, h⟩ := as_ok h
    refine mops_adv rfl (v := .ref 0 0 0 (rp (65536) (0 : Int)).length) hf5 (by kernel_rfl) (e_mks (g := (nI .u8)) (a := 0) (k := .i64) (k' := .i64) (iv := 65536) (jv := 65536) (by kernel_rfl) (by kernel_rfl) (by kernel_rfl) c3 (by kernel_rfl)) fun f6 hf6 => ?_
    refine mops_en hf6 (by kernel_rfl) fun f7 hf7 => ?_
    refine k_c ?_
    refine k_seq ?_
    refine k_seq ?_
    refine k_reg ?_
    refine mops_en hf7 (by kernel_rfl) fun f8 hf8 => ?_
    refine k_c ?_
    refine k_block ?_
    obtain ⟨o0, hx0, h⟩ := Option.bind_eq_some_iff.1 h
    have hgo0 : ∀ (l_4 : (List Int)) (want_8 : ByteArray) (m_3 : Nat) (hn_3 : l_4.length = m_3), (l_4, want_8) = o0 → ∀ f, FOk f [⟨0, [], .s (.int .u16 start_)⟩, ⟨1, [], .sl false l_.length (cat srec_Piece.v l_)⟩, ⟨4, [], .s (.bool false)⟩, ⟨5, [], .s (.string want_8)⟩, ⟨6, [], .ref 0 0 0 m_3⟩] → kont Tryd.prog [] (spinetlaw40_SrecPuts_C r) ((.c spinetlaw40_SrecPuts_i41) :: []) .normal f [⟨0, .grow, 1, cat (nI .u8) l_4⟩] := by
      intro l_4 want_8 m_3 hn_3 e f hf
      subst e
      refine k_c ?_
      refine k_seq ?_
      refine k_reg ?_
      refine mops_sg 3 hf (by kernel_rfl) fun f1 hf1 => ?_
      obtain ⟨r_10, hx_r_10, h⟩ := Option.bind_eq_some_iff.1 h
      refine mops_call rfl hf1 (av := [.agg [.s (.int .i64 9), .s (.int .u16 start_), .s (.slice none 0 0)]]) (by kernel_rfl) (v := .s (.string r_10)) (CalL.purew (spinetref40_Text_ok (spinetref40_Line.mk (9) start_ ([] : List Int)) r_10 hx_r_10) (Wks.cons (Wk.agg (Wks.cons Wk.refl (Wks.cons Wk.refl (Wks.cons Wk.nilsl Wks.nil)))) Wks.nil) (by simp [V.static, statics, cat_stat]) rfl (by kernel_rfl)) (fun _ => rfl) fun f2 hf2 => ?_
      obtain ⟨c13, h⟩ := as_ok h
      refine mops_adv rfl (v := .s (.string (r_10 ++ (⟨#[10]⟩ : ByteArray)))) hf2 (by kernel_rfl) (e_sadd (t := r_10) (t' := (⟨#[10]⟩ : ByteArray)) (by kernel_rfl) (by kernel_rfl) c13) fun f3 hf3 => ?_
      obtain ⟨c14, h⟩ := as_ok h
      refine mops_adv rfl (v := .s (.string (want_8 ++ (r_10 ++ (⟨#[10]⟩ : ByteArray))))) hf3 (by kernel_rfl) (e_sadd (t := want_8) (t' := (r_10 ++ (⟨#[10]⟩ : ByteArray))) (by kernel_rfl) (by kernel_rfl) c14) fun f4 hf4 => ?_
      refine mops_en hf4 (by kernel_rfl) fun f5 hf5 => ?_
      refine k_c ?_
      refine k_seq ?_
      refine k_reg ?_
      refine mops_sg 2 hf5 (by kernel_rfl) fun f6 hf6 => ?_
      obtain ⟨r_11, hx_r_11, h⟩ := Option.bind_eq_some_iff.1 h
      refine mops_call rfl hf6 (av := [.s (.int .u16 start_), .sl false l_.length (cat srec_Piece.v l_)]) (by kernel_rfl) (v := .s (.string r_11)) (CalL.pure (srec_Put_ok start_ l_ r_11 hx_r_11) (by simp [V.static, statics, cat_stat]) rfl (Nat.le_of_ble_eq_true (by kernel_rfl))) (fun _ => rfl) fun f7 hf7 => ?_
      refine mops_en hf7 (by kernel_rfl) fun f8 hf8 => ?_
      refine k_c ?_
      refine k_seq ?_
      refine k_reg ?_
      refine mops_sg 1 hf8 (by kernel_rfl) fun f9 hf9 => ?_
      obtain ⟨r_12, hx_r_12, h⟩ := Option.bind_eq_some_iff.1 h
      refine mops_call rfl hf9 (av := [.s (.string r_11)]) (by kernel_rfl) (v := .tup [.sl false r_12.1.length (cat srec_Piece.v r_12.1), .s (.int .u16 r_12.2.1), .s (.int .i64 r_12.2.2.1), .s (.int .i64 r_12.2.2.2)]) (CalL.pure (srec_Get_ok r_11 r_12 hx_r_12) rfl (by simp [V.static, statics, cat_stat, srec_Get_V]) (Nat.le_of_ble_eq_true (by kernel_rfl))) (fun _ => rfl) fun f10 hf10 => ?_
      refine mops_en hf10 (by kernel_rfl) fun f11 hf11 => ?_
      refine k_c ?_
      refine k_seq ?_
      refine k_seq ?_
      refine k_reg ?_
      refine mops_seg [1, 4, 6, 11, 103, 104] 18 hf11 (l' := [⟨1, [], .sl false l_.length (cat srec_Piece.v l_)⟩, ⟨4, [], .s (.bool false)⟩, ⟨6, [], .ref 0 0 0 m_3⟩, ⟨11, [], .sl false r_12.1.length (cat srec_Piece.v r_12.1)⟩, ⟨103, [], .s (.bool ((((!(r_11.toList == (want_8 ++ (r_10 ++ (⟨#[10]⟩ : ByteArray))).toList)) || (r_12.2.1 != start_)) || (r_12.2.2.1 != 0)) || (r_12.2.2.2 != 0)))⟩, ⟨104, [(103, false)], .sl false r_12.1.length (cat srec_Piece.v r_12.1)⟩]) (L' := [⟨0, .grow, 1, cat (nI .u8) l_4⟩]) (by kernel_rfl) fun f12 hf12 => ?_
      obtain ⟨r_13, hx_r_13, h⟩ := Option.bind_eq_some_iff.1 h
      refine mops_gcall (dst := (some 105)) (m := 4) (args := [(.t 104)]) (aft := [17, 16, 16]) (t := 103) (w := false) (ch := [(103, false)]) (b := (!((((!(r_11.toList == (want_8 ++ (r_10 ++ (⟨#[10]⟩ : ByteArray))).toList)) || (r_12.2.1 != start_)) || (r_12.2.2.1 != 0)) || (r_12.2.2.2 != 0)))) (by kernel_rfl) hf12 (by kernel_rfl) (by kernel_rfl) (av := [.sl false r_12.1.length (cat srec_Piece.v r_12.1)]) (by kernel_rfl) (v := .s (.bool r_13)) (by kernel_rfl) (fun hb15 => (CalL.pure (spinetlaw40_fits_ok r_12.1 r_13 (if_t hx_r_13 hb15)) (by simp [V.static, statics, cat_stat]) rfl (Nat.le_of_ble_eq_true (by kernel_rfl)))) fun f13 hf13 => ?_
      refine mops_en hf13 (by kernel_rfl) fun f14 hf14 => ?_
      refine k_c ?_
      refine k_cond hf14 (t := (((((!(r_11.toList == (want_8 ++ (r_10 ++ (⟨#[10]⟩ : ByteArray))).toList)) || (r_12.2.1 != start_)) || (r_12.2.2.1 != 0)) || (r_12.2.2.2 != 0)) || (!r_13))) (by kernel_rfl) (fun hc16 => ?_) (fun hc16 => ?_)
      · have h := if_t h hc16
        refine k_seq ?_
        refine k_reg ?_
        refine mops_en hf14 (by kernel_rfl) fun f15 hf15 => ?_
        refine k_c ?_
        refine k_ret ?_
        refine x_c nofun ?_
        obtain rfl := Option.some.inj h
        exact k_fin (fin_ret (.inl rfl) hf15 (vs := [.s (.bool false)]) (by kernel_rfl) (SettL.pure (FzL.stat rfl)))
      · have h := if_f h hc16
        refine k_skip ?_
        refine k_c ?_
        refine k_seq ?_
        refine k_reg ?_
        refine mops_sg 1 hf14 (by kernel_rfl) fun f15 hf15 => ?_
        obtain ⟨r_14, hx_r_14, h⟩ := Option.bind_eq_some_iff.1 h
        refine mops_call rfl hf15 (av := [.sl false l_.length (cat srec_Piece.v l_)]) (by kernel_rfl) (v := .sl false r_14.length (cat (nI .u8) r_14)) (CalL.pure (srec_Load_ok l_ r_14 hx_r_14) (by simp [V.static, statics, cat_stat]) (by simp [V.static, statics, cat_stat, srec_Load_V]) (Nat.le_of_ble_eq_true (by kernel_rfl))) (fun _ => rfl) fun f16 hf16 => ?_
        refine mops_sg 1 hf16 (by kernel_rfl) fun f17 hf17 => ?_
        obtain ⟨r_15, hx_r_15, h⟩ := Option.bind_eq_some_iff.1 h
        refine mops_call rfl hf17 (av := [.sl false r_14.length (cat (nI .u8) r_14), .ref 0 0 0 m_3]) (by kernel_rfl) (v := .s (.bool r_15)) (CalL.lend (bytes_Equal_ok r_14 l_4 r_15 hx_r_15) rfl (Lends.cons (Lend.stat (by simp [V.static, cat_stat])) (Lends.cons (Lend.whole (g := (nI .u8)) (kd := .grow) (l := l_4) hn_3 (live_grow (by kernel_rfl))) Lends.nil)) (by kernel_rfl)) (fun _ => rfl) fun f18 hf18 => ?_
        refine mops_sg 2 hf18 (by kernel_rfl) fun f19 hf19 => ?_
        obtain ⟨r_16, hx_r_16, h⟩ := Option.bind_eq_some_iff.1 h
        refine mops_gcall (dst := (some 114)) (m := 9) (args := [(.t 113)]) (aft := [5, 4, 4]) (t := 112) (w := true) (ch := [(112, true)]) (b := r_15) (by kernel_rfl) hf19 (by kernel_rfl) (by kernel_rfl) (av := [.sl false r_12.1.length (cat srec_Piece.v r_12.1)]) (by kernel_rfl) (v := .sl false r_16.length (cat (nI .u8) r_16)) (by kernel_rfl) (fun hb17 => (CalL.pure (srec_Load_ok r_12.1 r_16 (if_t hx_r_16 hb17)) (by simp [V.static, statics, cat_stat]) (by simp [V.static, statics, cat_stat, srec_Load_V]) (Nat.le_of_ble_eq_true (by kernel_rfl)))) fun f20 hf20 => ?_
        refine mops_sg 1 hf20 (by kernel_rfl) fun f21 hf21 => ?_
        obtain ⟨r_17, hx_r_17, h⟩ := Option.bind_eq_some_iff.1 h
        refine mops_gcall (dst := (some 116)) (m := 8) (args := [(.t 114), (.t 115)]) (aft := [6, 7, 6, 4]) (t := 112) (w := true) (ch := [(112, true)]) (b := r_15) (by kernel_rfl) hf21 (by kernel_rfl) (by kernel_rfl) (av := [.sl false r_16.length (cat (nI .u8) r_16), .ref 0 0 0 m_3]) (by kernel_rfl) (v := .s (.bool r_17)) (by kernel_rfl) (fun hb18 => (CalL.lend (bytes_Equal_ok r_16 l_4 r_17 (if_t hx_r_17 hb18)) rfl (Lends.cons (Lend.stat (by simp [V.static, cat_stat])) (Lends.cons (Lend.whole (g := (nI .u8)) (kd := .grow) (l := l_4) hn_3 (live_grow (by kernel_rfl))) Lends.nil)) (by kernel_rfl))) fun f22 hf22 => ?_
        refine mops_sg 2 hf22 (by kernel_rfl) fun f23 hf23 => ?_
        obtain ⟨r_18, hx_r_18, h⟩ := Option.bind_eq_some_iff.1 h
        refine mops_gcall (dst := (some 119)) (m := 10) (args := []) (aft := [10, 10]) (t := 118) (w := true) (ch := [(118, true)]) (b := (r_15 && r_17)) (by kernel_rfl) hf23 (by kernel_rfl) (by kernel_rfl) (av := []) (by kernel_rfl) (v := .s (.bool r_18)) (by kernel_rfl) (fun hb19 => (CalL.pure (spinetlaw40_alive_ok  r_18 (if_t hx_r_18 hb19)) rfl rfl (Nat.le_of_ble_eq_true (by kernel_rfl)))) fun f24 hf24 => ?_
        refine mops_en hf24 (by kernel_rfl) fun f25 hf25 => ?_
        refine k_c ?_
        refine k_ret ?_
        obtain rfl := Option.some.inj h
        exact k_fin (fin_ret (.inl rfl) hf25 (vs := [.s (.bool ((r_15 && r_17) && r_18))]) (by kernel_rfl) (SettL.pure (FzL.stat rfl)))
    refine k_loop BIG ?_
    refine loop_ind (fun n f L => ∃ (l_3 : (List Int)) (want_7 : ByteArray) (i_1 : Int) (m_2 : Nat) (hn_2 : l_3.length = m_2), spinetlaw40_SrecPuts_l2 l_ n l_3 want_7 i_1 = some o0 ∧ FOk f [⟨0, [], .s (.int .u16 start_)⟩, ⟨1, [], .sl false l_.length (cat srec_Piece.v l_)⟩, ⟨4, [], .s (.bool false)⟩, ⟨5, [], .s (.string want_7)⟩, ⟨6, [], .ref 0 0 0 m_2⟩, ⟨7, [], .s (.int .i64 i_1)⟩] ∧ L = [⟨0, .grow, 1, cat (nI .u8) l_3⟩]) ?_ ?_ BIG _ _ ⟨(rp (65536) (0 : Int)), (⟨#[]⟩ : ByteArray), (0), ((rp (65536) (0 : Int)).length), rfl, hx0, FOk_of [0, 1, 4, 5, 6, 7] hf8 (by kernel_rfl), (by kernel_rfl)⟩
    · rintro f L ⟨l_3, want_7, i_1, m_2, hn_2, h, _⟩
      cases (show (none : Option _) = some _ from h)
    · rintro n0 R0 ih f L ⟨l_3, want_7, i_1, m_2, hn_2, h, hf, rfl⟩
      rw [spinetlaw40_SrecPuts_l2] at h
      refine k_seq ?_
      refine k_seq ?_
      refine k_reg ?_
      refine mops_en hf (by kernel_rfl) fun f1 hf1 => ?_
      refine k_c ?_
      refine k_cond hf1 (t := (decide (i_1 < (ln l_)))) (by kernel_rfl) (fun hc4 => ?_) (fun hc4 => ?_)
      · have h := if_t h hc4
        refine k_skip ?_
        refine k_c ?_
        refine k_seq ?_
        refine k_block ?_
        refine k_seq ?_
        refine k_reg ?_
        refine mops_sg 2 hf1 (by kernel_rfl) fun f2 hf2 => ?_
        obtain ⟨c5, h⟩ := as_ok h
        refine mops_adv rfl (v := .ip ((cat srec_Piece.v l_).drop ((i_1 : Int).toNat * 2))) hf2 (by kernel_rfl) (e_ias (n := l_.length) (xv := .sl false l_.length (cat srec_Piece.v l_)) (k := .i64) (iv := i_1) (p := .ip ((cat srec_Piece.v l_).drop ((i_1 : Int).toNat * 2))) (by kernel_rfl) (by kernel_rfl) (by kernel_rfl) (by kernel_rfl) c5) fun f3 hf3 => ?_
        refine mops_sg 1 hf3 (by kernel_rfl) fun f4 hf4 => ?_
        refine mops_adv rfl (v := .sl false ((gt l_ i_1).B).length (cat (nI .u8) ((gt l_ i_1).B))) hf4 (by kernel_rfl) (e_load_ip (g := srec_Piece.v) (l := l_) (iv := i_1) [1] (by kernel_rfl) c5 (by kernel_rfl) (by kernel_rfl)) fun f5 hf5 => ?_
        refine mops_en hf5 (by kernel_rfl) fun f6 hf6 => ?_
        refine k_c ?_
        refine k_seq ?_
        refine k_reg ?_
        refine mops_sg 3 hf6 (by kernel_rfl) fun f7 hf7 => ?_
        obtain ⟨c6, h⟩ := as_ok h
        refine mops_adv rfl (v := .ip ((cat srec_Piece.v l_).drop ((i_1 : Int).toNat * 2))) hf7 (by kernel_rfl) (e_ias (n := l_.length) (xv := .sl false l_.length (cat srec_Piece.v l_)) (k := .i64) (iv := i_1) (p := .ip ((cat srec_Piece.v l_).drop ((i_1 : Int).toNat * 2))) (by kernel_rfl) (by kernel_rfl) (by kernel_rfl) (by kernel_rfl) c6) fun f8 hf8 => ?_
        refine mops_sg 1 hf8 (by kernel_rfl) fun f9 hf9 => ?_
        refine mops_adv rfl (v := .s (.int .u16 (gt l_ i_1).At)) hf9 (by kernel_rfl) (e_load_ip (g := srec_Piece.v) (l := l_) (iv := i_1) [0] (by kernel_rfl) c6 (by kernel_rfl) (by kernel_rfl)) fun f10 hf10 => ?_
        obtain ⟨c7, h⟩ := as_ok h
        refine mops_adv rfl (v := .ref 0 0 (0 + ((gt l_ i_1).At : Int).toNat * 1) (m_2 - ((gt l_ i_1).At : Int).toNat)) hf10 (by kernel_rfl) (e_slice_ref (B := ⟨0, .grow, 1, cat (nI .u8) l_3⟩) (n := m_2) (o := 0) (by kernel_rfl) (live_grow (by kernel_rfl)) rfl (b_sn (k := .u16) (iv := (gt l_ i_1).At) (by kernel_rfl) (ln_ns hn_2 c7))) fun f11 hf11 => ?_
        refine mops_sg 1 hf11 (by kernel_rfl) fun f12 hf12 => ?_
        refine mops_adv rfl (v := .s (.int .i64 ((((((gt l_ i_1).B)).take (l_3.length - ((gt l_ i_1).At : Int).toNat)).length : Nat) : Int))) hf12 (by kernel_rfl) (e_cpyN (l := l_3) (l' := ((gt l_ i_1).B)) (q := 0) (ver := 0) (n := m_2) (a := ((gt l_ i_1).At : Int).toNat) (kd := .grow) (by kernel_rfl) (cut_sn (n := m_2) (ln_ns hn_2 c7)) hn_2 (live_grow (by kernel_rfl)) (slc_ev (v := .sl false ((gt l_ i_1).B).length (cat (nI .u8) ((gt l_ i_1).B))) (by kernel_rfl) (slc_sl (g := (nI .u8)) ((gt l_ i_1).B)))) fun f13 hf13 => ?_
        refine mops_en hf13 (by kernel_rfl) fun f14 hf14 => ?_
        refine k_c ?_
        refine k_seq ?_
        refine k_reg ?_
        refine mops_en hf14 (by kernel_rfl) fun f15 hf15 => ?_
        refine k_c ?_
        refine k_block ?_
        obtain ⟨o1, hx1, h⟩ := Option.bind_eq_some_iff.1 h
        have hgo1 : ∀ (l_5 : (List Int)) (want_11 : ByteArray) (k_8 : Int) (t_4 : Int) (t_5 : Bool) (m_4 : Nat) (hn_4 : l_5.length = m_4), (l_5, want_11, k_8, t_4, t_5) = o1 → ∀ f, FOk f [⟨0, [], .s (.int .u16 start_)⟩, ⟨1, [], .sl false l_.length (cat srec_Piece.v l_)⟩, ⟨4, [], .s (.bool false)⟩, ⟨5, [], .s (.string want_11)⟩, ⟨6, [], .ref 0 0 0 m_4⟩, ⟨7, [], .s (.int .i64 i_1)⟩, ⟨8, [], .sl false ((gt l_ i_1).B).length (cat (nI .u8) ((gt l_ i_1).B))⟩, ⟨9, [], .s (.int .i64 k_8)⟩, ⟨24, [], .s (.int .i64 i_1)⟩, ⟨25, [], .sl false l_.length (cat srec_Piece.v l_)⟩, ⟨26, [], .s (.int .i64 (ln l_))⟩, ⟨27, [], .s (.bool (decide (i_1 < (ln l_))))⟩, ⟨30, [], .sl false l_.length (cat srec_Piece.v l_)⟩, ⟨31, [], .s (.int .i64 i_1)⟩, ⟨32, [], .ip ((cat srec_Piece.v l_).drop ((i_1 : Int).toNat * 2))⟩, ⟨33, [], .ip (((cat srec_Piece.v l_).drop ((i_1 : Int).toNat * 2)).drop 1)⟩, ⟨34, [], .sl false ((gt l_ i_1).B).length (cat (nI .u8) ((gt l_ i_1).B))⟩, ⟨35, [], .ref 0 0 0 m_4⟩, ⟨36, [], .sl false l_.length (cat srec_Piece.v l_)⟩, ⟨37, [], .s (.int .i64 i_1)⟩, ⟨38, [], .ip ((cat srec_Piece.v l_).drop ((i_1 : Int).toNat * 2))⟩, ⟨39, [], .ip (((cat srec_Piece.v l_).drop ((i_1 : Int).toNat * 2)).drop 0)⟩, ⟨40, [], .s (.int .u16 (gt l_ i_1).At)⟩, ⟨41, [], .ref 0 0 (0 + ((gt l_ i_1).At : Int).toNat * 1) (m_2 - ((gt l_ i_1).At : Int).toNat)⟩, ⟨42, [], .sl false ((gt l_ i_1).B).length (cat (nI .u8) ((gt l_ i_1).B))⟩, ⟨44, [], .s (.int .i64 t_4)⟩, ⟨45, [], .sl false ((gt l_ i_1).B).length (cat (nI .u8) ((gt l_ i_1).B))⟩, ⟨46, [], .s (.int .i64 (ln ((gt l_ i_1).B)))⟩, ⟨47, [], .s (.bool t_5)⟩] → kont Tryd.prog [] (spinetlaw40_SrecPuts_C r) ((.c spinetlaw40_SrecPuts_i24) :: (.l R0) :: (.b 0) :: (.c spinetlaw40_SrecPuts_i41) :: []) .normal f [⟨0, .grow, 1, cat (nI .u8) l_5⟩] := by
          intro l_5 want_11 k_8 t_4 t_5 m_4 hn_4 e f hf
          subst e
          refine k_c ?_
          refine k_reg ?_
          refine mops_en hf (by kernel_rfl) fun f1 hf1 => ?_
          refine k_l ?_
          exact ih _ _ ⟨l_5, want_11, (IntKind.wrap .i64 (i_1 + 1)), m_4, hn_4, h, FOk_of [0, 1, 4, 5, 6, 7] hf1 (by kernel_rfl), (by kernel_rfl)⟩
        refine k_loop BIG ?_
        refine loop_ind (fun n f L => ∃ (want_10 : ByteArray) (k_7 : Int), spinetlaw40_SrecPuts_l3 l_ l_3 i_1 n want_10 k_7 = some o1 ∧ FOk f [⟨0, [], .s (.int .u16 start_)⟩, ⟨1, [], .sl false l_.length (cat srec_Piece.v l_)⟩, ⟨4, [], .s (.bool false)⟩, ⟨5, [], .s (.string want_10)⟩, ⟨6, [], .ref 0 0 0 m_2⟩, ⟨7, [], .s (.int .i64 i_1)⟩, ⟨8, [], .sl false ((gt l_ i_1).B).length (cat (nI .u8) ((gt l_ i_1).B))⟩, ⟨9, [], .s (.int .i64 k_7)⟩, ⟨24, [], .s (.int .i64 i_1)⟩, ⟨25, [], .sl false l_.length (cat srec_Piece.v l_)⟩, ⟨26, [], .s (.int .i64 (ln l_))⟩, ⟨27, [], .s (.bool (decide (i_1 < (ln l_))))⟩, ⟨30, [], .sl false l_.length (cat srec_Piece.v l_)⟩, ⟨31, [], .s (.int .i64 i_1)⟩, ⟨32, [], .ip ((cat srec_Piece.v l_).drop ((i_1 : Int).toNat * 2))⟩, ⟨33, [], .ip (((cat srec_Piece.v l_).drop ((i_1 : Int).toNat * 2)).drop 1)⟩, ⟨34, [], .sl false ((gt l_ i_1).B).length (cat (nI .u8) ((gt l_ i_1).B))⟩, ⟨35, [], .ref 0 0 0 m_2⟩, ⟨36, [], .sl false l_.length (cat srec_Piece.v l_)⟩, ⟨37, [], .s (.int .i64 i_1)⟩, ⟨38, [], .ip ((cat srec_Piece.v l_).drop ((i_1 : Int).toNat * 2))⟩, ⟨39, [], .ip (((cat srec_Piece.v l_).drop ((i_1 : Int).toNat * 2)).drop 0)⟩, ⟨40, [], .s (.int .u16 (gt l_ i_1).At)⟩, ⟨41, [], .ref 0 0 (0 + ((gt l_ i_1).At : Int).toNat * 1) (m_2 - ((gt l_ i_1).At : Int).toNat)⟩, ⟨42, [], .sl false ((gt l_ i_1).B).length (cat (nI .u8) ((gt l_ i_1).B))⟩] ∧ L = [⟨0, .grow, 1, cat (nI .u8) (cpyL l_3 (((gt l_ i_1).At : Int).toNat) (l_3.length - ((gt l_ i_1).At : Int).toNat) ((gt l_ i_1).B))⟩]) ?_ ?_ BIG _ _ ⟨want_7, (0), hx1, FOk_of [0, 1, 4, 5, 6, 7, 8, 9, 24, 25, 26, 27, 30, 31, 32, 33, 34, 35, 36, 37, 38, 39, 40, 41, 42] hf15 (by kernel_rfl), (by kernel_rfl)⟩
        · rintro f L ⟨want_10, k_7, h, _⟩
          cases (show (none : Option _) = some _ from h)
        · rintro n1 R1 ih f L ⟨want_10, k_7, h, hf, rfl⟩
          rw [spinetlaw40_SrecPuts_l3] at h
          refine k_seq ?_
          refine k_seq ?_
          refine k_reg ?_
          refine mops_en hf (by kernel_rfl) fun f1 hf1 => ?_
          refine k_c ?_
          refine k_cond hf1 (t := (decide (k_7 < (ln ((gt l_ i_1).B))))) (by kernel_rfl) (fun hc8 => ?_) (fun hc8 => ?_)
          · have h := if_t h hc8
            refine k_skip ?_
            refine k_c ?_
            refine k_seq ?_
            refine k_block ?_
            refine k_regw ?_
            refine lw_tight 22 (by kernel_rfl) ?_
            refine mops_seg [0, 1, 4, 5, 6, 7, 8, 9, 24, 25, 26, 27, 30, 31, 32, 33, 34, 35, 36, 37, 38, 39, 40, 41, 42, 44, 45, 46, 47, 50, 51, 52] 3 hf1 (l' := [⟨0, [], .s (.int .u16 start_)⟩, ⟨1, [], .sl false l_.length (cat srec_Piece.v l_)⟩, ⟨4, [], .s (.bool false)⟩, ⟨5, [], .s (.string want_10)⟩, ⟨6, [], .ref 0 0 0 m_2⟩, ⟨7, [], .s (.int .i64 i_1)⟩, ⟨8, [], .sl false ((gt l_ i_1).B).length (cat (nI .u8) ((gt l_ i_1).B))⟩, ⟨9, [], .s (.int .i64 k_7)⟩, ⟨24, [], .s (.int .i64 i_1)⟩, ⟨25, [], .sl false l_.length (cat srec_Piece.v l_)⟩, ⟨26, [], .s (.int .i64 (ln l_))⟩, ⟨27, [], .s (.bool (decide (i_1 < (ln l_))))⟩, ⟨30, [], .sl false l_.length (cat srec_Piece.v l_)⟩, ⟨31, [], .s (.int .i64 i_1)⟩, ⟨32, [], .ip ((cat srec_Piece.v l_).drop ((i_1 : Int).toNat * 2))⟩, ⟨33, [], .ip (((cat srec_Piece.v l_).drop ((i_1 : Int).toNat * 2)).drop 1)⟩, ⟨34, [], .sl false ((gt l_ i_1).B).length (cat (nI .u8) ((gt l_ i_1).B))⟩, ⟨35, [], .ref 0 0 0 m_2⟩, ⟨36, [], .sl false l_.length (cat srec_Piece.v l_)⟩, ⟨37, [], .s (.int .i64 i_1)⟩, ⟨38, [], .ip ((cat srec_Piece.v l_).drop ((i_1 : Int).toNat * 2))⟩, ⟨39, [], .ip (((cat srec_Piece.v l_).drop ((i_1 : Int).toNat * 2)).drop 0)⟩, ⟨40, [], .s (.int .u16 (gt l_ i_1).At)⟩, ⟨41, [], .ref 0 0 (0 + ((gt l_ i_1).At : Int).toNat * 1) (m_2 - ((gt l_ i_1).At : Int).toNat)⟩, ⟨42, [], .sl false ((gt l_ i_1).B).length (cat (nI .u8) ((gt l_ i_1).B))⟩, ⟨44, [], .s (.int .i64 k_7)⟩, ⟨45, [], .sl false ((gt l_ i_1).B).length (cat (nI .u8) ((gt l_ i_1).B))⟩, ⟨46, [], .s (.int .i64 (ln ((gt l_ i_1).B)))⟩, ⟨47, [], .s (.bool (decide (k_7 < (ln ((gt l_ i_1).B)))))⟩, ⟨50, [], .s (.string want_10)⟩, ⟨51, [], .sl false l_.length (cat srec_Piece.v l_)⟩, ⟨52, [], .s (.int .i64 i_1)⟩]) (L' := [⟨0, .grow, 1, cat (nI .u8) (cpyL l_3 (((gt l_ i_1).At : Int).toNat) (l_3.length - ((gt l_ i_1).At : Int).toNat) ((gt l_ i_1).B))⟩]) (by kernel_rfl) fun f2 hf2 => ?_
            obtain ⟨c9, h⟩ := as_ok h
            refine mops_adv rfl (v := .ip ((cat srec_Piece.v l_).drop ((i_1 : Int).toNat * 2))) hf2 (by kernel_rfl) (e_ias (n := l_.length) (xv := .sl false l_.length (cat srec_Piece.v l_)) (k := .i64) (iv := i_1) (p := .ip ((cat srec_Piece.v l_).drop ((i_1 : Int).toNat * 2))) (by kernel_rfl) (by kernel_rfl) (by kernel_rfl) (by kernel_rfl) c9) fun f3 hf3 => ?_
            refine mops_seg [0, 1, 4, 5, 6, 7, 8, 9, 24, 25, 26, 27, 30, 31, 32, 33, 34, 35, 36, 37, 38, 39, 40, 41, 42, 44, 45, 46, 47, 50, 51, 52, 53, 54] 1 hf3 (l' := [⟨0, [], .s (.int .u16 start_)⟩, ⟨1, [], .sl false l_.length (cat srec_Piece.v l_)⟩, ⟨4, [], .s (.bool false)⟩, ⟨5, [], .s (.string want_10)⟩, ⟨6, [], .ref 0 0 0 m_2⟩, ⟨7, [], .s (.int .i64 i_1)⟩, ⟨8, [], .sl false ((gt l_ i_1).B).length (cat (nI .u8) ((gt l_ i_1).B))⟩, ⟨9, [], .s (.int .i64 k_7)⟩, ⟨24, [], .s (.int .i64 i_1)⟩, ⟨25, [], .sl false l_.length (cat srec_Piece.v l_)⟩, ⟨26, [], .s (.int .i64 (ln l_))⟩, ⟨27, [], .s (.bool (decide (i_1 < (ln l_))))⟩, ⟨30, [], .sl false l_.length (cat srec_Piece.v l_)⟩, ⟨31, [], .s (.int .i64 i_1)⟩, ⟨32, [], .ip ((cat srec_Piece.v l_).drop ((i_1 : Int).toNat * 2))⟩, ⟨33, [], .ip (((cat srec_Piece.v l_).drop ((i_1 : Int).toNat * 2)).drop 1)⟩, ⟨34, [], .sl false ((gt l_ i_1).B).length (cat (nI .u8) ((gt l_ i_1).B))⟩, ⟨35, [], .ref 0 0 0 m_2⟩, ⟨36, [], .sl false l_.length (cat srec_Piece.v l_)⟩, ⟨37, [], .s (.int .i64 i_1)⟩, ⟨38, [], .ip ((cat srec_Piece.v l_).drop ((i_1 : Int).toNat * 2))⟩, ⟨39, [], .ip (((cat srec_Piece.v l_).drop ((i_1 : Int).toNat * 2)).drop 0)⟩, ⟨40, [], .s (.int .u16 (gt l_ i_1).At)⟩, ⟨41, [], .ref 0 0 (0 + ((gt l_ i_1).At : Int).toNat * 1) (m_2 - ((gt l_ i_1).At : Int).toNat)⟩, ⟨42, [], .sl false ((gt l_ i_1).B).length (cat (nI .u8) ((gt l_ i_1).B))⟩, ⟨44, [], .s (.int .i64 k_7)⟩, ⟨45, [], .sl false ((gt l_ i_1).B).length (cat (nI .u8) ((gt l_ i_1).B))⟩, ⟨46, [], .s (.int .i64 (ln ((gt l_ i_1).B)))⟩, ⟨47, [], .s (.bool (decide (k_7 < (ln ((gt l_ i_1).B)))))⟩, ⟨50, [], .s (.string want_10)⟩, ⟨51, [], .sl false l_.length (cat srec_Piece.v l_)⟩, ⟨52, [], .s (.int .i64 i_1)⟩, ⟨53, [], .ip ((cat srec_Piece.v l_).drop ((i_1 : Int).toNat * 2))⟩, ⟨54, [], .ip (((cat srec_Piece.v l_).drop ((i_1 : Int).toNat * 2)).drop 0)⟩]) (L' := [⟨0, .grow, 1, cat (nI .u8) (cpyL l_3 (((gt l_ i_1).At : Int).toNat) (l_3.length - ((gt l_ i_1).At : Int).toNat) ((gt l_ i_1).B))⟩]) (by kernel_rfl) fun f4 hf4 => ?_
            refine mops_adv rfl (v := .s (.int .u16 (gt l_ i_1).At)) hf4 (by kernel_rfl) (e_load_ip (g := srec_Piece.v) (l := l_) (iv := i_1) [0] (by kernel_rfl) c9 (by kernel_rfl) (by kernel_rfl)) fun f5 hf5 => ?_
            refine mops_seg [0, 1, 4, 5, 6, 7, 8, 9, 24, 25, 26, 27, 30, 31, 32, 33, 34, 35, 36, 37, 38, 39, 40, 41, 42, 44, 45, 46, 47, 50, 51, 52, 53, 54, 55, 56, 57, 58, 59, 60, 61, 62, 63, 64, 65] 10 hf5 (l' := [⟨0, [], .s (.int .u16 start_)⟩, ⟨1, [], .sl false l_.length (cat srec_Piece.v l_)⟩, ⟨4, [], .s (.bool false)⟩, ⟨5, [], .s (.string want_10)⟩, ⟨6, [], .ref 0 0 0 m_2⟩, ⟨7, [], .s (.int .i64 i_1)⟩, ⟨8, [], .sl false ((gt l_ i_1).B).length (cat (nI .u8) ((gt l_ i_1).B))⟩, ⟨9, [], .s (.int .i64 k_7)⟩, ⟨24, [], .s (.int .i64 i_1)⟩, ⟨25, [], .sl false l_.length (cat srec_Piece.v l_)⟩, ⟨26, [], .s (.int .i64 (ln l_))⟩, ⟨27, [], .s (.bool (decide (i_1 < (ln l_))))⟩, ⟨30, [], .sl false l_.length (cat srec_Piece.v l_)⟩, ⟨31, [], .s (.int .i64 i_1)⟩, ⟨32, [], .ip ((cat srec_Piece.v l_).drop ((i_1 : Int).toNat * 2))⟩, ⟨33, [], .ip (((cat srec_Piece.v l_).drop ((i_1 : Int).toNat * 2)).drop 1)⟩, ⟨34, [], .sl false ((gt l_ i_1).B).length (cat (nI .u8) ((gt l_ i_1).B))⟩, ⟨35, [], .ref 0 0 0 m_2⟩, ⟨36, [], .sl false l_.length (cat srec_Piece.v l_)⟩, ⟨37, [], .s (.int .i64 i_1)⟩, ⟨38, [], .ip ((cat srec_Piece.v l_).drop ((i_1 : Int).toNat * 2))⟩, ⟨39, [], .ip (((cat srec_Piece.v l_).drop ((i_1 : Int).toNat * 2)).drop 0)⟩, ⟨40, [], .s (.int .u16 (gt l_ i_1).At)⟩, ⟨41, [], .ref 0 0 (0 + ((gt l_ i_1).At : Int).toNat * 1) (m_2 - ((gt l_ i_1).At : Int).toNat)⟩, ⟨42, [], .sl false ((gt l_ i_1).B).length (cat (nI .u8) ((gt l_ i_1).B))⟩, ⟨44, [], .s (.int .i64 k_7)⟩, ⟨45, [], .sl false ((gt l_ i_1).B).length (cat (nI .u8) ((gt l_ i_1).B))⟩, ⟨46, [], .s (.int .i64 (ln ((gt l_ i_1).B)))⟩, ⟨47, [], .s (.bool (decide (k_7 < (ln ((gt l_ i_1).B)))))⟩, ⟨50, [], .s (.string want_10)⟩, ⟨51, [], .sl false l_.length (cat srec_Piece.v l_)⟩, ⟨52, [], .s (.int .i64 i_1)⟩, ⟨53, [], .ip ((cat srec_Piece.v l_).drop ((i_1 : Int).toNat * 2))⟩, ⟨54, [], .ip (((cat srec_Piece.v l_).drop ((i_1 : Int).toNat * 2)).drop 0)⟩, ⟨55, [], .s (.int .u16 (gt l_ i_1).At)⟩, ⟨56, [], .s (.int .i64 k_7)⟩, ⟨57, [], .s (.int .u16 (IntKind.wrap .u16 k_7))⟩, ⟨58, [], .s (.int .u16 (IntKind.wrap .u16 ((gt l_ i_1).At + (IntKind.wrap .u16 k_7))))⟩, ⟨59, [], .sl false ((gt l_ i_1).B).length (cat (nI .u8) ((gt l_ i_1).B))⟩, ⟨60, [], .s (.int .i64 k_7)⟩, ⟨61, [], .s (.int .i64 k_7)⟩, ⟨62, [], .s (.int .i64 (IntKind.wrap .i64 (k_7 + 32)))⟩, ⟨63, [], .sl false ((gt l_ i_1).B).length (cat (nI .u8) ((gt l_ i_1).B))⟩, ⟨64, [], .s (.int .i64 (ln ((gt l_ i_1).B)))⟩, ⟨65, [], .s (.int .i64 (if (ln ((gt l_ i_1).B)) < (IntKind.wrap .i64 (k_7 + 32)) then (ln ((gt l_ i_1).B)) else (IntKind.wrap .i64 (k_7 + 32))))⟩]) (L' := [⟨0, .grow, 1, cat (nI .u8) (cpyL l_3 (((gt l_ i_1).At : Int).toNat) (l_3.length - ((gt l_ i_1).At : Int).toNat) ((gt l_ i_1).B))⟩]) (by kernel_rfl) fun f6 hf6 => ?_
            obtain ⟨c10, h⟩ := as_ok h
            refine mops_adv rfl (v := .sl (false && ((if (ln ((gt l_ i_1).B)) < (IntKind.wrap .i64 (k_7 + 32)) then (ln ((gt l_ i_1).B)) else (IntKind.wrap .i64 (k_7 + 32))) : Int).toNat == ((gt l_ i_1).B).length) (((if (ln ((gt l_ i_1).B)) < (IntKind.wrap .i64 (k_7 + 32)) then (ln ((gt l_ i_1).B)) else (IntKind.wrap .i64 (k_7 + 32))) : Int).toNat - (k_7 : Int).toNat) (cat (nI .u8) (((gt l_ i_1).B).drop (k_7 : Int).toNat))) hf6 (by kernel_rfl) (e_slice_sl (g := (nI .u8)) (l := ((gt l_ i_1).B)) (n := ((gt l_ i_1).B).length) (u := false) (by kernel_rfl) (b_ss (k := .i64) (k' := .i64) (iv := k_7) (jv := (if (ln ((gt l_ i_1).B)) < (IntKind.wrap .i64 (k_7 + 32)) then (ln ((gt l_ i_1).B)) else (IntKind.wrap .i64 (k_7 + 32)))) (by kernel_rfl) (by kernel_rfl) c10)) fun f7 hf7 => ?_
            refine mops_seg [0, 1, 4, 5, 6, 7, 8, 9, 24, 25, 26, 27, 30, 31, 32, 33, 34, 35, 36, 37, 38, 39, 40, 41, 42, 44, 45, 46, 47, 50, 51, 52, 53, 54, 55, 56, 57, 58, 59, 60, 61, 62, 63, 64, 65, 66, 67] 1 hf7 (l' := [⟨0, [], .s (.int .u16 start_)⟩, ⟨1, [], .sl false l_.length (cat srec_Piece.v l_)⟩, ⟨4, [], .s (.bool false)⟩, ⟨5, [], .s (.string want_10)⟩, ⟨6, [], .ref 0 0 0 m_2⟩, ⟨7, [], .s (.int .i64 i_1)⟩, ⟨8, [], .sl false ((gt l_ i_1).B).length (cat (nI .u8) ((gt l_ i_1).B))⟩, ⟨9, [], .s (.int .i64 k_7)⟩, ⟨24, [], .s (.int .i64 i_1)⟩, ⟨25, [], .sl false l_.length (cat srec_Piece.v l_)⟩, ⟨26, [], .s (.int .i64 (ln l_))⟩, ⟨27, [], .s (.bool (decide (i_1 < (ln l_))))⟩, ⟨30, [], .sl false l_.length (cat srec_Piece.v l_)⟩, ⟨31, [], .s (.int .i64 i_1)⟩, ⟨32, [], .ip ((cat srec_Piece.v l_).drop ((i_1 : Int).toNat * 2))⟩, ⟨33, [], .ip (((cat srec_Piece.v l_).drop ((i_1 : Int).toNat * 2)).drop 1)⟩, ⟨34, [], .sl false ((gt l_ i_1).B).length (cat (nI .u8) ((gt l_ i_1).B))⟩, ⟨35, [], .ref 0 0 0 m_2⟩, ⟨36, [], .sl false l_.length (cat srec_Piece.v l_)⟩, ⟨37, [], .s (.int .i64 i_1)⟩, ⟨38, [], .ip ((cat srec_Piece.v l_).drop ((i_1 : Int).toNat * 2))⟩, ⟨39, [], .ip (((cat srec_Piece.v l_).drop ((i_1 : Int).toNat * 2)).drop 0)⟩, ⟨40, [], .s (.int .u16 (gt l_ i_1).At)⟩, ⟨41, [], .ref 0 0 (0 + ((gt l_ i_1).At : Int).toNat * 1) (m_2 - ((gt l_ i_1).At : Int).toNat)⟩, ⟨42, [], .sl false ((gt l_ i_1).B).length (cat (nI .u8) ((gt l_ i_1).B))⟩, ⟨44, [], .s (.int .i64 k_7)⟩, ⟨45, [], .sl false ((gt l_ i_1).B).length (cat (nI .u8) ((gt l_ i_1).B))⟩, ⟨46, [], .s (.int .i64 (ln ((gt l_ i_1).B)))⟩, ⟨47, [], .s (.bool (decide (k_7 < (ln ((gt l_ i_1).B)))))⟩, ⟨50, [], .s (.string want_10)⟩, ⟨51, [], .sl false l_.length (cat srec_Piece.v l_)⟩, ⟨52, [], .s (.int .i64 i_1)⟩, ⟨53, [], .ip ((cat srec_Piece.v l_).drop ((i_1 : Int).toNat * 2))⟩, ⟨54, [], .ip (((cat srec_Piece.v l_).drop ((i_1 : Int).toNat * 2)).drop 0)⟩, ⟨55, [], .s (.int .u16 (gt l_ i_1).At)⟩, ⟨56, [], .s (.int .i64 k_7)⟩, ⟨57, [], .s (.int .u16 (IntKind.wrap .u16 k_7))⟩, ⟨58, [], .s (.int .u16 (IntKind.wrap .u16 ((gt l_ i_1).At + (IntKind.wrap .u16 k_7))))⟩, ⟨59, [], .sl false ((gt l_ i_1).B).length (cat (nI .u8) ((gt l_ i_1).B))⟩, ⟨60, [], .s (.int .i64 k_7)⟩, ⟨61, [], .s (.int .i64 k_7)⟩, ⟨62, [], .s (.int .i64 (IntKind.wrap .i64 (k_7 + 32)))⟩, ⟨63, [], .sl false ((gt l_ i_1).B).length (cat (nI .u8) ((gt l_ i_1).B))⟩, ⟨64, [], .s (.int .i64 (ln ((gt l_ i_1).B)))⟩, ⟨65, [], .s (.int .i64 (if (ln ((gt l_ i_1).B)) < (IntKind.wrap .i64 (k_7 + 32)) then (ln ((gt l_ i_1).B)) else (IntKind.wrap .i64 (k_7 + 32))))⟩, ⟨66, [], .sl (false && ((if (ln ((gt l_ i_1).B)) < (IntKind.wrap .i64 (k_7 + 32)) then (ln ((gt l_ i_1).B)) else (IntKind.wrap .i64 (k_7 + 32))) : Int).toNat == ((gt l_ i_1).B).length) (((if (ln ((gt l_ i_1).B)) < (IntKind.wrap .i64 (k_7 + 32)) then (ln ((gt l_ i_1).B)) else (IntKind.wrap .i64 (k_7 + 32))) : Int).toNat - (k_7 : Int).toNat) (cat (nI .u8) (((gt l_ i_1).B).drop (k_7 : Int).toNat))⟩, ⟨67, [], .agg [.s (.int .i64 1), .s (.int .u16 (IntKind.wrap .u16 ((gt l_ i_1).At + (IntKind.wrap .u16 k_7)))), .sl (false && ((if (ln ((gt l_ i_1).B)) < (IntKind.wrap .i64 (k_7 + 32)) then (ln ((gt l_ i_1).B)) else (IntKind.wrap .i64 (k_7 + 32))) : Int).toNat == ((gt l_ i_1).B).length) (((if (ln ((gt l_ i_1).B)) < (IntKind.wrap .i64 (k_7 + 32)) then (ln ((gt l_ i_1).B)) else (IntKind.wrap .i64 (k_7 + 32))) : Int).toNat - (k_7 : Int).toNat) (cat (nI .u8) (((gt l_ i_1).B).drop (k_7 : Int).toNat))]⟩]) (L' := [⟨0, .grow, 1, cat (nI .u8) (cpyL l_3 (((gt l_ i_1).At : Int).toNat) (l_3.length - ((gt l_ i_1).At : Int).toNat) ((gt l_ i_1).B))⟩]) (by kernel_rfl) fun f8 hf8 => ?_
            obtain ⟨r_9, hx_r_9, h⟩ := Option.bind_eq_some_iff.1 h
            refine mops_call rfl hf8 (av := [.agg [.s (.int .i64 1), .s (.int .u16 (IntKind.wrap .u16 ((gt l_ i_1).At + (IntKind.wrap .u16 k_7)))), .sl (false && ((if (ln ((gt l_ i_1).B)) < (IntKind.wrap .i64 (k_7 + 32)) then (ln ((gt l_ i_1).B)) else (IntKind.wrap .i64 (k_7 + 32))) : Int).toNat == ((gt l_ i_1).B).length) (((if (ln ((gt l_ i_1).B)) < (IntKind.wrap .i64 (k_7 + 32)) then (ln ((gt l_ i_1).B)) else (IntKind.wrap .i64 (k_7 + 32))) : Int).toNat - (k_7 : Int).toNat) (cat (nI .u8) (((gt l_ i_1).B).drop (k_7 : Int).toNat))]]) (by kernel_rfl) (v := .s (.string r_9)) (CalL.purew (spinetref40_Text_ok (spinetref40_Line.mk (1) (IntKind.wrap .u16 ((gt l_ i_1).At + (IntKind.wrap .u16 k_7))) ((((gt l_ i_1).B).drop (k_7 : Int).toNat).take (((if (ln ((gt l_ i_1).B)) < (IntKind.wrap .i64 (k_7 + 32)) then (ln ((gt l_ i_1).B)) else (IntKind.wrap .i64 (k_7 + 32))) : Int).toNat - (k_7 : Int).toNat))) r_9 hx_r_9) (Wks.cons (Wk.agg (Wks.cons Wk.refl (Wks.cons Wk.refl (Wks.cons (Wk.part (g := (nI .u8)) (cut_le (l := ((gt l_ i_1).B)) (a := (k_7 : Int).toNat) (b := ((if (ln ((gt l_ i_1).B)) < (IntKind.wrap .i64 (k_7 + 32)) then (ln ((gt l_ i_1).B)) else (IntKind.wrap .i64 (k_7 + 32))) : Int).toNat) (cut_ss (n := ((gt l_ i_1).B).length) c10) rfl)) Wks.nil)))) Wks.nil) (by simp [V.static, statics, cat_stat]) rfl (by kernel_rfl)) (fun _ => rfl) fun f9 hf9 => ?_
            obtain ⟨c11, h⟩ := as_ok h
            refine mops_adv rfl (v := .s (.string (r_9 ++ (⟨#[10]⟩ : ByteArray)))) hf9 (by kernel_rfl) (e_sadd (t := r_9) (t' := (⟨#[10]⟩ : ByteArray)) (by kernel_rfl) (by kernel_rfl) c11) fun f10 hf10 => ?_
            obtain ⟨c12, h⟩ := as_ok h
            refine mops_adv rfl (v := .s (.string (want_10 ++ (r_9 ++ (⟨#[10]⟩ : ByteArray))))) hf10 (by kernel_rfl) (e_sadd (t := want_10) (t' := (r_9 ++ (⟨#[10]⟩ : ByteArray))) (by kernel_rfl) (by kernel_rfl) c12) fun f11 hf11 => ?_
            refine mops_end [0, 1, 4, 5, 6, 7, 8, 9, 24, 25, 26, 27, 30, 31, 32, 33, 34, 35, 36, 37, 38, 39, 40, 41, 42, 44, 45, 46, 47, 50, 51, 52, 53, 54, 55, 56, 57, 58, 59, 60, 61, 62, 63, 64, 65, 66, 67, 68, 69, 70] hf11 (l' := [⟨0, [], .s (.int .u16 start_)⟩, ⟨1, [], .sl false l_.length (cat srec_Piece.v l_)⟩, ⟨4, [], .s (.bool false)⟩, ⟨5, [], .s (.string (want_10 ++ (r_9 ++ (⟨#[10]⟩ : ByteArray))))⟩, ⟨6, [], .ref 0 0 0 m_2⟩, ⟨7, [], .s (.int .i64 i_1)⟩, ⟨8, [], .sl false ((gt l_ i_1).B).length (cat (nI .u8) ((gt l_ i_1).B))⟩, ⟨9, [], .s (.int .i64 k_7)⟩, ⟨24, [], .s (.int .i64 i_1)⟩, ⟨25, [], .sl false l_.length (cat srec_Piece.v l_)⟩, ⟨26, [], .s (.int .i64 (ln l_))⟩, ⟨27, [], .s (.bool (decide (i_1 < (ln l_))))⟩, ⟨30, [], .sl false l_.length (cat srec_Piece.v l_)⟩, ⟨31, [], .s (.int .i64 i_1)⟩, ⟨32, [], .ip ((cat srec_Piece.v l_).drop ((i_1 : Int).toNat * 2))⟩, ⟨33, [], .ip (((cat srec_Piece.v l_).drop ((i_1 : Int).toNat * 2)).drop 1)⟩, ⟨34, [], .sl false ((gt l_ i_1).B).length (cat (nI .u8) ((gt l_ i_1).B))⟩, ⟨35, [], .ref 0 0 0 m_2⟩, ⟨36, [], .sl false l_.length (cat srec_Piece.v l_)⟩, ⟨37, [], .s (.int .i64 i_1)⟩, ⟨38, [], .ip ((cat srec_Piece.v l_).drop ((i_1 : Int).toNat * 2))⟩, ⟨39, [], .ip (((cat srec_Piece.v l_).drop ((i_1 : Int).toNat * 2)).drop 0)⟩, ⟨40, [], .s (.int .u16 (gt l_ i_1).At)⟩, ⟨41, [], .ref 0 0 (0 + ((gt l_ i_1).At : Int).toNat * 1) (m_2 - ((gt l_ i_1).At : Int).toNat)⟩, ⟨42, [], .sl false ((gt l_ i_1).B).length (cat (nI .u8) ((gt l_ i_1).B))⟩, ⟨44, [], .s (.int .i64 k_7)⟩, ⟨45, [], .sl false ((gt l_ i_1).B).length (cat (nI .u8) ((gt l_ i_1).B))⟩, ⟨46, [], .s (.int .i64 (ln ((gt l_ i_1).B)))⟩, ⟨47, [], .s (.bool (decide (k_7 < (ln ((gt l_ i_1).B)))))⟩, ⟨50, [], .s (.string want_10)⟩, ⟨51, [], .sl false l_.length (cat srec_Piece.v l_)⟩, ⟨52, [], .s (.int .i64 i_1)⟩, ⟨53, [], .ip ((cat srec_Piece.v l_).drop ((i_1 : Int).toNat * 2))⟩, ⟨54, [], .ip (((cat srec_Piece.v l_).drop ((i_1 : Int).toNat * 2)).drop 0)⟩, ⟨55, [], .s (.int .u16 (gt l_ i_1).At)⟩, ⟨56, [], .s (.int .i64 k_7)⟩, ⟨57, [], .s (.int .u16 (IntKind.wrap .u16 k_7))⟩, ⟨58, [], .s (.int .u16 (IntKind.wrap .u16 ((gt l_ i_1).At + (IntKind.wrap .u16 k_7))))⟩, ⟨59, [], .sl false ((gt l_ i_1).B).length (cat (nI .u8) ((gt l_ i_1).B))⟩, ⟨60, [], .s (.int .i64 k_7)⟩, ⟨61, [], .s (.int .i64 k_7)⟩, ⟨62, [], .s (.int .i64 (IntKind.wrap .i64 (k_7 + 32)))⟩, ⟨63, [], .sl false ((gt l_ i_1).B).length (cat (nI .u8) ((gt l_ i_1).B))⟩, ⟨64, [], .s (.int .i64 (ln ((gt l_ i_1).B)))⟩, ⟨65, [], .s (.int .i64 (if (ln ((gt l_ i_1).B)) < (IntKind.wrap .i64 (k_7 + 32)) then (ln ((gt l_ i_1).B)) else (IntKind.wrap .i64 (k_7 + 32))))⟩, ⟨66, [], .sl (false && ((if (ln ((gt l_ i_1).B)) < (IntKind.wrap .i64 (k_7 + 32)) then (ln ((gt l_ i_1).B)) else (IntKind.wrap .i64 (k_7 + 32))) : Int).toNat == ((gt l_ i_1).B).length) (((if (ln ((gt l_ i_1).B)) < (IntKind.wrap .i64 (k_7 + 32)) then (ln ((gt l_ i_1).B)) else (IntKind.wrap .i64 (k_7 + 32))) : Int).toNat - (k_7 : Int).toNat) (cat (nI .u8) (((gt l_ i_1).B).drop (k_7 : Int).toNat))⟩, ⟨67, [], .agg [.s (.int .i64 1), .s (.int .u16 (IntKind.wrap .u16 ((gt l_ i_1).At + (IntKind.wrap .u16 k_7)))), .sl (false && ((if (ln ((gt l_ i_1).B)) < (IntKind.wrap .i64 (k_7 + 32)) then (ln ((gt l_ i_1).B)) else (IntKind.wrap .i64 (k_7 + 32))) : Int).toNat == ((gt l_ i_1).B).length) (((if (ln ((gt l_ i_1).B)) < (IntKind.wrap .i64 (k_7 + 32)) then (ln ((gt l_ i_1).B)) else (IntKind.wrap .i64 (k_7 + 32))) : Int).toNat - (k_7 : Int).toNat) (cat (nI .u8) (((gt l_ i_1).B).drop (k_7 : Int).toNat))]⟩, ⟨68, [], .s (.string r_9)⟩, ⟨69, [], .s (.string (r_9 ++ (⟨#[10]⟩ : ByteArray)))⟩, ⟨70, [], .s (.string (want_10 ++ (r_9 ++ (⟨#[10]⟩ : ByteArray))))⟩]) (L' := [⟨0, .grow, 1, cat (nI .u8) (cpyL l_3 (((gt l_ i_1).At : Int).toNat) (l_3.length - ((gt l_ i_1).At : Int).toNat) ((gt l_ i_1).B))⟩]) (by kernel_rfl) fun f12 hf12 => ?_
            intro _
            refine lw_end (by kernel_rfl) ?_
            refine k_b ?_
            refine k_c ?_
            refine k_reg ?_
            refine mops_en hf12 (by kernel_rfl) fun f13 hf13 => ?_
            refine k_l ?_
            exact ih _ _ ⟨(want_10 ++ (r_9 ++ (⟨#[10]⟩ : ByteArray))), (IntKind.wrap .i64 (k_7 + 32)), h, FOk_of [0, 1, 4, 5, 6, 7, 8, 9, 24, 25, 26, 27, 30, 31, 32, 33, 34, 35, 36, 37, 38, 39, 40, 41, 42] hf13 (by kernel_rfl), (by kernel_rfl)⟩
          · have h := if_f h hc8
            refine k_exit ?_
            refine x_c nofun ?_
            refine x_l nofun ?_
            refine x_b ?_
            refine k_b ?_
            refine k_hp (L' := [⟨0, .grow, 1, cat (nI .u8) (cpyL l_3 (((gt l_ i_1).At : Int).toNat) (l_3.length - ((gt l_ i_1).At : Int).toNat) ((gt l_ i_1).B))⟩]) (by kernel_rfl) ?_
            exact hgo1 (cpyL l_3 (((gt l_ i_1).At : Int).toNat) (l_3.length - ((gt l_ i_1).At : Int).toNat) ((gt l_ i_1).B)) want_10 k_7 k_7 (decide (k_7 < (ln ((gt l_ i_1).B)))) m_2 (cpyL_len.trans hn_2) (Option.some.inj h) _ (FOk_of [0, 1, 4, 5, 6, 7, 8, 9, 24, 25, 26, 27, 30, 31, 32, 33, 34, 35, 36, 37, 38, 39, 40, 41, 42, 44, 45, 46, 47] hf1 (by kernel_rfl))
      · have h := if_f h hc4
        refine k_exit ?_
        refine x_c nofun ?_
        refine x_l nofun ?_
        refine x_b ?_
        refine k_hp (L' := [⟨0, .grow, 1, cat (nI .u8) l_3⟩]) (by kernel_rfl) ?_
        exact hgo0 l_3 want_7 m_2 hn_2 (Option.some.inj h) _ (FOk_of [0, 1, 4, 5, 6] hf1 (by kernel_rfl))
end Go.Proofs.YtphfmfbebcconaaDoorK
