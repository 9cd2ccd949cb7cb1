/- The Go functions come to the functions over typed data. Printed by a program of this work. -/
import Derived.Test.YthhjooegpjgicaaDoorF
import Derived.Test.YthhjooegpjgicaaDoorProg
import Derived.Test.YthhjooegpjgicaaDoorSc
import Derived.Test.YthhjooegpjgicaaDoorSd
import Derived.Test.YthhjooegpjgicaaDoorSg
namespace Go.Proofs.YthhjooegpjgicaaDoorK
set_option linter.unusedVariables false
set_option linter.unusedSimpArgs false
set_option maxHeartbeats 4000000
open Go.RowKit
attribute [local irreducible] dwv mops lops lqops lwops kont iter run runK rk okK ex E1 vals val chain chB sel resF
def digit_sign_i0 : List Op1 := [(oM 2 (.k (.int .u8 0)) [])]
def digit_sign_i1 : List Op1 := [(oM 3 (.t 0) []), (oE 4 (.bin .lss (.t 3) (.k (.int .u8 10))) [0])]
def digit_sign_i2 : List Op1 := [(oM 5 (.t 0) []), (oE 6 (.bin .add (.k (.int .u8 48)) (.t 5)) [0]), (oM 2 (.t 6) [1, 0, 1])]
def digit_sign_i3 : IR := .ret
def digit_sign_i4 : IR := (.cond (.t 4) (.seq (.reg false digit_sign_i2) digit_sign_i3) .skip)
def digit_sign_i5 : List Op1 := [(oM 7 (.t 0) []), (oE 8 (.bin .add (.k (.int .u8 65)) (.t 7)) [0]), (oE 9 (.bin .sub (.t 8) (.k (.int .u8 10))) [1]), (oM 2 (.t 9) [2, 0, 1, 2])]
def digit_sign_i6 : IR := .ret
def digit_sign_i7 : IR := (.seq (.reg false digit_sign_i5) digit_sign_i6)
def digit_sign_i8 : IR := (.seq (.seq (.reg false digit_sign_i1) digit_sign_i4) digit_sign_i7)
def digit_sign_ir : IR := (.seq (.reg false digit_sign_i0) digit_sign_i8)
theorem digit_sign_cfn : cFn Tryd.prog 27 = some (digit_sign_ir, [(.t 2)], 10) := by kernel_rfl
def digit_sign_V (r : (Int)) : V := .s (.int .u8 r)
def digit_sign_C (r : (Int)) : X → Fr → Hp → Prop := FinL [(.t 2)] [] (digit_sign_V r) []
theorem digit_sign_ok (n_ : Int) (r : (Int)) (h : digit_sign n_ = some r) : Pure Tryd.prog 27 [.s (.int .u8 n_)] (digit_sign_V r) := by
  refine ConL.of digit_sign_cfn (Nat.le_of_ble_eq_true (by kernel_rfl)) (Nat.le_of_ble_eq_true (by kernel_rfl)) ?_
  refine k_start ?_
  show dwv Tryd.prog [] digit_sign_ir (kont Tryd.prog [] (digit_sign_C r) []) (fr0 [.s (.int .u8 n_)]) []
  have hf : FOk (fr0 [.s (.int .u8 n_)]) [⟨0, [], .s (.int .u8 n_)⟩] := ⟨⟨fun _ => rfl, fun h => (h trivial).elim⟩, trivial⟩
  generalize fr0 [.s (.int .u8 n_)] = f at hf ⊢
  unfold digit_sign at h
  refine k_seq ?_
  refine k_reg ?_
  refine mops_en hf (by kernel_rfl) fun f1 hf1 => ?_
  refine k_c ?_
  refine k_seq ?_
  refine k_seq ?_
  refine k_reg ?_
  refine mops_en hf1 (by kernel_rfl) fun f2 hf2 => ?_
  refine k_c ?_
  refine k_cond hf2 (t := (decide (n_ < 10))) (by kernel_rfl) (fun hc1 => ?_) (fun hc1 => ?_)
  · have h := if_t h hc1
    refine k_seq ?_
    refine k_reg ?_
    refine mops_en hf2 (by kernel_rfl) fun f3 hf3 => ?_
    refine k_c ?_
    refine k_ret ?_
    refine x_c nofun ?_
    obtain rfl := Option.some.inj h
    exact k_fin (fin_ret (.inl rfl) hf3 (vs := [.s (.int .u8 (IntKind.wrap .u8 (48 + n_)))]) (by kernel_rfl) (SettL.pure (FzL.stat rfl)))
  · have h := if_f h hc1
    refine k_skip ?_
    refine k_c ?_
    refine k_seq ?_
    refine k_reg ?_
    refine mops_en hf2 (by kernel_rfl) fun f3 hf3 => ?_
    refine k_c ?_
    refine k_ret ?_
    obtain rfl := Option.some.inj h
    exact k_fin (fin_ret (.inl rfl) hf3 (vs := [.s (.int .u8 (IntKind.wrap .u8 ((IntKind.wrap .u8 (65 + n_)) - 10)))]) (by kernel_rfl) (SettL.pure (FzL.stat rfl)))
def strings_Join_i0 : List Op1 := [(oM 4 (.k (.string ⟨#[]⟩)) [])]
def strings_Join_i1 : List Op1 := [(oM 11 (.t 0) []), (oE 12 (.len (.t 11)) [0])]
def strings_Join_i2 : List Op1 := [(oE 14 (.bin .eql (.t 12) (.k (.int .i64 0))) []), (oM 13 (.t 14) [0])]
def strings_Join_i3 : List Op1 := [(oM 4 (.k (.string ⟨#[]⟩)) [])]
def strings_Join_i4 : IR := .ret
def strings_Join_i5 : List Op1 := [(oE 16 (.bin .eql (.t 12) (.k (.int .i64 1))) []), (oM 15 (.t 16) [0])]
def strings_Join_i6 : List Op1 := [(oM 17 (.t 0) []), (oE 18 (.ias 1 (.t 17) (.k (.int .i64 0))) [0]), (oE 19 (.load false 1 (.t 18)) [1]), (oM 4 (.t 19) [2, 0, 1, 2])]
def strings_Join_i7 : IR := .ret
def strings_Join_i8 : IR := (.cond (.t 15) (.seq (.reg false strings_Join_i6) strings_Join_i7) .skip)
def strings_Join_i9 : IR := (.cond (.t 13) (.seq (.reg false strings_Join_i3) strings_Join_i4) (.seq (.reg false strings_Join_i5) strings_Join_i8))
def strings_Join_i10 : IR := (.block 0 (.seq (.reg false strings_Join_i2) strings_Join_i9))
def strings_Join_i11 : List Op1 := [(oM 5 (.k (.int .i64 0)) [])]
def strings_Join_i12 : List Op1 := [(oM 20 (.t 1) []), (oE 21 (.lens (.t 20)) [0]), (oE 22 (.bin .gtr (.t 21) (.k (.int .i64 0))) [1])]
def strings_Join_i13 : List Op1 := [(oM 23 (.t 1) []), (oE 24 (.lens (.t 23)) [0]), (oM 25 (.t 0) []), (oE 26 (.len (.t 25)) [2]), (oE 27 (.bin .sub (.t 26) (.k (.int .i64 1))) [3]), (oE 28 (.bin .quo (.k (.int .i64 9223372036854775807)) (.t 27)) [4]), (oE 29 (.bin .geq (.t 24) (.t 28)) [1, 5])]
def strings_Join_i14 : List Op1 := [(oE 30 (.mki 9 (.k (.string ⟨#[115, 116, 114, 105, 110, 103, 115, 58, 32, 74, 111, 105, 110, 32, 111, 117, 116, 112, 117, 116, 32, 108, 101, 110, 103, 116, 104, 32, 111, 118, 101, 114, 102, 108, 111, 119]⟩))) []), (oN (.lens (.k (.bool false))) [0])]
def strings_Join_i15 : IR := (.cond (.t 29) (.reg false strings_Join_i14) .skip)
def strings_Join_i16 : List Op1 := [(oM 31 (.t 5) []), (oM 32 (.t 1) []), (oE 33 (.lens (.t 32)) [1]), (oM 34 (.t 0) []), (oE 35 (.len (.t 34)) [3]), (oE 36 (.bin .sub (.t 35) (.k (.int .i64 1))) [4]), (oE 37 (.bin .mul (.t 33) (.t 36)) [2, 5]), (oE 38 (.bin .add (.t 31) (.t 37)) [0, 6]), (oM 5 (.t 38) [7, 0, 1, 2, 3, 4, 5, 6, 7])]
def strings_Join_i17 : IR := (.reg false strings_Join_i16)
def strings_Join_i18 : IR := (.cond (.t 22) (.seq (.seq (.reg false strings_Join_i13) strings_Join_i15) strings_Join_i17) .skip)
def strings_Join_i19 : List Op1 := [(oM 39 (.t 0) []), (oE 40 (.len (.t 39)) [0]), (oM 41 (.k (.int .i64 0)) [])]
def strings_Join_i20 : List Op1 := [(oE 42 (.bin .lss (.t 41) (.t 40)) [])]
def strings_Join_i21 : List Op1 := [(oE 43 (.ias 1 (.t 39) (.t 41)) []), (oE 44 (.load false 1 (.t 43)) [0]), (oM 7 (.t 44) [1, 0, 1])]
def strings_Join_i22 : List Op1 := [(oM 45 (.t 7) []), (oE 46 (.lens (.t 45)) [0]), (oM 47 (.t 5) []), (oE 48 (.bin .sub (.k (.int .i64 9223372036854775807)) (.t 47)) [2]), (oE 49 (.bin .gtr (.t 46) (.t 48)) [1, 3])]
def strings_Join_i23 : List Op1 := [(oE 50 (.mki 9 (.k (.string ⟨#[115, 116, 114, 105, 110, 103, 115, 58, 32, 74, 111, 105, 110, 32, 111, 117, 116, 112, 117, 116, 32, 108, 101, 110, 103, 116, 104, 32, 111, 118, 101, 114, 102, 108, 111, 119]⟩))) []), (oN (.lens (.k (.bool false))) [0])]
def strings_Join_i24 : IR := (.cond (.t 49) (.reg false strings_Join_i23) .skip)
def strings_Join_i25 : List Op1 := [(oM 51 (.t 5) []), (oM 52 (.t 7) []), (oE 53 (.lens (.t 52)) [1]), (oE 54 (.bin .add (.t 51) (.t 53)) [0, 2]), (oM 5 (.t 54) [3, 0, 1, 2, 3])]
def strings_Join_i26 : IR := (.reg false strings_Join_i25)
def strings_Join_i27 : IR := (.seq (.seq (.reg false strings_Join_i22) strings_Join_i24) strings_Join_i26)
def strings_Join_i28 : List Op1 := [(oE 55 (.bin .add (.t 41) (.k (.int .i64 1))) []), (oM 41 (.t 55) [0])]
def strings_Join_i29 : IR := (.reg false strings_Join_i28)
def strings_Join_i30 : IR := (.seq (.block 2 (.seq (.reg false strings_Join_i21) strings_Join_i27)) strings_Join_i29)
def strings_Join_i31 : IR := (.seq (.cond (.t 42) .skip (.exit 1)) strings_Join_i30)
def strings_Join_i32 : IR := (.seq (.reg false strings_Join_i20) strings_Join_i31)
def strings_Join_i33 : IR := (.block 1 (.loop strings_Join_i32))
def strings_Join_i34 : List Op1 := [(oE 8 (.zerob 60 5) [])]
def strings_Join_i35 : List Op1 := [(oM 56 (.t 5) []), (oC 57 28 [(.t 8), (.t 56)] [0])]
def strings_Join_i36 : List Op1 := [(oM 58 (.t 0) []), (oE 59 (.ias 1 (.t 58) (.k (.int .i64 0))) [0]), (oE 60 (.load false 1 (.t 59)) [1]), (oC 61 29 [(.t 8), (.t 60)] [2])]
def strings_Join_i37 : List Op1 := [(oM 62 (.t 0) []), (oE 63 (.slice 1 (.t 62) (some (.k (.int .i64 1))) none) [0]), (oE 64 (.len (.t 63)) [1]), (oM 65 (.k (.int .i64 0)) [])]
def strings_Join_i38 : List Op1 := [(oE 66 (.bin .lss (.t 65) (.t 64)) [])]
def strings_Join_i39 : List Op1 := [(oE 67 (.ias 1 (.t 63) (.t 65)) []), (oE 68 (.load false 1 (.t 67)) [0]), (oM 10 (.t 68) [1, 0, 1])]
def strings_Join_i40 : List Op1 := [(oM 69 (.t 1) []), (oC 70 29 [(.t 8), (.t 69)] [0])]
def strings_Join_i41 : List Op1 := [(oM 71 (.t 10) []), (oC 72 29 [(.t 8), (.t 71)] [0])]
def strings_Join_i42 : IR := (.reg false strings_Join_i41)
def strings_Join_i43 : IR := (.seq (.reg false strings_Join_i40) strings_Join_i42)
def strings_Join_i44 : List Op1 := [(oE 73 (.bin .add (.t 65) (.k (.int .i64 1))) []), (oM 65 (.t 73) [0])]
def strings_Join_i45 : IR := (.reg false strings_Join_i44)
def strings_Join_i46 : IR := (.seq (.block 4 (.seq (.reg false strings_Join_i39) strings_Join_i43)) strings_Join_i45)
def strings_Join_i47 : IR := (.seq (.cond (.t 66) .skip (.exit 3)) strings_Join_i46)
def strings_Join_i48 : IR := (.seq (.reg false strings_Join_i38) strings_Join_i47)
def strings_Join_i49 : IR := (.block 3 (.loop strings_Join_i48))
def strings_Join_i50 : List Op1 := [(oC 74 30 [(.t 8)] []), (oM 4 (.t 74) [0, 0, 0])]
def strings_Join_i51 : IR := .ret
def strings_Join_i52 : IR := (.seq (.reg false strings_Join_i50) strings_Join_i51)
def strings_Join_i53 : IR := (.seq (.seq (.reg false strings_Join_i37) strings_Join_i49) strings_Join_i52)
def strings_Join_i54 : IR := (.seq (.reg false strings_Join_i36) strings_Join_i53)
def strings_Join_i55 : IR := (.seq (.reg false strings_Join_i35) strings_Join_i54)
def strings_Join_i56 : IR := (.seq (.reg false strings_Join_i34) strings_Join_i55)
def strings_Join_i57 : IR := (.seq (.seq (.reg false strings_Join_i19) strings_Join_i33) strings_Join_i56)
def strings_Join_i58 : IR := (.seq (.seq (.reg false strings_Join_i12) strings_Join_i18) strings_Join_i57)
def strings_Join_i59 : IR := (.seq (.reg false strings_Join_i11) strings_Join_i58)
def strings_Join_i60 : IR := (.seq (.seq (.reg false strings_Join_i1) strings_Join_i10) strings_Join_i59)
def strings_Join_ir : IR := (.seq (.reg false strings_Join_i0) strings_Join_i60)
theorem strings_Join_cfn : cFn Tryd.prog 21 = some (strings_Join_ir, [(.t 4)], 75) := by kernel_rfl
def strings_Join_V (r : (ByteArray)) : V := .s (.string r)
def strings_Join_C (r : (ByteArray)) : X → Fr → Hp → Prop := FinL [(.t 4)] [] (strings_Join_V r) []
theorem strings_Join_ok (elems_ : (List ByteArray)) (sep_ : ByteArray) (r : (ByteArray)) (h : strings_Join elems_ sep_ = some r) : Pure Tryd.prog 21 [.sl false elems_.length (cat nS elems_), .s (.string sep_)] (strings_Join_V r) := by
  refine ConL.of strings_Join_cfn (Nat.le_of_ble_eq_true (by kernel_rfl)) (Nat.le_of_ble_eq_true (by kernel_rfl)) ?_
  refine k_start ?_
  show dwv Tryd.prog [] strings_Join_ir (kont Tryd.prog [] (strings_Join_C r) []) (fr0 [.sl false elems_.length (cat nS elems_), .s (.string sep_)]) []
  have hf : FOk (fr0 [.sl false elems_.length (cat nS elems_), .s (.string sep_)]) [⟨0, [], .sl false elems_.length (cat nS elems_)⟩, ⟨1, [], .s (.string sep_)⟩] := ⟨⟨fun _ => rfl, fun h => (h trivial).elim⟩, ⟨fun _ => rfl, fun h => (h trivial).elim⟩, trivial⟩
  generalize fr0 [.sl false elems_.length (cat nS elems_), .s (.string sep_)] = f at hf ⊢
  unfold strings_Join at h
  refine k_seq ?_
  refine k_reg ?_
  refine mops_en hf (by kernel_rfl) fun f1 hf1 => ?_
  refine k_c ?_
  refine k_seq ?_
  refine k_seq ?_
  refine k_reg ?_
  refine mops_en hf1 (by kernel_rfl) fun f2 hf2 => ?_
  refine k_c ?_
  refine k_block ?_
  refine k_seq ?_
  refine k_reg ?_
  refine mops_en hf2 (by kernel_rfl) fun f3 hf3 => ?_
  refine k_c ?_
  refine k_cond hf3 (t := ((ln elems_) == 0)) (by kernel_rfl) (fun hc1 => ?_) (fun hc1 => ?_)
  · have h := if_t h hc1
    refine k_seq ?_
    refine k_reg ?_
    refine mops_en hf3 (by kernel_rfl) fun f4 hf4 => ?_
    refine k_c ?_
    refine k_ret ?_
    refine x_br ?_
    refine x_c nofun ?_
    obtain rfl := Option.some.inj h
    exact k_fin (fin_ret (.inl rfl) hf4 (vs := [.s (.string (⟨#[]⟩ : ByteArray))]) (by kernel_rfl) (SettL.pure (FzL.stat rfl)))
  · have h := if_f h hc1
    refine k_seq ?_
    refine k_reg ?_
    refine mops_en hf3 (by kernel_rfl) fun f4 hf4 => ?_
    refine k_c ?_
    refine k_cond hf4 (t := ((ln elems_) == 1)) (by kernel_rfl) (fun hc2 => ?_) (fun hc2 => ?_)
    · have h := if_t h hc2
      refine k_seq ?_
      refine k_reg ?_
      refine mops_sg 1 hf4 (by kernel_rfl) fun f5 hf5 => ?_
      obtain ⟨c3, h⟩ := as_ok h
      refine mops_adv rfl (v := .ip ((cat nS elems_).drop ((0 : Int).toNat * 1))) hf5 (by kernel_rfl) (e_ias (n := elems_.length) (xv := .sl false elems_.length (cat nS elems_)) (k := .i64) (iv := 0) (p := .ip ((cat nS elems_).drop ((0 : Int).toNat * 1))) (by kernel_rfl) (by kernel_rfl) (by kernel_rfl) (by kernel_rfl) c3) fun f6 hf6 => ?_
      refine mops_adv rfl (v := .s (.string (gt elems_ (0)))) hf6 (by kernel_rfl) (e_load_ip (g := nS) (l := elems_) (iv := 0) [] (by kernel_rfl) c3 (by kernel_rfl) (by kernel_rfl)) fun f7 hf7 => ?_
      refine mops_en hf7 (by kernel_rfl) fun f8 hf8 => ?_
      refine k_c ?_
      refine k_ret ?_
      refine x_br ?_
      refine x_c nofun ?_
      obtain rfl := Option.some.inj h
      exact k_fin (fin_ret (.inl rfl) hf8 (vs := [.s (.string (gt elems_ (0)))]) (by kernel_rfl) (SettL.pure (FzL.stat rfl)))
    · have h := if_f h hc2
      refine k_skip ?_
      refine k_b ?_
      refine k_c ?_
      refine k_seq ?_
      refine k_reg ?_
      refine mops_en hf4 (by kernel_rfl) fun f5 hf5 => ?_
      refine k_c ?_
      refine k_seq ?_
      refine k_seq ?_
      refine k_reg ?_
      refine mops_en hf5 (by kernel_rfl) fun f6 hf6 => ?_
      refine k_c ?_
      have hj1 : ∀ (n_ : Int), strings_Join_j0 elems_ sep_ n_ = some r → ∀ f, FOk f [⟨0, [], .sl false elems_.length (cat nS elems_)⟩, ⟨1, [], .s (.string sep_)⟩, ⟨4, [], .s (.string (⟨#[]⟩ : ByteArray))⟩, ⟨5, [], .s (.int .i64 n_)⟩] → kont Tryd.prog [] (strings_Join_C r) ((.c strings_Join_i57) :: []) .normal f [] := by
        intro n_ h f hf
        unfold strings_Join_j0 at h
        refine k_c ?_
        refine k_seq ?_
        refine k_seq ?_
        refine k_reg ?_
        refine mops_en hf (by kernel_rfl) fun f1 hf1 => ?_
        refine k_c ?_
        refine k_block ?_
        obtain ⟨o0, hx0, h⟩ := Option.bind_eq_some_iff.1 h
        have hgo0 : ∀ (n_3 : Int), n_3 = o0 → ∀ f, FOk f [⟨0, [], .sl false elems_.length (cat nS elems_)⟩, ⟨1, [], .s (.string sep_)⟩, ⟨4, [], .s (.string (⟨#[]⟩ : ByteArray))⟩, ⟨5, [], .s (.int .i64 n_3)⟩] → kont Tryd.prog [] (strings_Join_C r) ((.c strings_Join_i56) :: []) .normal f [] := by
          intro n_3 e f hf
          subst e
          refine k_c ?_
          refine k_seq ?_
          refine k_reg ?_
          refine mops_en hf (by kernel_rfl) fun f1 hf1 => ?_
          refine k_c ?_
          refine k_seq ?_
          refine k_reg ?_
          refine mops_sg 1 hf1 (by kernel_rfl) fun f2 hf2 => ?_
          obtain ⟨c10, h⟩ := as_ok h
          refine mops_call rfl hf2 (av := [.ptr 1 0 0, .s (.int .i64 n_3)]) (by kernel_rfl) (v := .tup []) (L' := [⟨1, .buf BU, 1, cat (nI .u8) ([] : List Int)⟩, ⟨0, .bld BT, 1, [sp false 1 0, .ref 0 1 0 ([] : List Int).length]⟩]) (CalL.bld (xs := [.int .i64 n_3]) 0 1 (Grow_con true 0 n_3 c10) (by kernel_rfl) rfl (by kernel_rfl) (by kernel_rfl)) (by intro h; cases h) fun f3 hf3 => ?_
          refine mops_en hf3 (by kernel_rfl) fun f4 hf4 => ?_
          refine k_c ?_
          refine k_seq ?_
          refine k_reg ?_
          refine mops_sg 1 hf4 (by kernel_rfl) fun f5 hf5 => ?_
          obtain ⟨c11, h⟩ := as_ok h
          refine mops_adv rfl (v := .ip ((cat nS elems_).drop ((0 : Int).toNat * 1))) hf5 (by kernel_rfl) (e_ias (n := elems_.length) (xv := .sl false elems_.length (cat nS elems_)) (k := .i64) (iv := 0) (p := .ip ((cat nS elems_).drop ((0 : Int).toNat * 1))) (by kernel_rfl) (by kernel_rfl) (by kernel_rfl) (by kernel_rfl) c11) fun f6 hf6 => ?_
          refine mops_adv rfl (v := .s (.string (gt elems_ (0)))) hf6 (by kernel_rfl) (e_load_ip (g := nS) (l := elems_) (iv := 0) [] (by kernel_rfl) c11 (by kernel_rfl) (by kernel_rfl)) fun f7 hf7 => ?_
          obtain ⟨c12, h⟩ := as_ok h
          refine mops_call rfl hf7 (av := [.ptr 1 0 0, .s (.string (gt elems_ (0)))]) (by kernel_rfl) (v := .tup [.s (.int .i64 (((gt elems_ (0)).size : Nat) : Int)), .s .nilIface]) (L' := [⟨2, .buf BU, 1, cat (nI .u8) (([] : List Int) ++ (sbl (gt elems_ (0))))⟩, ⟨0, .bld BT, 1, [sp false 1 0, .ref 0 2 0 (([] : List Int) ++ (sbl (gt elems_ (0)))).length]⟩]) (CalL.bld (xs := [.string (gt elems_ (0))]) 0 1 (ws_con false 1 ([] : List Int) (gt elems_ (0)) c12) (by kernel_rfl) rfl (by kernel_rfl) (by kernel_rfl)) (by intro h; cases h) fun f8 hf8 => ?_
          refine mops_en hf8 (by kernel_rfl) fun f9 hf9 => ?_
          refine k_c ?_
          refine k_seq ?_
          refine k_seq ?_
          refine k_reg ?_
          refine mops_sg 1 hf9 (by kernel_rfl) fun f10 hf10 => ?_
          obtain ⟨c13, h⟩ := as_ok h
          refine mops_adv rfl (v := .sl (false && elems_.length == elems_.length) (elems_.length - (1 : Int).toNat) (cat nS (elems_.drop (1 : Int).toNat))) hf10 (by kernel_rfl) (e_slice_sl (g := nS) (l := elems_) (n := elems_.length) (u := false) (by kernel_rfl) (b_sn (k := .i64) (iv := 1) (by kernel_rfl) c13)) fun f11 hf11 => ?_
          refine mops_en hf11 (by kernel_rfl) fun f12 hf12 => ?_
          refine k_c ?_
          refine k_block ?_
          obtain ⟨o1, hx1, h⟩ := Option.bind_eq_some_iff.1 h
          have hgo1 : ∀ (l_2 : (List Int)) (v_2 : Nat), l_2 = o1 → ∀ f, FOk f [⟨4, [], .s (.string (⟨#[]⟩ : ByteArray))⟩, ⟨8, [], .ptr 1 0 0⟩] → kont Tryd.prog [] (strings_Join_C r) ((.c strings_Join_i52) :: []) .normal f [⟨v_2, .buf BU, 1, cat (nI .u8) l_2⟩, ⟨0, .bld BT, 1, [sp false 1 0, .ref 0 v_2 0 l_2.length]⟩] := by
            intro l_2 v_2 e f hf
            subst e
            refine k_c ?_
            refine k_seq ?_
            refine k_reg ?_
            obtain ⟨c18, h⟩ := as_ok h
            refine mops_call rfl hf (av := [.ptr 1 0 0]) (by kernel_rfl) (v := .s (.string (bs l_2))) (L' := [⟨v_2, .dead, 1, []⟩, ⟨0, .bld BT, 1, [sp false 1 0, .ref 0 v_2 0 l_2.length]⟩]) (CalL.bldD 0 1 (str_con false v_2 l_2 c18) (by kernel_rfl) rfl (by kernel_rfl) (by kernel_rfl)) (by intro h; cases h) fun f1 hf1 => ?_
            refine mops_en hf1 (by kernel_rfl) fun f2 hf2 => ?_
            refine k_c ?_
            refine k_ret ?_
            obtain rfl := Option.some.inj h
            exact k_fin (fin_ret (.inl rfl) hf2 (vs := [.s (.string (bs l_2))]) (by kernel_rfl) (SettL.pure (FzL.stat rfl)))
          refine k_loop BIG ?_
          refine loop_ind (fun n f L => ∃ (l_1 : (List Int)) (t_3 : Int) (v_1 : Nat), strings_Join_l1 elems_ sep_ n l_1 t_3 = some o1 ∧ FOk f [⟨1, [], .s (.string sep_)⟩, ⟨4, [], .s (.string (⟨#[]⟩ : ByteArray))⟩, ⟨8, [], .ptr 1 0 0⟩, ⟨63, [], .sl (false && elems_.length == elems_.length) (elems_.length - (1 : Int).toNat) (cat nS (elems_.drop (1 : Int).toNat))⟩, ⟨64, [], .s (.int .i64 (((elems_.length - (1 : Int).toNat) : Nat) : Int))⟩, ⟨65, [], .s (.int .i64 t_3)⟩] ∧ L = [⟨v_1, .buf BU, 1, cat (nI .u8) l_1⟩, ⟨0, .bld BT, 1, [sp false 1 0, .ref 0 v_1 0 l_1.length]⟩]) ?_ ?_ BIG _ _ ⟨(([] : List Int) ++ (sbl (gt elems_ (0)))), (0), (2), hx1, FOk_of [1, 4, 8, 63, 64, 65] hf12 (by kernel_rfl), (by kernel_rfl)⟩
          · rintro f L ⟨l_1, t_3, v_1, h, _⟩
            cases (show (none : Option _) = some _ from h)
          · rintro n1 R1 ih f L ⟨l_1, t_3, v_1, h, hf, rfl⟩
            rw [strings_Join_l1] at h
            refine k_seq ?_
            refine k_reg ?_
            refine mops_en hf (by kernel_rfl) fun f1 hf1 => ?_
            refine k_c ?_
            refine k_seq ?_
            refine k_cond hf1 (t := (decide (t_3 < (((elems_.length - (1 : Int).toNat) : Nat) : Int)))) (by kernel_rfl) (fun hc14 => ?_) (fun hc14 => ?_)
            · have h := if_t h hc14
              refine k_skip ?_
              refine k_c ?_
              refine k_seq ?_
              refine k_block ?_
              refine k_seq ?_
              refine k_reg ?_
              obtain ⟨c15, h⟩ := as_ok h
              refine mops_adv rfl (v := .ip ((cat nS (elems_.drop (1 : Int).toNat)).drop ((t_3 : Int).toNat * 1))) hf1 (by kernel_rfl) (e_ias (n := (elems_.length - (1 : Int).toNat)) (xv := .sl (false && elems_.length == elems_.length) (elems_.length - (1 : Int).toNat) (cat nS (elems_.drop (1 : Int).toNat))) (k := .i64) (iv := t_3) (p := .ip ((cat nS (elems_.drop (1 : Int).toNat)).drop ((t_3 : Int).toNat * 1))) (by kernel_rfl) (by kernel_rfl) (by kernel_rfl) (by kernel_rfl) c15) fun f2 hf2 => ?_
              refine mops_adv rfl (v := .s (.string (gt (elems_.drop (1 : Int).toNat) t_3))) hf2 (by kernel_rfl) (e_load_ip (g := nS) (l := (elems_.drop (1 : Int).toNat)) (iv := t_3) [] (by kernel_rfl) (part_lt (b := elems_.length) (cut_sn (n := elems_.length) c13) c15) (by kernel_rfl) (by kernel_rfl)) fun f3 hf3 => ?_
              refine mops_en hf3 (by kernel_rfl) fun f4 hf4 => ?_
              refine k_c ?_
              refine k_seq ?_
              refine k_reg ?_
              refine mops_sg 1 hf4 (by kernel_rfl) fun f5 hf5 => ?_
              obtain ⟨c16, h⟩ := as_ok h
              refine mops_call rfl hf5 (av := [.ptr 1 0 0, .s (.string sep_)]) (by kernel_rfl) (v := .tup [.s (.int .i64 ((sep_.size : Nat) : Int)), .s .nilIface]) (L' := [⟨(v_1 + 1), .buf BU, 1, cat (nI .u8) (l_1 ++ (sbl sep_))⟩, ⟨0, .bld BT, 1, [sp false 1 0, .ref 0 (v_1 + 1) 0 (l_1 ++ (sbl sep_)).length]⟩]) (CalL.bld (xs := [.string sep_]) 0 1 (ws_con false v_1 l_1 sep_ c16) (by kernel_rfl) rfl (by kernel_rfl) (by kernel_rfl)) (by intro h; cases h) fun f6 hf6 => ?_
              refine mops_en hf6 (by kernel_rfl) fun f7 hf7 => ?_
              refine k_c ?_
              refine k_reg ?_
              refine mops_sg 1 hf7 (by kernel_rfl) fun f8 hf8 => ?_
              obtain ⟨c17, h⟩ := as_ok h
              refine mops_call rfl hf8 (av := [.ptr 1 0 0, .s (.string (gt (elems_.drop (1 : Int).toNat) t_3))]) (by kernel_rfl) (v := .tup [.s (.int .i64 (((gt (elems_.drop (1 : Int).toNat) t_3).size : Nat) : Int)), .s .nilIface]) (L' := [⟨(((v_1 + 1)) + 1), .buf BU, 1, cat (nI .u8) ((l_1 ++ (sbl sep_)) ++ (sbl (gt (elems_.drop (1 : Int).toNat) t_3)))⟩, ⟨0, .bld BT, 1, [sp false 1 0, .ref 0 (((v_1 + 1)) + 1) 0 ((l_1 ++ (sbl sep_)) ++ (sbl (gt (elems_.drop (1 : Int).toNat) t_3))).length]⟩]) (CalL.bld (xs := [.string (gt (elems_.drop (1 : Int).toNat) t_3)]) 0 1 (ws_con false ((v_1 + 1)) (l_1 ++ (sbl sep_)) (gt (elems_.drop (1 : Int).toNat) t_3) c17) (by kernel_rfl) rfl (by kernel_rfl) (by kernel_rfl)) (by intro h; cases h) fun f9 hf9 => ?_
              refine mops_en hf9 (by kernel_rfl) fun f10 hf10 => ?_
              refine k_b ?_
              refine k_c ?_
              refine k_reg ?_
              refine mops_en hf10 (by kernel_rfl) fun f11 hf11 => ?_
              refine k_l ?_
              exact ih _ _ ⟨((l_1 ++ (sbl sep_)) ++ (sbl (gt (elems_.drop (1 : Int).toNat) t_3))), (IntKind.wrap .i64 (t_3 + 1)), (((v_1 + 1)) + 1), h, FOk_of [1, 4, 8, 63, 64, 65] hf11 (by kernel_rfl), (by kernel_rfl)⟩
            · have h := if_f h hc14
              refine k_exit ?_
              refine x_c nofun ?_
              refine x_l nofun ?_
              refine x_b ?_
              refine k_hp (L' := [⟨v_1, .buf BU, 1, cat (nI .u8) l_1⟩, ⟨0, .bld BT, 1, [sp false 1 0, .ref 0 v_1 0 l_1.length]⟩]) (by kernel_rfl) ?_
              exact hgo1 l_1 v_1 (Option.some.inj h) _ (FOk_of [4, 8] hf1 (by kernel_rfl))
        refine k_loop BIG ?_
        refine loop_ind (fun n f L => ∃ (n_2 : Int) (t_1 : Int), strings_Join_l0 elems_ n n_2 t_1 = some o0 ∧ FOk f [⟨0, [], .sl false elems_.length (cat nS elems_)⟩, ⟨1, [], .s (.string sep_)⟩, ⟨4, [], .s (.string (⟨#[]⟩ : ByteArray))⟩, ⟨5, [], .s (.int .i64 n_2)⟩, ⟨39, [], .sl false elems_.length (cat nS elems_)⟩, ⟨40, [], .s (.int .i64 (ln elems_))⟩, ⟨41, [], .s (.int .i64 t_1)⟩] ∧ L = []) ?_ ?_ BIG _ _ ⟨n_, (0), hx0, FOk_of [0, 1, 4, 5, 39, 40, 41] hf1 (by kernel_rfl), (by kernel_rfl)⟩
        · rintro f L ⟨n_2, t_1, h, _⟩
          cases (show (none : Option _) = some _ from h)
        · rintro n0 R0 ih f L ⟨n_2, t_1, h, hf, rfl⟩
          rw [strings_Join_l0] at h
          refine k_seq ?_
          refine k_reg ?_
          refine mops_en hf (by kernel_rfl) fun f1 hf1 => ?_
          refine k_c ?_
          refine k_seq ?_
          refine k_cond hf1 (t := (decide (t_1 < (ln elems_)))) (by kernel_rfl) (fun hc7 => ?_) (fun hc7 => ?_)
          · have h := if_t h hc7
            refine k_skip ?_
            refine k_c ?_
            refine k_seq ?_
            refine k_block ?_
            refine k_seq ?_
            refine k_reg ?_
            obtain ⟨c8, h⟩ := as_ok h
            refine mops_adv rfl (v := .ip ((cat nS elems_).drop ((t_1 : Int).toNat * 1))) hf1 (by kernel_rfl) (e_ias (n := elems_.length) (xv := .sl false elems_.length (cat nS elems_)) (k := .i64) (iv := t_1) (p := .ip ((cat nS elems_).drop ((t_1 : Int).toNat * 1))) (by kernel_rfl) (by kernel_rfl) (by kernel_rfl) (by kernel_rfl) c8) fun f2 hf2 => ?_
            refine mops_adv rfl (v := .s (.string (gt elems_ t_1))) hf2 (by kernel_rfl) (e_load_ip (g := nS) (l := elems_) (iv := t_1) [] (by kernel_rfl) c8 (by kernel_rfl) (by kernel_rfl)) fun f3 hf3 => ?_
            refine mops_en hf3 (by kernel_rfl) fun f4 hf4 => ?_
            refine k_c ?_
            refine k_seq ?_
            refine k_seq ?_
            refine k_reg ?_
            refine mops_en hf4 (by kernel_rfl) fun f5 hf5 => ?_
            refine k_c ?_
            refine k_cond hf5 (t := (decide ((IntKind.wrap .i64 (9223372036854775807 - n_2)) < (sln (gt elems_ t_1))))) (by kernel_rfl) (fun hc9 => ?_) (fun hc9 => ?_)
            · have h := if_t h hc9
              cases h
            · have h := if_f h hc9
              refine k_skip ?_
              refine k_c ?_
              refine k_reg ?_
              refine mops_en hf5 (by kernel_rfl) fun f6 hf6 => ?_
              refine k_b ?_
              refine k_c ?_
              refine k_reg ?_
              refine mops_en hf6 (by kernel_rfl) fun f7 hf7 => ?_
              refine k_l ?_
              exact ih _ _ ⟨(IntKind.wrap .i64 (n_2 + (sln (gt elems_ t_1)))), (IntKind.wrap .i64 (t_1 + 1)), h, FOk_of [0, 1, 4, 5, 39, 40, 41] hf7 (by kernel_rfl), (by kernel_rfl)⟩
          · have h := if_f h hc7
            refine k_exit ?_
            refine x_c nofun ?_
            refine x_l nofun ?_
            refine x_b ?_
            refine k_hp (L' := []) (by kernel_rfl) ?_
            exact hgo0 n_2 (Option.some.inj h) _ (FOk_of [0, 1, 4, 5] hf1 (by kernel_rfl))
      refine k_cond hf6 (t := (decide (0 < (sln sep_)))) (by kernel_rfl) (fun hc4 => ?_) (fun hc4 => ?_)
      · have h := if_t h hc4
        refine k_seq ?_
        refine k_seq ?_
        refine k_reg ?_
        refine mops_sg 5 hf6 (by kernel_rfl) fun f7 hf7 => ?_
        obtain ⟨c5, h⟩ := as_ok h
        refine mops_adv rfl (v := .s (.int .i64 (IntKind.wrap .i64 (Int.tdiv 9223372036854775807 (IntKind.wrap .i64 ((ln elems_) - 1)))))) hf7 (by kernel_rfl) (e_quo (k := .i64) (iv := 9223372036854775807) (jv := (IntKind.wrap .i64 ((ln elems_) - 1))) (by kernel_rfl) (by kernel_rfl) c5) fun f8 hf8 => ?_
        refine mops_en hf8 (by kernel_rfl) fun f9 hf9 => ?_
        refine k_c ?_
        refine k_cond hf9 (t := (decide ((IntKind.wrap .i64 (Int.tdiv 9223372036854775807 (IntKind.wrap .i64 ((ln elems_) - 1)))) ≤ (sln sep_)))) (by kernel_rfl) (fun hc6 => ?_) (fun hc6 => ?_)
        · have h := if_t h hc6
          cases h
        · have h := if_f h hc6
          refine k_skip ?_
          refine k_c ?_
          refine k_reg ?_
          refine mops_en hf9 (by kernel_rfl) fun f10 hf10 => ?_
          refine k_hp (L' := []) (by kernel_rfl) ?_
          exact hj1 (IntKind.wrap .i64 (0 + (IntKind.wrap .i64 ((sln sep_) * (IntKind.wrap .i64 ((ln elems_) - 1)))))) h _ (FOk_of [0, 1, 4, 5] hf10 (by kernel_rfl))
      · have h := if_f h hc4
        refine k_skip ?_
        refine k_hp (L' := []) (by kernel_rfl) ?_
        exact hj1 (0) h _ (FOk_of [0, 1, 4, 5] hf6 (by kernel_rfl))
def spinetref02_Digits_i0 : List Op1 := [(oM 6 (.k (.string ⟨#[]⟩)) [])]
def spinetref02_Digits_i1 : List Op1 := [(oM 7 (.k (.string ⟨#[]⟩)) [])]
def spinetref02_Digits_i2 : List Op1 := [(oM 9 (.t 0) []), (oE 10 (.bin .gtr (.t 9) (.k (.int .u64 0))) [0]), (oM 11 (.t 10) [1]), (oG 12 (.mv (.t 7)) 11 false [2]), (oG 13 (.lens (.t 12)) 11 false [3, 2]), (oG 14 (.mv (.t 2)) 11 false [2]), (oG 15 (.bin .lss (.t 13) (.t 14)) 11 false [4, 5, 2]), (oE 16 (.pick (.t 11) (.k (.bool true)) (.t 15)) [2, 6]), (oM 17 (.t 16) [7, 2]), (oG 18 (.mv (.t 7)) 17 false [8]), (oG 19 (.bin .eql (.t 18) (.k (.string ⟨#[]⟩))) 17 false [9, 8]), (oE 20 (.pick (.t 17) (.k (.bool true)) (.t 19)) [8, 10])]
def spinetref02_Digits_i3 : IR := (.cond (.t 20) .skip (.exit 0))
def spinetref02_Digits_i4 : List Op1 := [(oM 21 (.t 0) []), (oM 22 (.t 1) []), (oE 23 (.bin .rem (.t 21) (.t 22)) [0, 1]), (oE 24 (.cint .i64 (.t 23)) [2]), (oM 8 (.t 24) [3, 0, 1, 2, 3])]
def spinetref02_Digits_i5 : List Op1 := [(oM 25 (.t 8) []), (oM 26 (.t 8) []), (oE 27 (.bin .add (.t 26) (.k (.int .i64 1))) [1]), (oE 28 (.sstr (.k (.string ⟨#[48, 49, 50, 51, 52, 53, 54, 55, 56, 57, 65, 66, 67, 68, 69, 70]⟩)) (some (.t 25)) (some (.t 27))) [0, 2]), (oM 29 (.t 7) []), (oE 30 (.bin .add (.t 28) (.t 29)) [3, 4]), (oM 7 (.t 30) [5, 0, 1, 2, 3, 4, 5])]
def spinetref02_Digits_i6 : List Op1 := [(oM 31 (.t 0) []), (oM 32 (.t 1) []), (oE 33 (.bin .quo (.t 31) (.t 32)) [0, 1]), (oM 0 (.t 33) [2, 0, 1, 2])]
def spinetref02_Digits_i7 : IR := (.reg false spinetref02_Digits_i6)
def spinetref02_Digits_i8 : IR := (.seq (.reg false spinetref02_Digits_i5) spinetref02_Digits_i7)
def spinetref02_Digits_i9 : IR := (.block 1 (.seq (.reg false spinetref02_Digits_i4) spinetref02_Digits_i8))
def spinetref02_Digits_i10 : IR := (.seq (.seq (.reg false spinetref02_Digits_i2) spinetref02_Digits_i3) spinetref02_Digits_i9)
def spinetref02_Digits_i11 : List Op1 := [(oM 34 (.t 7) []), (oM 6 (.t 34) [0, 0])]
def spinetref02_Digits_i12 : IR := .ret
def spinetref02_Digits_i13 : IR := (.seq (.reg false spinetref02_Digits_i11) spinetref02_Digits_i12)
def spinetref02_Digits_i14 : IR := (.seq (.block 0 (.loop spinetref02_Digits_i10)) spinetref02_Digits_i13)
def spinetref02_Digits_i15 : IR := (.seq (.reg false spinetref02_Digits_i1) spinetref02_Digits_i14)
def spinetref02_Digits_ir : IR := (.seq (.reg false spinetref02_Digits_i0) spinetref02_Digits_i15)
theorem spinetref02_Digits_cfn : cFn Tryd.prog 22 = some (spinetref02_Digits_ir, [(.t 6)], 35) := by kernel_rfl
def spinetref02_Digits_V (r : (ByteArray)) : V := .s (.string r)
def spinetref02_Digits_C (r : (ByteArray)) : X → Fr → Hp → Prop := FinL [(.t 6)] [] (spinetref02_Digits_V r) []
theorem spinetref02_Digits_ok (n_ : Int) (base_ : Int) (width_ : Int) (r : (ByteArray)) (h : spinetref02_Digits n_ base_ width_ = some r) : Pure Tryd.prog 22 [.s (.int .u64 n_), .s (.int .u64 base_), .s (.int .i64 width_)] (spinetref02_Digits_V r) := by
  refine ConL.of spinetref02_Digits_cfn (Nat.le_of_ble_eq_true (by kernel_rfl)) (Nat.le_of_ble_eq_true (by kernel_rfl)) ?_
  refine k_start ?_
  show dwv Tryd.prog [] spinetref02_Digits_ir (kont Tryd.prog [] (spinetref02_Digits_C r) []) (fr0 [.s (.int .u64 n_), .s (.int .u64 base_), .s (.int .i64 width_)]) []
  have hf : FOk (fr0 [.s (.int .u64 n_), .s (.int .u64 base_), .s (.int .i64 width_)]) [⟨0, [], .s (.int .u64 n_)⟩, ⟨1, [], .s (.int .u64 base_)⟩, ⟨2, [], .s (.int .i64 width_)⟩] := ⟨⟨fun _ => rfl, fun h => (h trivial).elim⟩, ⟨fun _ => rfl, fun h => (h trivial).elim⟩, ⟨fun _ => rfl, fun h => (h trivial).elim⟩, trivial⟩
  generalize fr0 [.s (.int .u64 n_), .s (.int .u64 base_), .s (.int .i64 width_)] = f at hf ⊢
  unfold spinetref02_Digits at h
  refine k_seq ?_
  refine k_reg ?_
  refine mops_en hf (by kernel_rfl) fun f1 hf1 => ?_
  refine k_c ?_
  refine k_seq ?_
  refine k_reg ?_
  refine mops_en hf1 (by kernel_rfl) fun f2 hf2 => ?_
  refine k_c ?_
  refine k_seq ?_
  refine k_block ?_
  obtain ⟨o0, hx0, h⟩ := Option.bind_eq_some_iff.1 h
  have hgo0 : ∀ (s_2 : ByteArray), s_2 = o0 → ∀ f, FOk f [⟨6, [], .s (.string (⟨#[]⟩ : ByteArray))⟩, ⟨7, [], .s (.string s_2)⟩] → kont Tryd.prog [] (spinetref02_Digits_C r) ((.c spinetref02_Digits_i13) :: []) .normal f [] := by
    intro s_2 e f hf
    subst e
    refine k_c ?_
    refine k_seq ?_
    refine k_reg ?_
    refine mops_en hf (by kernel_rfl) fun f1 hf1 => ?_
    refine k_c ?_
    refine k_ret ?_
    obtain rfl := Option.some.inj h
    exact k_fin (fin_ret (.inl rfl) hf1 (vs := [.s (.string s_2)]) (by kernel_rfl) (SettL.pure (FzL.stat rfl)))
  refine k_loop BIG ?_
  refine loop_ind (fun n f L => ∃ (t_1 : Int) (s_1 : ByteArray), spinetref02_Digits_l0 base_ width_ n t_1 s_1 = some o0 ∧ FOk f [⟨0, [], .s (.int .u64 t_1)⟩, ⟨1, [], .s (.int .u64 base_)⟩, ⟨2, [], .s (.int .i64 width_)⟩, ⟨6, [], .s (.string (⟨#[]⟩ : ByteArray))⟩, ⟨7, [], .s (.string s_1)⟩] ∧ L = []) ?_ ?_ BIG _ _ ⟨n_, (⟨#[]⟩ : ByteArray), hx0, FOk_of [0, 1, 2, 6, 7] hf2 (by kernel_rfl), (by kernel_rfl)⟩
  · rintro f L ⟨t_1, s_1, h, _⟩
    cases (show (none : Option _) = some _ from h)
  · rintro n0 R0 ih f L ⟨t_1, s_1, h, hf, rfl⟩
    rw [spinetref02_Digits_l0] at h
    refine k_seq ?_
    refine k_seq ?_
    refine k_reg ?_
    refine mops_en hf (by kernel_rfl) fun f1 hf1 => ?_
    refine k_c ?_
    refine k_cond hf1 (t := (((decide (0 < t_1)) || (decide ((sln s_1) < width_))) || (s_1.toList == (⟨#[]⟩ : ByteArray).toList))) (by kernel_rfl) (fun hc1 => ?_) (fun hc1 => ?_)
    · have h := if_t h hc1
      refine k_skip ?_
      refine k_c ?_
      refine k_block ?_
      refine k_seq ?_
      refine k_reg ?_
      refine mops_sg 2 hf1 (by kernel_rfl) fun f2 hf2 => ?_
      obtain ⟨c2, h⟩ := as_ok h
      refine mops_adv rfl (v := .s (.int .u64 (Int.tmod t_1 base_))) hf2 (by kernel_rfl) (e_rem (k := .u64) (iv := t_1) (jv := base_) (by kernel_rfl) (by kernel_rfl) c2) fun f3 hf3 => ?_
      refine mops_en hf3 (by kernel_rfl) fun f4 hf4 => ?_
      refine k_c ?_
      refine k_seq ?_
      refine k_reg ?_
      refine mops_sg 3 hf4 (by kernel_rfl) fun f5 hf5 => ?_
      obtain ⟨c3, h⟩ := as_ok h
      refine mops_adv rfl (v := .s (.string ((⟨#[48, 49, 50, 51, 52, 53, 54, 55, 56, 57, 65, 66, 67, 68, 69, 70]⟩ : ByteArray).extract ((IntKind.wrap .i64 (Int.tmod t_1 base_)) : Int).toNat ((IntKind.wrap .i64 ((IntKind.wrap .i64 (Int.tmod t_1 base_)) + 1)) : Int).toNat))) hf5 (by kernel_rfl) (e_sstr (t := (⟨#[48, 49, 50, 51, 52, 53, 54, 55, 56, 57, 65, 66, 67, 68, 69, 70]⟩ : ByteArray)) (by kernel_rfl) (b_ss (k := .i64) (k' := .i64) (iv := (IntKind.wrap .i64 (Int.tmod t_1 base_))) (jv := (IntKind.wrap .i64 ((IntKind.wrap .i64 (Int.tmod t_1 base_)) + 1))) (by kernel_rfl) (by kernel_rfl) c3)) fun f6 hf6 => ?_
      refine mops_sg 1 hf6 (by kernel_rfl) fun f7 hf7 => ?_
      obtain ⟨c4, h⟩ := as_ok h
      refine mops_adv rfl (v := .s (.string (((⟨#[48, 49, 50, 51, 52, 53, 54, 55, 56, 57, 65, 66, 67, 68, 69, 70]⟩ : ByteArray).extract ((IntKind.wrap .i64 (Int.tmod t_1 base_)) : Int).toNat ((IntKind.wrap .i64 ((IntKind.wrap .i64 (Int.tmod t_1 base_)) + 1)) : Int).toNat) ++ s_1))) hf7 (by kernel_rfl) (e_sadd (t := ((⟨#[48, 49, 50, 51, 52, 53, 54, 55, 56, 57, 65, 66, 67, 68, 69, 70]⟩ : ByteArray).extract ((IntKind.wrap .i64 (Int.tmod t_1 base_)) : Int).toNat ((IntKind.wrap .i64 ((IntKind.wrap .i64 (Int.tmod t_1 base_)) + 1)) : Int).toNat)) (t' := s_1) (by kernel_rfl) (by kernel_rfl) c4) fun f8 hf8 => ?_
      refine mops_en hf8 (by kernel_rfl) fun f9 hf9 => ?_
      refine k_c ?_
      refine k_reg ?_
      refine mops_sg 2 hf9 (by kernel_rfl) fun f10 hf10 => ?_
      obtain ⟨c5, h⟩ := as_ok h
      refine mops_adv rfl (v := .s (.int .u64 (IntKind.wrap .u64 (Int.tdiv t_1 base_)))) hf10 (by kernel_rfl) (e_quo (k := .u64) (iv := t_1) (jv := base_) (by kernel_rfl) (by kernel_rfl) c5) fun f11 hf11 => ?_
      refine mops_en hf11 (by kernel_rfl) fun f12 hf12 => ?_
      refine k_b ?_
      refine k_l ?_
      exact ih _ _ ⟨(IntKind.wrap .u64 (Int.tdiv t_1 base_)), (((⟨#[48, 49, 50, 51, 52, 53, 54, 55, 56, 57, 65, 66, 67, 68, 69, 70]⟩ : ByteArray).extract ((IntKind.wrap .i64 (Int.tmod t_1 base_)) : Int).toNat ((IntKind.wrap .i64 ((IntKind.wrap .i64 (Int.tmod t_1 base_)) + 1)) : Int).toNat) ++ s_1), h, FOk_of [0, 1, 2, 6, 7] hf12 (by kernel_rfl), (by kernel_rfl)⟩
    · have h := if_f h hc1
      refine k_exit ?_
      refine x_c nofun ?_
      refine x_l nofun ?_
      refine x_b ?_
      refine k_hp (L' := []) (by kernel_rfl) ?_
      exact hgo0 s_1 (Option.some.inj h) _ (FOk_of [6, 7] hf1 (by kernel_rfl))
end Go.Proofs.YthhjooegpjgicaaDoorK
