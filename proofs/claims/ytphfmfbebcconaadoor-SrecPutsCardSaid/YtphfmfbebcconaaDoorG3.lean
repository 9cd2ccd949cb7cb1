/- The Go functions come to the functions over typed data. Printed by a program of this work. -/
import Derived.Test.YtphfmfbebcconaaDoorF
import Derived.Test.YtphfmfbebcconaaDoorProg
import Derived.Test.YtphfmfbebcconaaDoorSc
import Derived.Test.YtphfmfbebcconaaDoorSd
import Derived.Test.YtphfmfbebcconaaDoorG2
namespace Go.Proofs.YtphfmfbebcconaaDoorK
set_option linter.unusedVariables false
set_option linter.unusedSimpArgs false
set_option maxHeartbeats 4000000
open Go.RowKit
attribute [local irreducible] dwv mops lops lqops lwops kont iter run runK rk okK ex E1 vals val chain chB sel resF
def srec_Put_i0 : List Op1 := [(oM 4 (.k (.string ⟨#[]⟩)) [])]
def srec_Put_i1 : List Op1 := [(oE 5 (.zerob 44 5) [])]
def srec_Put_i2 : List Op1 := [(oM 10 (.t 1) []), (oE 11 (.len (.t 10)) [0]), (oM 12 (.k (.int .i64 0)) [])]
def srec_Put_i3 : List Op1 := [(oE 13 (.bin .lss (.t 12) (.t 11)) [])]
def srec_Put_i4 : List Op1 := [(oE 14 (.ias 2 (.t 10) (.t 12)) []), (oE 15 (.load true 2 (.t 14)) [0]), (oE 7 (.zero [(.int .u16 0), (.slice none 0 0)]) []), (oN (.store 2 (.t 7) (.t 15)) [2, 1, 0, 1, 2])]
def srec_Put_i5 : List Op1 := [(oM 8 (.k (.int .i64 0)) [])]
def srec_Put_i6 : List Op1 := [(oM 16 (.t 8) []), (oE 17 (.fld 1 (.t 7)) []), (oE 18 (.load false 1 (.t 17)) [1]), (oE 19 (.len (.t 18)) [2]), (oE 20 (.bin .lss (.t 16) (.t 19)) [0, 3])]
def srec_Put_i7 : IR := (.cond (.t 20) .skip (.exit 2))
def srec_Put_i8 : List An := [(aO (oE 23 (.fld 0 (.t 7)) []) false 0 1), (aO (oE 24 (.load false 1 (.t 23)) [0]) false 0 1), (aO (oM 25 (.t 8) []) false 0 1), (aO (oE 26 (.cint .u16 (.t 25)) [2]) false 0 1), (aO (oE 27 (.bin .add (.t 24) (.t 26)) [1, 3]) false 0 1), (aO (oE 28 (.fld 1 (.t 7)) []) false 0 1), (aO (oE 29 (.load false 1 (.t 28)) [5]) false 0 1), (aO (oM 30 (.t 8) []) false 0 1), (aO (oM 31 (.t 8) []) false 0 1), (aO (oE 32 (.bin .add (.t 31) (.k (.int .i64 32))) [8]) false 0 1), (aO (oE 33 (.fld 1 (.t 7)) []) false 0 1), (aO (oE 34 (.load false 1 (.t 33)) [10]) false 0 1), (aO (oE 35 (.len (.t 34)) [11]) false 0 1), (aO (oE 36 (.mnx false (.t 32) (.t 35)) [9, 12]) false 0 1), (aO (oE 37 (.slice 1 (.t 29) (some (.t 30)) (some (.t 36))) [6, 7, 13]) false 0 1), (aO (oE 38 (.build [(.int .i64 0), (.int .u16 0), (.slice none 0 0)] [(0, (1, (.k (.int .i64 1)))), (1, (1, (.t 27))), (2, (1, (.t 37)))]) [4, 14]) false 0 1), (aO (oE 9 (.zero [(.int .i64 0), (.int .u16 0), (.slice none 0 0)]) []) true 0 1), (aO (oN (.store 3 (.t 9) (.t 38)) [16, 15, 0, 1, 2, 3, 4, 5, 6, 7, 8, 9, 10, 11, 12, 13, 14, 15, 16]) true 1 2)]
def srec_Put_i9 : List Op1 := [(oE 39 (.load true 3 (.t 9)) []), (oC 40 14 [(.t 39)] [0]), (oE 41 (.bin .add (.t 40) (.k (.string ⟨#[10]⟩))) [1]), (oC 42 13 [(.t 5), (.t 41)] [2, 1])]
def srec_Put_i10 : IR := (.reg false srec_Put_i9)
def srec_Put_i11 : List Op1 := [(oM 21 (.t 8) []), (oE 22 (.bin .add (.t 21) (.k (.int .i64 32))) [0]), (oM 8 (.t 22) [1, 0, 1])]
def srec_Put_i12 : IR := (.reg false srec_Put_i11)
def srec_Put_i13 : IR := (.seq (.block 3 (.seq (.regw srec_Put_i8) srec_Put_i10)) srec_Put_i12)
def srec_Put_i14 : IR := (.seq (.seq (.reg false srec_Put_i6) srec_Put_i7) srec_Put_i13)
def srec_Put_i15 : IR := (.block 2 (.loop srec_Put_i14))
def srec_Put_i16 : IR := (.seq (.reg false srec_Put_i5) srec_Put_i15)
def srec_Put_i17 : List Op1 := [(oE 43 (.bin .add (.t 12) (.k (.int .i64 1))) []), (oM 12 (.t 43) [0])]
def srec_Put_i18 : IR := (.reg false srec_Put_i17)
def srec_Put_i19 : IR := (.seq (.block 1 (.seq (.reg false srec_Put_i4) srec_Put_i16)) srec_Put_i18)
def srec_Put_i20 : IR := (.seq (.cond (.t 13) .skip (.exit 0)) srec_Put_i19)
def srec_Put_i21 : IR := (.seq (.reg false srec_Put_i3) srec_Put_i20)
def srec_Put_i22 : IR := (.block 0 (.loop srec_Put_i21))
def srec_Put_i23 : List Op1 := [(oM 44 (.t 0) []), (oE 45 (.build [(.int .i64 0), (.int .u16 0), (.slice none 0 0)] [(0, (1, (.k (.int .i64 9)))), (1, (1, (.t 44)))]) [0]), (oC 46 14 [(.t 45)] [1]), (oE 47 (.bin .add (.t 46) (.k (.string ⟨#[10]⟩))) [2]), (oC 48 13 [(.t 5), (.t 47)] [3, 2])]
def srec_Put_i24 : List Op1 := [(oC 49 15 [(.t 5)] []), (oM 4 (.t 49) [0, 0, 0])]
def srec_Put_i25 : IR := .ret
def srec_Put_i26 : IR := (.seq (.reg false srec_Put_i24) srec_Put_i25)
def srec_Put_i27 : IR := (.seq (.reg false srec_Put_i23) srec_Put_i26)
def srec_Put_i28 : IR := (.seq (.seq (.reg false srec_Put_i2) srec_Put_i22) srec_Put_i27)
def srec_Put_i29 : IR := (.seq (.reg false srec_Put_i1) srec_Put_i28)
def srec_Put_ir : IR := (.seq (.reg false srec_Put_i0) srec_Put_i29)
theorem srec_Put_cfn : cFn Tryd.prog 6 = some (srec_Put_ir, [(.t 4)], 50) := by kernel_rfl
def srec_Put_V (r : (ByteArray)) : V := .s (.string r)
def srec_Put_C (r : (ByteArray)) : X → Fr → Hp → Prop := FinL [(.t 4)] [] (srec_Put_V r) []
theorem srec_Put_ok (start_ : Int) (l_ : (List srec_Piece)) (r : (ByteArray)) (h : srec_Put start_ l_ = some r) : Pure Tryd.prog 6 [.s (.int .u16 start_), .sl false l_.length (cat srec_Piece.v l_)] (srec_Put_V r) := by
  refine ConL.of srec_Put_cfn (Nat.le_of_ble_eq_true (by kernel_rfl)) (Nat.le_of_ble_eq_true (by kernel_rfl)) ?_
  refine k_start ?_
  show dwv Tryd.prog [] srec_Put_ir (kont Tryd.prog [] (srec_Put_C r) []) (fr0 [.s (.int .u16 start_), .sl false l_.length (cat srec_Piece.v l_)]) []
  have hf : FOk (fr0 [.s (.int .u16 start_), .sl false l_.length (cat srec_Piece.v l_)]) [⟨0, [], .s (.int .u16 start_)⟩, ⟨1, [], .sl false l_.length (cat srec_Piece.v l_)⟩] := ⟨⟨fun _ => rfl, fun h => (h trivial).elim⟩, ⟨fun _ => rfl, fun h => (h trivial).elim⟩, trivial⟩
  generalize fr0 [.s (.int .u16 start_), .sl false l_.length (cat srec_Piece.v l_)] = f at hf ⊢
  unfold srec_Put at h
  refine k_seq ?_
  refine k_reg ?_
  refine mops_en hf (by kernel_rfl) fun f1 hf1 => ?_
  refine k_c ?_
  refine k_seq ?_
  refine k_reg ?_
  refine mops_en hf1 (by kernel_rfl) fun f2 hf2 => ?_
  refine k_c ?_
  refine k_seq ?_
  refine k_seq ?_
  refine k_reg ?_
  refine mops_en hf2 (by kernel_rfl) fun f3 hf3 => ?_
  refine k_c ?_
  refine k_block ?_
  obtain ⟨o0, hx0, h⟩ := Option.bind_eq_some_iff.1 h
  have hgo0 : ∀ (l_9 : (List Int)) (v_8 : Nat) (z_8 : Bool), l_9 = o0 → ∀ f, FOk f [⟨0, [], .s (.int .u16 start_)⟩, ⟨4, [], .s (.string (⟨#[]⟩ : ByteArray))⟩, ⟨5, [], .ptr 1 0 0⟩] → kont Tryd.prog [] (srec_Put_C r) ((.c srec_Put_i27) :: []) .normal f [⟨v_8, .buf BU, 1, cat (nI .u8) l_9⟩, ⟨0, .bld BT, 1, [sp z_8 1 0, .ref 0 v_8 0 l_9.length]⟩] := by
    intro l_9 v_8 z_8 e f hf
    subst e
    refine k_c ?_
    refine k_seq ?_
    refine k_reg ?_
    refine mops_sg 2 hf (by kernel_rfl) fun f1 hf1 => ?_
    obtain ⟨r_9, hx_r_9, h⟩ := Option.bind_eq_some_iff.1 h
    refine mops_call rfl hf1 (av := [.agg [.s (.int .i64 9), .s (.int .u16 start_), .s (.slice none 0 0)]]) (by kernel_rfl) (v := .s (.string r_9)) (CalL.purew (srec_Line_Text_ok (srec_Line.mk (9) start_ ([] : List Int)) r_9 hx_r_9) (Wks.cons (Wk.agg (Wks.cons Wk.refl (Wks.cons Wk.refl (Wks.cons Wk.nilsl Wks.nil)))) Wks.nil) (by simp [V.static, statics, cat_stat]) rfl (by kernel_rfl)) (fun _ => rfl) fun f2 hf2 => ?_
    obtain ⟨c7, h⟩ := as_ok h
    refine mops_adv rfl (v := .s (.string (r_9 ++ (⟨#[10]⟩ : ByteArray)))) hf2 (by kernel_rfl) (e_sadd (t := r_9) (t' := (⟨#[10]⟩ : ByteArray)) (by kernel_rfl) (by kernel_rfl) c7) fun f3 hf3 => ?_
    obtain ⟨c8, h⟩ := as_ok h
    refine mops_call rfl hf3 (av := [.ptr 1 0 0, .s (.string (r_9 ++ (⟨#[10]⟩ : ByteArray)))]) (by kernel_rfl) (v := .tup [.s (.int .i64 (((r_9 ++ (⟨#[10]⟩ : ByteArray)).size : Nat) : Int)), .s .nilIface]) (L' := [⟨(v_8 + 1), .buf BU, 1, cat (nI .u8) (l_9 ++ (sbl (r_9 ++ (⟨#[10]⟩ : ByteArray))))⟩, ⟨0, .bld BT, 1, [sp false 1 0, .ref 0 (v_8 + 1) 0 (l_9 ++ (sbl (r_9 ++ (⟨#[10]⟩ : ByteArray)))).length]⟩]) (CalL.bld (xs := [.string (r_9 ++ (⟨#[10]⟩ : ByteArray))]) 0 1 (ws_con z_8 v_8 l_9 (r_9 ++ (⟨#[10]⟩ : ByteArray)) c8) (by kernel_rfl) rfl (by kernel_rfl) (by kernel_rfl)) (by intro h; cases h) fun f4 hf4 => ?_
    refine mops_en hf4 (by kernel_rfl) fun f5 hf5 => ?_
    refine k_c ?_
    refine k_seq ?_
    refine k_reg ?_
    obtain ⟨c9, h⟩ := as_ok h
    refine mops_call rfl hf5 (av := [.ptr 1 0 0]) (by kernel_rfl) (v := .s (.string (bs (l_9 ++ (sbl (r_9 ++ (⟨#[10]⟩ : ByteArray))))))) (L' := [⟨(v_8 + 1), .dead, 1, []⟩, ⟨0, .bld BT, 1, [sp false 1 0, .ref 0 (v_8 + 1) 0 (l_9 ++ (sbl (r_9 ++ (⟨#[10]⟩ : ByteArray)))).length]⟩]) (CalL.bldD 0 1 (str_con false ((v_8 + 1)) (l_9 ++ (sbl (r_9 ++ (⟨#[10]⟩ : ByteArray)))) c9) (by kernel_rfl) rfl (by kernel_rfl) (by kernel_rfl)) (by intro h; cases h) fun f6 hf6 => ?_
    refine mops_en hf6 (by kernel_rfl) fun f7 hf7 => ?_
    refine k_c ?_
    refine k_ret ?_
    obtain rfl := Option.some.inj h
    exact k_fin (fin_ret (.inl rfl) hf7 (vs := [.s (.string (bs (l_9 ++ (sbl (r_9 ++ (⟨#[10]⟩ : ByteArray))))))]) (by kernel_rfl) (SettL.pure (FzL.stat rfl)))
  refine k_loop BIG ?_
  refine loop_ind (fun n f L => ∃ (l_8 : (List Int)) (t_5 : Int) (v_7 : Nat) (z_7 : Bool), srec_Put_l2 l_ n l_8 t_5 = some o0 ∧ FOk f [⟨0, [], .s (.int .u16 start_)⟩, ⟨4, [], .s (.string (⟨#[]⟩ : ByteArray))⟩, ⟨5, [], .ptr 1 0 0⟩, ⟨10, [], .sl false l_.length (cat srec_Piece.v l_)⟩, ⟨11, [], .s (.int .i64 (ln l_))⟩, ⟨12, [], .s (.int .i64 t_5)⟩] ∧ L = [⟨v_7, .buf BU, 1, cat (nI .u8) l_8⟩, ⟨0, .bld BT, 1, [sp z_7 1 0, .ref 0 v_7 0 l_8.length]⟩]) ?_ ?_ BIG _ _ ⟨([] : List Int), (0), (0), true, hx0, FOk_of [0, 4, 5, 10, 11, 12] hf3 (by kernel_rfl), (by kernel_rfl)⟩
  · rintro f L ⟨l_8, t_5, v_7, z_7, h, _⟩
    cases (show (none : Option _) = some _ from h)
  · rintro n0 R0 ih f L ⟨l_8, t_5, v_7, z_7, h, hf, rfl⟩
    rw [srec_Put_l2] at h
    refine k_seq ?_
    refine k_reg ?_
    refine mops_en hf (by kernel_rfl) fun f1 hf1 => ?_
    refine k_c ?_
    refine k_seq ?_
    refine k_cond hf1 (t := (decide (t_5 < (ln l_)))) (by kernel_rfl) (fun hc1 => ?_) (fun hc1 => ?_)
    · have h := if_t h hc1
      refine k_skip ?_
      refine k_c ?_
      refine k_seq ?_
      refine k_block ?_
      refine k_seq ?_
      refine k_reg ?_
      obtain ⟨c2, h⟩ := as_ok h
      refine mops_adv rfl (v := .ip ((cat srec_Piece.v l_).drop ((t_5 : Int).toNat * 2))) hf1 (by kernel_rfl) (e_ias (n := l_.length) (xv := .sl false l_.length (cat srec_Piece.v l_)) (k := .i64) (iv := t_5) (p := .ip ((cat srec_Piece.v l_).drop ((t_5 : Int).toNat * 2))) (by kernel_rfl) (by kernel_rfl) (by kernel_rfl) (by kernel_rfl) c2) fun f2 hf2 => ?_
      refine mops_adv rfl (v := .agg [.s (.int .u16 (gt l_ t_5).At), .sl false ((gt l_ t_5).B).length (cat (nI .u8) ((gt l_ t_5).B))]) hf2 (by kernel_rfl) (e_load_ip (g := srec_Piece.v) (l := l_) (iv := t_5) [] (by kernel_rfl) c2 (by kernel_rfl) (by kernel_rfl)) fun f3 hf3 => ?_
      refine mops_en hf3 (by kernel_rfl) fun f4 hf4 => ?_
      refine k_c ?_
      refine k_seq ?_
      refine k_reg ?_
      refine mops_en hf4 (by kernel_rfl) fun f5 hf5 => ?_
      refine k_c ?_
      refine k_block ?_
      obtain ⟨o1, hx1, h⟩ := Option.bind_eq_some_iff.1 h
      have hgo1 : ∀ (l_12 : (List Int)) (i_8 : Int) (t_6 : Int) (t_7 : Bool) (v_11 : Nat) (z_11 : Bool), (l_12, i_8, t_6, t_7) = o1 → ∀ f, FOk f [⟨0, [], .s (.int .u16 start_)⟩, ⟨4, [], .s (.string (⟨#[]⟩ : ByteArray))⟩, ⟨5, [], .ptr 1 0 0⟩, ⟨7, [], .ptr 2 0 0⟩, ⟨8, [], .s (.int .i64 i_8)⟩, ⟨10, [], .sl false l_.length (cat srec_Piece.v l_)⟩, ⟨11, [], .s (.int .i64 (ln l_))⟩, ⟨12, [], .s (.int .i64 t_5)⟩, ⟨13, [], .s (.bool (decide (t_5 < (ln l_))))⟩, ⟨14, [], .ip ((cat srec_Piece.v l_).drop ((t_5 : Int).toNat * 2))⟩, ⟨15, [], .agg [.s (.int .u16 (gt l_ t_5).At), .sl false ((gt l_ t_5).B).length (cat (nI .u8) ((gt l_ t_5).B))]⟩, ⟨16, [], .s (.int .i64 t_6)⟩, ⟨17, [], .ptr 2 0 1⟩, ⟨18, [], .sl false ((gt l_ t_5).B).length (cat (nI .u8) ((gt l_ t_5).B))⟩, ⟨19, [], .s (.int .i64 (ln ((gt l_ t_5).B)))⟩, ⟨20, [], .s (.bool t_7)⟩] → kont Tryd.prog [] (srec_Put_C r) ((.c srec_Put_i18) :: (.l R0) :: (.b 0) :: (.c srec_Put_i27) :: []) .normal f [⟨v_11, .buf BU, 1, cat (nI .u8) l_12⟩, ⟨0, .bld BT, 1, [sp z_11 1 0, .ref 0 v_11 0 l_12.length]⟩, ⟨0, .mem, 1, [.s (.int .u16 (gt l_ t_5).At), .sl false ((gt l_ t_5).B).length (cat (nI .u8) ((gt l_ t_5).B))]⟩] := by
        intro l_12 i_8 t_6 t_7 v_11 z_11 e f hf
        subst e
        refine k_c ?_
        refine k_reg ?_
        refine mops_en hf (by kernel_rfl) fun f1 hf1 => ?_
        refine k_l' (vs_cut (l := [⟨0, [], .s (.int .u16 start_)⟩, ⟨4, [], .s (.string (⟨#[]⟩ : ByteArray))⟩, ⟨5, [], .ptr 1 0 0⟩, ⟨10, [], .sl false l_.length (cat srec_Piece.v l_)⟩, ⟨11, [], .s (.int .i64 (ln l_))⟩, ⟨12, [], .s (.int .i64 (IntKind.wrap .i64 (t_5 + 1)))⟩]) 2 (by kernel_rfl) (by kernel_rfl) (L' := [⟨v_11, .buf BU, 1, cat (nI .u8) l_12⟩, ⟨0, .bld BT, 1, [sp z_11 1 0, .ref 0 v_11 0 l_12.length]⟩]) (by kernel_rfl) ⟨⟨rfl, rfl⟩, ⟨rfl, rfl⟩, ⟨rfl, rfl⟩, ⟨rfl, (static_under _ _ (by simp [V.static, statics, cat_stat, dropcat_stat]))⟩, ⟨rfl, rfl⟩, ⟨rfl, rfl⟩, trivial⟩ ⟨.inr (.inr (statics_unders _ _ (cat_stat _))), .inr (.inr (bld_under (by kernel_rfl) (by kernel_rfl))), trivial⟩ (FOk_of [0, 4, 5, 10, 11, 12] hf1 (by kernel_rfl)) fun f hf => ?_)
        exact ih _ _ ⟨l_12, (IntKind.wrap .i64 (t_5 + 1)), v_11, z_11, h, hf, rfl⟩
      refine k_loop BIG ?_
      refine loop_ind (fun n f L => ∃ (l_11 : (List Int)) (i_7 : Int) (v_10 : Nat) (z_10 : Bool), srec_Put_l3 l_ t_5 n l_11 i_7 = some o1 ∧ FOk f [⟨0, [], .s (.int .u16 start_)⟩, ⟨4, [], .s (.string (⟨#[]⟩ : ByteArray))⟩, ⟨5, [], .ptr 1 0 0⟩, ⟨7, [], .ptr 2 0 0⟩, ⟨8, [], .s (.int .i64 i_7)⟩, ⟨10, [], .sl false l_.length (cat srec_Piece.v l_)⟩, ⟨11, [], .s (.int .i64 (ln l_))⟩, ⟨12, [], .s (.int .i64 t_5)⟩, ⟨13, [], .s (.bool (decide (t_5 < (ln l_))))⟩, ⟨14, [], .ip ((cat srec_Piece.v l_).drop ((t_5 : Int).toNat * 2))⟩, ⟨15, [], .agg [.s (.int .u16 (gt l_ t_5).At), .sl false ((gt l_ t_5).B).length (cat (nI .u8) ((gt l_ t_5).B))]⟩] ∧ L = [⟨v_10, .buf BU, 1, cat (nI .u8) l_11⟩, ⟨0, .bld BT, 1, [sp z_10 1 0, .ref 0 v_10 0 l_11.length]⟩, ⟨0, .mem, 1, [.s (.int .u16 (gt l_ t_5).At), .sl false ((gt l_ t_5).B).length (cat (nI .u8) ((gt l_ t_5).B))]⟩]) ?_ ?_ BIG _ _ ⟨l_8, (0), v_7, z_7, hx1, FOk_of [0, 4, 5, 7, 8, 10, 11, 12, 13, 14, 15] hf5 (by kernel_rfl), (by kernel_rfl)⟩
      · rintro f L ⟨l_11, i_7, v_10, z_10, h, _⟩
        cases (show (none : Option _) = some _ from h)
      · rintro n1 R1 ih f L ⟨l_11, i_7, v_10, z_10, h, hf, rfl⟩
        rw [srec_Put_l3] at h
        refine k_seq ?_
        refine k_seq ?_
        refine k_reg ?_
        refine mops_en hf (by kernel_rfl) fun f1 hf1 => ?_
        refine k_c ?_
        refine k_cond hf1 (t := (decide (i_7 < (ln ((gt l_ t_5).B))))) (by kernel_rfl) (fun hc3 => ?_) (fun hc3 => ?_)
        · have h := if_t h hc3
          refine k_skip ?_
          refine k_c ?_
          refine k_seq ?_
          refine k_block ?_
          refine k_seq ?_
          refine k_regw ?_
          refine lw_free' (dst := (some 23)) (op := (.fld 0 (.t 7))) (aft := []) (lo := 0) (hi := 1) (v := .ptr 2 0 0) (by kernel_rfl) (by kernel_rfl) hf1 (by kernel_rfl) (by kernel_rfl) trivial fun f2 hf2 => ?_
          refine lw_free' (dst := (some 24)) (op := (.load false 1 (.t 23))) (aft := [0]) (lo := 0) (hi := 1) (v := .s (.int .u16 (gt l_ t_5).At)) (by kernel_rfl) (by kernel_rfl) hf2 (by kernel_rfl) (by kernel_rfl) trivial fun f3 hf3 => ?_
          refine lw_free' (dst := (some 25)) (op := (.mv (.t 8))) (aft := []) (lo := 0) (hi := 1) (v := .s (.int .i64 i_7)) (by kernel_rfl) (by kernel_rfl) hf3 (by kernel_rfl) (by kernel_rfl) trivial fun f4 hf4 => ?_
          refine lw_free' (dst := (some 26)) (op := (.cint .u16 (.t 25))) (aft := [2]) (lo := 0) (hi := 1) (v := .s (.int .u16 (IntKind.wrap .u16 i_7))) (by kernel_rfl) (by kernel_rfl) hf4 (by kernel_rfl) (by kernel_rfl) trivial fun f5 hf5 => ?_
          refine lw_free' (dst := (some 27)) (op := (.bin .add (.t 24) (.t 26))) (aft := [1, 3]) (lo := 0) (hi := 1) (v := .s (.int .u16 (IntKind.wrap .u16 ((gt l_ t_5).At + (IntKind.wrap .u16 i_7))))) (by kernel_rfl) (by kernel_rfl) hf5 (by kernel_rfl) (by kernel_rfl) trivial fun f6 hf6 => ?_
          refine lw_free' (dst := (some 28)) (op := (.fld 1 (.t 7))) (aft := []) (lo := 0) (hi := 1) (v := .ptr 2 0 1) (by kernel_rfl) (by kernel_rfl) hf6 (by kernel_rfl) (by kernel_rfl) trivial fun f7 hf7 => ?_
          refine lw_free' (dst := (some 29)) (op := (.load false 1 (.t 28))) (aft := [5]) (lo := 0) (hi := 1) (v := .sl false ((gt l_ t_5).B).length (cat (nI .u8) ((gt l_ t_5).B))) (by kernel_rfl) (by kernel_rfl) hf7 (by kernel_rfl) (by kernel_rfl) trivial fun f8 hf8 => ?_
          refine lw_free' (dst := (some 30)) (op := (.mv (.t 8))) (aft := []) (lo := 0) (hi := 1) (v := .s (.int .i64 i_7)) (by kernel_rfl) (by kernel_rfl) hf8 (by kernel_rfl) (by kernel_rfl) trivial fun f9 hf9 => ?_
          refine lw_free' (dst := (some 31)) (op := (.mv (.t 8))) (aft := []) (lo := 0) (hi := 1) (v := .s (.int .i64 i_7)) (by kernel_rfl) (by kernel_rfl) hf9 (by kernel_rfl) (by kernel_rfl) trivial fun f10 hf10 => ?_
          refine lw_free' (dst := (some 32)) (op := (.bin .add (.t 31) (.k (.int .i64 32)))) (aft := [8]) (lo := 0) (hi := 1) (v := .s (.int .i64 (IntKind.wrap .i64 (i_7 + 32)))) (by kernel_rfl) (by kernel_rfl) hf10 (by kernel_rfl) (by kernel_rfl) trivial fun f11 hf11 => ?_
          refine lw_free' (dst := (some 33)) (op := (.fld 1 (.t 7))) (aft := []) (lo := 0) (hi := 1) (v := .ptr 2 0 1) (by kernel_rfl) (by kernel_rfl) hf11 (by kernel_rfl) (by kernel_rfl) trivial fun f12 hf12 => ?_
          refine lw_free' (dst := (some 34)) (op := (.load false 1 (.t 33))) (aft := [10]) (lo := 0) (hi := 1) (v := .sl false ((gt l_ t_5).B).length (cat (nI .u8) ((gt l_ t_5).B))) (by kernel_rfl) (by kernel_rfl) hf12 (by kernel_rfl) (by kernel_rfl) trivial fun f13 hf13 => ?_
          refine lw_free' (dst := (some 35)) (op := (.len (.t 34))) (aft := [11]) (lo := 0) (hi := 1) (v := .s (.int .i64 (ln ((gt l_ t_5).B)))) (by kernel_rfl) (by kernel_rfl) hf13 (by kernel_rfl) (by kernel_rfl) trivial fun f14 hf14 => ?_
          refine lw_free' (dst := (some 36)) (op := (.mnx false (.t 32) (.t 35))) (aft := [9, 12]) (lo := 0) (hi := 1) (v := .s (.int .i64 (if (ln ((gt l_ t_5).B)) < (IntKind.wrap .i64 (i_7 + 32)) then (ln ((gt l_ t_5).B)) else (IntKind.wrap .i64 (i_7 + 32))))) (by kernel_rfl) (by kernel_rfl) hf14 (by kernel_rfl) (by kernel_rfl) trivial fun f15 hf15 => ?_
          obtain ⟨c4, h⟩ := as_ok h
          refine lw_free' (dst := (some 37)) (op := (.slice 1 (.t 29) (some (.t 30)) (some (.t 36)))) (aft := [6, 7, 13]) (lo := 0) (hi := 1) (v := .sl (false && ((if (ln ((gt l_ t_5).B)) < (IntKind.wrap .i64 (i_7 + 32)) then (ln ((gt l_ t_5).B)) else (IntKind.wrap .i64 (i_7 + 32))) : Int).toNat == ((gt l_ t_5).B).length) (((if (ln ((gt l_ t_5).B)) < (IntKind.wrap .i64 (i_7 + 32)) then (ln ((gt l_ t_5).B)) else (IntKind.wrap .i64 (i_7 + 32))) : Int).toNat - (i_7 : Int).toNat) (cat (nI .u8) (((gt l_ t_5).B).drop (i_7 : Int).toNat))) (by kernel_rfl) (by kernel_rfl) hf15 (by kernel_rfl) (e_slice_sl (g := (nI .u8)) (l := ((gt l_ t_5).B)) (n := ((gt l_ t_5).B).length) (u := false) (by kernel_rfl) (b_ss (k := .i64) (k' := .i64) (iv := i_7) (jv := (if (ln ((gt l_ t_5).B)) < (IntKind.wrap .i64 (i_7 + 32)) then (ln ((gt l_ t_5).B)) else (IntKind.wrap .i64 (i_7 + 32)))) (by kernel_rfl) (by kernel_rfl) c4)) trivial fun f16 hf16 => ?_
          refine lw_free' (dst := (some 38)) (op := (.build [(.int .i64 0), (.int .u16 0), (.slice none 0 0)] [(0, (1, (.k (.int .i64 1)))), (1, (1, (.t 27))), (2, (1, (.t 37)))])) (aft := [4, 14]) (lo := 0) (hi := 1) (v := .agg [.s (.int .i64 1), .s (.int .u16 (IntKind.wrap .u16 ((gt l_ t_5).At + (IntKind.wrap .u16 i_7)))), .sl (false && ((if (ln ((gt l_ t_5).B)) < (IntKind.wrap .i64 (i_7 + 32)) then (ln ((gt l_ t_5).B)) else (IntKind.wrap .i64 (i_7 + 32))) : Int).toNat == ((gt l_ t_5).B).length) (((if (ln ((gt l_ t_5).B)) < (IntKind.wrap .i64 (i_7 + 32)) then (ln ((gt l_ t_5).B)) else (IntKind.wrap .i64 (i_7 + 32))) : Int).toNat - (i_7 : Int).toNat) (cat (nI .u8) (((gt l_ t_5).B).drop (i_7 : Int).toNat))]) (by kernel_rfl) (by kernel_rfl) hf16 (by kernel_rfl) (by kernel_rfl) trivial fun f17 hf17 => ?_
          refine lw_w (a := ⟨⟨(some 9), (.e (.zero [(.int .i64 0), (.int .u16 0), (.slice none 0 0)])), none, []⟩, true, 0, 1⟩) (by kernel_rfl) rfl rfl ?_
          refine mops_end [0, 4, 5, 7, 8, 9, 10, 11, 12, 13, 14, 15, 16, 17, 18, 19, 20, 23, 24, 25, 26, 27, 28, 29, 30, 31, 32, 33, 34, 35, 36, 37, 38] hf17 (l' := [⟨0, [], .s (.int .u16 start_)⟩, ⟨4, [], .s (.string (⟨#[]⟩ : ByteArray))⟩, ⟨5, [], .ptr 1 0 0⟩, ⟨7, [], .ptr 2 0 0⟩, ⟨8, [], .s (.int .i64 i_7)⟩, ⟨9, [], .ptr 3 0 0⟩, ⟨10, [], .sl false l_.length (cat srec_Piece.v l_)⟩, ⟨11, [], .s (.int .i64 (ln l_))⟩, ⟨12, [], .s (.int .i64 t_5)⟩, ⟨13, [], .s (.bool (decide (t_5 < (ln l_))))⟩, ⟨14, [], .ip ((cat srec_Piece.v l_).drop ((t_5 : Int).toNat * 2))⟩, ⟨15, [], .agg [.s (.int .u16 (gt l_ t_5).At), .sl false ((gt l_ t_5).B).length (cat (nI .u8) ((gt l_ t_5).B))]⟩, ⟨16, [], .s (.int .i64 i_7)⟩, ⟨17, [], .ptr 2 0 1⟩, ⟨18, [], .sl false ((gt l_ t_5).B).length (cat (nI .u8) ((gt l_ t_5).B))⟩, ⟨19, [], .s (.int .i64 (ln ((gt l_ t_5).B)))⟩, ⟨20, [], .s (.bool (decide (i_7 < (ln ((gt l_ t_5).B)))))⟩, ⟨23, [], .ptr 2 0 0⟩, ⟨24, [], .s (.int .u16 (gt l_ t_5).At)⟩, ⟨25, [], .s (.int .i64 i_7)⟩, ⟨26, [], .s (.int .u16 (IntKind.wrap .u16 i_7))⟩, ⟨27, [], .s (.int .u16 (IntKind.wrap .u16 ((gt l_ t_5).At + (IntKind.wrap .u16 i_7))))⟩, ⟨28, [], .ptr 2 0 1⟩, ⟨29, [], .sl false ((gt l_ t_5).B).length (cat (nI .u8) ((gt l_ t_5).B))⟩, ⟨30, [], .s (.int .i64 i_7)⟩, ⟨31, [], .s (.int .i64 i_7)⟩, ⟨32, [], .s (.int .i64 (IntKind.wrap .i64 (i_7 + 32)))⟩, ⟨33, [], .ptr 2 0 1⟩, ⟨34, [], .sl false ((gt l_ t_5).B).length (cat (nI .u8) ((gt l_ t_5).B))⟩, ⟨35, [], .s (.int .i64 (ln ((gt l_ t_5).B)))⟩, ⟨36, [], .s (.int .i64 (if (ln ((gt l_ t_5).B)) < (IntKind.wrap .i64 (i_7 + 32)) then (ln ((gt l_ t_5).B)) else (IntKind.wrap .i64 (i_7 + 32))))⟩, ⟨37, [], .sl (false && ((if (ln ((gt l_ t_5).B)) < (IntKind.wrap .i64 (i_7 + 32)) then (ln ((gt l_ t_5).B)) else (IntKind.wrap .i64 (i_7 + 32))) : Int).toNat == ((gt l_ t_5).B).length) (((if (ln ((gt l_ t_5).B)) < (IntKind.wrap .i64 (i_7 + 32)) then (ln ((gt l_ t_5).B)) else (IntKind.wrap .i64 (i_7 + 32))) : Int).toNat - (i_7 : Int).toNat) (cat (nI .u8) (((gt l_ t_5).B).drop (i_7 : Int).toNat))⟩, ⟨38, [], .agg [.s (.int .i64 1), .s (.int .u16 (IntKind.wrap .u16 ((gt l_ t_5).At + (IntKind.wrap .u16 i_7)))), .sl (false && ((if (ln ((gt l_ t_5).B)) < (IntKind.wrap .i64 (i_7 + 32)) then (ln ((gt l_ t_5).B)) else (IntKind.wrap .i64 (i_7 + 32))) : Int).toNat == ((gt l_ t_5).B).length) (((if (ln ((gt l_ t_5).B)) < (IntKind.wrap .i64 (i_7 + 32)) then (ln ((gt l_ t_5).B)) else (IntKind.wrap .i64 (i_7 + 32))) : Int).toNat - (i_7 : Int).toNat) (cat (nI .u8) (((gt l_ t_5).B).drop (i_7 : Int).toNat))]⟩]) (L' := [⟨v_10, .buf BU, 1, cat (nI .u8) l_11⟩, ⟨0, .bld BT, 1, [sp z_10 1 0, .ref 0 v_10 0 l_11.length]⟩, ⟨0, .mem, 1, [.s (.int .u16 (gt l_ t_5).At), .sl false ((gt l_ t_5).B).length (cat (nI .u8) ((gt l_ t_5).B))]⟩, ⟨0, .mem, 1, [.s (.int .i64 0), .s (.int .u16 0), .s (.slice none 0 0)]⟩]) (by kernel_rfl) fun f18 hf18 => ?_
          refine ⟨(pend_ok hf16 (by kernel_rfl) (by kernel_rfl) (pend_ok hf15 (by kernel_rfl) (e_slice_sl (g := (nI .u8)) (l := ((gt l_ t_5).B)) (n := ((gt l_ t_5).B).length) (u := false) (by kernel_rfl) (b_ss (k := .i64) (k' := .i64) (iv := i_7) (jv := (if (ln ((gt l_ t_5).B)) < (IntKind.wrap .i64 (i_7 + 32)) then (ln ((gt l_ t_5).B)) else (IntKind.wrap .i64 (i_7 + 32)))) (by kernel_rfl) (by kernel_rfl) c4)) (pend_ok hf14 (by kernel_rfl) (by kernel_rfl) (pend_ok hf13 (by kernel_rfl) (by kernel_rfl) (pend_ok hf12 (by kernel_rfl) (by kernel_rfl) (pend_ok hf11 (by kernel_rfl) (by kernel_rfl) (pend_ok hf10 (by kernel_rfl) (by kernel_rfl) (pend_ok hf9 (by kernel_rfl) (by kernel_rfl) (pend_ok hf8 (by kernel_rfl) (by kernel_rfl) (pend_ok hf7 (by kernel_rfl) (by kernel_rfl) (pend_ok hf6 (by kernel_rfl) (by kernel_rfl) (pend_ok hf5 (by kernel_rfl) (by kernel_rfl) (pend_ok hf4 (by kernel_rfl) (by kernel_rfl) (pend_ok hf3 (by kernel_rfl) (by kernel_rfl) (pend_ok hf2 (by kernel_rfl) (by kernel_rfl) (pend_ok hf1 (by kernel_rfl) (by kernel_rfl) trivial)))))))))))))))), ?_⟩
          refine lw_w (a := ⟨⟨none, (.e (.store 3 (.t 9) (.t 38))), none, [16, 15, 0, 1, 2, 3, 4, 5, 6, 7, 8, 9, 10, 11, 12, 13, 14, 15, 16]⟩, true, 1, 2⟩) (by kernel_rfl) rfl rfl ?_
          refine mops_end [0, 4, 5, 7, 8, 9, 10, 11, 12, 13, 14, 15, 16, 17, 18, 19, 20, 23, 24, 25, 26, 27, 28, 29, 30, 31, 32, 33, 34, 35, 36, 37, 38] hf18 (l' := [⟨0, [], .s (.int .u16 start_)⟩, ⟨4, [], .s (.string (⟨#[]⟩ : ByteArray))⟩, ⟨5, [], .ptr 1 0 0⟩, ⟨7, [], .ptr 2 0 0⟩, ⟨8, [], .s (.int .i64 i_7)⟩, ⟨9, [], .ptr 3 0 0⟩, ⟨10, [], .sl false l_.length (cat srec_Piece.v l_)⟩, ⟨11, [], .s (.int .i64 (ln l_))⟩, ⟨12, [], .s (.int .i64 t_5)⟩, ⟨13, [], .s (.bool (decide (t_5 < (ln l_))))⟩, ⟨14, [], .ip ((cat srec_Piece.v l_).drop ((t_5 : Int).toNat * 2))⟩, ⟨15, [], .agg [.s (.int .u16 (gt l_ t_5).At), .sl false ((gt l_ t_5).B).length (cat (nI .u8) ((gt l_ t_5).B))]⟩, ⟨16, [], .s (.int .i64 i_7)⟩, ⟨17, [], .ptr 2 0 1⟩, ⟨18, [], .sl false ((gt l_ t_5).B).length (cat (nI .u8) ((gt l_ t_5).B))⟩, ⟨19, [], .s (.int .i64 (ln ((gt l_ t_5).B)))⟩, ⟨20, [], .s (.bool (decide (i_7 < (ln ((gt l_ t_5).B)))))⟩, ⟨23, [], .ptr 2 0 0⟩, ⟨24, [], .s (.int .u16 (gt l_ t_5).At)⟩, ⟨25, [], .s (.int .i64 i_7)⟩, ⟨26, [], .s (.int .u16 (IntKind.wrap .u16 i_7))⟩, ⟨27, [], .s (.int .u16 (IntKind.wrap .u16 ((gt l_ t_5).At + (IntKind.wrap .u16 i_7))))⟩, ⟨28, [], .ptr 2 0 1⟩, ⟨29, [], .sl false ((gt l_ t_5).B).length (cat (nI .u8) ((gt l_ t_5).B))⟩, ⟨30, [], .s (.int .i64 i_7)⟩, ⟨31, [], .s (.int .i64 i_7)⟩, ⟨32, [], .s (.int .i64 (IntKind.wrap .i64 (i_7 + 32)))⟩, ⟨33, [], .ptr 2 0 1⟩, ⟨34, [], .sl false ((gt l_ t_5).B).length (cat (nI .u8) ((gt l_ t_5).B))⟩, ⟨35, [], .s (.int .i64 (ln ((gt l_ t_5).B)))⟩, ⟨36, [], .s (.int .i64 (if (ln ((gt l_ t_5).B)) < (IntKind.wrap .i64 (i_7 + 32)) then (ln ((gt l_ t_5).B)) else (IntKind.wrap .i64 (i_7 + 32))))⟩, ⟨37, [], .sl (false && ((if (ln ((gt l_ t_5).B)) < (IntKind.wrap .i64 (i_7 + 32)) then (ln ((gt l_ t_5).B)) else (IntKind.wrap .i64 (i_7 + 32))) : Int).toNat == ((gt l_ t_5).B).length) (((if (ln ((gt l_ t_5).B)) < (IntKind.wrap .i64 (i_7 + 32)) then (ln ((gt l_ t_5).B)) else (IntKind.wrap .i64 (i_7 + 32))) : Int).toNat - (i_7 : Int).toNat) (cat (nI .u8) (((gt l_ t_5).B).drop (i_7 : Int).toNat))⟩, ⟨38, [], .agg [.s (.int .i64 1), .s (.int .u16 (IntKind.wrap .u16 ((gt l_ t_5).At + (IntKind.wrap .u16 i_7)))), .sl (false && ((if (ln ((gt l_ t_5).B)) < (IntKind.wrap .i64 (i_7 + 32)) then (ln ((gt l_ t_5).B)) else (IntKind.wrap .i64 (i_7 + 32))) : Int).toNat == ((gt l_ t_5).B).length) (((if (ln ((gt l_ t_5).B)) < (IntKind.wrap .i64 (i_7 + 32)) then (ln ((gt l_ t_5).B)) else (IntKind.wrap .i64 (i_7 + 32))) : Int).toNat - (i_7 : Int).toNat) (cat (nI .u8) (((gt l_ t_5).B).drop (i_7 : Int).toNat))]⟩]) (L' := [⟨v_10, .buf BU, 1, cat (nI .u8) l_11⟩, ⟨0, .bld BT, 1, [sp z_10 1 0, .ref 0 v_10 0 l_11.length]⟩, ⟨0, .mem, 1, [.s (.int .u16 (gt l_ t_5).At), .sl false ((gt l_ t_5).B).length (cat (nI .u8) ((gt l_ t_5).B))]⟩, ⟨0, .mem, 1, [.s (.int .i64 1), .s (.int .u16 (IntKind.wrap .u16 ((gt l_ t_5).At + (IntKind.wrap .u16 i_7)))), .sl (false && ((if (ln ((gt l_ t_5).B)) < (IntKind.wrap .i64 (i_7 + 32)) then (ln ((gt l_ t_5).B)) else (IntKind.wrap .i64 (i_7 + 32))) : Int).toNat == ((gt l_ t_5).B).length) (((if (ln ((gt l_ t_5).B)) < (IntKind.wrap .i64 (i_7 + 32)) then (ln ((gt l_ t_5).B)) else (IntKind.wrap .i64 (i_7 + 32))) : Int).toNat - (i_7 : Int).toNat) (cat (nI .u8) (((gt l_ t_5).B).drop (i_7 : Int).toNat))]⟩]) (by kernel_rfl) fun f19 hf19 => ?_
          refine ⟨(pend_ok hf16 (by kernel_rfl) (by kernel_rfl) (pend_ok hf15 (by kernel_rfl) (e_slice_sl (g := (nI .u8)) (l := ((gt l_ t_5).B)) (n := ((gt l_ t_5).B).length) (u := false) (by kernel_rfl) (b_ss (k := .i64) (k' := .i64) (iv := i_7) (jv := (if (ln ((gt l_ t_5).B)) < (IntKind.wrap .i64 (i_7 + 32)) then (ln ((gt l_ t_5).B)) else (IntKind.wrap .i64 (i_7 + 32)))) (by kernel_rfl) (by kernel_rfl) c4)) (pend_ok hf14 (by kernel_rfl) (by kernel_rfl) (pend_ok hf13 (by kernel_rfl) (by kernel_rfl) (pend_ok hf12 (by kernel_rfl) (by kernel_rfl) (pend_ok hf11 (by kernel_rfl) (by kernel_rfl) (pend_ok hf10 (by kernel_rfl) (by kernel_rfl) (pend_ok hf9 (by kernel_rfl) (by kernel_rfl) (pend_ok hf8 (by kernel_rfl) (by kernel_rfl) (pend_ok hf7 (by kernel_rfl) (by kernel_rfl) (pend_ok hf6 (by kernel_rfl) (by kernel_rfl) (pend_ok hf5 (by kernel_rfl) (by kernel_rfl) (pend_ok hf4 (by kernel_rfl) (by kernel_rfl) (pend_ok hf3 (by kernel_rfl) (by kernel_rfl) (pend_ok hf2 (by kernel_rfl) (by kernel_rfl) (pend_ok hf1 (by kernel_rfl) (by kernel_rfl) trivial)))))))))))))))), ?_⟩
          refine lw_end (by kernel_rfl) ?_
          refine k_c ?_
          refine k_reg ?_
          refine mops_sg 1 hf19 (by kernel_rfl) fun f20 hf20 => ?_
          obtain ⟨r_8, hx_r_8, h⟩ := Option.bind_eq_some_iff.1 h
          refine mops_call rfl hf20 (av := [.agg [.s (.int .i64 1), .s (.int .u16 (IntKind.wrap .u16 ((gt l_ t_5).At + (IntKind.wrap .u16 i_7)))), .sl (false && ((if (ln ((gt l_ t_5).B)) < (IntKind.wrap .i64 (i_7 + 32)) then (ln ((gt l_ t_5).B)) else (IntKind.wrap .i64 (i_7 + 32))) : Int).toNat == ((gt l_ t_5).B).length) (((if (ln ((gt l_ t_5).B)) < (IntKind.wrap .i64 (i_7 + 32)) then (ln ((gt l_ t_5).B)) else (IntKind.wrap .i64 (i_7 + 32))) : Int).toNat - (i_7 : Int).toNat) (cat (nI .u8) (((gt l_ t_5).B).drop (i_7 : Int).toNat))]]) (by kernel_rfl) (v := .s (.string r_8)) (CalL.purew (srec_Line_Text_ok (srec_Line.mk (1) (IntKind.wrap .u16 ((gt l_ t_5).At + (IntKind.wrap .u16 i_7))) ((((gt l_ t_5).B).drop (i_7 : Int).toNat).take (((if (ln ((gt l_ t_5).B)) < (IntKind.wrap .i64 (i_7 + 32)) then (ln ((gt l_ t_5).B)) else (IntKind.wrap .i64 (i_7 + 32))) : Int).toNat - (i_7 : Int).toNat))) r_8 hx_r_8) (Wks.cons (Wk.agg (Wks.cons Wk.refl (Wks.cons Wk.refl (Wks.cons (Wk.part (g := (nI .u8)) (cut_le (l := ((gt l_ t_5).B)) (a := (i_7 : Int).toNat) (b := ((if (ln ((gt l_ t_5).B)) < (IntKind.wrap .i64 (i_7 + 32)) then (ln ((gt l_ t_5).B)) else (IntKind.wrap .i64 (i_7 + 32))) : Int).toNat) (cut_ss (n := ((gt l_ t_5).B).length) c4) rfl)) Wks.nil)))) Wks.nil) (by simp [V.static, statics, cat_stat]) rfl (by kernel_rfl)) (fun _ => rfl) fun f21 hf21 => ?_
          obtain ⟨c5, h⟩ := as_ok h
          refine mops_adv rfl (v := .s (.string (r_8 ++ (⟨#[10]⟩ : ByteArray)))) hf21 (by kernel_rfl) (e_sadd (t := r_8) (t' := (⟨#[10]⟩ : ByteArray)) (by kernel_rfl) (by kernel_rfl) c5) fun f22 hf22 => ?_
          obtain ⟨c6, h⟩ := as_ok h
          refine mops_call rfl hf22 (av := [.ptr 1 0 0, .s (.string (r_8 ++ (⟨#[10]⟩ : ByteArray)))]) (by kernel_rfl) (v := .tup [.s (.int .i64 (((r_8 ++ (⟨#[10]⟩ : ByteArray)).size : Nat) : Int)), .s .nilIface]) (L' := [⟨(v_10 + 1), .buf BU, 1, cat (nI .u8) (l_11 ++ (sbl (r_8 ++ (⟨#[10]⟩ : ByteArray))))⟩, ⟨0, .bld BT, 1, [sp false 1 0, .ref 0 (v_10 + 1) 0 (l_11 ++ (sbl (r_8 ++ (⟨#[10]⟩ : ByteArray)))).length]⟩, ⟨0, .mem, 1, [.s (.int .u16 (gt l_ t_5).At), .sl false ((gt l_ t_5).B).length (cat (nI .u8) ((gt l_ t_5).B))]⟩, ⟨0, .mem, 1, [.s (.int .i64 1), .s (.int .u16 (IntKind.wrap .u16 ((gt l_ t_5).At + (IntKind.wrap .u16 i_7)))), .sl (false && ((if (ln ((gt l_ t_5).B)) < (IntKind.wrap .i64 (i_7 + 32)) then (ln ((gt l_ t_5).B)) else (IntKind.wrap .i64 (i_7 + 32))) : Int).toNat == ((gt l_ t_5).B).length) (((if (ln ((gt l_ t_5).B)) < (IntKind.wrap .i64 (i_7 + 32)) then (ln ((gt l_ t_5).B)) else (IntKind.wrap .i64 (i_7 + 32))) : Int).toNat - (i_7 : Int).toNat) (cat (nI .u8) (((gt l_ t_5).B).drop (i_7 : Int).toNat))]⟩]) (CalL.bld (xs := [.string (r_8 ++ (⟨#[10]⟩ : ByteArray))]) 0 1 (ws_con z_10 v_10 l_11 (r_8 ++ (⟨#[10]⟩ : ByteArray)) c6) (by kernel_rfl) rfl (by kernel_rfl) (by kernel_rfl)) (by intro h; cases h) fun f23 hf23 => ?_
          refine mops_en hf23 (by kernel_rfl) fun f24 hf24 => ?_
          refine k_b ?_
          refine k_c ?_
          refine k_reg ?_
          refine mops_en hf24 (by kernel_rfl) fun f25 hf25 => ?_
          refine k_l' (vs_cut (l := [⟨0, [], .s (.int .u16 start_)⟩, ⟨4, [], .s (.string (⟨#[]⟩ : ByteArray))⟩, ⟨5, [], .ptr 1 0 0⟩, ⟨7, [], .ptr 2 0 0⟩, ⟨8, [], .s (.int .i64 (IntKind.wrap .i64 (i_7 + 32)))⟩, ⟨10, [], .sl false l_.length (cat srec_Piece.v l_)⟩, ⟨11, [], .s (.int .i64 (ln l_))⟩, ⟨12, [], .s (.int .i64 t_5)⟩, ⟨13, [], .s (.bool (decide (t_5 < (ln l_))))⟩, ⟨14, [], .ip ((cat srec_Piece.v l_).drop ((t_5 : Int).toNat * 2))⟩, ⟨15, [], .agg [.s (.int .u16 (gt l_ t_5).At), .sl false ((gt l_ t_5).B).length (cat (nI .u8) ((gt l_ t_5).B))]⟩]) 3 (by kernel_rfl) (by kernel_rfl) (L' := [⟨(v_10 + 1), .buf BU, 1, cat (nI .u8) (l_11 ++ (sbl (r_8 ++ (⟨#[10]⟩ : ByteArray))))⟩, ⟨0, .bld BT, 1, [sp false 1 0, .ref 0 (v_10 + 1) 0 (l_11 ++ (sbl (r_8 ++ (⟨#[10]⟩ : ByteArray)))).length]⟩, ⟨0, .mem, 1, [.s (.int .u16 (gt l_ t_5).At), .sl false ((gt l_ t_5).B).length (cat (nI .u8) ((gt l_ t_5).B))]⟩]) (by kernel_rfl) ⟨⟨rfl, rfl⟩, ⟨rfl, rfl⟩, ⟨rfl, rfl⟩, ⟨rfl, rfl⟩, ⟨rfl, rfl⟩, ⟨rfl, (static_under _ _ (by simp [V.static, statics, cat_stat, dropcat_stat]))⟩, ⟨rfl, rfl⟩, ⟨rfl, rfl⟩, ⟨rfl, rfl⟩, ⟨rfl, (static_under _ _ (by simp [V.static, statics, cat_stat, dropcat_stat]))⟩, ⟨rfl, (static_under _ _ (by simp [V.static, statics, cat_stat, dropcat_stat]))⟩, trivial⟩ ⟨.inr (.inr (statics_unders _ _ (cat_stat _))), .inr (.inr (bld_under (by kernel_rfl) (by kernel_rfl))), .inr (.inr (statics_unders _ _ (by simp [V.static, statics, cat_stat, dropcat_stat]))), trivial⟩ (FOk_of [0, 4, 5, 7, 8, 10, 11, 12, 13, 14, 15] hf25 (by kernel_rfl)) fun f hf => ?_)
          exact ih _ _ ⟨(l_11 ++ (sbl (r_8 ++ (⟨#[10]⟩ : ByteArray)))), (IntKind.wrap .i64 (i_7 + 32)), (v_10 + 1), false, h, hf, rfl⟩
        · have h := if_f h hc3
          refine k_exit ?_
          refine x_c nofun ?_
          refine x_l nofun ?_
          refine x_b ?_
          refine k_b ?_
          refine k_hp (L' := [⟨v_10, .buf BU, 1, cat (nI .u8) l_11⟩, ⟨0, .bld BT, 1, [sp z_10 1 0, .ref 0 v_10 0 l_11.length]⟩, ⟨0, .mem, 1, [.s (.int .u16 (gt l_ t_5).At), .sl false ((gt l_ t_5).B).length (cat (nI .u8) ((gt l_ t_5).B))]⟩]) (by kernel_rfl) ?_
          exact hgo1 l_11 i_7 i_7 (decide (i_7 < (ln ((gt l_ t_5).B)))) v_10 z_10 (Option.some.inj h) _ (FOk_of [0, 4, 5, 7, 8, 10, 11, 12, 13, 14, 15, 16, 17, 18, 19, 20] hf1 (by kernel_rfl))
    · have h := if_f h hc1
      refine k_exit ?_
      refine x_c nofun ?_
      refine x_l nofun ?_
      refine x_b ?_
      refine k_hp (L' := [⟨v_7, .buf BU, 1, cat (nI .u8) l_8⟩, ⟨0, .bld BT, 1, [sp z_7 1 0, .ref 0 v_7 0 l_8.length]⟩]) (by kernel_rfl) ?_
      exact hgo0 l_8 v_7 z_7 (Option.some.inj h) _ (FOk_of [0, 4, 5] hf1 (by kernel_rfl))
def srec_Get_i0 : List Op1 := [(oE 2 (.nilg 2) []), (oM 3 (.k (.int .u16 0)) [0]), (oM 4 (.k (.int .i64 0)) [1]), (oM 5 (.k (.int .i64 0)) [2])]
def srec_Get_i1 : List Op1 := [(oE 6 (.nilg 2) [])]
def srec_Get_i2 : List Op1 := [(oM 12 (.t 0) []), (oC 13 16 [(.t 12), (.k (.string ⟨#[10]⟩))] [0]), (oM 7 (.t 13) [1, 1, 0, 1])]
def srec_Get_i3 : List Op1 := [(oM 14 (.t 7) []), (oE 15 (.len (.t 14)) [0]), (oM 16 (.k (.int .i64 0)) [])]
def srec_Get_i4 : List Op1 := [(oE 17 (.bin .lss (.t 16) (.t 15)) [])]
def srec_Get_i5 : List Op1 := [(oM 18 (.t 16) []), (oE 19 (.ias 1 (.t 14) (.t 16)) []), (oE 20 (.load false 1 (.t 19)) [1]), (oM 8 (.t 18) [0, 0, 1, 2]), (oM 9 (.t 20) [2, 3, 0, 1, 2, 3])]
def srec_Get_i6 : List Op1 := [(oM 21 (.t 9) []), (oE 22 (.bin .eql (.t 21) (.k (.string ⟨#[]⟩))) [0])]
def srec_Get_i7 : IR := (.cond (.t 22) (.exit 1) .skip)
def srec_Get_i8 : List Op1 := [(oM 24 (.t 9) []), (oC 25 17 [(.t 24)] [0]), (oM 23 (.t 25) [1]), (oE 26 (.ext 0 (.t 23)) [2]), (oE 27 (.ext 1 (.t 23)) [2]), (oE 10 (.zero [(.int .i64 0), (.int .u16 0), (.slice none 0 0)]) []), (oN (.store 3 (.t 10) (.t 26)) [5, 3, 1, 0, 1, 2, 3, 5]), (oM 11 (.t 27) [4, 6, 0, 1, 2, 3, 4, 5, 6])]
def srec_Get_i9 : List Op1 := [(oM 29 (.t 11) []), (oE 30 (.bin .neq (.t 29) (.k (.int .i64 0))) [0]), (oM 28 (.t 30) [1])]
def srec_Get_i10 : List Op1 := [(oM 31 (.t 8) []), (oE 32 (.bin .add (.t 31) (.k (.int .i64 1))) [0]), (oM 33 (.t 11) []), (oE 2 (.nilg 2) []), (oM 3 (.k (.int .u16 0)) [3, 3]), (oM 4 (.t 32) [1, 4, 0, 1, 3, 4]), (oM 5 (.t 33) [2, 5, 0, 1, 2, 3, 4, 5])]
def srec_Get_i11 : IR := .ret
def srec_Get_i12 : List Op1 := [(oE 35 (.fld 0 (.t 10)) []), (oE 36 (.load false 1 (.t 35)) [0]), (oE 37 (.bin .eql (.t 36) (.k (.int .i64 9))) [1]), (oM 34 (.t 37) [2])]
def srec_Get_i13 : List Op1 := [(oM 38 (.t 6) []), (oE 39 (.fld 1 (.t 10)) []), (oE 40 (.load false 1 (.t 39)) [1]), (oM 2 (.t 38) [0, 0]), (oM 3 (.t 40) [2, 3, 0, 1, 2, 3]), (oM 4 (.k (.int .i64 0)) [4, 0, 1, 2, 3, 4]), (oM 5 (.k (.int .i64 0)) [5, 0, 1, 2, 3, 4, 5])]
def srec_Get_i14 : IR := .ret
def srec_Get_i15 : List Op1 := [(oE 42 (.fld 0 (.t 10)) []), (oE 43 (.load false 1 (.t 42)) [0]), (oE 44 (.bin .eql (.t 43) (.k (.int .i64 1))) [1]), (oM 45 (.t 44) [2]), (oG 46 (.fld 1 (.t 10)) 45 true [3]), (oG 47 (.load false 1 (.t 46)) 45 true [4, 3]), (oG 48 (.cint .i64 (.t 47)) 45 true [5, 3]), (oG 49 (.fld 2 (.t 10)) 45 true [3]), (oG 50 (.load false 1 (.t 49)) 45 true [7, 3]), (oG 51 (.len (.t 50)) 45 true [8, 3]), (oG 52 (.bin .add (.t 48) (.t 51)) 45 true [6, 9, 3]), (oG 53 (.bin .gtr (.t 52) (.k (.int .i64 65536))) 45 true [10, 3]), (oE 54 (.pick (.t 45) (.t 53) (.k (.bool false))) [3, 11]), (oM 41 (.t 54) [12, 3])]
def srec_Get_i16 : List Op1 := [(oM 55 (.t 8) []), (oE 56 (.bin .add (.t 55) (.k (.int .i64 1))) [0]), (oE 2 (.nilg 2) []), (oM 3 (.k (.int .u16 0)) [2, 2]), (oM 4 (.t 56) [1, 3, 0, 1, 2, 3]), (oM 5 (.k (.int .i64 11)) [4, 0, 1, 2, 3, 4])]
def srec_Get_i17 : IR := .ret
def srec_Get_i18 : List Op1 := [(oE 58 (.fld 0 (.t 10)) []), (oE 59 (.load false 1 (.t 58)) [0]), (oE 60 (.bin .eql (.t 59) (.k (.int .i64 1))) [1]), (oM 61 (.t 60) [2]), (oG 62 (.fld 2 (.t 10)) 61 true [3]), (oG 63 (.load false 1 (.t 62)) 61 true [4, 3]), (oG 64 (.len (.t 63)) 61 true [5, 3]), (oG 65 (.bin .gtr (.t 64) (.k (.int .i64 0))) 61 true [6, 3]), (oE 66 (.pick (.t 61) (.t 65) (.k (.bool false))) [3, 7]), (oM 57 (.t 66) [8, 3])]
def srec_Get_i19 : List Op1 := [(oM 67 (.t 6) []), (oE 68 (.fld 1 (.t 10)) []), (oE 69 (.load false 1 (.t 68)) [1]), (oE 70 (.fld 2 (.t 10)) []), (oE 71 (.load false 1 (.t 70)) [3]), (oE 72 (.build [(.int .u16 0), (.slice none 0 0)] [(0, (1, (.t 69))), (1, (1, (.t 71)))]) [2, 4]), (oE 73 (.bslo 2 1 [(.int .u16 0), (.slice none 0 0)] [(0, (2, (.t 72)))]) [5]), (oE 74 (.app 27 2 32 (.t 67) (.t 73)) [0, 6]), (oM 6 (.t 74) [7, 7, 0, 1, 2, 3, 4, 5, 6, 7])]
def srec_Get_i20 : IR := (.cond (.t 57) (.reg false srec_Get_i19) .skip)
def srec_Get_i21 : IR := (.cond (.t 41) (.seq (.reg false srec_Get_i16) srec_Get_i17) (.seq (.reg false srec_Get_i18) srec_Get_i20))
def srec_Get_i22 : IR := (.cond (.t 34) (.seq (.reg true srec_Get_i13) srec_Get_i14) (.seq (.reg false srec_Get_i15) srec_Get_i21))
def srec_Get_i23 : IR := (.cond (.t 28) (.seq (.reg false srec_Get_i10) srec_Get_i11) (.seq (.reg false srec_Get_i12) srec_Get_i22))
def srec_Get_i24 : IR := (.block 2 (.seq (.reg false srec_Get_i9) srec_Get_i23))
def srec_Get_i25 : IR := (.seq (.reg false srec_Get_i8) srec_Get_i24)
def srec_Get_i26 : IR := (.seq (.seq (.reg false srec_Get_i6) srec_Get_i7) srec_Get_i25)
def srec_Get_i27 : List Op1 := [(oE 75 (.bin .add (.t 16) (.k (.int .i64 1))) []), (oM 16 (.t 75) [0])]
def srec_Get_i28 : IR := (.reg false srec_Get_i27)
def srec_Get_i29 : IR := (.seq (.block 1 (.seq (.reg false srec_Get_i5) srec_Get_i26)) srec_Get_i28)
def srec_Get_i30 : IR := (.seq (.cond (.t 17) .skip (.exit 0)) srec_Get_i29)
def srec_Get_i31 : IR := (.seq (.reg false srec_Get_i4) srec_Get_i30)
def srec_Get_i32 : IR := (.block 0 (.loop srec_Get_i31))
def srec_Get_i33 : List Op1 := [(oM 76 (.t 7) []), (oE 77 (.len (.t 76)) [0]), (oE 2 (.nilg 2) []), (oM 3 (.k (.int .u16 0)) [2, 2]), (oM 4 (.t 77) [1, 3, 0, 1, 2, 3]), (oM 5 (.k (.int .i64 20)) [4, 0, 1, 2, 3, 4])]
def srec_Get_i34 : IR := .ret
def srec_Get_i35 : IR := (.seq (.reg false srec_Get_i33) srec_Get_i34)
def srec_Get_i36 : IR := (.seq (.seq (.reg false srec_Get_i3) srec_Get_i32) srec_Get_i35)
def srec_Get_i37 : IR := (.seq (.reg false srec_Get_i2) srec_Get_i36)
def srec_Get_i38 : IR := (.seq (.reg false srec_Get_i1) srec_Get_i37)
def srec_Get_ir : IR := (.seq (.reg false srec_Get_i0) srec_Get_i38)
theorem srec_Get_cfn : cFn Tryd.prog 7 = some (srec_Get_ir, [(.t 2), (.t 3), (.t 4), (.t 5)], 78) := by kernel_rfl
def srec_Get_V (r : ((List srec_Piece) × Int × Int × Int)) : V := .tup [.sl false r.1.length (cat srec_Piece.v r.1), .s (.int .u16 r.2.1), .s (.int .i64 r.2.2.1), .s (.int .i64 r.2.2.2)]
def srec_Get_C (r : ((List srec_Piece) × Int × Int × Int)) : X → Fr → Hp → Prop := FinL [(.t 2), (.t 3), (.t 4), (.t 5)] [] (srec_Get_V r) []
theorem srec_Get_ok (s_ : ByteArray) (r : ((List srec_Piece) × Int × Int × Int)) (h : srec_Get s_ = some r) : Pure Tryd.prog 7 [.s (.string s_)] (srec_Get_V r) := by
  refine ConL.of srec_Get_cfn (Nat.le_of_ble_eq_true (by kernel_rfl)) (Nat.le_of_ble_eq_true (by kernel_rfl)) ?_
  refine k_start ?_
  show dwv Tryd.prog [] srec_Get_ir (kont Tryd.prog [] (srec_Get_C r) []) (fr0 [.s (.string s_)]) []
  have hf : FOk (fr0 [.s (.string s_)]) [⟨0, [], .s (.string s_)⟩] := ⟨⟨fun _ => rfl, fun h => (h trivial).elim⟩, trivial⟩
  generalize fr0 [.s (.string s_)] = f at hf ⊢
  unfold srec_Get at h
  refine k_seq ?_
  refine k_reg ?_
  refine mops_en hf (by kernel_rfl) fun f1 hf1 => ?_
  refine k_c ?_
  refine k_seq ?_
  refine k_reg ?_
  refine mops_en hf1 (by kernel_rfl) fun f2 hf2 => ?_
  refine k_c ?_
  refine k_seq ?_
  refine k_reg ?_
  refine mops_sg 1 hf2 (by kernel_rfl) fun f3 hf3 => ?_
  obtain ⟨r_, hx_r_, h⟩ := Option.bind_eq_some_iff.1 h
  refine mops_call rfl hf3 (av := [.s (.string s_), .s (.string (⟨#[10]⟩ : ByteArray))]) (by kernel_rfl) (v := .sl false r_.length (cat nS r_)) (CalL.pure (strings_Split_ok s_ (⟨#[10]⟩ : ByteArray) r_ hx_r_) rfl (by simp [V.static, statics, cat_stat, strings_Split_V]) (Nat.le_of_ble_eq_true (by kernel_rfl))) (fun _ => rfl) fun f4 hf4 => ?_
  refine mops_en hf4 (by kernel_rfl) fun f5 hf5 => ?_
  refine k_c ?_
  refine k_seq ?_
  refine k_seq ?_
  refine k_reg ?_
  refine mops_en hf5 (by kernel_rfl) fun f6 hf6 => ?_
  refine k_c ?_
  refine k_block ?_
  obtain ⟨o0, hx0, h⟩ := Option.bind_eq_some_iff.1 h
  have hret0 : ∀ r0, .ret r0 = o0 → r0 = r := fun r0 e => by subst e; exact Option.some.inj h
  have hgo0 : ∀ (l_2 : (List srec_Piece)) (v_2 : Nat), .go l_2 = o0 → ∀ f, FOk f [⟨2, [], .ref 0 0 0 0⟩, ⟨3, [], .s (.int .u16 0)⟩, ⟨4, [], .s (.int .i64 0)⟩, ⟨5, [], .s (.int .i64 0)⟩, ⟨7, [], .sl false r_.length (cat nS r_)⟩] → kont Tryd.prog [] (srec_Get_C r) ((.c srec_Get_i35) :: []) .normal f [⟨0, .grow, 2, cat srec_Piece.v ([] : List srec_Piece)⟩, ⟨v_2, .grow, 2, cat srec_Piece.v l_2⟩] := by
    intro l_2 v_2 e f hf
    subst e
    refine k_c ?_
    refine k_seq ?_
    refine k_reg ?_
    refine mops_en hf (by kernel_rfl) fun f1 hf1 => ?_
    refine k_c ?_
    refine k_ret ?_
    obtain rfl := Option.some.inj h
    exact k_fin (fin_ret (.inl rfl) hf1 (vs := [.ref 2 0 0 0, .s (.int .u16 0), .s (.int .i64 (ln r_)), .s (.int .i64 20)]) (by kernel_rfl) (SettL.pure (FzL.tup (FzsL.cons (FzL.whole (g := srec_Piece.v) (kd := .grow) (l := ([] : List srec_Piece)) (by kernel_rfl) rfl (live_grow (by kernel_rfl))) (FzsL.cons (FzL.stat rfl) (FzsL.cons (FzL.stat rfl) (FzsL.cons (FzL.stat rfl) FzsL.nil)))))))
  refine k_loop BIG ?_
  refine loop_ind (fun n f L => ∃ (l_1 : (List srec_Piece)) (t_1 : Int) (v_1 : Nat), srec_Get_l0 r_ n l_1 t_1 = some o0 ∧ FOk f [⟨2, [], .ref 0 0 0 0⟩, ⟨3, [], .s (.int .u16 0)⟩, ⟨4, [], .s (.int .i64 0)⟩, ⟨5, [], .s (.int .i64 0)⟩, ⟨6, [], .ref 1 v_1 0 l_1.length⟩, ⟨7, [], .sl false r_.length (cat nS r_)⟩, ⟨14, [], .sl false r_.length (cat nS r_)⟩, ⟨15, [], .s (.int .i64 (ln r_))⟩, ⟨16, [], .s (.int .i64 t_1)⟩] ∧ L = [⟨0, .grow, 2, cat srec_Piece.v ([] : List srec_Piece)⟩, ⟨v_1, .grow, 2, cat srec_Piece.v l_1⟩]) ?_ ?_ BIG _ _ ⟨([] : List srec_Piece), (0), (0), hx0, FOk_of [2, 3, 4, 5, 6, 7, 14, 15, 16] hf6 (by kernel_rfl), (by kernel_rfl)⟩
  · rintro f L ⟨l_1, t_1, v_1, h, _⟩
    cases (show (none : Option _) = some _ from h)
  · rintro n0 R0 ih f L ⟨l_1, t_1, v_1, h, hf, rfl⟩
    rw [srec_Get_l0] at h
    refine k_seq ?_
    refine k_reg ?_
    refine mops_en hf (by kernel_rfl) fun f1 hf1 => ?_
    refine k_c ?_
    refine k_seq ?_
    refine k_cond hf1 (t := (decide (t_1 < (ln r_)))) (by kernel_rfl) (fun hc1 => ?_) (fun hc1 => ?_)
    · have h := if_t h hc1
      refine k_skip ?_
      refine k_c ?_
      refine k_seq ?_
      refine k_block ?_
      refine k_seq ?_
      refine k_reg ?_
      refine mops_sg 1 hf1 (by kernel_rfl) fun f2 hf2 => ?_
      obtain ⟨c2, h⟩ := as_ok h
      refine mops_adv rfl (v := .ip ((cat nS r_).drop ((t_1 : Int).toNat * 1))) hf2 (by kernel_rfl) (e_ias (n := r_.length) (xv := .sl false r_.length (cat nS r_)) (k := .i64) (iv := t_1) (p := .ip ((cat nS r_).drop ((t_1 : Int).toNat * 1))) (by kernel_rfl) (by kernel_rfl) (by kernel_rfl) (by kernel_rfl) c2) fun f3 hf3 => ?_
      refine mops_adv rfl (v := .s (.string (gt r_ t_1))) hf3 (by kernel_rfl) (e_load_ip (g := nS) (l := r_) (iv := t_1) [] (by kernel_rfl) c2 (by kernel_rfl) (by kernel_rfl)) fun f4 hf4 => ?_
      refine mops_en hf4 (by kernel_rfl) fun f5 hf5 => ?_
      refine k_c ?_
      refine k_seq ?_
      refine k_seq ?_
      refine k_reg ?_
      refine mops_en hf5 (by kernel_rfl) fun f6 hf6 => ?_
      refine k_c ?_
      refine k_cond hf6 (t := ((gt r_ t_1).toList == (⟨#[]⟩ : ByteArray).toList)) (by kernel_rfl) (fun hc3 => ?_) (fun hc3 => ?_)
      · have h := if_t h hc3
        refine k_exit ?_
        refine x_c nofun ?_
        refine x_b ?_
        refine k_c ?_
        refine k_reg ?_
        refine mops_en hf6 (by kernel_rfl) fun f7 hf7 => ?_
        refine k_l ?_
        exact ih _ _ ⟨l_1, (IntKind.wrap .i64 (t_1 + 1)), v_1, h, FOk_of [2, 3, 4, 5, 6, 7, 14, 15, 16] hf7 (by kernel_rfl), (by kernel_rfl)⟩
      · have h := if_f h hc3
        refine k_skip ?_
        refine k_c ?_
        refine k_seq ?_
        refine k_reg ?_
        refine mops_sg 1 hf6 (by kernel_rfl) fun f7 hf7 => ?_
        obtain ⟨r_3, hx_r_3, h⟩ := Option.bind_eq_some_iff.1 h
        refine mops_call rfl hf7 (av := [.s (.string (gt r_ t_1))]) (by kernel_rfl) (v := .tup [.agg [.s (.int .i64 r_3.1.Kind), .s (.int .u16 r_3.1.At), .sl false r_3.1.B.length (cat (nI .u8) r_3.1.B)], .s (.int .i64 r_3.2)]) (CalL.pure (srec_Read_ok (gt r_ t_1) r_3 hx_r_3) rfl (by simp [V.static, statics, cat_stat, srec_Read_V]) (Nat.le_of_ble_eq_true (by kernel_rfl))) (fun _ => rfl) fun f8 hf8 => ?_
        refine mops_en hf8 (by kernel_rfl) fun f9 hf9 => ?_
        refine k_c ?_
        refine k_block ?_
        refine k_seq ?_
        refine k_reg ?_
        refine mops_en hf9 (by kernel_rfl) fun f10 hf10 => ?_
        refine k_c ?_
        refine k_cond hf10 (t := (r_3.2 != 0)) (by kernel_rfl) (fun hc4 => ?_) (fun hc4 => ?_)
        · have h := if_t h hc4
          refine k_seq ?_
          refine k_reg ?_
          refine mops_en hf10 (by kernel_rfl) fun f11 hf11 => ?_
          refine k_c ?_
          refine k_ret ?_
          refine x_br ?_
          refine x_br ?_
          refine x_c nofun ?_
          refine x_l nofun ?_
          refine x_br ?_
          refine x_c nofun ?_
          obtain rfl := hret0 _ (Option.some.inj h)
          exact k_fin (fin_ret (.inl rfl) hf11 (vs := [.ref 3 0 0 0, .s (.int .u16 0), .s (.int .i64 (IntKind.wrap .i64 (t_1 + 1))), .s (.int .i64 r_3.2)]) (by kernel_rfl) (SettL.pure (FzL.tup (FzsL.cons (FzL.whole (g := srec_Piece.v) (kd := .grow) (l := ([] : List srec_Piece)) (by kernel_rfl) rfl (live_grow (by kernel_rfl))) (FzsL.cons (FzL.stat rfl) (FzsL.cons (FzL.stat rfl) (FzsL.cons (FzL.stat rfl) FzsL.nil)))))))
        · have h := if_f h hc4
          refine k_seq ?_
          refine k_reg ?_
          refine mops_en hf10 (by kernel_rfl) fun f11 hf11 => ?_
          refine k_c ?_
          refine k_cond hf11 (t := (r_3.1.Kind == 9)) (by kernel_rfl) (fun hc5 => ?_) (fun hc5 => ?_)
          · have h := if_t h hc5
            refine k_seq ?_
            refine k_regq ?_
            refine mops_en hf11 (by kernel_rfl) fun f12 hf12 => ?_
            refine k_c ?_
            refine k_ret ?_
            refine x_br ?_
            refine x_br ?_
            refine x_c nofun ?_
            refine x_l nofun ?_
            refine x_br ?_
            refine x_c nofun ?_
            obtain rfl := hret0 _ (Option.some.inj h)
            exact k_fin (fin_ret (.inl rfl) hf12 (vs := [.ref 1 v_1 0 l_1.length, .s (.int .u16 r_3.1.At), .s (.int .i64 0), .s (.int .i64 0)]) (by kernel_rfl) (SettL.pure (FzL.tup (FzsL.cons (FzL.whole (g := srec_Piece.v) (kd := .grow) (l := l_1) (by kernel_rfl) rfl (live_grow (by kernel_rfl))) (FzsL.cons (FzL.stat rfl) (FzsL.cons (FzL.stat rfl) (FzsL.cons (FzL.stat rfl) FzsL.nil)))))))
          · have h := if_f h hc5
            refine k_seq ?_
            refine k_reg ?_
            refine mops_end [2, 3, 4, 5, 6, 7, 8, 9, 10, 11, 14, 15, 16, 17, 18, 19, 20, 21, 22, 23, 24, 25, 26, 27, 28, 29, 30, 34, 35, 36, 37, 41, 42, 43, 44, 45, 46, 47, 48, 49, 50, 51, 52, 53, 54] hf11 (l' := [⟨2, [], .ref 0 0 0 0⟩, ⟨3, [], .s (.int .u16 0)⟩, ⟨4, [], .s (.int .i64 0)⟩, ⟨5, [], .s (.int .i64 0)⟩, ⟨6, [], .ref 1 v_1 0 l_1.length⟩, ⟨7, [], .sl false r_.length (cat nS r_)⟩, ⟨8, [], .s (.int .i64 t_1)⟩, ⟨9, [], .s (.string (gt r_ t_1))⟩, ⟨10, [], .ptr 2 0 0⟩, ⟨11, [], .s (.int .i64 r_3.2)⟩, ⟨14, [], .sl false r_.length (cat nS r_)⟩, ⟨15, [], .s (.int .i64 (ln r_))⟩, ⟨16, [], .s (.int .i64 t_1)⟩, ⟨17, [], .s (.bool (decide (t_1 < (ln r_))))⟩, ⟨18, [], .s (.int .i64 t_1)⟩, ⟨19, [], .ip ((cat nS r_).drop ((t_1 : Int).toNat * 1))⟩, ⟨20, [], .s (.string (gt r_ t_1))⟩, ⟨21, [], .s (.string (gt r_ t_1))⟩, ⟨22, [], .s (.bool ((gt r_ t_1).toList == (⟨#[]⟩ : ByteArray).toList))⟩, ⟨23, [], .tup [.agg [.s (.int .i64 r_3.1.Kind), .s (.int .u16 r_3.1.At), .sl false r_3.1.B.length (cat (nI .u8) r_3.1.B)], .s (.int .i64 r_3.2)]⟩, ⟨24, [], .s (.string (gt r_ t_1))⟩, ⟨25, [], .tup [.agg [.s (.int .i64 r_3.1.Kind), .s (.int .u16 r_3.1.At), .sl false r_3.1.B.length (cat (nI .u8) r_3.1.B)], .s (.int .i64 r_3.2)]⟩, ⟨26, [], .agg [.s (.int .i64 r_3.1.Kind), .s (.int .u16 r_3.1.At), .sl false r_3.1.B.length (cat (nI .u8) r_3.1.B)]⟩, ⟨27, [], .s (.int .i64 r_3.2)⟩, ⟨28, [], .s (.bool (r_3.2 != 0))⟩, ⟨29, [], .s (.int .i64 r_3.2)⟩, ⟨30, [], .s (.bool (r_3.2 != 0))⟩, ⟨34, [], .s (.bool (r_3.1.Kind == 9))⟩, ⟨35, [], .ptr 2 0 0⟩, ⟨36, [], .s (.int .i64 r_3.1.Kind)⟩, ⟨37, [], .s (.bool (r_3.1.Kind == 9))⟩, ⟨41, [], .s (.bool ((r_3.1.Kind == 1) && (decide (65536 < (IntKind.wrap .i64 ((IntKind.wrap .i64 r_3.1.At) + (ln r_3.1.B)))))))⟩, ⟨42, [], .ptr 2 0 0⟩, ⟨43, [], .s (.int .i64 r_3.1.Kind)⟩, ⟨44, [], .s (.bool (r_3.1.Kind == 1))⟩, ⟨45, [], .s (.bool (r_3.1.Kind == 1))⟩, ⟨46, [(45, true)], .ptr 2 0 1⟩, ⟨47, [(45, true)], .s (.int .u16 r_3.1.At)⟩, ⟨48, [(45, true)], .s (.int .i64 (IntKind.wrap .i64 r_3.1.At))⟩, ⟨49, [(45, true)], .ptr 2 0 2⟩, ⟨50, [(45, true)], .sl false r_3.1.B.length (cat (nI .u8) r_3.1.B)⟩, ⟨51, [(45, true)], .s (.int .i64 (ln r_3.1.B))⟩, ⟨52, [(45, true)], .s (.int .i64 (IntKind.wrap .i64 ((IntKind.wrap .i64 r_3.1.At) + (ln r_3.1.B))))⟩, ⟨53, [(45, true)], .s (.bool (decide (65536 < (IntKind.wrap .i64 ((IntKind.wrap .i64 r_3.1.At) + (ln r_3.1.B))))))⟩, ⟨54, [], .s (.bool ((r_3.1.Kind == 1) && (decide (65536 < (IntKind.wrap .i64 ((IntKind.wrap .i64 r_3.1.At) + (ln r_3.1.B)))))))⟩]) (L' := [⟨0, .grow, 2, cat srec_Piece.v ([] : List srec_Piece)⟩, ⟨v_1, .grow, 2, cat srec_Piece.v l_1⟩, ⟨0, .mem, 1, [.s (.int .i64 r_3.1.Kind), .s (.int .u16 r_3.1.At), .sl false r_3.1.B.length (cat (nI .u8) r_3.1.B)]⟩]) (by kernel_rfl) fun f12 hf12 => ?_
            refine k_c ?_
            refine k_cond hf12 (t := ((r_3.1.Kind == 1) && (decide (65536 < (IntKind.wrap .i64 ((IntKind.wrap .i64 r_3.1.At) + (ln r_3.1.B))))))) (by kernel_rfl) (fun hc6 => ?_) (fun hc6 => ?_)
            · have h := if_t h hc6
              refine k_seq ?_
              refine k_reg ?_
              refine mops_en hf12 (by kernel_rfl) fun f13 hf13 => ?_
              refine k_c ?_
              refine k_ret ?_
              refine x_br ?_
              refine x_br ?_
              refine x_c nofun ?_
              refine x_l nofun ?_
              refine x_br ?_
              refine x_c nofun ?_
              obtain rfl := hret0 _ (Option.some.inj h)
              exact k_fin (fin_ret (.inl rfl) hf13 (vs := [.ref 3 0 0 0, .s (.int .u16 0), .s (.int .i64 (IntKind.wrap .i64 (t_1 + 1))), .s (.int .i64 11)]) (by kernel_rfl) (SettL.pure (FzL.tup (FzsL.cons (FzL.whole (g := srec_Piece.v) (kd := .grow) (l := ([] : List srec_Piece)) (by kernel_rfl) rfl (live_grow (by kernel_rfl))) (FzsL.cons (FzL.stat rfl) (FzsL.cons (FzL.stat rfl) (FzsL.cons (FzL.stat rfl) FzsL.nil)))))))
            · have h := if_f h hc6
              refine k_seq ?_
              refine k_reg ?_
              refine mops_en hf12 (by kernel_rfl) fun f13 hf13 => ?_
              refine k_c ?_
              refine k_cond hf13 (t := ((r_3.1.Kind == 1) && (decide (0 < (ln r_3.1.B))))) (by kernel_rfl) (fun hc7 => ?_) (fun hc7 => ?_)
              · have h := if_t h hc7
                refine k_reg ?_
                refine mops_sg 7 hf13 (by kernel_rfl) fun f14 hf14 => ?_
                obtain ⟨c8, h⟩ := as_ok h
                refine mops_adv rfl (v := .ref 1 (v_1 + 1) 0 (l_1 ++ [(srec_Piece.mk r_3.1.At r_3.1.B)]).length) hf14 (by kernel_rfl) (e_app (g := srec_Piece.v) (l := l_1) (l' := [(srec_Piece.mk r_3.1.At r_3.1.B)]) (b := 1) (ver := v_1) (n := l_1.length) rfl (by kernel_rfl) rfl (live_grow (by kernel_rfl)) (sll_ev (v := .ref 3 0 0 1) (by kernel_rfl) (sll_ref (B := ⟨0, .grow, 2, cat srec_Piece.v [(srec_Piece.mk r_3.1.At r_3.1.B)]⟩) (by kernel_rfl) (live_grow (by kernel_rfl)))) (slc_ev (v := .ref 3 0 0 1) (by kernel_rfl) (slc_ref (g := srec_Piece.v) (l := [(srec_Piece.mk r_3.1.At r_3.1.B)]) (kd := .grow) (q := 2) (by kernel_rfl) (live_grow (by kernel_rfl)))) c8) fun f15 hf15 => ?_
                refine mops_en hf15 (by kernel_rfl) fun f16 hf16 => ?_
                refine k_b ?_
                refine k_b ?_
                refine k_c ?_
                refine k_reg ?_
                refine mops_en hf16 (by kernel_rfl) fun f17 hf17 => ?_
                refine k_l' (vs_cut (l := [⟨2, [], .ref 0 0 0 0⟩, ⟨3, [], .s (.int .u16 0)⟩, ⟨4, [], .s (.int .i64 0)⟩, ⟨5, [], .s (.int .i64 0)⟩, ⟨6, [], .ref 1 (v_1 + 1) 0 (l_1 ++ [(srec_Piece.mk r_3.1.At r_3.1.B)]).length⟩, ⟨7, [], .sl false r_.length (cat nS r_)⟩, ⟨14, [], .sl false r_.length (cat nS r_)⟩, ⟨15, [], .s (.int .i64 (ln r_))⟩, ⟨16, [], .s (.int .i64 (IntKind.wrap .i64 (t_1 + 1)))⟩]) 2 (by kernel_rfl) (by kernel_rfl) (L' := [⟨0, .grow, 2, cat srec_Piece.v ([] : List srec_Piece)⟩, ⟨(v_1 + 1), .grow, 2, cat srec_Piece.v (l_1 ++ [(srec_Piece.mk r_3.1.At r_3.1.B)])⟩]) (by kernel_rfl) ⟨⟨rfl, rfl⟩, ⟨rfl, rfl⟩, ⟨rfl, rfl⟩, ⟨rfl, rfl⟩, ⟨rfl, rfl⟩, ⟨rfl, (static_under _ _ (by simp [V.static, statics, cat_stat, dropcat_stat]))⟩, ⟨rfl, (static_under _ _ (by simp [V.static, statics, cat_stat, dropcat_stat]))⟩, ⟨rfl, rfl⟩, ⟨rfl, rfl⟩, trivial⟩ ⟨.inr (.inr (statics_unders _ _ (cat_stat _))), .inr (.inr (statics_unders _ _ (cat_stat _))), trivial⟩ (FOk_of [2, 3, 4, 5, 6, 7, 14, 15, 16] hf17 (by kernel_rfl)) fun f hf => ?_)
                exact ih _ _ ⟨(l_1 ++ [(srec_Piece.mk r_3.1.At r_3.1.B)]), (IntKind.wrap .i64 (t_1 + 1)), (v_1 + 1), h, hf, rfl⟩
              · have h := if_f h hc7
                refine k_skip ?_
                refine k_b ?_
                refine k_b ?_
                refine k_c ?_
                refine k_reg ?_
                refine mops_en hf13 (by kernel_rfl) fun f14 hf14 => ?_
                refine k_l' (vs_cut (l := [⟨2, [], .ref 0 0 0 0⟩, ⟨3, [], .s (.int .u16 0)⟩, ⟨4, [], .s (.int .i64 0)⟩, ⟨5, [], .s (.int .i64 0)⟩, ⟨6, [], .ref 1 v_1 0 l_1.length⟩, ⟨7, [], .sl false r_.length (cat nS r_)⟩, ⟨14, [], .sl false r_.length (cat nS r_)⟩, ⟨15, [], .s (.int .i64 (ln r_))⟩, ⟨16, [], .s (.int .i64 (IntKind.wrap .i64 (t_1 + 1)))⟩]) 2 (by kernel_rfl) (by kernel_rfl) (L' := [⟨0, .grow, 2, cat srec_Piece.v ([] : List srec_Piece)⟩, ⟨v_1, .grow, 2, cat srec_Piece.v l_1⟩]) (by kernel_rfl) ⟨⟨rfl, rfl⟩, ⟨rfl, rfl⟩, ⟨rfl, rfl⟩, ⟨rfl, rfl⟩, ⟨rfl, rfl⟩, ⟨rfl, (static_under _ _ (by simp [V.static, statics, cat_stat, dropcat_stat]))⟩, ⟨rfl, (static_under _ _ (by simp [V.static, statics, cat_stat, dropcat_stat]))⟩, ⟨rfl, rfl⟩, ⟨rfl, rfl⟩, trivial⟩ ⟨.inr (.inr (statics_unders _ _ (cat_stat _))), .inr (.inr (statics_unders _ _ (cat_stat _))), trivial⟩ (FOk_of [2, 3, 4, 5, 6, 7, 14, 15, 16] hf14 (by kernel_rfl)) fun f hf => ?_)
                exact ih _ _ ⟨l_1, (IntKind.wrap .i64 (t_1 + 1)), v_1, h, hf, rfl⟩
    · have h := if_f h hc1
      refine k_exit ?_
      refine x_c nofun ?_
      refine x_l nofun ?_
      refine x_b ?_
      refine k_hp (L' := [⟨0, .grow, 2, cat srec_Piece.v ([] : List srec_Piece)⟩, ⟨v_1, .grow, 2, cat srec_Piece.v l_1⟩]) (by kernel_rfl) ?_
      exact hgo0 l_1 v_1 (Option.some.inj h) _ (FOk_of [2, 3, 4, 5, 7] hf1 (by kernel_rfl))
def spinetlaw40_alive_i0 : List Op1 := [(oM 0 (.k (.bool false)) [])]
def spinetlaw40_alive_i1 : List Op1 := [(oE 1 (.build [(.int .i64 0), (.int .u16 0), (.slice none 0 0)] [(0, (1, (.k (.int .i64 9))))]) []), (oC 2 14 [(.t 1)] [0]), (oE 3 (.bin .eql (.t 2) (.k (.string ⟨#[83, 57, 48, 51, 48, 48, 48, 48, 70, 67]⟩))) [1]), (oM 4 (.t 3) [2, 1]), (oE 5 (.pick (.t 4) (.k (.bool true)) (.k (.bool false))) [3]), (oM 0 (.t 5) [4, 3, 0, 1, 2, 3, 4])]
def spinetlaw40_alive_i2 : IR := .ret
def spinetlaw40_alive_i3 : IR := (.seq (.reg false spinetlaw40_alive_i1) spinetlaw40_alive_i2)
def spinetlaw40_alive_ir : IR := (.seq (.reg false spinetlaw40_alive_i0) spinetlaw40_alive_i3)
theorem spinetlaw40_alive_cfn : cFn Tryd.prog 10 = some (spinetlaw40_alive_ir, [(.t 0)], 6) := by kernel_rfl
def spinetlaw40_alive_V (r : (Bool)) : V := .s (.bool r)
def spinetlaw40_alive_C (r : (Bool)) : X → Fr → Hp → Prop := FinL [(.t 0)] [] (spinetlaw40_alive_V r) []
theorem spinetlaw40_alive_ok (r : (Bool)) (h : spinetlaw40_alive = some r) : Pure Tryd.prog 10 [] (spinetlaw40_alive_V r) := by
  refine ConL.of spinetlaw40_alive_cfn (Nat.le_of_ble_eq_true (by kernel_rfl)) (Nat.le_of_ble_eq_true (by kernel_rfl)) ?_
  refine k_start ?_
  show dwv Tryd.prog [] spinetlaw40_alive_ir (kont Tryd.prog [] (spinetlaw40_alive_C r) []) (fr0 []) []
  have hf : FOk (fr0 []) [] := trivial
  generalize fr0 [] = f at hf ⊢
  unfold spinetlaw40_alive at h
  refine k_seq ?_
  refine k_reg ?_
  refine mops_en hf (by kernel_rfl) fun f1 hf1 => ?_
  refine k_c ?_
  refine k_seq ?_
  refine k_reg ?_
  refine mops_sg 1 hf1 (by kernel_rfl) fun f2 hf2 => ?_
  obtain ⟨r_, hx_r_, h⟩ := Option.bind_eq_some_iff.1 h
  refine mops_call rfl hf2 (av := [.agg [.s (.int .i64 9), .s (.int .u16 0), .s (.slice none 0 0)]]) (by kernel_rfl) (v := .s (.string r_)) (CalL.purew (srec_Line_Text_ok (srec_Line.mk (9) (0) ([] : List Int)) r_ hx_r_) (Wks.cons (Wk.agg (Wks.cons Wk.refl (Wks.cons Wk.refl (Wks.cons Wk.nilsl Wks.nil)))) Wks.nil) (by simp [V.static, statics, cat_stat]) rfl (by kernel_rfl)) (fun _ => rfl) fun f3 hf3 => ?_
  refine mops_en hf3 (by kernel_rfl) fun f4 hf4 => ?_
  refine k_c ?_
  refine k_ret ?_
  obtain rfl := Option.some.inj h
  exact k_fin (fin_ret (.inl rfl) hf4 (vs := [.s (.bool ((r_.toList == (⟨#[83, 57, 48, 51, 48, 48, 48, 48, 70, 67]⟩ : ByteArray).toList) || false))]) (by kernel_rfl) (SettL.pure (FzL.stat rfl)))
end Go.Proofs.YtphfmfbebcconaaDoorK
