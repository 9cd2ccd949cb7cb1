/- The Go functions come to the functions over typed data. Printed by a program of this work. -/
import Derived.Test.YtmabdijipkmmkaaF
import Derived.Test.YtmabdijipkmmkaaProg
namespace Go.Proofs.YtmabdijipkmmkaaK
set_option linter.unusedVariables false
set_option linter.unusedSimpArgs false
set_option maxHeartbeats 4000000
open Go.RowKit
attribute [local irreducible] dwv mops lops lqops lwops kont iter run runK rk okK ex E1 vals val chain chB sel resF
def page_wide_i0 : List Op1 := [(oE 6 (.zero [(.int .i64 0), (.int .i64 0), (.int .i64 0)]) [])]
def page_wide_i1 : List Op1 := [(oM 7 (.t 1) []), (oE 8 (.bin .eql (.t 7) (.k (.int .i64 1))) [0])]
def page_wide_i2 : List Op1 := [(oM 1 (.k (.int .i64 2)) [])]
def page_wide_i3 : List Op1 := [(oM 9 (.t 0) []), (oE 10 (.bin .eql (.t 9) (.k (.int .i64 25))) [0])]
def page_wide_i4 : List Op1 := [(oE 11 (.build [(.int .i64 0), (.int .i64 0), (.int .i64 0)] []) []), (oN (.store 3 (.t 6) (.t 11)) [0, 0])]
def page_wide_i5 : IR := .ret
def page_wide_i6 : IR := (.cond (.t 10) (.seq (.reg false page_wide_i4) page_wide_i5) .skip)
def page_wide_i7 : IR := (.seq (.reg false page_wide_i3) page_wide_i6)
def page_wide_i8 : IR := (.cond (.t 8) (.seq (.reg false page_wide_i2) page_wide_i7) .skip)
def page_wide_i9 : List Op1 := [(oM 12 (.t 0) []), (oM 13 (.t 1) []), (oM 14 (.t 2) []), (oE 15 (.build [(.int .i64 0), (.int .i64 0), (.int .i64 0)] [(0, (1, (.t 12))), (1, (1, (.t 13))), (2, (1, (.t 14)))]) [0, 1, 2]), (oN (.store 3 (.t 6) (.t 15)) [3, 0, 1, 2, 3])]
def page_wide_i10 : IR := .ret
def page_wide_i11 : IR := (.seq (.reg false page_wide_i9) page_wide_i10)
def page_wide_i12 : IR := (.seq (.seq (.reg false page_wide_i1) page_wide_i8) page_wide_i11)
def page_wide_ir : IR := (.seq (.reg false page_wide_i0) page_wide_i12)
theorem page_wide_cfn : cFn Try.prog 40 = some (page_wide_ir, [(.c 6 true 3)], 16) := by kernel_rfl
def page_wide_V (r : (api_Entry)) : V := .agg [.s (.int .i64 r.Op), .s (.int .i64 r.Mode), .s (.int .i64 r.Reg)]
def page_wide_C (r : (api_Entry)) : X → Fr → Hp → Prop := FinL [(.c 6 true 3)] [] (page_wide_V r) []
theorem page_wide_ok (op_ : Int) (mode_ : Int) (reg_ : Int) (r : (api_Entry)) (h : page_wide op_ mode_ reg_ = some r) : Pure Try.prog 40 [.s (.int .i64 op_), .s (.int .i64 mode_), .s (.int .i64 reg_)] (page_wide_V r) := by
  refine ConL.of page_wide_cfn (Nat.le_of_ble_eq_true (by kernel_rfl)) (Nat.le_of_ble_eq_true (by kernel_rfl)) ?_
  refine k_start ?_
  show dwv Try.prog [] page_wide_ir (kont Try.prog [] (page_wide_C r) []) (fr0 [.s (.int .i64 op_), .s (.int .i64 mode_), .s (.int .i64 reg_)]) []
  have hf : FOk (fr0 [.s (.int .i64 op_), .s (.int .i64 mode_), .s (.int .i64 reg_)]) [⟨0, [], .s (.int .i64 op_)⟩, ⟨1, [], .s (.int .i64 mode_)⟩, ⟨2, [], .s (.int .i64 reg_)⟩] := ⟨⟨fun _ => rfl, fun h => (h trivial).elim⟩, ⟨fun _ => rfl, fun h => (h trivial).elim⟩, ⟨fun _ => rfl, fun h => (h trivial).elim⟩, trivial⟩
  generalize fr0 [.s (.int .i64 op_), .s (.int .i64 mode_), .s (.int .i64 reg_)] = f at hf ⊢
  unfold page_wide at h
  refine k_seq ?_
  refine k_reg ?_
  refine mops_en hf (by kernel_rfl) fun f1 hf1 => ?_
  refine k_c ?_
  refine k_seq ?_
  refine k_seq ?_
  refine k_reg ?_
  refine mops_en hf1 (by kernel_rfl) fun f2 hf2 => ?_
  refine k_c ?_
  have hj1 : ∀ (t_ : Int), page_wide_j0 op_ reg_ t_ = some r → ∀ f, FOk f [⟨0, [], .s (.int .i64 op_)⟩, ⟨1, [], .s (.int .i64 t_)⟩, ⟨2, [], .s (.int .i64 reg_)⟩, ⟨6, [], .ptr 0 0 0⟩] → kont Try.prog [] (page_wide_C r) ((.c page_wide_i11) :: []) .normal f [⟨0, .mem, 1, [.s (.int .i64 0), .s (.int .i64 0), .s (.int .i64 0)]⟩] := by
    intro t_ h f hf
    unfold page_wide_j0 at h
    refine k_c ?_
    refine k_seq ?_
    refine k_reg ?_
    refine mops_en hf (by kernel_rfl) fun f1 hf1 => ?_
    refine k_c ?_
    refine k_ret ?_
    obtain rfl := Option.some.inj h
    exact k_fin (fin_ret (.inl rfl) hf1 (vs := [.agg [.s (.int .i64 op_), .s (.int .i64 t_), .s (.int .i64 reg_)]]) (by kernel_rfl) (SettL.pure (FzL.stat rfl)))
  refine k_cond hf2 (t := (mode_ == 1)) (by kernel_rfl) (fun hc1 => ?_) (fun hc1 => ?_)
  · have h := if_t h hc1
    refine k_seq ?_
    refine k_reg ?_
    refine mops_en hf2 (by kernel_rfl) fun f3 hf3 => ?_
    refine k_c ?_
    refine k_seq ?_
    refine k_reg ?_
    refine mops_en hf3 (by kernel_rfl) fun f4 hf4 => ?_
    refine k_c ?_
    refine k_cond hf4 (t := (op_ == 25)) (by kernel_rfl) (fun hc2 => ?_) (fun hc2 => ?_)
    · have h := if_t h hc2
      refine k_seq ?_
      refine k_reg ?_
      refine mops_en hf4 (by kernel_rfl) fun f5 hf5 => ?_
      refine k_c ?_
      refine k_ret ?_
      refine x_c nofun ?_
      obtain rfl := Option.some.inj h
      exact k_fin (fin_ret (.inl rfl) hf5 (vs := [.agg [.s (.int .i64 0), .s (.int .i64 0), .s (.int .i64 0)]]) (by kernel_rfl) (SettL.pure (FzL.stat rfl)))
    · have h := if_f h hc2
      refine k_skip ?_
      refine k_hp (L' := [⟨0, .mem, 1, [.s (.int .i64 0), .s (.int .i64 0), .s (.int .i64 0)]⟩]) (by kernel_rfl) ?_
      exact hj1 (2) h _ (FOk_of [0, 1, 2, 6] hf4 (by kernel_rfl))
  · have h := if_f h hc1
    refine k_skip ?_
    refine k_hp (L' := [⟨0, .mem, 1, [.s (.int .i64 0), .s (.int .i64 0), .s (.int .i64 0)]⟩]) (by kernel_rfl) ?_
    exact hj1 mode_ h _ (FOk_of [0, 1, 2, 6] hf2 (by kernel_rfl))
def page_column_i0 : List Op1 := [(oM 2 (.k (.int .i64 0)) [])]
def page_column_i1 : List Op1 := [(oE 3 (.build [(.int .i64 0), (.int .i64 0), (.int .i64 0), (.int .i64 0)] [(0, (1, (.k (.int .i64 1)))), (1, (1, (.k (.int .i64 3)))), (2, (1, (.k (.int .i64 4)))), (3, (1, (.k (.int .i64 5))))]) []), (oM 4 (.t 0) []), (oE 5 (.bin .and (.t 4) (.k (.int .u8 3))) [1]), (oE 6 (.ixa false 4 1 (.t 3) (.t 5)) [0, 2]), (oM 2 (.t 6) [3, 0, 1, 2, 3])]
def page_column_i2 : IR := .ret
def page_column_i3 : IR := (.seq (.reg false page_column_i1) page_column_i2)
def page_column_ir : IR := (.seq (.reg false page_column_i0) page_column_i3)
theorem page_column_cfn : cFn Try.prog 41 = some (page_column_ir, [(.t 2)], 7) := by kernel_rfl
def page_column_V (r : (Int)) : V := .s (.int .i64 r)
def page_column_C (r : (Int)) : X → Fr → Hp → Prop := FinL [(.t 2)] [] (page_column_V r) []
theorem page_column_ok (high_ : Int) (r : (Int)) (h : page_column high_ = some r) : Pure Try.prog 41 [.s (.int .u8 high_)] (page_column_V r) := by
  refine ConL.of page_column_cfn (Nat.le_of_ble_eq_true (by kernel_rfl)) (Nat.le_of_ble_eq_true (by kernel_rfl)) ?_
  refine k_start ?_
  show dwv Try.prog [] page_column_ir (kont Try.prog [] (page_column_C r) []) (fr0 [.s (.int .u8 high_)]) []
  have hf : FOk (fr0 [.s (.int .u8 high_)]) [⟨0, [], .s (.int .u8 high_)⟩] := ⟨⟨fun _ => rfl, fun h => (h trivial).elim⟩, trivial⟩
  generalize fr0 [.s (.int .u8 high_)] = f at hf ⊢
  unfold page_column at h
  refine k_seq ?_
  refine k_reg ?_
  refine mops_en hf (by kernel_rfl) fun f1 hf1 => ?_
  refine k_c ?_
  refine k_seq ?_
  refine k_reg ?_
  refine mops_sg 3 hf1 (by kernel_rfl) fun f2 hf2 => ?_
  obtain ⟨c1, h⟩ := as_ok h
  refine mops_adv rfl (v := .s (.int .i64 (gt [1, 3, 4, 5] (bits .and .u8 high_ 3)))) hf2 (by kernel_rfl) (e_ixa (g := (nI .i64)) (l := [1, 3, 4, 5]) (n := 4) (k := .u8) (iv := (bits .and .u8 high_ 3)) (by kernel_rfl) (by kernel_rfl) c1 (by kernel_rfl) (by kernel_rfl)) fun f3 hf3 => ?_
  refine mops_en hf3 (by kernel_rfl) fun f4 hf4 => ?_
  refine k_c ?_
  refine k_ret ?_
  obtain rfl := Option.some.inj h
  exact k_fin (fin_ret (.inl rfl) hf4 (vs := [.s (.int .i64 (gt [1, 3, 4, 5] (bits .and .u8 high_ 3)))]) (by kernel_rfl) (SettL.pure (FzL.stat rfl)))
def page_eight_i0 : List Op1 := [(oM 2 (.k (.int .i64 0)) [])]
def page_eight_i1 : List Op1 := [(oM 3 (.t 0) [])]
def page_eight_i2 : List Op1 := [(oE 5 (.bin .eql (.t 3) (.k (.int .u8 0))) []), (oM 4 (.t 5) [0])]
def page_eight_i3 : List Op1 := [(oM 2 (.k (.int .i64 10)) [])]
def page_eight_i4 : IR := .ret
def page_eight_i5 : List Op1 := [(oE 7 (.bin .eql (.t 3) (.k (.int .u8 1))) []), (oM 6 (.t 7) [0])]
def page_eight_i6 : List Op1 := [(oM 2 (.k (.int .i64 6)) [])]
def page_eight_i7 : IR := .ret
def page_eight_i8 : List Op1 := [(oE 9 (.bin .eql (.t 3) (.k (.int .u8 2))) []), (oM 8 (.t 9) [0])]
def page_eight_i9 : List Op1 := [(oM 2 (.k (.int .i64 9)) [])]
def page_eight_i10 : IR := .ret
def page_eight_i11 : List Op1 := [(oE 11 (.bin .eql (.t 3) (.k (.int .u8 4))) []), (oM 10 (.t 11) [0])]
def page_eight_i12 : List Op1 := [(oM 2 (.k (.int .i64 4)) [])]
def page_eight_i13 : IR := .ret
def page_eight_i14 : List Op1 := [(oE 13 (.bin .eql (.t 3) (.k (.int .u8 5))) []), (oM 12 (.t 13) [0])]
def page_eight_i15 : List Op1 := [(oM 2 (.k (.int .i64 5)) [])]
def page_eight_i16 : IR := .ret
def page_eight_i17 : List Op1 := [(oE 15 (.bin .eql (.t 3) (.k (.int .u8 6))) []), (oM 14 (.t 15) [0])]
def page_eight_i18 : List Op1 := [(oM 2 (.k (.int .i64 11)) [])]
def page_eight_i19 : IR := .ret
def page_eight_i20 : List Op1 := [(oE 17 (.bin .eql (.t 3) (.k (.int .u8 7))) []), (oM 16 (.t 17) [0])]
def page_eight_i21 : List Op1 := [(oM 2 (.k (.int .i64 12)) [])]
def page_eight_i22 : IR := .ret
def page_eight_i23 : List Op1 := [(oE 19 (.bin .eql (.t 3) (.k (.int .u8 8))) []), (oM 18 (.t 19) [0])]
def page_eight_i24 : List Op1 := [(oM 2 (.k (.int .i64 7)) [])]
def page_eight_i25 : IR := .ret
def page_eight_i26 : List Op1 := [(oE 21 (.bin .eql (.t 3) (.k (.int .u8 9))) []), (oM 20 (.t 21) [0])]
def page_eight_i27 : List Op1 := [(oM 2 (.k (.int .i64 2)) [])]
def page_eight_i28 : IR := .ret
def page_eight_i29 : List Op1 := [(oE 23 (.bin .eql (.t 3) (.k (.int .u8 10))) []), (oM 22 (.t 23) [0])]
def page_eight_i30 : List Op1 := [(oM 2 (.k (.int .i64 8)) [])]
def page_eight_i31 : IR := .ret
def page_eight_i32 : List Op1 := [(oE 25 (.bin .eql (.t 3) (.k (.int .u8 11))) []), (oM 24 (.t 25) [0])]
def page_eight_i33 : List Op1 := [(oM 2 (.k (.int .i64 3)) [])]
def page_eight_i34 : IR := .ret
def page_eight_i35 : IR := (.cond (.t 24) (.seq (.reg false page_eight_i33) page_eight_i34) .skip)
def page_eight_i36 : IR := (.cond (.t 22) (.seq (.reg false page_eight_i30) page_eight_i31) (.seq (.reg false page_eight_i32) page_eight_i35))
def page_eight_i37 : IR := (.cond (.t 20) (.seq (.reg false page_eight_i27) page_eight_i28) (.seq (.reg false page_eight_i29) page_eight_i36))
def page_eight_i38 : IR := (.cond (.t 18) (.seq (.reg false page_eight_i24) page_eight_i25) (.seq (.reg false page_eight_i26) page_eight_i37))
def page_eight_i39 : IR := (.cond (.t 16) (.seq (.reg false page_eight_i21) page_eight_i22) (.seq (.reg false page_eight_i23) page_eight_i38))
def page_eight_i40 : IR := (.cond (.t 14) (.seq (.reg false page_eight_i18) page_eight_i19) (.seq (.reg false page_eight_i20) page_eight_i39))
def page_eight_i41 : IR := (.cond (.t 12) (.seq (.reg false page_eight_i15) page_eight_i16) (.seq (.reg false page_eight_i17) page_eight_i40))
def page_eight_i42 : IR := (.cond (.t 10) (.seq (.reg false page_eight_i12) page_eight_i13) (.seq (.reg false page_eight_i14) page_eight_i41))
def page_eight_i43 : IR := (.cond (.t 8) (.seq (.reg false page_eight_i9) page_eight_i10) (.seq (.reg false page_eight_i11) page_eight_i42))
def page_eight_i44 : IR := (.cond (.t 6) (.seq (.reg false page_eight_i6) page_eight_i7) (.seq (.reg false page_eight_i8) page_eight_i43))
def page_eight_i45 : IR := (.cond (.t 4) (.seq (.reg false page_eight_i3) page_eight_i4) (.seq (.reg false page_eight_i5) page_eight_i44))
def page_eight_i46 : IR := (.block 0 (.seq (.reg false page_eight_i2) page_eight_i45))
def page_eight_i47 : List Op1 := [(oM 2 (.k (.int .i64 0)) [])]
def page_eight_i48 : IR := .ret
def page_eight_i49 : IR := (.seq (.reg false page_eight_i47) page_eight_i48)
def page_eight_i50 : IR := (.seq (.seq (.reg false page_eight_i1) page_eight_i46) page_eight_i49)
def page_eight_ir : IR := (.seq (.reg false page_eight_i0) page_eight_i50)
theorem page_eight_cfn : cFn Try.prog 48 = some (page_eight_ir, [(.t 2)], 26) := by kernel_rfl
def page_eight_V (r : (Int)) : V := .s (.int .i64 r)
def page_eight_C (r : (Int)) : X → Fr → Hp → Prop := FinL [(.t 2)] [] (page_eight_V r) []
theorem page_eight_ok (low_ : Int) (r : (Int)) (h : page_eight low_ = some r) : Pure Try.prog 48 [.s (.int .u8 low_)] (page_eight_V r) := by
  refine ConL.of page_eight_cfn (Nat.le_of_ble_eq_true (by kernel_rfl)) (Nat.le_of_ble_eq_true (by kernel_rfl)) ?_
  refine k_start ?_
  show dwv Try.prog [] page_eight_ir (kont Try.prog [] (page_eight_C r) []) (fr0 [.s (.int .u8 low_)]) []
  have hf : FOk (fr0 [.s (.int .u8 low_)]) [⟨0, [], .s (.int .u8 low_)⟩] := ⟨⟨fun _ => rfl, fun h => (h trivial).elim⟩, trivial⟩
  generalize fr0 [.s (.int .u8 low_)] = f at hf ⊢
  unfold page_eight at h
  refine k_seq ?_
  refine k_reg ?_
  refine mops_en hf (by kernel_rfl) fun f1 hf1 => ?_
  refine k_c ?_
  refine k_seq ?_
  refine k_seq ?_
  refine k_reg ?_
  refine mops_en hf1 (by kernel_rfl) fun f2 hf2 => ?_
  refine k_c ?_
  refine k_block ?_
  refine k_seq ?_
  refine k_reg ?_
  refine mops_en hf2 (by kernel_rfl) fun f3 hf3 => ?_
  refine k_c ?_
  refine k_cond hf3 (t := (low_ == 0)) (by kernel_rfl) (fun hc1 => ?_) (fun hc1 => ?_)
  · have h := if_t h hc1
    refine k_seq ?_
    refine k_reg ?_
    refine mops_en hf3 (by kernel_rfl) fun f4 hf4 => ?_
    refine k_c ?_
    refine k_ret ?_
    refine x_br ?_
    refine x_c nofun ?_
    obtain rfl := Option.some.inj h
    exact k_fin (fin_ret (.inl rfl) hf4 (vs := [.s (.int .i64 10)]) (by kernel_rfl) (SettL.pure (FzL.stat rfl)))
  · have h := if_f h hc1
    refine k_seq ?_
    refine k_reg ?_
    refine mops_en hf3 (by kernel_rfl) fun f4 hf4 => ?_
    refine k_c ?_
    refine k_cond hf4 (t := (low_ == 1)) (by kernel_rfl) (fun hc2 => ?_) (fun hc2 => ?_)
    · have h := if_t h hc2
      refine k_seq ?_
      refine k_reg ?_
      refine mops_en hf4 (by kernel_rfl) fun f5 hf5 => ?_
      refine k_c ?_
      refine k_ret ?_
      refine x_br ?_
      refine x_c nofun ?_
      obtain rfl := Option.some.inj h
      exact k_fin (fin_ret (.inl rfl) hf5 (vs := [.s (.int .i64 6)]) (by kernel_rfl) (SettL.pure (FzL.stat rfl)))
    · have h := if_f h hc2
      refine k_seq ?_
      refine k_reg ?_
      refine mops_en hf4 (by kernel_rfl) fun f5 hf5 => ?_
      refine k_c ?_
      refine k_cond hf5 (t := (low_ == 2)) (by kernel_rfl) (fun hc3 => ?_) (fun hc3 => ?_)
      · have h := if_t h hc3
        refine k_seq ?_
        refine k_reg ?_
        refine mops_en hf5 (by kernel_rfl) fun f6 hf6 => ?_
        refine k_c ?_
        refine k_ret ?_
        refine x_br ?_
        refine x_c nofun ?_
        obtain rfl := Option.some.inj h
        exact k_fin (fin_ret (.inl rfl) hf6 (vs := [.s (.int .i64 9)]) (by kernel_rfl) (SettL.pure (FzL.stat rfl)))
      · have h := if_f h hc3
        refine k_seq ?_
        refine k_reg ?_
        refine mops_en hf5 (by kernel_rfl) fun f6 hf6 => ?_
        refine k_c ?_
        refine k_cond hf6 (t := (low_ == 4)) (by kernel_rfl) (fun hc4 => ?_) (fun hc4 => ?_)
        · have h := if_t h hc4
          refine k_seq ?_
          refine k_reg ?_
          refine mops_en hf6 (by kernel_rfl) fun f7 hf7 => ?_
          refine k_c ?_
          refine k_ret ?_
          refine x_br ?_
          refine x_c nofun ?_
          obtain rfl := Option.some.inj h
          exact k_fin (fin_ret (.inl rfl) hf7 (vs := [.s (.int .i64 4)]) (by kernel_rfl) (SettL.pure (FzL.stat rfl)))
        · have h := if_f h hc4
          refine k_seq ?_
          refine k_reg ?_
          refine mops_en hf6 (by kernel_rfl) fun f7 hf7 => ?_
          refine k_c ?_
          refine k_cond hf7 (t := (low_ == 5)) (by kernel_rfl) (fun hc5 => ?_) (fun hc5 => ?_)
          · have h := if_t h hc5
            refine k_seq ?_
            refine k_reg ?_
            refine mops_en hf7 (by kernel_rfl) fun f8 hf8 => ?_
            refine k_c ?_
            refine k_ret ?_
            refine x_br ?_
            refine x_c nofun ?_
            obtain rfl := Option.some.inj h
            exact k_fin (fin_ret (.inl rfl) hf8 (vs := [.s (.int .i64 5)]) (by kernel_rfl) (SettL.pure (FzL.stat rfl)))
          · have h := if_f h hc5
            refine k_seq ?_
            refine k_reg ?_
            refine mops_en hf7 (by kernel_rfl) fun f8 hf8 => ?_
            refine k_c ?_
            refine k_cond hf8 (t := (low_ == 6)) (by kernel_rfl) (fun hc6 => ?_) (fun hc6 => ?_)
            · have h := if_t h hc6
              refine k_seq ?_
              refine k_reg ?_
              refine mops_en hf8 (by kernel_rfl) fun f9 hf9 => ?_
              refine k_c ?_
              refine k_ret ?_
              refine x_br ?_
              refine x_c nofun ?_
              obtain rfl := Option.some.inj h
              exact k_fin (fin_ret (.inl rfl) hf9 (vs := [.s (.int .i64 11)]) (by kernel_rfl) (SettL.pure (FzL.stat rfl)))
            · have h := if_f h hc6
              refine k_seq ?_
              refine k_reg ?_
              refine mops_en hf8 (by kernel_rfl) fun f9 hf9 => ?_
              refine k_c ?_
              refine k_cond hf9 (t := (low_ == 7)) (by kernel_rfl) (fun hc7 => ?_) (fun hc7 => ?_)
              · have h := if_t h hc7
                refine k_seq ?_
                refine k_reg ?_
                refine mops_en hf9 (by kernel_rfl) fun f10 hf10 => ?_
                refine k_c ?_
                refine k_ret ?_
                refine x_br ?_
                refine x_c nofun ?_
                obtain rfl := Option.some.inj h
                exact k_fin (fin_ret (.inl rfl) hf10 (vs := [.s (.int .i64 12)]) (by kernel_rfl) (SettL.pure (FzL.stat rfl)))
              · have h := if_f h hc7
                refine k_seq ?_
                refine k_reg ?_
                refine mops_en hf9 (by kernel_rfl) fun f10 hf10 => ?_
                refine k_c ?_
                refine k_cond hf10 (t := (low_ == 8)) (by kernel_rfl) (fun hc8 => ?_) (fun hc8 => ?_)
                · have h := if_t h hc8
                  refine k_seq ?_
                  refine k_reg ?_
                  refine mops_en hf10 (by kernel_rfl) fun f11 hf11 => ?_
                  refine k_c ?_
                  refine k_ret ?_
                  refine x_br ?_
                  refine x_c nofun ?_
                  obtain rfl := Option.some.inj h
                  exact k_fin (fin_ret (.inl rfl) hf11 (vs := [.s (.int .i64 7)]) (by kernel_rfl) (SettL.pure (FzL.stat rfl)))
                · have h := if_f h hc8
                  refine k_seq ?_
                  refine k_reg ?_
                  refine mops_en hf10 (by kernel_rfl) fun f11 hf11 => ?_
                  refine k_c ?_
                  refine k_cond hf11 (t := (low_ == 9)) (by kernel_rfl) (fun hc9 => ?_) (fun hc9 => ?_)
                  · have h := if_t h hc9
                    refine k_seq ?_
                    refine k_reg ?_
                    refine mops_en hf11 (by kernel_rfl) fun f12 hf12 => ?_
                    refine k_c ?_
                    refine k_ret ?_
                    refine x_br ?_
                    refine x_c nofun ?_
                    obtain rfl := Option.some.inj h
                    exact k_fin (fin_ret (.inl rfl) hf12 (vs := [.s (.int .i64 2)]) (by kernel_rfl) (SettL.pure (FzL.stat rfl)))
                  · have h := if_f h hc9
                    refine k_seq ?_
                    refine k_reg ?_
                    refine mops_en hf11 (by kernel_rfl) fun f12 hf12 => ?_
                    refine k_c ?_
                    refine k_cond hf12 (t := (low_ == 10)) (by kernel_rfl) (fun hc10 => ?_) (fun hc10 => ?_)
                    · have h := if_t h hc10
                      refine k_seq ?_
                      refine k_reg ?_
                      refine mops_en hf12 (by kernel_rfl) fun f13 hf13 => ?_
                      refine k_c ?_
                      refine k_ret ?_
                      refine x_br ?_
                      refine x_c nofun ?_
                      obtain rfl := Option.some.inj h
                      exact k_fin (fin_ret (.inl rfl) hf13 (vs := [.s (.int .i64 8)]) (by kernel_rfl) (SettL.pure (FzL.stat rfl)))
                    · have h := if_f h hc10
                      refine k_seq ?_
                      refine k_reg ?_
                      refine mops_en hf12 (by kernel_rfl) fun f13 hf13 => ?_
                      refine k_c ?_
                      refine k_cond hf13 (t := (low_ == 11)) (by kernel_rfl) (fun hc11 => ?_) (fun hc11 => ?_)
                      · have h := if_t h hc11
                        refine k_seq ?_
                        refine k_reg ?_
                        refine mops_en hf13 (by kernel_rfl) fun f14 hf14 => ?_
                        refine k_c ?_
                        refine k_ret ?_
                        refine x_br ?_
                        refine x_c nofun ?_
                        obtain rfl := Option.some.inj h
                        exact k_fin (fin_ret (.inl rfl) hf14 (vs := [.s (.int .i64 3)]) (by kernel_rfl) (SettL.pure (FzL.stat rfl)))
                      · have h := if_f h hc11
                        refine k_skip ?_
                        refine k_b ?_
                        refine k_c ?_
                        refine k_seq ?_
                        refine k_reg ?_
                        refine mops_en hf13 (by kernel_rfl) fun f14 hf14 => ?_
                        refine k_c ?_
                        refine k_ret ?_
                        obtain rfl := Option.some.inj h
                        exact k_fin (fin_ret (.inl rfl) hf14 (vs := [.s (.int .i64 0)]) (by kernel_rfl) (SettL.pure (FzL.stat rfl)))
def inst_posted_i0 : List Op1 := [(oM 2 (.k (.bool false)) [])]
def inst_posted_i1 : List Op1 := [(oM 3 (.t 0) []), (oE 4 (.bin .eql (.t 3) (.k (.int .i64 4))) [0]), (oM 5 (.t 4) [1]), (oG 6 (.mv (.t 0)) 5 false [2]), (oG 7 (.bin .eql (.t 6) (.k (.int .i64 8))) 5 false [3, 2]), (oE 8 (.pick (.t 5) (.k (.bool true)) (.t 7)) [2, 4]), (oM 9 (.t 8) [5, 2]), (oG 10 (.mv (.t 0)) 9 false [6]), (oG 11 (.bin .eql (.t 10) (.k (.int .i64 9))) 9 false [7, 6]), (oE 12 (.pick (.t 9) (.k (.bool true)) (.t 11)) [6, 8]), (oM 2 (.t 12) [9, 6, 0, 1, 2, 3, 4, 5, 6, 7, 8, 9])]
def inst_posted_i2 : IR := .ret
def inst_posted_i3 : IR := (.seq (.reg false inst_posted_i1) inst_posted_i2)
def inst_posted_ir : IR := (.seq (.reg false inst_posted_i0) inst_posted_i3)
theorem inst_posted_cfn : cFn Try.prog 16 = some (inst_posted_ir, [(.t 2)], 13) := by kernel_rfl
def inst_posted_V (r : (Bool)) : V := .s (.bool r)
def inst_posted_C (r : (Bool)) : X → Fr → Hp → Prop := FinL [(.t 2)] [] (inst_posted_V r) []
theorem inst_posted_ok (mode_ : Int) (r : (Bool)) (h : inst_posted mode_ = some r) : Pure Try.prog 16 [.s (.int .i64 mode_)] (inst_posted_V r) := by
  refine ConL.of inst_posted_cfn (Nat.le_of_ble_eq_true (by kernel_rfl)) (Nat.le_of_ble_eq_true (by kernel_rfl)) ?_
  refine k_start ?_
  show dwv Try.prog [] inst_posted_ir (kont Try.prog [] (inst_posted_C r) []) (fr0 [.s (.int .i64 mode_)]) []
  have hf : FOk (fr0 [.s (.int .i64 mode_)]) [⟨0, [], .s (.int .i64 mode_)⟩] := ⟨⟨fun _ => rfl, fun h => (h trivial).elim⟩, trivial⟩
  generalize fr0 [.s (.int .i64 mode_)] = f at hf ⊢
  unfold inst_posted at h
  refine k_seq ?_
  refine k_reg ?_
  refine mops_en hf (by kernel_rfl) fun f1 hf1 => ?_
  refine k_c ?_
  refine k_seq ?_
  refine k_reg ?_
  refine mops_en hf1 (by kernel_rfl) fun f2 hf2 => ?_
  refine k_c ?_
  refine k_ret ?_
  obtain rfl := Option.some.inj h
  exact k_fin (fin_ret (.inl rfl) hf2 (vs := [.s (.bool (((mode_ == 4) || (mode_ == 8)) || (mode_ == 9)))]) (by kernel_rfl) (SettL.pure (FzL.stat rfl)))
def octet_Sign5_i0 : List Op1 := [(oM 2 (.k (.int .u16 0)) [])]
def octet_Sign5_i1 : List Op1 := [(oM 3 (.t 0) []), (oE 4 (.bin .shl (.t 3) (.k (.int .u64 3))) [0]), (oE 5 (.cint .i8 (.t 4)) [1]), (oE 6 (.bin .shr (.t 5) (.k (.int .u64 3))) [2]), (oE 7 (.cint .i16 (.t 6)) [3]), (oE 8 (.cint .u16 (.t 7)) [4]), (oM 2 (.t 8) [5, 0, 1, 2, 3, 4, 5])]
def octet_Sign5_i2 : IR := .ret
def octet_Sign5_i3 : IR := (.seq (.reg false octet_Sign5_i1) octet_Sign5_i2)
def octet_Sign5_ir : IR := (.seq (.reg false octet_Sign5_i0) octet_Sign5_i3)
theorem octet_Sign5_cfn : cFn Try.prog 42 = some (octet_Sign5_ir, [(.t 2)], 9) := by kernel_rfl
def octet_Sign5_V (r : (Int)) : V := .s (.int .u16 r)
def octet_Sign5_C (r : (Int)) : X → Fr → Hp → Prop := FinL [(.t 2)] [] (octet_Sign5_V r) []
theorem octet_Sign5_ok (b_ : Int) (r : (Int)) (h : octet_Sign5 b_ = some r) : Pure Try.prog 42 [.s (.int .u8 b_)] (octet_Sign5_V r) := by
  refine ConL.of octet_Sign5_cfn (Nat.le_of_ble_eq_true (by kernel_rfl)) (Nat.le_of_ble_eq_true (by kernel_rfl)) ?_
  refine k_start ?_
  show dwv Try.prog [] octet_Sign5_ir (kont Try.prog [] (octet_Sign5_C r) []) (fr0 [.s (.int .u8 b_)]) []
  have hf : FOk (fr0 [.s (.int .u8 b_)]) [⟨0, [], .s (.int .u8 b_)⟩] := ⟨⟨fun _ => rfl, fun h => (h trivial).elim⟩, trivial⟩
  generalize fr0 [.s (.int .u8 b_)] = f at hf ⊢
  unfold octet_Sign5 at h
  refine k_seq ?_
  refine k_reg ?_
  refine mops_en hf (by kernel_rfl) fun f1 hf1 => ?_
  refine k_c ?_
  refine k_seq ?_
  refine k_reg ?_
  refine mops_en hf1 (by kernel_rfl) fun f2 hf2 => ?_
  refine k_c ?_
  refine k_ret ?_
  obtain rfl := Option.some.inj h
  exact k_fin (fin_ret (.inl rfl) hf2 (vs := [.s (.int .u16 (IntKind.wrap .u16 (IntKind.wrap .i16 (Int.fdiv (IntKind.wrap .i8 (IntKind.wrap .u8 (b_ * 2 ^ (3)))) (2 ^ (3))))))]) (by kernel_rfl) (SettL.pure (FzL.stat rfl)))
def post_kind_i0 : List Op1 := [(oM 2 (.k (.int .i64 0)) [])]
def post_kind_i1 : List Op1 := [(oM 3 (.t 0) [])]
def post_kind_i2 : List Op1 := [(oE 5 (.bin .eql (.t 3) (.k (.int .u8 0))) []), (oM 4 (.t 5) [0])]
def post_kind_i3 : List Op1 := [(oM 2 (.k (.int .i64 7)) [])]
def post_kind_i4 : IR := .ret
def post_kind_i5 : List Op1 := [(oE 7 (.bin .eql (.t 3) (.k (.int .u8 1))) []), (oM 6 (.t 7) [0])]
def post_kind_i6 : List Op1 := [(oM 2 (.k (.int .i64 8)) [])]
def post_kind_i7 : IR := .ret
def post_kind_i8 : List Op1 := [(oE 9 (.bin .eql (.t 3) (.k (.int .u8 2))) []), (oM 8 (.t 9) [0])]
def post_kind_i9 : List Op1 := [(oM 2 (.k (.int .i64 9)) [])]
def post_kind_i10 : IR := .ret
def post_kind_i11 : List Op1 := [(oE 11 (.bin .eql (.t 3) (.k (.int .u8 3))) []), (oM 10 (.t 11) [0])]
def post_kind_i12 : List Op1 := [(oM 2 (.k (.int .i64 10)) [])]
def post_kind_i13 : IR := .ret
def post_kind_i14 : List Op1 := [(oE 13 (.bin .eql (.t 3) (.k (.int .u8 5))) []), (oM 12 (.t 13) [0])]
def post_kind_i15 : List Op1 := [(oM 2 (.k (.int .i64 5)) [])]
def post_kind_i16 : IR := .ret
def post_kind_i17 : List Op1 := [(oE 15 (.bin .eql (.t 3) (.k (.int .u8 6))) []), (oM 14 (.t 15) [0])]
def post_kind_i18 : List Op1 := [(oM 2 (.k (.int .i64 4)) [])]
def post_kind_i19 : IR := .ret
def post_kind_i20 : List Op1 := [(oE 17 (.bin .eql (.t 3) (.k (.int .u8 8))) []), (oM 16 (.t 17) [0])]
def post_kind_i21 : List Op1 := [(oM 2 (.k (.int .i64 2)) [])]
def post_kind_i22 : IR := .ret
def post_kind_i23 : List Op1 := [(oE 19 (.bin .eql (.t 3) (.k (.int .u8 9))) []), (oM 18 (.t 19) [0])]
def post_kind_i24 : List Op1 := [(oM 2 (.k (.int .i64 3)) [])]
def post_kind_i25 : IR := .ret
def post_kind_i26 : List Op1 := [(oE 21 (.bin .eql (.t 3) (.k (.int .u8 11))) []), (oM 20 (.t 21) [0])]
def post_kind_i27 : List Op1 := [(oM 2 (.k (.int .i64 6)) [])]
def post_kind_i28 : IR := .ret
def post_kind_i29 : List Op1 := [(oE 23 (.bin .eql (.t 3) (.k (.int .u8 12))) []), (oM 22 (.t 23) [0])]
def post_kind_i30 : List Op1 := [(oM 2 (.k (.int .i64 11)) [])]
def post_kind_i31 : IR := .ret
def post_kind_i32 : List Op1 := [(oE 25 (.bin .eql (.t 3) (.k (.int .u8 13))) []), (oM 24 (.t 25) [0])]
def post_kind_i33 : List Op1 := [(oM 2 (.k (.int .i64 12)) [])]
def post_kind_i34 : IR := .ret
def post_kind_i35 : List Op1 := [(oE 27 (.bin .eql (.t 3) (.k (.int .u8 15))) []), (oM 26 (.t 27) [0])]
def post_kind_i36 : List Op1 := [(oM 2 (.k (.int .i64 13)) [])]
def post_kind_i37 : IR := .ret
def post_kind_i38 : IR := (.cond (.t 26) (.seq (.reg false post_kind_i36) post_kind_i37) .skip)
def post_kind_i39 : IR := (.cond (.t 24) (.seq (.reg false post_kind_i33) post_kind_i34) (.seq (.reg false post_kind_i35) post_kind_i38))
def post_kind_i40 : IR := (.cond (.t 22) (.seq (.reg false post_kind_i30) post_kind_i31) (.seq (.reg false post_kind_i32) post_kind_i39))
def post_kind_i41 : IR := (.cond (.t 20) (.seq (.reg false post_kind_i27) post_kind_i28) (.seq (.reg false post_kind_i29) post_kind_i40))
def post_kind_i42 : IR := (.cond (.t 18) (.seq (.reg false post_kind_i24) post_kind_i25) (.seq (.reg false post_kind_i26) post_kind_i41))
def post_kind_i43 : IR := (.cond (.t 16) (.seq (.reg false post_kind_i21) post_kind_i22) (.seq (.reg false post_kind_i23) post_kind_i42))
def post_kind_i44 : IR := (.cond (.t 14) (.seq (.reg false post_kind_i18) post_kind_i19) (.seq (.reg false post_kind_i20) post_kind_i43))
def post_kind_i45 : IR := (.cond (.t 12) (.seq (.reg false post_kind_i15) post_kind_i16) (.seq (.reg false post_kind_i17) post_kind_i44))
def post_kind_i46 : IR := (.cond (.t 10) (.seq (.reg false post_kind_i12) post_kind_i13) (.seq (.reg false post_kind_i14) post_kind_i45))
def post_kind_i47 : IR := (.cond (.t 8) (.seq (.reg false post_kind_i9) post_kind_i10) (.seq (.reg false post_kind_i11) post_kind_i46))
def post_kind_i48 : IR := (.cond (.t 6) (.seq (.reg false post_kind_i6) post_kind_i7) (.seq (.reg false post_kind_i8) post_kind_i47))
def post_kind_i49 : IR := (.cond (.t 4) (.seq (.reg false post_kind_i3) post_kind_i4) (.seq (.reg false post_kind_i5) post_kind_i48))
def post_kind_i50 : IR := (.block 0 (.seq (.reg false post_kind_i2) post_kind_i49))
def post_kind_i51 : List Op1 := [(oM 2 (.k (.int .i64 0)) [])]
def post_kind_i52 : IR := .ret
def post_kind_i53 : IR := (.seq (.reg false post_kind_i51) post_kind_i52)
def post_kind_i54 : IR := (.seq (.seq (.reg false post_kind_i1) post_kind_i50) post_kind_i53)
def post_kind_ir : IR := (.seq (.reg false post_kind_i0) post_kind_i54)
theorem post_kind_cfn : cFn Try.prog 43 = some (post_kind_ir, [(.t 2)], 28) := by kernel_rfl
def post_kind_V (r : (Int)) : V := .s (.int .i64 r)
def post_kind_C (r : (Int)) : X → Fr → Hp → Prop := FinL [(.t 2)] [] (post_kind_V r) []
theorem post_kind_ok (low_ : Int) (r : (Int)) (h : post_kind low_ = some r) : Pure Try.prog 43 [.s (.int .u8 low_)] (post_kind_V r) := by
  refine ConL.of post_kind_cfn (Nat.le_of_ble_eq_true (by kernel_rfl)) (Nat.le_of_ble_eq_true (by kernel_rfl)) ?_
  refine k_start ?_
  show dwv Try.prog [] post_kind_ir (kont Try.prog [] (post_kind_C r) []) (fr0 [.s (.int .u8 low_)]) []
  have hf : FOk (fr0 [.s (.int .u8 low_)]) [⟨0, [], .s (.int .u8 low_)⟩] := ⟨⟨fun _ => rfl, fun h => (h trivial).elim⟩, trivial⟩
  generalize fr0 [.s (.int .u8 low_)] = f at hf ⊢
  unfold post_kind at h
  refine k_seq ?_
  refine k_reg ?_
  refine mops_en hf (by kernel_rfl) fun f1 hf1 => ?_
  refine k_c ?_
  refine k_seq ?_
  refine k_seq ?_
  refine k_reg ?_
  refine mops_en hf1 (by kernel_rfl) fun f2 hf2 => ?_
  refine k_c ?_
  refine k_block ?_
  refine k_seq ?_
  refine k_reg ?_
  refine mops_en hf2 (by kernel_rfl) fun f3 hf3 => ?_
  refine k_c ?_
  refine k_cond hf3 (t := (low_ == 0)) (by kernel_rfl) (fun hc1 => ?_) (fun hc1 => ?_)
  · have h := if_t h hc1
    refine k_seq ?_
    refine k_reg ?_
    refine mops_en hf3 (by kernel_rfl) fun f4 hf4 => ?_
    refine k_c ?_
    refine k_ret ?_
    refine x_br ?_
    refine x_c nofun ?_
    obtain rfl := Option.some.inj h
    exact k_fin (fin_ret (.inl rfl) hf4 (vs := [.s (.int .i64 7)]) (by kernel_rfl) (SettL.pure (FzL.stat rfl)))
  · have h := if_f h hc1
    refine k_seq ?_
    refine k_reg ?_
    refine mops_en hf3 (by kernel_rfl) fun f4 hf4 => ?_
    refine k_c ?_
    refine k_cond hf4 (t := (low_ == 1)) (by kernel_rfl) (fun hc2 => ?_) (fun hc2 => ?_)
    · have h := if_t h hc2
      refine k_seq ?_
      refine k_reg ?_
      refine mops_en hf4 (by kernel_rfl) fun f5 hf5 => ?_
      refine k_c ?_
      refine k_ret ?_
      refine x_br ?_
      refine x_c nofun ?_
      obtain rfl := Option.some.inj h
      exact k_fin (fin_ret (.inl rfl) hf5 (vs := [.s (.int .i64 8)]) (by kernel_rfl) (SettL.pure (FzL.stat rfl)))
    · have h := if_f h hc2
      refine k_seq ?_
      refine k_reg ?_
      refine mops_en hf4 (by kernel_rfl) fun f5 hf5 => ?_
      refine k_c ?_
      refine k_cond hf5 (t := (low_ == 2)) (by kernel_rfl) (fun hc3 => ?_) (fun hc3 => ?_)
      · have h := if_t h hc3
        refine k_seq ?_
        refine k_reg ?_
        refine mops_en hf5 (by kernel_rfl) fun f6 hf6 => ?_
        refine k_c ?_
        refine k_ret ?_
        refine x_br ?_
        refine x_c nofun ?_
        obtain rfl := Option.some.inj h
        exact k_fin (fin_ret (.inl rfl) hf6 (vs := [.s (.int .i64 9)]) (by kernel_rfl) (SettL.pure (FzL.stat rfl)))
      · have h := if_f h hc3
        refine k_seq ?_
        refine k_reg ?_
        refine mops_en hf5 (by kernel_rfl) fun f6 hf6 => ?_
        refine k_c ?_
        refine k_cond hf6 (t := (low_ == 3)) (by kernel_rfl) (fun hc4 => ?_) (fun hc4 => ?_)
        · have h := if_t h hc4
          refine k_seq ?_
          refine k_reg ?_
          refine mops_en hf6 (by kernel_rfl) fun f7 hf7 => ?_
          refine k_c ?_
          refine k_ret ?_
          refine x_br ?_
          refine x_c nofun ?_
          obtain rfl := Option.some.inj h
          exact k_fin (fin_ret (.inl rfl) hf7 (vs := [.s (.int .i64 10)]) (by kernel_rfl) (SettL.pure (FzL.stat rfl)))
        · have h := if_f h hc4
          refine k_seq ?_
          refine k_reg ?_
          refine mops_en hf6 (by kernel_rfl) fun f7 hf7 => ?_
          refine k_c ?_
          refine k_cond hf7 (t := (low_ == 5)) (by kernel_rfl) (fun hc5 => ?_) (fun hc5 => ?_)
          · have h := if_t h hc5
            refine k_seq ?_
            refine k_reg ?_
            refine mops_en hf7 (by kernel_rfl) fun f8 hf8 => ?_
            refine k_c ?_
            refine k_ret ?_
            refine x_br ?_
            refine x_c nofun ?_
            obtain rfl := Option.some.inj h
            exact k_fin (fin_ret (.inl rfl) hf8 (vs := [.s (.int .i64 5)]) (by kernel_rfl) (SettL.pure (FzL.stat rfl)))
          · have h := if_f h hc5
            refine k_seq ?_
            refine k_reg ?_
            refine mops_en hf7 (by kernel_rfl) fun f8 hf8 => ?_
            refine k_c ?_
            refine k_cond hf8 (t := (low_ == 6)) (by kernel_rfl) (fun hc6 => ?_) (fun hc6 => ?_)
            · have h := if_t h hc6
              refine k_seq ?_
              refine k_reg ?_
              refine mops_en hf8 (by kernel_rfl) fun f9 hf9 => ?_
              refine k_c ?_
              refine k_ret ?_
              refine x_br ?_
              refine x_c nofun ?_
              obtain rfl := Option.some.inj h
              exact k_fin (fin_ret (.inl rfl) hf9 (vs := [.s (.int .i64 4)]) (by kernel_rfl) (SettL.pure (FzL.stat rfl)))
            · have h := if_f h hc6
              refine k_seq ?_
              refine k_reg ?_
              refine mops_en hf8 (by kernel_rfl) fun f9 hf9 => ?_
              refine k_c ?_
              refine k_cond hf9 (t := (low_ == 8)) (by kernel_rfl) (fun hc7 => ?_) (fun hc7 => ?_)
              · have h := if_t h hc7
                refine k_seq ?_
                refine k_reg ?_
                refine mops_en hf9 (by kernel_rfl) fun f10 hf10 => ?_
                refine k_c ?_
                refine k_ret ?_
                refine x_br ?_
                refine x_c nofun ?_
                obtain rfl := Option.some.inj h
                exact k_fin (fin_ret (.inl rfl) hf10 (vs := [.s (.int .i64 2)]) (by kernel_rfl) (SettL.pure (FzL.stat rfl)))
              · have h := if_f h hc7
                refine k_seq ?_
                refine k_reg ?_
                refine mops_en hf9 (by kernel_rfl) fun f10 hf10 => ?_
                refine k_c ?_
                refine k_cond hf10 (t := (low_ == 9)) (by kernel_rfl) (fun hc8 => ?_) (fun hc8 => ?_)
                · have h := if_t h hc8
                  refine k_seq ?_
                  refine k_reg ?_
                  refine mops_en hf10 (by kernel_rfl) fun f11 hf11 => ?_
                  refine k_c ?_
                  refine k_ret ?_
                  refine x_br ?_
                  refine x_c nofun ?_
                  obtain rfl := Option.some.inj h
                  exact k_fin (fin_ret (.inl rfl) hf11 (vs := [.s (.int .i64 3)]) (by kernel_rfl) (SettL.pure (FzL.stat rfl)))
                · have h := if_f h hc8
                  refine k_seq ?_
                  refine k_reg ?_
                  refine mops_en hf10 (by kernel_rfl) fun f11 hf11 => ?_
                  refine k_c ?_
                  refine k_cond hf11 (t := (low_ == 11)) (by kernel_rfl) (fun hc9 => ?_) (fun hc9 => ?_)
                  · have h := if_t h hc9
                    refine k_seq ?_
                    refine k_reg ?_
                    refine mops_en hf11 (by kernel_rfl) fun f12 hf12 => ?_
                    refine k_c ?_
                    refine k_ret ?_
                    refine x_br ?_
                    refine x_c nofun ?_
                    obtain rfl := Option.some.inj h
                    exact k_fin (fin_ret (.inl rfl) hf12 (vs := [.s (.int .i64 6)]) (by kernel_rfl) (SettL.pure (FzL.stat rfl)))
                  · have h := if_f h hc9
                    refine k_seq ?_
                    refine k_reg ?_
                    refine mops_en hf11 (by kernel_rfl) fun f12 hf12 => ?_
                    refine k_c ?_
                    refine k_cond hf12 (t := (low_ == 12)) (by kernel_rfl) (fun hc10 => ?_) (fun hc10 => ?_)
                    · have h := if_t h hc10
                      refine k_seq ?_
                      refine k_reg ?_
                      refine mops_en hf12 (by kernel_rfl) fun f13 hf13 => ?_
                      refine k_c ?_
                      refine k_ret ?_
                      refine x_br ?_
                      refine x_c nofun ?_
                      obtain rfl := Option.some.inj h
                      exact k_fin (fin_ret (.inl rfl) hf13 (vs := [.s (.int .i64 11)]) (by kernel_rfl) (SettL.pure (FzL.stat rfl)))
                    · have h := if_f h hc10
                      refine k_seq ?_
                      refine k_reg ?_
                      refine mops_en hf12 (by kernel_rfl) fun f13 hf13 => ?_
                      refine k_c ?_
                      refine k_cond hf13 (t := (low_ == 13)) (by kernel_rfl) (fun hc11 => ?_) (fun hc11 => ?_)
                      · have h := if_t h hc11
                        refine k_seq ?_
                        refine k_reg ?_
                        refine mops_en hf13 (by kernel_rfl) fun f14 hf14 => ?_
                        refine k_c ?_
                        refine k_ret ?_
                        refine x_br ?_
                        refine x_c nofun ?_
                        obtain rfl := Option.some.inj h
                        exact k_fin (fin_ret (.inl rfl) hf14 (vs := [.s (.int .i64 12)]) (by kernel_rfl) (SettL.pure (FzL.stat rfl)))
                      · have h := if_f h hc11
                        refine k_seq ?_
                        refine k_reg ?_
                        refine mops_en hf13 (by kernel_rfl) fun f14 hf14 => ?_
                        refine k_c ?_
                        refine k_cond hf14 (t := (low_ == 15)) (by kernel_rfl) (fun hc12 => ?_) (fun hc12 => ?_)
                        · have h := if_t h hc12
                          refine k_seq ?_
                          refine k_reg ?_
                          refine mops_end [2] hf14 (l' := [⟨2, [], .s (.int .i64 13)⟩]) (L' := []) (by kernel_rfl) fun f15 hf15 => ?_
                          refine k_c ?_
                          refine k_ret ?_
                          refine x_br ?_
                          refine x_c nofun ?_
                          obtain rfl := Option.some.inj h
                          exact k_fin (fin_ret (.inl rfl) hf15 (vs := [.s (.int .i64 13)]) (by kernel_rfl) (SettL.pure (FzL.stat rfl)))
                        · have h := if_f h hc12
                          refine k_skip ?_
                          refine k_b ?_
                          refine k_c ?_
                          refine k_seq ?_
                          refine k_reg ?_
                          refine mops_end [2] hf14 (l' := [⟨2, [], .s (.int .i64 0)⟩]) (L' := []) (by kernel_rfl) fun f15 hf15 => ?_
                          refine k_c ?_
                          refine k_ret ?_
                          obtain rfl := Option.some.inj h
                          exact k_fin (fin_ret (.inl rfl) hf15 (vs := [.s (.int .i64 0)]) (by kernel_rfl) (SettL.pure (FzL.stat rfl)))
def post_Post_Bytes_i0 : List Op1 := [(oE 1 (.box (.t 0)) []), (oM 2 (.k (.int .i64 0)) [])]
def post_Post_Bytes_i1 : List Op1 := [(oE 3 (.fld 0 (.t 1)) []), (oE 4 (.load false 1 (.t 3)) [0])]
def post_Post_Bytes_i2 : List Op1 := [(oE 6 (.bin .eql (.t 4) (.k (.int .i64 2))) []), (oM 5 (.t 6) [0])]
def post_Post_Bytes_i3 : List Op1 := [(oE 7 (.bin .eql (.t 4) (.k (.int .i64 11))) []), (oM 5 (.t 7) [0])]
def post_Post_Bytes_i4 : IR := (.cond (.t 5) .skip (.reg false post_Post_Bytes_i3))
def post_Post_Bytes_i5 : List Op1 := [(oM 2 (.k (.int .i64 1)) [])]
def post_Post_Bytes_i6 : IR := .ret
def post_Post_Bytes_i7 : List Op1 := [(oE 9 (.bin .eql (.t 4) (.k (.int .i64 3))) []), (oM 8 (.t 9) [0])]
def post_Post_Bytes_i8 : List Op1 := [(oE 10 (.bin .eql (.t 4) (.k (.int .i64 12))) []), (oM 8 (.t 10) [0])]
def post_Post_Bytes_i9 : List Op1 := [(oE 11 (.bin .eql (.t 4) (.k (.int .i64 13))) []), (oM 8 (.t 11) [0])]
def post_Post_Bytes_i10 : IR := (.cond (.t 8) .skip (.reg false post_Post_Bytes_i9))
def post_Post_Bytes_i11 : IR := (.cond (.t 8) .skip (.seq (.reg false post_Post_Bytes_i8) post_Post_Bytes_i10))
def post_Post_Bytes_i12 : List Op1 := [(oM 2 (.k (.int .i64 2)) [])]
def post_Post_Bytes_i13 : IR := .ret
def post_Post_Bytes_i14 : IR := (.cond (.t 8) (.seq (.reg false post_Post_Bytes_i12) post_Post_Bytes_i13) .skip)
def post_Post_Bytes_i15 : IR := (.cond (.t 5) (.seq (.reg false post_Post_Bytes_i5) post_Post_Bytes_i6) (.seq (.seq (.reg false post_Post_Bytes_i7) post_Post_Bytes_i11) post_Post_Bytes_i14))
def post_Post_Bytes_i16 : IR := (.block 0 (.seq (.seq (.reg false post_Post_Bytes_i2) post_Post_Bytes_i4) post_Post_Bytes_i15))
def post_Post_Bytes_i17 : List Op1 := [(oM 2 (.k (.int .i64 0)) [])]
def post_Post_Bytes_i18 : IR := .ret
def post_Post_Bytes_i19 : IR := (.seq (.reg false post_Post_Bytes_i17) post_Post_Bytes_i18)
def post_Post_Bytes_i20 : IR := (.seq (.seq (.reg false post_Post_Bytes_i1) post_Post_Bytes_i16) post_Post_Bytes_i19)
def post_Post_Bytes_ir : IR := (.seq (.reg false post_Post_Bytes_i0) post_Post_Bytes_i20)
theorem post_Post_Bytes_cfn : cFn Try.prog 29 = some (post_Post_Bytes_ir, [(.t 2)], 12) := by kernel_rfl
def post_Post_Bytes_V (r : (Int)) : V := .s (.int .i64 r)
def post_Post_Bytes_C (r : (Int)) : X → Fr → Hp → Prop := FinL [(.t 2)] [] (post_Post_Bytes_V r) []
theorem post_Post_Bytes_ok (p_ : post_Post) (r : (Int)) (h : post_Post_Bytes p_ = some r) : Pure Try.prog 29 [.agg [.s (.int .i64 p_.Kind), .s (.int .i64 p_.Reg), .s (.int .u16 p_.Off), .s (.bool p_.Indirect)]] (post_Post_Bytes_V r) := by
  refine ConL.of post_Post_Bytes_cfn (Nat.le_of_ble_eq_true (by kernel_rfl)) (Nat.le_of_ble_eq_true (by kernel_rfl)) ?_
  refine k_start ?_
  show dwv Try.prog [] post_Post_Bytes_ir (kont Try.prog [] (post_Post_Bytes_C r) []) (fr0 [.agg [.s (.int .i64 p_.Kind), .s (.int .i64 p_.Reg), .s (.int .u16 p_.Off), .s (.bool p_.Indirect)]]) []
  have hf : FOk (fr0 [.agg [.s (.int .i64 p_.Kind), .s (.int .i64 p_.Reg), .s (.int .u16 p_.Off), .s (.bool p_.Indirect)]]) [⟨0, [], .agg [.s (.int .i64 p_.Kind), .s (.int .i64 p_.Reg), .s (.int .u16 p_.Off), .s (.bool p_.Indirect)]⟩] := ⟨⟨fun _ => rfl, fun h => (h trivial).elim⟩, trivial⟩
  generalize fr0 [.agg [.s (.int .i64 p_.Kind), .s (.int .i64 p_.Reg), .s (.int .u16 p_.Off), .s (.bool p_.Indirect)]] = f at hf ⊢
  unfold post_Post_Bytes at h
  refine k_seq ?_
  refine k_reg ?_
  refine mops_en hf (by kernel_rfl) fun f1 hf1 => ?_
  refine k_c ?_
  refine k_seq ?_
  refine k_seq ?_
  refine k_reg ?_
  refine mops_en hf1 (by kernel_rfl) fun f2 hf2 => ?_
  refine k_c ?_
  refine k_block ?_
  refine k_seq ?_
  refine k_seq ?_
  refine k_reg ?_
  refine mops_en hf2 (by kernel_rfl) fun f3 hf3 => ?_
  refine k_c ?_
  have hj1 : ∀ (t_ : Bool), post_Post_Bytes_j1 p_ t_ = some r → ∀ f, FOk f [⟨2, [], .s (.int .i64 0)⟩, ⟨4, [], .s (.int .i64 p_.Kind)⟩, ⟨5, [], .s (.bool t_)⟩] → kont Try.prog [] (post_Post_Bytes_C r) ((.c post_Post_Bytes_i15) :: (.b 0) :: (.c post_Post_Bytes_i19) :: []) .normal f [⟨0, .mem, 1, [.s (.int .i64 p_.Kind), .s (.int .i64 p_.Reg), .s (.int .u16 p_.Off), .s (.bool p_.Indirect)]⟩] := by
    intro t_ h f hf
    unfold post_Post_Bytes_j1 at h
    refine k_c ?_
    refine k_cond hf (t := t_) (by kernel_rfl) (fun hc2 => ?_) (fun hc2 => ?_)
    · have h := if_t h hc2
      refine k_seq ?_
      refine k_reg ?_
      refine mops_en hf (by kernel_rfl) fun f1 hf1 => ?_
      refine k_c ?_
      refine k_ret ?_
      refine x_br ?_
      refine x_c nofun ?_
      obtain rfl := Option.some.inj h
      exact k_fin (fin_ret (.inl rfl) hf1 (vs := [.s (.int .i64 1)]) (by kernel_rfl) (SettL.pure (FzL.stat rfl)))
    · have h := if_f h hc2
      refine k_seq ?_
      refine k_seq ?_
      refine k_reg ?_
      refine mops_en hf (by kernel_rfl) fun f1 hf1 => ?_
      refine k_c ?_
      have hj2 : ∀ (t_1 : Bool), post_Post_Bytes_j0 t_1 = some r → ∀ f, FOk f [⟨2, [], .s (.int .i64 0)⟩, ⟨8, [], .s (.bool t_1)⟩] → kont Try.prog [] (post_Post_Bytes_C r) ((.c post_Post_Bytes_i14) :: (.b 0) :: (.c post_Post_Bytes_i19) :: []) .normal f [⟨0, .mem, 1, [.s (.int .i64 p_.Kind), .s (.int .i64 p_.Reg), .s (.int .u16 p_.Off), .s (.bool p_.Indirect)]⟩] := by
        intro t_1 h f hf
        unfold post_Post_Bytes_j0 at h
        refine k_c ?_
        refine k_cond hf (t := t_1) (by kernel_rfl) (fun hc5 => ?_) (fun hc5 => ?_)
        · have h := if_t h hc5
          refine k_seq ?_
          refine k_reg ?_
          refine mops_en hf (by kernel_rfl) fun f1 hf1 => ?_
          refine k_c ?_
          refine k_ret ?_
          refine x_br ?_
          refine x_c nofun ?_
          obtain rfl := Option.some.inj h
          exact k_fin (fin_ret (.inl rfl) hf1 (vs := [.s (.int .i64 2)]) (by kernel_rfl) (SettL.pure (FzL.stat rfl)))
        · have h := if_f h hc5
          refine k_skip ?_
          refine k_b ?_
          refine k_c ?_
          refine k_seq ?_
          refine k_reg ?_
          refine mops_en hf (by kernel_rfl) fun f1 hf1 => ?_
          refine k_c ?_
          refine k_ret ?_
          obtain rfl := Option.some.inj h
          exact k_fin (fin_ret (.inl rfl) hf1 (vs := [.s (.int .i64 0)]) (by kernel_rfl) (SettL.pure (FzL.stat rfl)))
      refine k_cond hf1 (t := (p_.Kind == 3)) (by kernel_rfl) (fun hc3 => ?_) (fun hc3 => ?_)
      · have h := if_t h hc3
        refine k_skip ?_
        refine k_hp (L' := [⟨0, .mem, 1, [.s (.int .i64 p_.Kind), .s (.int .i64 p_.Reg), .s (.int .u16 p_.Off), .s (.bool p_.Indirect)]⟩]) (by kernel_rfl) ?_
        exact hj2 (p_.Kind == 3) h _ (FOk_of [2, 8] hf1 (by kernel_rfl))
      · have h := if_f h hc3
        refine k_seq ?_
        refine k_reg ?_
        refine mops_en hf1 (by kernel_rfl) fun f2 hf2 => ?_
        refine k_c ?_
        refine k_cond hf2 (t := (p_.Kind == 12)) (by kernel_rfl) (fun hc4 => ?_) (fun hc4 => ?_)
        · have h := if_t h hc4
          refine k_skip ?_
          refine k_hp (L' := [⟨0, .mem, 1, [.s (.int .i64 p_.Kind), .s (.int .i64 p_.Reg), .s (.int .u16 p_.Off), .s (.bool p_.Indirect)]⟩]) (by kernel_rfl) ?_
          exact hj2 (p_.Kind == 12) h _ (FOk_of [2, 8] hf2 (by kernel_rfl))
        · have h := if_f h hc4
          refine k_reg ?_
          refine mops_en hf2 (by kernel_rfl) fun f3 hf3 => ?_
          refine k_hp (L' := [⟨0, .mem, 1, [.s (.int .i64 p_.Kind), .s (.int .i64 p_.Reg), .s (.int .u16 p_.Off), .s (.bool p_.Indirect)]⟩]) (by kernel_rfl) ?_
          exact hj2 (p_.Kind == 13) h _ (FOk_of [2, 8] hf3 (by kernel_rfl))
  refine k_cond hf3 (t := (p_.Kind == 2)) (by kernel_rfl) (fun hc1 => ?_) (fun hc1 => ?_)
  · have h := if_t h hc1
    refine k_skip ?_
    refine k_hp (L' := [⟨0, .mem, 1, [.s (.int .i64 p_.Kind), .s (.int .i64 p_.Reg), .s (.int .u16 p_.Off), .s (.bool p_.Indirect)]⟩]) (by kernel_rfl) ?_
    exact hj1 (p_.Kind == 2) h _ (FOk_of [2, 4, 5] hf3 (by kernel_rfl))
  · have h := if_f h hc1
    refine k_reg ?_
    refine mops_en hf3 (by kernel_rfl) fun f4 hf4 => ?_
    refine k_hp (L' := [⟨0, .mem, 1, [.s (.int .i64 p_.Kind), .s (.int .i64 p_.Reg), .s (.int .u16 p_.Off), .s (.bool p_.Indirect)]⟩]) (by kernel_rfl) ?_
    exact hj1 (p_.Kind == 11) h _ (FOk_of [2, 4, 5] hf4 (by kernel_rfl))
def octet_Word_i0 : List Op1 := [(oM 4 (.k (.int .u16 0)) [])]
def octet_Word_i1 : List Op1 := [(oM 5 (.t 0) []), (oE 6 (.cint .u16 (.t 5)) [0]), (oE 7 (.bin .shl (.t 6) (.k (.int .u64 8))) [1]), (oM 8 (.t 1) []), (oE 9 (.cint .u16 (.t 8)) [3]), (oE 10 (.bin .or (.t 7) (.t 9)) [2, 4]), (oM 4 (.t 10) [5, 0, 1, 2, 3, 4, 5])]
def octet_Word_i2 : IR := .ret
def octet_Word_i3 : IR := (.seq (.reg false octet_Word_i1) octet_Word_i2)
def octet_Word_ir : IR := (.seq (.reg false octet_Word_i0) octet_Word_i3)
theorem octet_Word_cfn : cFn Try.prog 44 = some (octet_Word_ir, [(.t 4)], 11) := by kernel_rfl
def octet_Word_V (r : (Int)) : V := .s (.int .u16 r)
def octet_Word_C (r : (Int)) : X → Fr → Hp → Prop := FinL [(.t 4)] [] (octet_Word_V r) []
theorem octet_Word_ok (hi_ : Int) (lo_ : Int) (r : (Int)) (h : octet_Word hi_ lo_ = some r) : Pure Try.prog 44 [.s (.int .u8 hi_), .s (.int .u8 lo_)] (octet_Word_V r) := by
  refine ConL.of octet_Word_cfn (Nat.le_of_ble_eq_true (by kernel_rfl)) (Nat.le_of_ble_eq_true (by kernel_rfl)) ?_
  refine k_start ?_
  show dwv Try.prog [] octet_Word_ir (kont Try.prog [] (octet_Word_C r) []) (fr0 [.s (.int .u8 hi_), .s (.int .u8 lo_)]) []
  have hf : FOk (fr0 [.s (.int .u8 hi_), .s (.int .u8 lo_)]) [⟨0, [], .s (.int .u8 hi_)⟩, ⟨1, [], .s (.int .u8 lo_)⟩] := ⟨⟨fun _ => rfl, fun h => (h trivial).elim⟩, ⟨fun _ => rfl, fun h => (h trivial).elim⟩, trivial⟩
  generalize fr0 [.s (.int .u8 hi_), .s (.int .u8 lo_)] = f at hf ⊢
  unfold octet_Word at h
  refine k_seq ?_
  refine k_reg ?_
  refine mops_en hf (by kernel_rfl) fun f1 hf1 => ?_
  refine k_c ?_
  refine k_seq ?_
  refine k_reg ?_
  refine mops_en hf1 (by kernel_rfl) fun f2 hf2 => ?_
  refine k_c ?_
  refine k_ret ?_
  obtain rfl := Option.some.inj h
  exact k_fin (fin_ret (.inl rfl) hf2 (vs := [.s (.int .u16 (bits .or .u16 (IntKind.wrap .u16 ((IntKind.wrap .u16 hi_) * 2 ^ (8))) (IntKind.wrap .u16 lo_)))]) (by kernel_rfl) (SettL.pure (FzL.stat rfl)))
def octet_Sign_i0 : List Op1 := [(oM 2 (.k (.int .u16 0)) [])]
def octet_Sign_i1 : List Op1 := [(oM 3 (.t 0) []), (oE 4 (.cint .i8 (.t 3)) [0]), (oE 5 (.cint .i16 (.t 4)) [1]), (oE 6 (.cint .u16 (.t 5)) [2]), (oM 2 (.t 6) [3, 0, 1, 2, 3])]
def octet_Sign_i2 : IR := .ret
def octet_Sign_i3 : IR := (.seq (.reg false octet_Sign_i1) octet_Sign_i2)
def octet_Sign_ir : IR := (.seq (.reg false octet_Sign_i0) octet_Sign_i3)
theorem octet_Sign_cfn : cFn Try.prog 31 = some (octet_Sign_ir, [(.t 2)], 7) := by kernel_rfl
def octet_Sign_V (r : (Int)) : V := .s (.int .u16 r)
def octet_Sign_C (r : (Int)) : X → Fr → Hp → Prop := FinL [(.t 2)] [] (octet_Sign_V r) []
theorem octet_Sign_ok (b_ : Int) (r : (Int)) (h : octet_Sign b_ = some r) : Pure Try.prog 31 [.s (.int .u8 b_)] (octet_Sign_V r) := by
  refine ConL.of octet_Sign_cfn (Nat.le_of_ble_eq_true (by kernel_rfl)) (Nat.le_of_ble_eq_true (by kernel_rfl)) ?_
  refine k_start ?_
  show dwv Try.prog [] octet_Sign_ir (kont Try.prog [] (octet_Sign_C r) []) (fr0 [.s (.int .u8 b_)]) []
  have hf : FOk (fr0 [.s (.int .u8 b_)]) [⟨0, [], .s (.int .u8 b_)⟩] := ⟨⟨fun _ => rfl, fun h => (h trivial).elim⟩, trivial⟩
  generalize fr0 [.s (.int .u8 b_)] = f at hf ⊢
  unfold octet_Sign at h
  refine k_seq ?_
  refine k_reg ?_
  refine mops_en hf (by kernel_rfl) fun f1 hf1 => ?_
  refine k_c ?_
  refine k_seq ?_
  refine k_reg ?_
  refine mops_en hf1 (by kernel_rfl) fun f2 hf2 => ?_
  refine k_c ?_
  refine k_ret ?_
  obtain rfl := Option.some.inj h
  exact k_fin (fin_ret (.inl rfl) hf2 (vs := [.s (.int .u16 (IntKind.wrap .u16 (IntKind.wrap .i16 (IntKind.wrap .i8 b_))))]) (by kernel_rfl) (SettL.pure (FzL.stat rfl)))
def spinetref14_columns_i0 : List Op1 := [(oE 0 (.nilg 5) [])]
def spinetref14_columns_i1 : List Op1 := [(oE 5 (.build [(.int .i64 0), (.int .i64 0), (.int .i64 0), (.int .i64 0), (.int .i64 0)] [(0, (1, (.k (.int .i64 27)))), (1, (1, (.k (.int .i64 0)))), (2, (1, (.k (.int .i64 1)))), (3, (1, (.k (.int .i64 131)))), (4, (1, (.k (.int .i64 2))))]) []), (oE 6 (.build [(.int .i64 0), (.int .i64 0), (.int .i64 0), (.int .i64 0), (.int .i64 0)] [(0, (1, (.k (.int .i64 28)))), (1, (1, (.k (.int .i64 1)))), (2, (1, (.k (.int .i64 1)))), (3, (1, (.k (.int .i64 140)))), (4, (1, (.k (.int .i64 2))))]) []), (oE 7 (.build [(.int .i64 0), (.int .i64 0), (.int .i64 0), (.int .i64 0), (.int .i64 0)] [(0, (1, (.k (.int .i64 24)))), (1, (1, (.k (.int .i64 1)))), (2, (1, (.k (.int .i64 1)))), (3, (1, (.k (.int .i64 142)))), (4, (1, (.k (.int .i64 2))))]) []), (oE 8 (.build [(.int .i64 0), (.int .i64 0), (.int .i64 0), (.int .i64 0), (.int .i64 0)] [(0, (1, (.k (.int .i64 25)))), (1, (1, (.k (.int .i64 1)))), (2, (1, (.k (.int .i64 1)))), (3, (1, (.k (.int .i64 143)))), (4, (1, (.k (.int .i64 0))))]) []), (oE 9 (.build [(.int .i64 0), (.int .i64 0), (.int .i64 0), (.int .i64 0), (.int .i64 0)] [(0, (1, (.k (.int .i64 26)))), (1, (1, (.k (.int .i64 0)))), (2, (1, (.k (.int .i64 1)))), (3, (1, (.k (.int .i64 195)))), (4, (1, (.k (.int .i64 2))))]) []), (oE 10 (.build [(.int .i64 0), (.int .i64 0), (.int .i64 0), (.int .i64 0), (.int .i64 0)] [(0, (1, (.k (.int .i64 24)))), (1, (1, (.k (.int .i64 0)))), (2, (1, (.k (.int .i64 1)))), (3, (1, (.k (.int .i64 204)))), (4, (1, (.k (.int .i64 2))))]) []), (oE 11 (.build [(.int .i64 0), (.int .i64 0), (.int .i64 0), (.int .i64 0), (.int .i64 0)] [(0, (1, (.k (.int .i64 25)))), (1, (1, (.k (.int .i64 0)))), (2, (1, (.k (.int .i64 1)))), (3, (1, (.k (.int .i64 205)))), (4, (1, (.k (.int .i64 0))))]) []), (oE 12 (.build [(.int .i64 0), (.int .i64 0), (.int .i64 0), (.int .i64 0), (.int .i64 0)] [(0, (1, (.k (.int .i64 24)))), (1, (1, (.k (.int .i64 3)))), (2, (1, (.k (.int .i64 1)))), (3, (1, (.k (.int .i64 206)))), (4, (1, (.k (.int .i64 2))))]) []), (oE 13 (.build [(.int .i64 0), (.int .i64 0), (.int .i64 0), (.int .i64 0), (.int .i64 0)] [(0, (1, (.k (.int .i64 25)))), (1, (1, (.k (.int .i64 3)))), (2, (1, (.k (.int .i64 1)))), (3, (1, (.k (.int .i64 207)))), (4, (1, (.k (.int .i64 0))))]) []), (oE 14 (.build [(.int .i64 0), (.int .i64 0), (.int .i64 0), (.int .i64 0), (.int .i64 0)] [(0, (1, (.k (.int .i64 33)))), (1, (1, (.k (.int .i64 0)))), (2, (1, (.k (.int .i64 1)))), (3, (1, (.k (.int .i64 141)))), (4, (1, (.k (.int .i64 0))))]) []), (oE 15 (.build [(.int .i64 0), (.int .i64 0), (.int .i64 0), (.int .i64 0), (.int .i64 0)] [(0, (1, (.k (.int .i64 28)))), (1, (1, (.k (.int .i64 0)))), (2, (1, (.k (.int .i64 2)))), (3, (1, (.k (.int .i64 131)))), (4, (1, (.k (.int .i64 2))))]) []), (oE 16 (.build [(.int .i64 0), (.int .i64 0), (.int .i64 0), (.int .i64 0), (.int .i64 0)] [(0, (1, (.k (.int .i64 28)))), (1, (1, (.k (.int .i64 2)))), (2, (1, (.k (.int .i64 2)))), (3, (1, (.k (.int .i64 140)))), (4, (1, (.k (.int .i64 2))))]) []), (oE 17 (.build [(.int .i64 0), (.int .i64 0), (.int .i64 0), (.int .i64 0), (.int .i64 0)] [(0, (1, (.k (.int .i64 24)))), (1, (1, (.k (.int .i64 2)))), (2, (1, (.k (.int .i64 2)))), (3, (1, (.k (.int .i64 142)))), (4, (1, (.k (.int .i64 2))))]) []), (oE 18 (.build [(.int .i64 0), (.int .i64 0), (.int .i64 0), (.int .i64 0), (.int .i64 0)] [(0, (1, (.k (.int .i64 25)))), (1, (1, (.k (.int .i64 2)))), (2, (1, (.k (.int .i64 2)))), (3, (1, (.k (.int .i64 143)))), (4, (1, (.k (.int .i64 0))))]) []), (oE 19 (.build [(.int .i64 0), (.int .i64 0), (.int .i64 0), (.int .i64 0), (.int .i64 0)] [(0, (1, (.k (.int .i64 24)))), (1, (1, (.k (.int .i64 4)))), (2, (1, (.k (.int .i64 2)))), (3, (1, (.k (.int .i64 206)))), (4, (1, (.k (.int .i64 2))))]) []), (oE 20 (.build [(.int .i64 0), (.int .i64 0), (.int .i64 0), (.int .i64 0), (.int .i64 0)] [(0, (1, (.k (.int .i64 25)))), (1, (1, (.k (.int .i64 4)))), (2, (1, (.k (.int .i64 2)))), (3, (1, (.k (.int .i64 207)))), (4, (1, (.k (.int .i64 0))))]) []), (oE 21 (.build [(.int .i64 0), (.int .i64 0), (.int .i64 0), (.int .i64 0), (.int .i64 0)] [(0, (1, (.k (.int .i64 28)))), (1, (1, (.k (.int .i64 3)))), (2, (1, (.k (.int .i64 3)))), (3, (1, (.k (.int .i64 131)))), (4, (1, (.k (.int .i64 2))))]) []), (oE 22 (.build [(.int .i64 0), (.int .i64 0), (.int .i64 0), (.int .i64 0), (.int .i64 0)] [(0, (1, (.k (.int .i64 28)))), (1, (1, (.k (.int .i64 4)))), (2, (1, (.k (.int .i64 3)))), (3, (1, (.k (.int .i64 140)))), (4, (1, (.k (.int .i64 2))))]) []), (oE 23 (.bslo 5 18 [(.int .i64 0), (.int .i64 0), (.int .i64 0), (.int .i64 0), (.int .i64 0), (.int .i64 0), (.int .i64 0), (.int .i64 0), (.int .i64 0), (.int .i64 0), (.int .i64 0), (.int .i64 0), (.int .i64 0), (.int .i64 0), (.int .i64 0), (.int .i64 0), (.int .i64 0), (.int .i64 0), (.int .i64 0), (.int .i64 0), (.int .i64 0), (.int .i64 0), (.int .i64 0), (.int .i64 0), (.int .i64 0), (.int .i64 0), (.int .i64 0), (.int .i64 0), (.int .i64 0), (.int .i64 0), (.int .i64 0), (.int .i64 0), (.int .i64 0), (.int .i64 0), (.int .i64 0), (.int .i64 0), (.int .i64 0), (.int .i64 0), (.int .i64 0), (.int .i64 0), (.int .i64 0), (.int .i64 0), (.int .i64 0), (.int .i64 0), (.int .i64 0), (.int .i64 0), (.int .i64 0), (.int .i64 0), (.int .i64 0), (.int .i64 0), (.int .i64 0), (.int .i64 0), (.int .i64 0), (.int .i64 0), (.int .i64 0), (.int .i64 0), (.int .i64 0), (.int .i64 0), (.int .i64 0), (.int .i64 0), (.int .i64 0), (.int .i64 0), (.int .i64 0), (.int .i64 0), (.int .i64 0), (.int .i64 0), (.int .i64 0), (.int .i64 0), (.int .i64 0), (.int .i64 0), (.int .i64 0), (.int .i64 0), (.int .i64 0), (.int .i64 0), (.int .i64 0), (.int .i64 0), (.int .i64 0), (.int .i64 0), (.int .i64 0), (.int .i64 0), (.int .i64 0), (.int .i64 0), (.int .i64 0), (.int .i64 0), (.int .i64 0), (.int .i64 0), (.int .i64 0), (.int .i64 0), (.int .i64 0), (.int .i64 0)] [(0, (5, (.t 5))), (5, (5, (.t 6))), (10, (5, (.t 7))), (15, (5, (.t 8))), (20, (5, (.t 9))), (25, (5, (.t 10))), (30, (5, (.t 11))), (35, (5, (.t 12))), (40, (5, (.t 13))), (45, (5, (.t 14))), (50, (5, (.t 15))), (55, (5, (.t 16))), (60, (5, (.t 17))), (65, (5, (.t 18))), (70, (5, (.t 19))), (75, (5, (.t 20))), (80, (5, (.t 21))), (85, (5, (.t 22)))]) [0, 1, 2, 3, 4, 5, 6, 7, 8, 9, 10, 11, 12, 13, 14, 15, 16, 17]), (oM 1 (.t 23) [18, 0, 1, 2, 3, 4, 5, 6, 7, 8, 9, 10, 11, 12, 13, 14, 15, 16, 17, 18])]
def spinetref14_columns_i2 : List Op1 := [(oE 24 (.build [(.int .i64 0), (.int .i64 0)] [(0, (1, (.k (.int .i64 10)))), (1, (1, (.k (.int .i64 128))))]) []), (oE 25 (.build [(.int .i64 0), (.int .i64 0)] [(0, (1, (.k (.int .i64 6)))), (1, (1, (.k (.int .i64 129))))]) []), (oE 26 (.build [(.int .i64 0), (.int .i64 0)] [(0, (1, (.k (.int .i64 9)))), (1, (1, (.k (.int .i64 130))))]) []), (oE 27 (.build [(.int .i64 0), (.int .i64 0)] [(0, (1, (.k (.int .i64 4)))), (1, (1, (.k (.int .i64 132))))]) []), (oE 28 (.build [(.int .i64 0), (.int .i64 0)] [(0, (1, (.k (.int .i64 5)))), (1, (1, (.k (.int .i64 133))))]) []), (oE 29 (.build [(.int .i64 0), (.int .i64 0)] [(0, (1, (.k (.int .i64 11)))), (1, (1, (.k (.int .i64 134))))]) []), (oE 30 (.build [(.int .i64 0), (.int .i64 0)] [(0, (1, (.k (.int .i64 12)))), (1, (1, (.k (.int .i64 135))))]) []), (oE 31 (.build [(.int .i64 0), (.int .i64 0)] [(0, (1, (.k (.int .i64 7)))), (1, (1, (.k (.int .i64 136))))]) []), (oE 32 (.build [(.int .i64 0), (.int .i64 0)] [(0, (1, (.k (.int .i64 2)))), (1, (1, (.k (.int .i64 137))))]) []), (oE 33 (.build [(.int .i64 0), (.int .i64 0)] [(0, (1, (.k (.int .i64 8)))), (1, (1, (.k (.int .i64 138))))]) []), (oE 34 (.build [(.int .i64 0), (.int .i64 0)] [(0, (1, (.k (.int .i64 3)))), (1, (1, (.k (.int .i64 139))))]) []), (oE 35 (.build [(.int .i64 0), (.int .i64 0), (.int .i64 0), (.int .i64 0), (.int .i64 0), (.int .i64 0), (.int .i64 0), (.int .i64 0), (.int .i64 0), (.int .i64 0), (.int .i64 0), (.int .i64 0), (.int .i64 0), (.int .i64 0), (.int .i64 0), (.int .i64 0), (.int .i64 0), (.int .i64 0), (.int .i64 0), (.int .i64 0), (.int .i64 0), (.int .i64 0)] [(0, (2, (.t 24))), (2, (2, (.t 25))), (4, (2, (.t 26))), (6, (2, (.t 27))), (8, (2, (.t 28))), (10, (2, (.t 29))), (12, (2, (.t 30))), (14, (2, (.t 31))), (16, (2, (.t 32))), (18, (2, (.t 33))), (20, (2, (.t 34)))]) [0, 1, 2, 3, 4, 5, 6, 7, 8, 9, 10]), (oE 2 (.zero [(.int .i64 0), (.int .i64 0), (.int .i64 0), (.int .i64 0), (.int .i64 0), (.int .i64 0), (.int .i64 0), (.int .i64 0), (.int .i64 0), (.int .i64 0), (.int .i64 0), (.int .i64 0), (.int .i64 0), (.int .i64 0), (.int .i64 0), (.int .i64 0), (.int .i64 0), (.int .i64 0), (.int .i64 0), (.int .i64 0), (.int .i64 0), (.int .i64 0)]) []), (oN (.store 22 (.t 2) (.t 35)) [12, 11, 0, 1, 2, 3, 4, 5, 6, 7, 8, 9, 10, 11, 12])]
def spinetref14_columns_i3 : List Op1 := [(oM 3 (.k (.int .i64 0)) [])]
def spinetref14_columns_i4 : List Op1 := [(oM 36 (.t 3) []), (oE 37 (.bin .lss (.t 36) (.k (.int .i64 11))) [0])]
def spinetref14_columns_i5 : IR := (.cond (.t 37) .skip (.exit 0))
def spinetref14_columns_i6 : List Op1 := [(oM 4 (.k (.int .i64 1)) [])]
def spinetref14_columns_i7 : List Op1 := [(oM 40 (.t 3) []), (oE 41 (.iaa 11 2 (.t 2) (.t 40)) [0]), (oE 42 (.iaa 2 1 (.t 41) (.k (.int .i64 0))) [1]), (oE 43 (.load false 1 (.t 42)) [2]), (oE 44 (.bin .eql (.t 43) (.k (.int .i64 12))) [3])]
def spinetref14_columns_i8 : List Op1 := [(oM 4 (.k (.int .i64 0)) [])]
def spinetref14_columns_i9 : IR := (.cond (.t 44) (.reg false spinetref14_columns_i8) .skip)
def spinetref14_columns_i10 : List An := [(aO (oM 45 (.t 1) []) false 0 1), (aO (oM 46 (.t 3) []) false 0 0), (aO (oE 47 (.iaa 11 2 (.t 2) (.t 46)) [1]) false 0 0), (aO (oE 48 (.iaa 2 1 (.t 47) (.k (.int .i64 0))) [2]) false 0 0), (aO (oE 49 (.load false 1 (.t 48)) [3]) false 0 0), (aO (oM 50 (.t 3) []) false 0 0), (aO (oE 51 (.iaa 11 2 (.t 2) (.t 50)) [5]) false 0 0), (aO (oE 52 (.iaa 2 1 (.t 51) (.k (.int .i64 1))) [6]) false 0 0), (aO (oE 53 (.load false 1 (.t 52)) [7]) false 0 0), (aO (oM 54 (.t 4) []) false 0 0), (aO (oE 55 (.build [(.int .i64 0), (.int .i64 0), (.int .i64 0), (.int .i64 0), (.int .i64 0)] [(0, (1, (.t 49))), (1, (1, (.k (.int .i64 8)))), (2, (1, (.k (.int .i64 1)))), (3, (1, (.t 53))), (4, (1, (.t 54)))]) [4, 8, 9]) false 0 0), (aO (oM 56 (.t 3) []) false 0 0), (aO (oE 57 (.iaa 11 2 (.t 2) (.t 56)) [11]) false 0 0), (aO (oE 58 (.iaa 2 1 (.t 57) (.k (.int .i64 0))) [12]) false 0 0), (aO (oE 59 (.load false 1 (.t 58)) [13]) false 0 0), (aO (oM 60 (.t 3) []) false 0 0), (aO (oE 61 (.iaa 11 2 (.t 2) (.t 60)) [15]) false 0 0), (aO (oE 62 (.iaa 2 1 (.t 61) (.k (.int .i64 1))) [16]) false 0 0), (aO (oE 63 (.load false 1 (.t 62)) [17]) false 0 0), (aO (oE 64 (.bin .add (.t 63) (.k (.int .i64 64))) [18]) false 0 0), (aO (oM 65 (.t 4) []) false 0 0), (aO (oE 66 (.build [(.int .i64 0), (.int .i64 0), (.int .i64 0), (.int .i64 0), (.int .i64 0)] [(0, (1, (.t 59))), (1, (1, (.k (.int .i64 9)))), (2, (1, (.k (.int .i64 1)))), (3, (1, (.t 64))), (4, (1, (.t 65)))]) [14, 19, 20]) false 0 0), (aO (oE 67 (.bslo 5 2 [(.int .i64 0), (.int .i64 0), (.int .i64 0), (.int .i64 0), (.int .i64 0), (.int .i64 0), (.int .i64 0), (.int .i64 0), (.int .i64 0), (.int .i64 0)] [(0, (5, (.t 55))), (5, (5, (.t 66)))]) [10, 21]) true 0 1), (aO (oE 68 (.app 5 40 (.t 45) (.t 67)) [0, 22]) true 1 2), (aO (oM 1 (.t 68) [23, 23, 0, 1, 2, 3, 4, 5, 6, 7, 8, 9, 10, 11, 12, 13, 14, 15, 16, 17, 18, 19, 20, 21, 22, 23]) false 2 2)]
def spinetref14_columns_i11 : IR := (.regw spinetref14_columns_i10)
def spinetref14_columns_i12 : IR := (.seq (.seq (.reg false spinetref14_columns_i7) spinetref14_columns_i9) spinetref14_columns_i11)
def spinetref14_columns_i13 : List Op1 := [(oM 38 (.t 3) []), (oE 39 (.bin .add (.t 38) (.k (.int .i64 1))) [0]), (oM 3 (.t 39) [1, 0, 1])]
def spinetref14_columns_i14 : IR := (.reg false spinetref14_columns_i13)
def spinetref14_columns_i15 : IR := (.seq (.block 1 (.seq (.reg false spinetref14_columns_i6) spinetref14_columns_i12)) spinetref14_columns_i14)
def spinetref14_columns_i16 : IR := (.seq (.seq (.reg false spinetref14_columns_i4) spinetref14_columns_i5) spinetref14_columns_i15)
def spinetref14_columns_i17 : IR := (.block 0 (.loop spinetref14_columns_i16))
def spinetref14_columns_i18 : List Op1 := [(oM 69 (.t 1) []), (oM 0 (.t 69) [0, 0])]
def spinetref14_columns_i19 : IR := .ret
def spinetref14_columns_i20 : IR := (.seq (.reg false spinetref14_columns_i18) spinetref14_columns_i19)
def spinetref14_columns_i21 : IR := (.seq (.seq (.reg false spinetref14_columns_i3) spinetref14_columns_i17) spinetref14_columns_i20)
def spinetref14_columns_i22 : IR := (.seq (.reg false spinetref14_columns_i2) spinetref14_columns_i21)
def spinetref14_columns_i23 : IR := (.seq (.reg false spinetref14_columns_i1) spinetref14_columns_i22)
def spinetref14_columns_ir : IR := (.seq (.reg false spinetref14_columns_i0) spinetref14_columns_i23)
theorem spinetref14_columns_cfn : cFn Try.prog 45 = some (spinetref14_columns_ir, [(.t 0)], 70) := by kernel_rfl
def spinetref14_columns_V (r : ((List A5_i64))) : V := .sl false r.length (cat A5_i64.v r)
def spinetref14_columns_C (r : ((List A5_i64))) : X → Fr → Hp → Prop := FinL [(.t 0)] [] (spinetref14_columns_V r) []
theorem spinetref14_columns_ok (r : ((List A5_i64))) (h : spinetref14_columns = some r) : Pure Try.prog 45 [] (spinetref14_columns_V r) := by
  refine ConL.of spinetref14_columns_cfn (Nat.le_of_ble_eq_true (by kernel_rfl)) (Nat.le_of_ble_eq_true (by kernel_rfl)) ?_
  refine k_start ?_
  show dwv Try.prog [] spinetref14_columns_ir (kont Try.prog [] (spinetref14_columns_C r) []) (fr0 []) []
  have hf : FOk (fr0 []) [] := trivial
  generalize fr0 [] = f at hf ⊢
  unfold spinetref14_columns at h
  refine k_seq ?_
  refine k_reg ?_
  refine mops_en hf (by kernel_rfl) fun f1 hf1 => ?_
  refine k_c ?_
  refine k_seq ?_
  refine k_reg ?_
  refine mops_en hf1 (by kernel_rfl) fun f2 hf2 => ?_
  refine k_c ?_
  refine k_seq ?_
  refine k_reg ?_
  refine mops_en hf2 (by kernel_rfl) fun f3 hf3 => ?_
  refine k_c ?_
  refine k_seq ?_
  refine k_seq ?_
  refine k_reg ?_
  refine mops_en hf3 (by kernel_rfl) fun f4 hf4 => ?_
  refine k_c ?_
  refine k_block ?_
  obtain ⟨o0, hx0, h⟩ := Option.bind_eq_some_iff.1 h
  have hgo0 : ∀ (l_3 : (List A5_i64)) (v_3 : Nat) (m_3 : Nat) (hn_3 : l_3.length = m_3), l_3 = o0 → ∀ f, FOk f [⟨0, [], .ref 0 0 0 0⟩, ⟨1, [], .ref 1 v_3 0 m_3⟩] → kont Try.prog [] (spinetref14_columns_C r) ((.c spinetref14_columns_i20) :: []) .normal f [⟨0, .grow, 5, cat A5_i64.v ([] : List A5_i64)⟩, ⟨v_3, .grow, 5, cat A5_i64.v l_3⟩, ⟨0, .mem, 1, cat A2_i64.v [(A2_i64.mk (10) (128)), (A2_i64.mk (6) (129)), (A2_i64.mk (9) (130)), (A2_i64.mk (4) (132)), (A2_i64.mk (5) (133)), (A2_i64.mk (11) (134)), (A2_i64.mk (12) (135)), (A2_i64.mk (7) (136)), (A2_i64.mk (2) (137)), (A2_i64.mk (8) (138)), (A2_i64.mk (3) (139))]⟩] := by
    intro l_3 v_3 m_3 hn_3 e f hf
    subst e
    refine k_c ?_
    refine k_seq ?_
    refine k_reg ?_
    refine mops_en hf (by kernel_rfl) fun f1 hf1 => ?_
    refine k_c ?_
    refine k_ret ?_
    obtain rfl := Option.some.inj h
    exact k_fin (fin_ret (.inl rfl) hf1 (vs := [.ref 1 v_3 0 m_3]) (by kernel_rfl) (SettL.pure (FzL.whole (g := A5_i64.v) (kd := .grow) (l := l_3) (by kernel_rfl) hn_3 (live_grow (by kernel_rfl)))))
  refine k_loop BIG ?_
  refine loop_ind (fun n f L => ∃ (l_2 : (List A5_i64)) (i_2 : Int) (v_2 : Nat) (m_2 : Nat) (hn_2 : l_2.length = m_2), spinetref14_columns_l0 n l_2 i_2 = some o0 ∧ FOk f [⟨0, [], .ref 0 0 0 0⟩, ⟨1, [], .ref 1 v_2 0 m_2⟩, ⟨2, [], .ptr 2 0 0⟩, ⟨3, [], .s (.int .i64 i_2)⟩] ∧ L = [⟨0, .grow, 5, cat A5_i64.v ([] : List A5_i64)⟩, ⟨v_2, .grow, 5, cat A5_i64.v l_2⟩, ⟨0, .mem, 1, cat A2_i64.v [(A2_i64.mk (10) (128)), (A2_i64.mk (6) (129)), (A2_i64.mk (9) (130)), (A2_i64.mk (4) (132)), (A2_i64.mk (5) (133)), (A2_i64.mk (11) (134)), (A2_i64.mk (12) (135)), (A2_i64.mk (7) (136)), (A2_i64.mk (2) (137)), (A2_i64.mk (8) (138)), (A2_i64.mk (3) (139))]⟩]) ?_ ?_ BIG _ _ ⟨[(A5_i64.mk (27) (0) (1) (131) (2)), (A5_i64.mk (28) (1) (1) (140) (2)), (A5_i64.mk (24) (1) (1) (142) (2)), (A5_i64.mk (25) (1) (1) (143) (0)), (A5_i64.mk (26) (0) (1) (195) (2)), (A5_i64.mk (24) (0) (1) (204) (2)), (A5_i64.mk (25) (0) (1) (205) (0)), (A5_i64.mk (24) (3) (1) (206) (2)), (A5_i64.mk (25) (3) (1) (207) (0)), (A5_i64.mk (33) (0) (1) (141) (0)), (A5_i64.mk (28) (0) (2) (131) (2)), (A5_i64.mk (28) (2) (2) (140) (2)), (A5_i64.mk (24) (2) (2) (142) (2)), (A5_i64.mk (25) (2) (2) (143) (0)), (A5_i64.mk (24) (4) (2) (206) (2)), (A5_i64.mk (25) (4) (2) (207) (0)), (A5_i64.mk (28) (3) (3) (131) (2)), (A5_i64.mk (28) (4) (3) (140) (2))], (0), (0), (18), (by kernel_rfl), hx0, FOk_of [0, 1, 2, 3] hf4 (by kernel_rfl), (by kernel_rfl)⟩
  · rintro f L ⟨l_2, i_2, v_2, m_2, hn_2, h, _⟩
    cases (show (none : Option _) = some _ from h)
  · rintro n0 R0 ih f L ⟨l_2, i_2, v_2, m_2, hn_2, h, hf, rfl⟩
    rw [spinetref14_columns_l0] at h
    refine k_seq ?_
    refine k_seq ?_
    refine k_reg ?_
    refine mops_en hf (by kernel_rfl) fun f1 hf1 => ?_
    refine k_c ?_
    refine k_cond hf1 (t := (decide (i_2 < 11))) (by kernel_rfl) (fun hc1 => ?_) (fun hc1 => ?_)
    · have h := if_t h hc1
      refine k_skip ?_
      refine k_c ?_
      refine k_seq ?_
      refine k_block ?_
      refine k_seq ?_
      refine k_reg ?_
      refine mops_en hf1 (by kernel_rfl) fun f2 hf2 => ?_
      refine k_c ?_
      refine k_seq ?_
      refine k_seq ?_
      refine k_reg ?_
      refine mops_sg 1 hf2 (by kernel_rfl) fun f3 hf3 => ?_
      obtain ⟨c2, h⟩ := as_ok h
      refine mops_adv rfl (v := .ptr 2 0 (0 + (i_2 : Int).toNat * 2)) hf3 (by kernel_rfl) (e_iaa (n := 11) (xv := .ptr 2 0 0) (k := .i64) (iv := i_2) (p := .ptr 2 0 (0 + (i_2 : Int).toNat * 2)) (by kernel_rfl) (by kernel_rfl) (by kernel_rfl) (by kernel_rfl) c2) fun f4 hf4 => ?_
      refine mops_sg 1 hf4 (by kernel_rfl) fun f5 hf5 => ?_
      refine mops_adv rfl (v := .s (.int .i64 (gt [(A2_i64.mk (10) (128)), (A2_i64.mk (6) (129)), (A2_i64.mk (9) (130)), (A2_i64.mk (4) (132)), (A2_i64.mk (5) (133)), (A2_i64.mk (11) (134)), (A2_i64.mk (12) (135)), (A2_i64.mk (7) (136)), (A2_i64.mk (2) (137)), (A2_i64.mk (8) (138)), (A2_i64.mk (3) (139))] i_2).a0)) hf5 (by kernel_rfl) (e_load_pe (g := A2_i64.v) (l := [(A2_i64.mk (10) (128)), (A2_i64.mk (6) (129)), (A2_i64.mk (9) (130)), (A2_i64.mk (4) (132)), (A2_i64.mk (5) (133)), (A2_i64.mk (11) (134)), (A2_i64.mk (12) (135)), (A2_i64.mk (7) (136)), (A2_i64.mk (2) (137)), (A2_i64.mk (8) (138)), (A2_i64.mk (3) (139))]) (iv := i_2) (kd := .mem) (q := 1) (b := 2) (ver := 0) [0] (by kernel_rfl) (live_mem (by kernel_rfl)) (arr_h (l := [(A2_i64.mk (10) (128)), (A2_i64.mk (6) (129)), (A2_i64.mk (9) (130)), (A2_i64.mk (4) (132)), (A2_i64.mk (5) (133)), (A2_i64.mk (11) (134)), (A2_i64.mk (12) (135)), (A2_i64.mk (7) (136)), (A2_i64.mk (2) (137)), (A2_i64.mk (8) (138)), (A2_i64.mk (3) (139))]) c2 (by kernel_rfl)) (by kernel_rfl) (by kernel_rfl)) fun f6 hf6 => ?_
      refine mops_en hf6 (by kernel_rfl) fun f7 hf7 => ?_
      refine k_c ?_
      have hj1 : ∀ (imm_3 : Int), spinetref14_columns_j0 ((spinetref14_columns_l0 n0)) l_2 i_2 imm_3 = some o0 → ∀ f, FOk f [⟨0, [], .ref 0 0 0 0⟩, ⟨1, [], .ref 1 v_2 0 m_2⟩, ⟨2, [], .ptr 2 0 0⟩, ⟨3, [], .s (.int .i64 i_2)⟩, ⟨4, [], .s (.int .i64 imm_3)⟩, ⟨36, [], .s (.int .i64 i_2)⟩, ⟨37, [], .s (.bool (decide (i_2 < 11)))⟩, ⟨40, [], .s (.int .i64 i_2)⟩, ⟨41, [], .ptr 2 0 (0 + (i_2 : Int).toNat * 2)⟩, ⟨42, [], .ptr 2 0 (0 + (i_2 : Int).toNat * 2 + 0)⟩, ⟨43, [], .s (.int .i64 (gt [(A2_i64.mk (10) (128)), (A2_i64.mk (6) (129)), (A2_i64.mk (9) (130)), (A2_i64.mk (4) (132)), (A2_i64.mk (5) (133)), (A2_i64.mk (11) (134)), (A2_i64.mk (12) (135)), (A2_i64.mk (7) (136)), (A2_i64.mk (2) (137)), (A2_i64.mk (8) (138)), (A2_i64.mk (3) (139))] i_2).a0)⟩, ⟨44, [], .s (.bool ((gt [(A2_i64.mk (10) (128)), (A2_i64.mk (6) (129)), (A2_i64.mk (9) (130)), (A2_i64.mk (4) (132)), (A2_i64.mk (5) (133)), (A2_i64.mk (11) (134)), (A2_i64.mk (12) (135)), (A2_i64.mk (7) (136)), (A2_i64.mk (2) (137)), (A2_i64.mk (8) (138)), (A2_i64.mk (3) (139))] i_2).a0 == 12))⟩] → kont Try.prog [] (spinetref14_columns_C r) ((.c spinetref14_columns_i11) :: (.b 1) :: (.c spinetref14_columns_i14) :: (.l R0) :: (.b 0) :: (.c spinetref14_columns_i20) :: []) .normal f [⟨0, .grow, 5, cat A5_i64.v ([] : List A5_i64)⟩, ⟨v_2, .grow, 5, cat A5_i64.v l_2⟩, ⟨0, .mem, 1, cat A2_i64.v [(A2_i64.mk (10) (128)), (A2_i64.mk (6) (129)), (A2_i64.mk (9) (130)), (A2_i64.mk (4) (132)), (A2_i64.mk (5) (133)), (A2_i64.mk (11) (134)), (A2_i64.mk (12) (135)), (A2_i64.mk (7) (136)), (A2_i64.mk (2) (137)), (A2_i64.mk (8) (138)), (A2_i64.mk (3) (139))]⟩] := by
        intro imm_3 h f hf
        unfold spinetref14_columns_j0 at h
        refine k_c ?_
        refine k_regw ?_
        refine lw_free' (dst := (some 45)) (op := (.mv (.t 1))) (aft := []) (lo := 0) (hi := 1) (v := .ref 1 v_2 0 m_2) (by kernel_rfl) (by kernel_rfl) hf (by kernel_rfl) (by kernel_rfl) trivial fun f1 hf1 => ?_
        refine lw_tight 21 (by kernel_rfl) ?_
        refine mops_seg [0, 1, 2, 3, 4, 36, 37, 40, 41, 42, 43, 44, 45, 46] 1 hf1 (l' := [⟨0, [], .ref 0 0 0 0⟩, ⟨1, [], .ref 1 v_2 0 m_2⟩, ⟨2, [], .ptr 2 0 0⟩, ⟨3, [], .s (.int .i64 i_2)⟩, ⟨4, [], .s (.int .i64 imm_3)⟩, ⟨36, [], .s (.int .i64 i_2)⟩, ⟨37, [], .s (.bool (decide (i_2 < 11)))⟩, ⟨40, [], .s (.int .i64 i_2)⟩, ⟨41, [], .ptr 2 0 (0 + (i_2 : Int).toNat * 2)⟩, ⟨42, [], .ptr 2 0 (0 + (i_2 : Int).toNat * 2 + 0)⟩, ⟨43, [], .s (.int .i64 (gt [(A2_i64.mk (10) (128)), (A2_i64.mk (6) (129)), (A2_i64.mk (9) (130)), (A2_i64.mk (4) (132)), (A2_i64.mk (5) (133)), (A2_i64.mk (11) (134)), (A2_i64.mk (12) (135)), (A2_i64.mk (7) (136)), (A2_i64.mk (2) (137)), (A2_i64.mk (8) (138)), (A2_i64.mk (3) (139))] i_2).a0)⟩, ⟨44, [], .s (.bool ((gt [(A2_i64.mk (10) (128)), (A2_i64.mk (6) (129)), (A2_i64.mk (9) (130)), (A2_i64.mk (4) (132)), (A2_i64.mk (5) (133)), (A2_i64.mk (11) (134)), (A2_i64.mk (12) (135)), (A2_i64.mk (7) (136)), (A2_i64.mk (2) (137)), (A2_i64.mk (8) (138)), (A2_i64.mk (3) (139))] i_2).a0 == 12))⟩, ⟨45, [], .ref 1 v_2 0 m_2⟩, ⟨46, [], .s (.int .i64 i_2)⟩]) (L' := [⟨0, .grow, 5, cat A5_i64.v ([] : List A5_i64)⟩, ⟨v_2, .grow, 5, cat A5_i64.v l_2⟩, ⟨0, .mem, 1, cat A2_i64.v [(A2_i64.mk (10) (128)), (A2_i64.mk (6) (129)), (A2_i64.mk (9) (130)), (A2_i64.mk (4) (132)), (A2_i64.mk (5) (133)), (A2_i64.mk (11) (134)), (A2_i64.mk (12) (135)), (A2_i64.mk (7) (136)), (A2_i64.mk (2) (137)), (A2_i64.mk (8) (138)), (A2_i64.mk (3) (139))]⟩]) (by kernel_rfl) fun f2 hf2 => ?_
        obtain ⟨c4, h⟩ := as_ok h
        refine mops_adv rfl (v := .ptr 2 0 (0 + (i_2 : Int).toNat * 2)) hf2 (by kernel_rfl) (e_iaa (n := 11) (xv := .ptr 2 0 0) (k := .i64) (iv := i_2) (p := .ptr 2 0 (0 + (i_2 : Int).toNat * 2)) (by kernel_rfl) (by kernel_rfl) (by kernel_rfl) (by kernel_rfl) c4) fun f3 hf3 => ?_
        refine mops_seg [0, 1, 2, 3, 4, 36, 37, 40, 41, 42, 43, 44, 45, 46, 47, 48] 1 hf3 (l' := [⟨0, [], .ref 0 0 0 0⟩, ⟨1, [], .ref 1 v_2 0 m_2⟩, ⟨2, [], .ptr 2 0 0⟩, ⟨3, [], .s (.int .i64 i_2)⟩, ⟨4, [], .s (.int .i64 imm_3)⟩, ⟨36, [], .s (.int .i64 i_2)⟩, ⟨37, [], .s (.bool (decide (i_2 < 11)))⟩, ⟨40, [], .s (.int .i64 i_2)⟩, ⟨41, [], .ptr 2 0 (0 + (i_2 : Int).toNat * 2)⟩, ⟨42, [], .ptr 2 0 (0 + (i_2 : Int).toNat * 2 + 0)⟩, ⟨43, [], .s (.int .i64 (gt [(A2_i64.mk (10) (128)), (A2_i64.mk (6) (129)), (A2_i64.mk (9) (130)), (A2_i64.mk (4) (132)), (A2_i64.mk (5) (133)), (A2_i64.mk (11) (134)), (A2_i64.mk (12) (135)), (A2_i64.mk (7) (136)), (A2_i64.mk (2) (137)), (A2_i64.mk (8) (138)), (A2_i64.mk (3) (139))] i_2).a0)⟩, ⟨44, [], .s (.bool ((gt [(A2_i64.mk (10) (128)), (A2_i64.mk (6) (129)), (A2_i64.mk (9) (130)), (A2_i64.mk (4) (132)), (A2_i64.mk (5) (133)), (A2_i64.mk (11) (134)), (A2_i64.mk (12) (135)), (A2_i64.mk (7) (136)), (A2_i64.mk (2) (137)), (A2_i64.mk (8) (138)), (A2_i64.mk (3) (139))] i_2).a0 == 12))⟩, ⟨45, [], .ref 1 v_2 0 m_2⟩, ⟨46, [], .s (.int .i64 i_2)⟩, ⟨47, [], .ptr 2 0 (0 + (i_2 : Int).toNat * 2)⟩, ⟨48, [], .ptr 2 0 (0 + (i_2 : Int).toNat * 2 + 0)⟩]) (L' := [⟨0, .grow, 5, cat A5_i64.v ([] : List A5_i64)⟩, ⟨v_2, .grow, 5, cat A5_i64.v l_2⟩, ⟨0, .mem, 1, cat A2_i64.v [(A2_i64.mk (10) (128)), (A2_i64.mk (6) (129)), (A2_i64.mk (9) (130)), (A2_i64.mk (4) (132)), (A2_i64.mk (5) (133)), (A2_i64.mk (11) (134)), (A2_i64.mk (12) (135)), (A2_i64.mk (7) (136)), (A2_i64.mk (2) (137)), (A2_i64.mk (8) (138)), (A2_i64.mk (3) (139))]⟩]) (by kernel_rfl) fun f4 hf4 => ?_
        refine mops_adv rfl (v := .s (.int .i64 (gt [(A2_i64.mk (10) (128)), (A2_i64.mk (6) (129)), (A2_i64.mk (9) (130)), (A2_i64.mk (4) (132)), (A2_i64.mk (5) (133)), (A2_i64.mk (11) (134)), (A2_i64.mk (12) (135)), (A2_i64.mk (7) (136)), (A2_i64.mk (2) (137)), (A2_i64.mk (8) (138)), (A2_i64.mk (3) (139))] i_2).a0)) hf4 (by kernel_rfl) (e_load_pe (g := A2_i64.v) (l := [(A2_i64.mk (10) (128)), (A2_i64.mk (6) (129)), (A2_i64.mk (9) (130)), (A2_i64.mk (4) (132)), (A2_i64.mk (5) (133)), (A2_i64.mk (11) (134)), (A2_i64.mk (12) (135)), (A2_i64.mk (7) (136)), (A2_i64.mk (2) (137)), (A2_i64.mk (8) (138)), (A2_i64.mk (3) (139))]) (iv := i_2) (kd := .mem) (q := 1) (b := 2) (ver := 0) [0] (by kernel_rfl) (live_mem (by kernel_rfl)) (arr_h (l := [(A2_i64.mk (10) (128)), (A2_i64.mk (6) (129)), (A2_i64.mk (9) (130)), (A2_i64.mk (4) (132)), (A2_i64.mk (5) (133)), (A2_i64.mk (11) (134)), (A2_i64.mk (12) (135)), (A2_i64.mk (7) (136)), (A2_i64.mk (2) (137)), (A2_i64.mk (8) (138)), (A2_i64.mk (3) (139))]) c4 (by kernel_rfl)) (by kernel_rfl) (by kernel_rfl)) fun f5 hf5 => ?_
        refine mops_seg [0, 1, 2, 3, 4, 36, 37, 40, 41, 42, 43, 44, 45, 46, 47, 48, 49, 50] 1 hf5 (l' := [⟨0, [], .ref 0 0 0 0⟩, ⟨1, [], .ref 1 v_2 0 m_2⟩, ⟨2, [], .ptr 2 0 0⟩, ⟨3, [], .s (.int .i64 i_2)⟩, ⟨4, [], .s (.int .i64 imm_3)⟩, ⟨36, [], .s (.int .i64 i_2)⟩, ⟨37, [], .s (.bool (decide (i_2 < 11)))⟩, ⟨40, [], .s (.int .i64 i_2)⟩, ⟨41, [], .ptr 2 0 (0 + (i_2 : Int).toNat * 2)⟩, ⟨42, [], .ptr 2 0 (0 + (i_2 : Int).toNat * 2 + 0)⟩, ⟨43, [], .s (.int .i64 (gt [(A2_i64.mk (10) (128)), (A2_i64.mk (6) (129)), (A2_i64.mk (9) (130)), (A2_i64.mk (4) (132)), (A2_i64.mk (5) (133)), (A2_i64.mk (11) (134)), (A2_i64.mk (12) (135)), (A2_i64.mk (7) (136)), (A2_i64.mk (2) (137)), (A2_i64.mk (8) (138)), (A2_i64.mk (3) (139))] i_2).a0)⟩, ⟨44, [], .s (.bool ((gt [(A2_i64.mk (10) (128)), (A2_i64.mk (6) (129)), (A2_i64.mk (9) (130)), (A2_i64.mk (4) (132)), (A2_i64.mk (5) (133)), (A2_i64.mk (11) (134)), (A2_i64.mk (12) (135)), (A2_i64.mk (7) (136)), (A2_i64.mk (2) (137)), (A2_i64.mk (8) (138)), (A2_i64.mk (3) (139))] i_2).a0 == 12))⟩, ⟨45, [], .ref 1 v_2 0 m_2⟩, ⟨46, [], .s (.int .i64 i_2)⟩, ⟨47, [], .ptr 2 0 (0 + (i_2 : Int).toNat * 2)⟩, ⟨48, [], .ptr 2 0 (0 + (i_2 : Int).toNat * 2 + 0)⟩, ⟨49, [], .s (.int .i64 (gt [(A2_i64.mk (10) (128)), (A2_i64.mk (6) (129)), (A2_i64.mk (9) (130)), (A2_i64.mk (4) (132)), (A2_i64.mk (5) (133)), (A2_i64.mk (11) (134)), (A2_i64.mk (12) (135)), (A2_i64.mk (7) (136)), (A2_i64.mk (2) (137)), (A2_i64.mk (8) (138)), (A2_i64.mk (3) (139))] i_2).a0)⟩, ⟨50, [], .s (.int .i64 i_2)⟩]) (L' := [⟨0, .grow, 5, cat A5_i64.v ([] : List A5_i64)⟩, ⟨v_2, .grow, 5, cat A5_i64.v l_2⟩, ⟨0, .mem, 1, cat A2_i64.v [(A2_i64.mk (10) (128)), (A2_i64.mk (6) (129)), (A2_i64.mk (9) (130)), (A2_i64.mk (4) (132)), (A2_i64.mk (5) (133)), (A2_i64.mk (11) (134)), (A2_i64.mk (12) (135)), (A2_i64.mk (7) (136)), (A2_i64.mk (2) (137)), (A2_i64.mk (8) (138)), (A2_i64.mk (3) (139))]⟩]) (by kernel_rfl) fun f6 hf6 => ?_
        obtain ⟨c5, h⟩ := as_ok h
        refine mops_adv rfl (v := .ptr 2 0 (0 + (i_2 : Int).toNat * 2)) hf6 (by kernel_rfl) (e_iaa (n := 11) (xv := .ptr 2 0 0) (k := .i64) (iv := i_2) (p := .ptr 2 0 (0 + (i_2 : Int).toNat * 2)) (by kernel_rfl) (by kernel_rfl) (by kernel_rfl) (by kernel_rfl) c5) fun f7 hf7 => ?_
        refine mops_seg [0, 1, 2, 3, 4, 36, 37, 40, 41, 42, 43, 44, 45, 46, 47, 48, 49, 50, 51, 52] 1 hf7 (l' := [⟨0, [], .ref 0 0 0 0⟩, ⟨1, [], .ref 1 v_2 0 m_2⟩, ⟨2, [], .ptr 2 0 0⟩, ⟨3, [], .s (.int .i64 i_2)⟩, ⟨4, [], .s (.int .i64 imm_3)⟩, ⟨36, [], .s (.int .i64 i_2)⟩, ⟨37, [], .s (.bool (decide (i_2 < 11)))⟩, ⟨40, [], .s (.int .i64 i_2)⟩, ⟨41, [], .ptr 2 0 (0 + (i_2 : Int).toNat * 2)⟩, ⟨42, [], .ptr 2 0 (0 + (i_2 : Int).toNat * 2 + 0)⟩, ⟨43, [], .s (.int .i64 (gt [(A2_i64.mk (10) (128)), (A2_i64.mk (6) (129)), (A2_i64.mk (9) (130)), (A2_i64.mk (4) (132)), (A2_i64.mk (5) (133)), (A2_i64.mk (11) (134)), (A2_i64.mk (12) (135)), (A2_i64.mk (7) (136)), (A2_i64.mk (2) (137)), (A2_i64.mk (8) (138)), (A2_i64.mk (3) (139))] i_2).a0)⟩, ⟨44, [], .s (.bool ((gt [(A2_i64.mk (10) (128)), (A2_i64.mk (6) (129)), (A2_i64.mk (9) (130)), (A2_i64.mk (4) (132)), (A2_i64.mk (5) (133)), (A2_i64.mk (11) (134)), (A2_i64.mk (12) (135)), (A2_i64.mk (7) (136)), (A2_i64.mk (2) (137)), (A2_i64.mk (8) (138)), (A2_i64.mk (3) (139))] i_2).a0 == 12))⟩, ⟨45, [], .ref 1 v_2 0 m_2⟩, ⟨46, [], .s (.int .i64 i_2)⟩, ⟨47, [], .ptr 2 0 (0 + (i_2 : Int).toNat * 2)⟩, ⟨48, [], .ptr 2 0 (0 + (i_2 : Int).toNat * 2 + 0)⟩, ⟨49, [], .s (.int .i64 (gt [(A2_i64.mk (10) (128)), (A2_i64.mk (6) (129)), (A2_i64.mk (9) (130)), (A2_i64.mk (4) (132)), (A2_i64.mk (5) (133)), (A2_i64.mk (11) (134)), (A2_i64.mk (12) (135)), (A2_i64.mk (7) (136)), (A2_i64.mk (2) (137)), (A2_i64.mk (8) (138)), (A2_i64.mk (3) (139))] i_2).a0)⟩, ⟨50, [], .s (.int .i64 i_2)⟩, ⟨51, [], .ptr 2 0 (0 + (i_2 : Int).toNat * 2)⟩, ⟨52, [], .ptr 2 0 (0 + (i_2 : Int).toNat * 2 + 1)⟩]) (L' := [⟨0, .grow, 5, cat A5_i64.v ([] : List A5_i64)⟩, ⟨v_2, .grow, 5, cat A5_i64.v l_2⟩, ⟨0, .mem, 1, cat A2_i64.v [(A2_i64.mk (10) (128)), (A2_i64.mk (6) (129)), (A2_i64.mk (9) (130)), (A2_i64.mk (4) (132)), (A2_i64.mk (5) (133)), (A2_i64.mk (11) (134)), (A2_i64.mk (12) (135)), (A2_i64.mk (7) (136)), (A2_i64.mk (2) (137)), (A2_i64.mk (8) (138)), (A2_i64.mk (3) (139))]⟩]) (by kernel_rfl) fun f8 hf8 => ?_
        refine mops_adv rfl (v := .s (.int .i64 (gt [(A2_i64.mk (10) (128)), (A2_i64.mk (6) (129)), (A2_i64.mk (9) (130)), (A2_i64.mk (4) (132)), (A2_i64.mk (5) (133)), (A2_i64.mk (11) (134)), (A2_i64.mk (12) (135)), (A2_i64.mk (7) (136)), (A2_i64.mk (2) (137)), (A2_i64.mk (8) (138)), (A2_i64.mk (3) (139))] i_2).a1)) hf8 (by kernel_rfl) (e_load_pe (g := A2_i64.v) (l := [(A2_i64.mk (10) (128)), (A2_i64.mk (6) (129)), (A2_i64.mk (9) (130)), (A2_i64.mk (4) (132)), (A2_i64.mk (5) (133)), (A2_i64.mk (11) (134)), (A2_i64.mk (12) (135)), (A2_i64.mk (7) (136)), (A2_i64.mk (2) (137)), (A2_i64.mk (8) (138)), (A2_i64.mk (3) (139))]) (iv := i_2) (kd := .mem) (q := 1) (b := 2) (ver := 0) [1] (by kernel_rfl) (live_mem (by kernel_rfl)) (arr_h (l := [(A2_i64.mk (10) (128)), (A2_i64.mk (6) (129)), (A2_i64.mk (9) (130)), (A2_i64.mk (4) (132)), (A2_i64.mk (5) (133)), (A2_i64.mk (11) (134)), (A2_i64.mk (12) (135)), (A2_i64.mk (7) (136)), (A2_i64.mk (2) (137)), (A2_i64.mk (8) (138)), (A2_i64.mk (3) (139))]) c5 (by kernel_rfl)) (by kernel_rfl) (by kernel_rfl)) fun f9 hf9 => ?_
        refine mops_seg [0, 1, 2, 3, 4, 36, 37, 40, 41, 42, 43, 44, 45, 46, 47, 48, 49, 50, 51, 52, 53, 54, 55, 56] 3 hf9 (l' := [⟨0, [], .ref 0 0 0 0⟩, ⟨1, [], .ref 1 v_2 0 m_2⟩, ⟨2, [], .ptr 2 0 0⟩, ⟨3, [], .s (.int .i64 i_2)⟩, ⟨4, [], .s (.int .i64 imm_3)⟩, ⟨36, [], .s (.int .i64 i_2)⟩, ⟨37, [], .s (.bool (decide (i_2 < 11)))⟩, ⟨40, [], .s (.int .i64 i_2)⟩, ⟨41, [], .ptr 2 0 (0 + (i_2 : Int).toNat * 2)⟩, ⟨42, [], .ptr 2 0 (0 + (i_2 : Int).toNat * 2 + 0)⟩, ⟨43, [], .s (.int .i64 (gt [(A2_i64.mk (10) (128)), (A2_i64.mk (6) (129)), (A2_i64.mk (9) (130)), (A2_i64.mk (4) (132)), (A2_i64.mk (5) (133)), (A2_i64.mk (11) (134)), (A2_i64.mk (12) (135)), (A2_i64.mk (7) (136)), (A2_i64.mk (2) (137)), (A2_i64.mk (8) (138)), (A2_i64.mk (3) (139))] i_2).a0)⟩, ⟨44, [], .s (.bool ((gt [(A2_i64.mk (10) (128)), (A2_i64.mk (6) (129)), (A2_i64.mk (9) (130)), (A2_i64.mk (4) (132)), (A2_i64.mk (5) (133)), (A2_i64.mk (11) (134)), (A2_i64.mk (12) (135)), (A2_i64.mk (7) (136)), (A2_i64.mk (2) (137)), (A2_i64.mk (8) (138)), (A2_i64.mk (3) (139))] i_2).a0 == 12))⟩, ⟨45, [], .ref 1 v_2 0 m_2⟩, ⟨46, [], .s (.int .i64 i_2)⟩, ⟨47, [], .ptr 2 0 (0 + (i_2 : Int).toNat * 2)⟩, ⟨48, [], .ptr 2 0 (0 + (i_2 : Int).toNat * 2 + 0)⟩, ⟨49, [], .s (.int .i64 (gt [(A2_i64.mk (10) (128)), (A2_i64.mk (6) (129)), (A2_i64.mk (9) (130)), (A2_i64.mk (4) (132)), (A2_i64.mk (5) (133)), (A2_i64.mk (11) (134)), (A2_i64.mk (12) (135)), (A2_i64.mk (7) (136)), (A2_i64.mk (2) (137)), (A2_i64.mk (8) (138)), (A2_i64.mk (3) (139))] i_2).a0)⟩, ⟨50, [], .s (.int .i64 i_2)⟩, ⟨51, [], .ptr 2 0 (0 + (i_2 : Int).toNat * 2)⟩, ⟨52, [], .ptr 2 0 (0 + (i_2 : Int).toNat * 2 + 1)⟩, ⟨53, [], .s (.int .i64 (gt [(A2_i64.mk (10) (128)), (A2_i64.mk (6) (129)), (A2_i64.mk (9) (130)), (A2_i64.mk (4) (132)), (A2_i64.mk (5) (133)), (A2_i64.mk (11) (134)), (A2_i64.mk (12) (135)), (A2_i64.mk (7) (136)), (A2_i64.mk (2) (137)), (A2_i64.mk (8) (138)), (A2_i64.mk (3) (139))] i_2).a1)⟩, ⟨54, [], .s (.int .i64 imm_3)⟩, ⟨55, [], .agg [.s (.int .i64 (gt [(A2_i64.mk (10) (128)), (A2_i64.mk (6) (129)), (A2_i64.mk (9) (130)), (A2_i64.mk (4) (132)), (A2_i64.mk (5) (133)), (A2_i64.mk (11) (134)), (A2_i64.mk (12) (135)), (A2_i64.mk (7) (136)), (A2_i64.mk (2) (137)), (A2_i64.mk (8) (138)), (A2_i64.mk (3) (139))] i_2).a0), .s (.int .i64 8), .s (.int .i64 1), .s (.int .i64 (gt [(A2_i64.mk (10) (128)), (A2_i64.mk (6) (129)), (A2_i64.mk (9) (130)), (A2_i64.mk (4) (132)), (A2_i64.mk (5) (133)), (A2_i64.mk (11) (134)), (A2_i64.mk (12) (135)), (A2_i64.mk (7) (136)), (A2_i64.mk (2) (137)), (A2_i64.mk (8) (138)), (A2_i64.mk (3) (139))] i_2).a1), .s (.int .i64 imm_3)]⟩, ⟨56, [], .s (.int .i64 i_2)⟩]) (L' := [⟨0, .grow, 5, cat A5_i64.v ([] : List A5_i64)⟩, ⟨v_2, .grow, 5, cat A5_i64.v l_2⟩, ⟨0, .mem, 1, cat A2_i64.v [(A2_i64.mk (10) (128)), (A2_i64.mk (6) (129)), (A2_i64.mk (9) (130)), (A2_i64.mk (4) (132)), (A2_i64.mk (5) (133)), (A2_i64.mk (11) (134)), (A2_i64.mk (12) (135)), (A2_i64.mk (7) (136)), (A2_i64.mk (2) (137)), (A2_i64.mk (8) (138)), (A2_i64.mk (3) (139))]⟩]) (by kernel_rfl) fun f10 hf10 => ?_
        obtain ⟨c6, h⟩ := as_ok h
        refine mops_adv rfl (v := .ptr 2 0 (0 + (i_2 : Int).toNat * 2)) hf10 (by kernel_rfl) (e_iaa (n := 11) (xv := .ptr 2 0 0) (k := .i64) (iv := i_2) (p := .ptr 2 0 (0 + (i_2 : Int).toNat * 2)) (by kernel_rfl) (by kernel_rfl) (by kernel_rfl) (by kernel_rfl) c6) fun f11 hf11 => ?_
        refine mops_seg [0, 1, 2, 3, 4, 36, 37, 40, 41, 42, 43, 44, 45, 46, 47, 48, 49, 50, 51, 52, 53, 54, 55, 56, 57, 58] 1 hf11 (l' := [⟨0, [], .ref 0 0 0 0⟩, ⟨1, [], .ref 1 v_2 0 m_2⟩, ⟨2, [], .ptr 2 0 0⟩, ⟨3, [], .s (.int .i64 i_2)⟩, ⟨4, [], .s (.int .i64 imm_3)⟩, ⟨36, [], .s (.int .i64 i_2)⟩, ⟨37, [], .s (.bool (decide (i_2 < 11)))⟩, ⟨40, [], .s (.int .i64 i_2)⟩, ⟨41, [], .ptr 2 0 (0 + (i_2 : Int).toNat * 2)⟩, ⟨42, [], .ptr 2 0 (0 + (i_2 : Int).toNat * 2 + 0)⟩, ⟨43, [], .s (.int .i64 (gt [(A2_i64.mk (10) (128)), (A2_i64.mk (6) (129)), (A2_i64.mk (9) (130)), (A2_i64.mk (4) (132)), (A2_i64.mk (5) (133)), (A2_i64.mk (11) (134)), (A2_i64.mk (12) (135)), (A2_i64.mk (7) (136)), (A2_i64.mk (2) (137)), (A2_i64.mk (8) (138)), (A2_i64.mk (3) (139))] i_2).a0)⟩, ⟨44, [], .s (.bool ((gt [(A2_i64.mk (10) (128)), (A2_i64.mk (6) (129)), (A2_i64.mk (9) (130)), (A2_i64.mk (4) (132)), (A2_i64.mk (5) (133)), (A2_i64.mk (11) (134)), (A2_i64.mk (12) (135)), (A2_i64.mk (7) (136)), (A2_i64.mk (2) (137)), (A2_i64.mk (8) (138)), (A2_i64.mk (3) (139))] i_2).a0 == 12))⟩, ⟨45, [], .ref 1 v_2 0 m_2⟩, ⟨46, [], .s (.int .i64 i_2)⟩, ⟨47, [], .ptr 2 0 (0 + (i_2 : Int).toNat * 2)⟩, ⟨48, [], .ptr 2 0 (0 + (i_2 : Int).toNat * 2 + 0)⟩, ⟨49, [], .s (.int .i64 (gt [(A2_i64.mk (10) (128)), (A2_i64.mk (6) (129)), (A2_i64.mk (9) (130)), (A2_i64.mk (4) (132)), (A2_i64.mk (5) (133)), (A2_i64.mk (11) (134)), (A2_i64.mk (12) (135)), (A2_i64.mk (7) (136)), (A2_i64.mk (2) (137)), (A2_i64.mk (8) (138)), (A2_i64.mk (3) (139))] i_2).a0)⟩, ⟨50, [], .s (.int .i64 i_2)⟩, ⟨51, [], .ptr 2 0 (0 + (i_2 : Int).toNat * 2)⟩, ⟨52, [], .ptr 2 0 (0 + (i_2 : Int).toNat * 2 + 1)⟩, ⟨53, [], .s (.int .i64 (gt [(A2_i64.mk (10) (128)), (A2_i64.mk (6) (129)), (A2_i64.mk (9) (130)), (A2_i64.mk (4) (132)), (A2_i64.mk (5) (133)), (A2_i64.mk (11) (134)), (A2_i64.mk (12) (135)), (A2_i64.mk (7) (136)), (A2_i64.mk (2) (137)), (A2_i64.mk (8) (138)), (A2_i64.mk (3) (139))] i_2).a1)⟩, ⟨54, [], .s (.int .i64 imm_3)⟩, ⟨55, [], .agg [.s (.int .i64 (gt [(A2_i64.mk (10) (128)), (A2_i64.mk (6) (129)), (A2_i64.mk (9) (130)), (A2_i64.mk (4) (132)), (A2_i64.mk (5) (133)), (A2_i64.mk (11) (134)), (A2_i64.mk (12) (135)), (A2_i64.mk (7) (136)), (A2_i64.mk (2) (137)), (A2_i64.mk (8) (138)), (A2_i64.mk (3) (139))] i_2).a0), .s (.int .i64 8), .s (.int .i64 1), .s (.int .i64 (gt [(A2_i64.mk (10) (128)), (A2_i64.mk (6) (129)), (A2_i64.mk (9) (130)), (A2_i64.mk (4) (132)), (A2_i64.mk (5) (133)), (A2_i64.mk (11) (134)), (A2_i64.mk (12) (135)), (A2_i64.mk (7) (136)), (A2_i64.mk (2) (137)), (A2_i64.mk (8) (138)), (A2_i64.mk (3) (139))] i_2).a1), .s (.int .i64 imm_3)]⟩, ⟨56, [], .s (.int .i64 i_2)⟩, ⟨57, [], .ptr 2 0 (0 + (i_2 : Int).toNat * 2)⟩, ⟨58, [], .ptr 2 0 (0 + (i_2 : Int).toNat * 2 + 0)⟩]) (L' := [⟨0, .grow, 5, cat A5_i64.v ([] : List A5_i64)⟩, ⟨v_2, .grow, 5, cat A5_i64.v l_2⟩, ⟨0, .mem, 1, cat A2_i64.v [(A2_i64.mk (10) (128)), (A2_i64.mk (6) (129)), (A2_i64.mk (9) (130)), (A2_i64.mk (4) (132)), (A2_i64.mk (5) (133)), (A2_i64.mk (11) (134)), (A2_i64.mk (12) (135)), (A2_i64.mk (7) (136)), (A2_i64.mk (2) (137)), (A2_i64.mk (8) (138)), (A2_i64.mk (3) (139))]⟩]) (by kernel_rfl) fun f12 hf12 => ?_
        refine mops_adv rfl (v := .s (.int .i64 (gt [(A2_i64.mk (10) (128)), (A2_i64.mk (6) (129)), (A2_i64.mk (9) (130)), (A2_i64.mk (4) (132)), (A2_i64.mk (5) (133)), (A2_i64.mk (11) (134)), (A2_i64.mk (12) (135)), (A2_i64.mk (7) (136)), (A2_i64.mk (2) (137)), (A2_i64.mk (8) (138)), (A2_i64.mk (3) (139))] i_2).a0)) hf12 (by kernel_rfl) (e_load_pe (g := A2_i64.v) (l := [(A2_i64.mk (10) (128)), (A2_i64.mk (6) (129)), (A2_i64.mk (9) (130)), (A2_i64.mk (4) (132)), (A2_i64.mk (5) (133)), (A2_i64.mk (11) (134)), (A2_i64.mk (12) (135)), (A2_i64.mk (7) (136)), (A2_i64.mk (2) (137)), (A2_i64.mk (8) (138)), (A2_i64.mk (3) (139))]) (iv := i_2) (kd := .mem) (q := 1) (b := 2) (ver := 0) [0] (by kernel_rfl) (live_mem (by kernel_rfl)) (arr_h (l := [(A2_i64.mk (10) (128)), (A2_i64.mk (6) (129)), (A2_i64.mk (9) (130)), (A2_i64.mk (4) (132)), (A2_i64.mk (5) (133)), (A2_i64.mk (11) (134)), (A2_i64.mk (12) (135)), (A2_i64.mk (7) (136)), (A2_i64.mk (2) (137)), (A2_i64.mk (8) (138)), (A2_i64.mk (3) (139))]) c6 (by kernel_rfl)) (by kernel_rfl) (by kernel_rfl)) fun f13 hf13 => ?_
        refine mops_seg [0, 1, 2, 3, 4, 36, 37, 40, 41, 42, 43, 44, 45, 46, 47, 48, 49, 50, 51, 52, 53, 54, 55, 56, 57, 58, 59, 60] 1 hf13 (l' := [⟨0, [], .ref 0 0 0 0⟩, ⟨1, [], .ref 1 v_2 0 m_2⟩, ⟨2, [], .ptr 2 0 0⟩, ⟨3, [], .s (.int .i64 i_2)⟩, ⟨4, [], .s (.int .i64 imm_3)⟩, ⟨36, [], .s (.int .i64 i_2)⟩, ⟨37, [], .s (.bool (decide (i_2 < 11)))⟩, ⟨40, [], .s (.int .i64 i_2)⟩, ⟨41, [], .ptr 2 0 (0 + (i_2 : Int).toNat * 2)⟩, ⟨42, [], .ptr 2 0 (0 + (i_2 : Int).toNat * 2 + 0)⟩, ⟨43, [], .s (.int .i64 (gt [(A2_i64.mk (10) (128)), (A2_i64.mk (6) (129)), (A2_i64.mk (9) (130)), (A2_i64.mk (4) (132)), (A2_i64.mk (5) (133)), (A2_i64.mk (11) (134)), (A2_i64.mk (12) (135)), (A2_i64.mk (7) (136)), (A2_i64.mk (2) (137)), (A2_i64.mk (8) (138)), (A2_i64.mk (3) (139))] i_2).a0)⟩, ⟨44, [], .s (.bool ((gt [(A2_i64.mk (10) (128)), (A2_i64.mk (6) (129)), (A2_i64.mk (9) (130)), (A2_i64.mk (4) (132)), (A2_i64.mk (5) (133)), (A2_i64.mk (11) (134)), (A2_i64.mk (12) (135)), (A2_i64.mk (7) (136)), (A2_i64.mk (2) (137)), (A2_i64.mk (8) (138)), (A2_i64.mk (3) (139))] i_2).a0 == 12))⟩, ⟨45, [], .ref 1 v_2 0 m_2⟩, ⟨46, [], .s (.int .i64 i_2)⟩, ⟨47, [], .ptr 2 0 (0 + (i_2 : Int).toNat * 2)⟩, ⟨48, [], .ptr 2 0 (0 + (i_2 : Int).toNat * 2 + 0)⟩, ⟨49, [], .s (.int .i64 (gt [(A2_i64.mk (10) (128)), (A2_i64.mk (6) (129)), (A2_i64.mk (9) (130)), (A2_i64.mk (4) (132)), (A2_i64.mk (5) (133)), (A2_i64.mk (11) (134)), (A2_i64.mk (12) (135)), (A2_i64.mk (7) (136)), (A2_i64.mk (2) (137)), (A2_i64.mk (8) (138)), (A2_i64.mk (3) (139))] i_2).a0)⟩, ⟨50, [], .s (.int .i64 i_2)⟩, ⟨51, [], .ptr 2 0 (0 + (i_2 : Int).toNat * 2)⟩, ⟨52, [], .ptr 2 0 (0 + (i_2 : Int).toNat * 2 + 1)⟩, ⟨53, [], .s (.int .i64 (gt [(A2_i64.mk (10) (128)), (A2_i64.mk (6) (129)), (A2_i64.mk (9) (130)), (A2_i64.mk (4) (132)), (A2_i64.mk (5) (133)), (A2_i64.mk (11) (134)), (A2_i64.mk (12) (135)), (A2_i64.mk (7) (136)), (A2_i64.mk (2) (137)), (A2_i64.mk (8) (138)), (A2_i64.mk (3) (139))] i_2).a1)⟩, ⟨54, [], .s (.int .i64 imm_3)⟩, ⟨55, [], .agg [.s (.int .i64 (gt [(A2_i64.mk (10) (128)), (A2_i64.mk (6) (129)), (A2_i64.mk (9) (130)), (A2_i64.mk (4) (132)), (A2_i64.mk (5) (133)), (A2_i64.mk (11) (134)), (A2_i64.mk (12) (135)), (A2_i64.mk (7) (136)), (A2_i64.mk (2) (137)), (A2_i64.mk (8) (138)), (A2_i64.mk (3) (139))] i_2).a0), .s (.int .i64 8), .s (.int .i64 1), .s (.int .i64 (gt [(A2_i64.mk (10) (128)), (A2_i64.mk (6) (129)), (A2_i64.mk (9) (130)), (A2_i64.mk (4) (132)), (A2_i64.mk (5) (133)), (A2_i64.mk (11) (134)), (A2_i64.mk (12) (135)), (A2_i64.mk (7) (136)), (A2_i64.mk (2) (137)), (A2_i64.mk (8) (138)), (A2_i64.mk (3) (139))] i_2).a1), .s (.int .i64 imm_3)]⟩, ⟨56, [], .s (.int .i64 i_2)⟩, ⟨57, [], .ptr 2 0 (0 + (i_2 : Int).toNat * 2)⟩, ⟨58, [], .ptr 2 0 (0 + (i_2 : Int).toNat * 2 + 0)⟩, ⟨59, [], .s (.int .i64 (gt [(A2_i64.mk (10) (128)), (A2_i64.mk (6) (129)), (A2_i64.mk (9) (130)), (A2_i64.mk (4) (132)), (A2_i64.mk (5) (133)), (A2_i64.mk (11) (134)), (A2_i64.mk (12) (135)), (A2_i64.mk (7) (136)), (A2_i64.mk (2) (137)), (A2_i64.mk (8) (138)), (A2_i64.mk (3) (139))] i_2).a0)⟩, ⟨60, [], .s (.int .i64 i_2)⟩]) (L' := [⟨0, .grow, 5, cat A5_i64.v ([] : List A5_i64)⟩, ⟨v_2, .grow, 5, cat A5_i64.v l_2⟩, ⟨0, .mem, 1, cat A2_i64.v [(A2_i64.mk (10) (128)), (A2_i64.mk (6) (129)), (A2_i64.mk (9) (130)), (A2_i64.mk (4) (132)), (A2_i64.mk (5) (133)), (A2_i64.mk (11) (134)), (A2_i64.mk (12) (135)), (A2_i64.mk (7) (136)), (A2_i64.mk (2) (137)), (A2_i64.mk (8) (138)), (A2_i64.mk (3) (139))]⟩]) (by kernel_rfl) fun f14 hf14 => ?_
        obtain ⟨c7, h⟩ := as_ok h
        refine mops_adv rfl (v := .ptr 2 0 (0 + (i_2 : Int).toNat * 2)) hf14 (by kernel_rfl) (e_iaa (n := 11) (xv := .ptr 2 0 0) (k := .i64) (iv := i_2) (p := .ptr 2 0 (0 + (i_2 : Int).toNat * 2)) (by kernel_rfl) (by kernel_rfl) (by kernel_rfl) (by kernel_rfl) c7) fun f15 hf15 => ?_
        refine mops_seg [0, 1, 2, 3, 4, 36, 37, 40, 41, 42, 43, 44, 45, 46, 47, 48, 49, 50, 51, 52, 53, 54, 55, 56, 57, 58, 59, 60, 61, 62] 1 hf15 (l' := [⟨0, [], .ref 0 0 0 0⟩, ⟨1, [], .ref 1 v_2 0 m_2⟩, ⟨2, [], .ptr 2 0 0⟩, ⟨3, [], .s (.int .i64 i_2)⟩, ⟨4, [], .s (.int .i64 imm_3)⟩, ⟨36, [], .s (.int .i64 i_2)⟩, ⟨37, [], .s (.bool (decide (i_2 < 11)))⟩, ⟨40, [], .s (.int .i64 i_2)⟩, ⟨41, [], .ptr 2 0 (0 + (i_2 : Int).toNat * 2)⟩, ⟨42, [], .ptr 2 0 (0 + (i_2 : Int).toNat * 2 + 0)⟩, ⟨43, [], .s (.int .i64 (gt [(A2_i64.mk (10) (128)), (A2_i64.mk (6) (129)), (A2_i64.mk (9) (130)), (A2_i64.mk (4) (132)), (A2_i64.mk (5) (133)), (A2_i64.mk (11) (134)), (A2_i64.mk (12) (135)), (A2_i64.mk (7) (136)), (A2_i64.mk (2) (137)), (A2_i64.mk (8) (138)), (A2_i64.mk (3) (139))] i_2).a0)⟩, ⟨44, [], .s (.bool ((gt [(A2_i64.mk (10) (128)), (A2_i64.mk (6) (129)), (A2_i64.mk (9) (130)), (A2_i64.mk (4) (132)), (A2_i64.mk (5) (133)), (A2_i64.mk (11) (134)), (A2_i64.mk (12) (135)), (A2_i64.mk (7) (136)), (A2_i64.mk (2) (137)), (A2_i64.mk (8) (138)), (A2_i64.mk (3) (139))] i_2).a0 == 12))⟩, ⟨45, [], .ref 1 v_2 0 m_2⟩, ⟨46, [], .s (.int .i64 i_2)⟩, ⟨47, [], .ptr 2 0 (0 + (i_2 : Int).toNat * 2)⟩, ⟨48, [], .ptr 2 0 (0 + (i_2 : Int).toNat * 2 + 0)⟩, ⟨49, [], .s (.int .i64 (gt [(A2_i64.mk (10) (128)), (A2_i64.mk (6) (129)), (A2_i64.mk (9) (130)), (A2_i64.mk (4) (132)), (A2_i64.mk (5) (133)), (A2_i64.mk (11) (134)), (A2_i64.mk (12) (135)), (A2_i64.mk (7) (136)), (A2_i64.mk (2) (137)), (A2_i64.mk (8) (138)), (A2_i64.mk (3) (139))] i_2).a0)⟩, ⟨50, [], .s (.int .i64 i_2)⟩, ⟨51, [], .ptr 2 0 (0 + (i_2 : Int).toNat * 2)⟩, ⟨52, [], .ptr 2 0 (0 + (i_2 : Int).toNat * 2 + 1)⟩, ⟨53, [], .s (.int .i64 (gt [(A2_i64.mk (10) (128)), (A2_i64.mk (6) (129)), (A2_i64.mk (9) (130)), (A2_i64.mk (4) (132)), (A2_i64.mk (5) (133)), (A2_i64.mk (11) (134)), (A2_i64.mk (12) (135)), (A2_i64.mk (7) (136)), (A2_i64.mk (2) (137)), (A2_i64.mk (8) (138)), (A2_i64.mk (3) (139))] i_2).a1)⟩, ⟨54, [], .s (.int .i64 imm_3)⟩, ⟨55, [], .agg [.s (.int .i64 (gt [(A2_i64.mk (10) (128)), (A2_i64.mk (6) (129)), (A2_i64.mk (9) (130)), (A2_i64.mk (4) (132)), (A2_i64.mk (5) (133)), (A2_i64.mk (11) (134)), (A2_i64.mk (12) (135)), (A2_i64.mk (7) (136)), (A2_i64.mk (2) (137)), (A2_i64.mk (8) (138)), (A2_i64.mk (3) (139))] i_2).a0), .s (.int .i64 8), .s (.int .i64 1), .s (.int .i64 (gt [(A2_i64.mk (10) (128)), (A2_i64.mk (6) (129)), (A2_i64.mk (9) (130)), (A2_i64.mk (4) (132)), (A2_i64.mk (5) (133)), (A2_i64.mk (11) (134)), (A2_i64.mk (12) (135)), (A2_i64.mk (7) (136)), (A2_i64.mk (2) (137)), (A2_i64.mk (8) (138)), (A2_i64.mk (3) (139))] i_2).a1), .s (.int .i64 imm_3)]⟩, ⟨56, [], .s (.int .i64 i_2)⟩, ⟨57, [], .ptr 2 0 (0 + (i_2 : Int).toNat * 2)⟩, ⟨58, [], .ptr 2 0 (0 + (i_2 : Int).toNat * 2 + 0)⟩, ⟨59, [], .s (.int .i64 (gt [(A2_i64.mk (10) (128)), (A2_i64.mk (6) (129)), (A2_i64.mk (9) (130)), (A2_i64.mk (4) (132)), (A2_i64.mk (5) (133)), (A2_i64.mk (11) (134)), (A2_i64.mk (12) (135)), (A2_i64.mk (7) (136)), (A2_i64.mk (2) (137)), (A2_i64.mk (8) (138)), (A2_i64.mk (3) (139))] i_2).a0)⟩, ⟨60, [], .s (.int .i64 i_2)⟩, ⟨61, [], .ptr 2 0 (0 + (i_2 : Int).toNat * 2)⟩, ⟨62, [], .ptr 2 0 (0 + (i_2 : Int).toNat * 2 + 1)⟩]) (L' := [⟨0, .grow, 5, cat A5_i64.v ([] : List A5_i64)⟩, ⟨v_2, .grow, 5, cat A5_i64.v l_2⟩, ⟨0, .mem, 1, cat A2_i64.v [(A2_i64.mk (10) (128)), (A2_i64.mk (6) (129)), (A2_i64.mk (9) (130)), (A2_i64.mk (4) (132)), (A2_i64.mk (5) (133)), (A2_i64.mk (11) (134)), (A2_i64.mk (12) (135)), (A2_i64.mk (7) (136)), (A2_i64.mk (2) (137)), (A2_i64.mk (8) (138)), (A2_i64.mk (3) (139))]⟩]) (by kernel_rfl) fun f16 hf16 => ?_
        refine mops_adv rfl (v := .s (.int .i64 (gt [(A2_i64.mk (10) (128)), (A2_i64.mk (6) (129)), (A2_i64.mk (9) (130)), (A2_i64.mk (4) (132)), (A2_i64.mk (5) (133)), (A2_i64.mk (11) (134)), (A2_i64.mk (12) (135)), (A2_i64.mk (7) (136)), (A2_i64.mk (2) (137)), (A2_i64.mk (8) (138)), (A2_i64.mk (3) (139))] i_2).a1)) hf16 (by kernel_rfl) (e_load_pe (g := A2_i64.v) (l := [(A2_i64.mk (10) (128)), (A2_i64.mk (6) (129)), (A2_i64.mk (9) (130)), (A2_i64.mk (4) (132)), (A2_i64.mk (5) (133)), (A2_i64.mk (11) (134)), (A2_i64.mk (12) (135)), (A2_i64.mk (7) (136)), (A2_i64.mk (2) (137)), (A2_i64.mk (8) (138)), (A2_i64.mk (3) (139))]) (iv := i_2) (kd := .mem) (q := 1) (b := 2) (ver := 0) [1] (by kernel_rfl) (live_mem (by kernel_rfl)) (arr_h (l := [(A2_i64.mk (10) (128)), (A2_i64.mk (6) (129)), (A2_i64.mk (9) (130)), (A2_i64.mk (4) (132)), (A2_i64.mk (5) (133)), (A2_i64.mk (11) (134)), (A2_i64.mk (12) (135)), (A2_i64.mk (7) (136)), (A2_i64.mk (2) (137)), (A2_i64.mk (8) (138)), (A2_i64.mk (3) (139))]) c7 (by kernel_rfl)) (by kernel_rfl) (by kernel_rfl)) fun f17 hf17 => ?_
        refine mops_end [0, 1, 2, 3, 4, 36, 37, 40, 41, 42, 43, 44, 45, 46, 47, 48, 49, 50, 51, 52, 53, 54, 55, 56, 57, 58, 59, 60, 61, 62, 63, 64, 65, 66] hf17 (l' := [⟨0, [], .ref 0 0 0 0⟩, ⟨1, [], .ref 1 v_2 0 m_2⟩, ⟨2, [], .ptr 2 0 0⟩, ⟨3, [], .s (.int .i64 i_2)⟩, ⟨4, [], .s (.int .i64 imm_3)⟩, ⟨36, [], .s (.int .i64 i_2)⟩, ⟨37, [], .s (.bool (decide (i_2 < 11)))⟩, ⟨40, [], .s (.int .i64 i_2)⟩, ⟨41, [], .ptr 2 0 (0 + (i_2 : Int).toNat * 2)⟩, ⟨42, [], .ptr 2 0 (0 + (i_2 : Int).toNat * 2 + 0)⟩, ⟨43, [], .s (.int .i64 (gt [(A2_i64.mk (10) (128)), (A2_i64.mk (6) (129)), (A2_i64.mk (9) (130)), (A2_i64.mk (4) (132)), (A2_i64.mk (5) (133)), (A2_i64.mk (11) (134)), (A2_i64.mk (12) (135)), (A2_i64.mk (7) (136)), (A2_i64.mk (2) (137)), (A2_i64.mk (8) (138)), (A2_i64.mk (3) (139))] i_2).a0)⟩, ⟨44, [], .s (.bool ((gt [(A2_i64.mk (10) (128)), (A2_i64.mk (6) (129)), (A2_i64.mk (9) (130)), (A2_i64.mk (4) (132)), (A2_i64.mk (5) (133)), (A2_i64.mk (11) (134)), (A2_i64.mk (12) (135)), (A2_i64.mk (7) (136)), (A2_i64.mk (2) (137)), (A2_i64.mk (8) (138)), (A2_i64.mk (3) (139))] i_2).a0 == 12))⟩, ⟨45, [], .ref 1 v_2 0 m_2⟩, ⟨46, [], .s (.int .i64 i_2)⟩, ⟨47, [], .ptr 2 0 (0 + (i_2 : Int).toNat * 2)⟩, ⟨48, [], .ptr 2 0 (0 + (i_2 : Int).toNat * 2 + 0)⟩, ⟨49, [], .s (.int .i64 (gt [(A2_i64.mk (10) (128)), (A2_i64.mk (6) (129)), (A2_i64.mk (9) (130)), (A2_i64.mk (4) (132)), (A2_i64.mk (5) (133)), (A2_i64.mk (11) (134)), (A2_i64.mk (12) (135)), (A2_i64.mk (7) (136)), (A2_i64.mk (2) (137)), (A2_i64.mk (8) (138)), (A2_i64.mk (3) (139))] i_2).a0)⟩, ⟨50, [], .s (.int .i64 i_2)⟩, ⟨51, [], .ptr 2 0 (0 + (i_2 : Int).toNat * 2)⟩, ⟨52, [], .ptr 2 0 (0 + (i_2 : Int).toNat * 2 + 1)⟩, ⟨53, [], .s (.int .i64 (gt [(A2_i64.mk (10) (128)), (A2_i64.mk (6) (129)), (A2_i64.mk (9) (130)), (A2_i64.mk (4) (132)), (A2_i64.mk (5) (133)), (A2_i64.mk (11) (134)), (A2_i64.mk (12) (135)), (A2_i64.mk (7) (136)), (A2_i64.mk (2) (137)), (A2_i64.mk (8) (138)), (A2_i64.mk (3) (139))] i_2).a1)⟩, ⟨54, [], .s (.int .i64 imm_3)⟩, ⟨55, [], .agg [.s (.int .i64 (gt [(A2_i64.mk (10) (128)), (A2_i64.mk (6) (129)), (A2_i64.mk (9) (130)), (A2_i64.mk (4) (132)), (A2_i64.mk (5) (133)), (A2_i64.mk (11) (134)), (A2_i64.mk (12) (135)), (A2_i64.mk (7) (136)), (A2_i64.mk (2) (137)), (A2_i64.mk (8) (138)), (A2_i64.mk (3) (139))] i_2).a0), .s (.int .i64 8), .s (.int .i64 1), .s (.int .i64 (gt [(A2_i64.mk (10) (128)), (A2_i64.mk (6) (129)), (A2_i64.mk (9) (130)), (A2_i64.mk (4) (132)), (A2_i64.mk (5) (133)), (A2_i64.mk (11) (134)), (A2_i64.mk (12) (135)), (A2_i64.mk (7) (136)), (A2_i64.mk (2) (137)), (A2_i64.mk (8) (138)), (A2_i64.mk (3) (139))] i_2).a1), .s (.int .i64 imm_3)]⟩, ⟨56, [], .s (.int .i64 i_2)⟩, ⟨57, [], .ptr 2 0 (0 + (i_2 : Int).toNat * 2)⟩, ⟨58, [], .ptr 2 0 (0 + (i_2 : Int).toNat * 2 + 0)⟩, ⟨59, [], .s (.int .i64 (gt [(A2_i64.mk (10) (128)), (A2_i64.mk (6) (129)), (A2_i64.mk (9) (130)), (A2_i64.mk (4) (132)), (A2_i64.mk (5) (133)), (A2_i64.mk (11) (134)), (A2_i64.mk (12) (135)), (A2_i64.mk (7) (136)), (A2_i64.mk (2) (137)), (A2_i64.mk (8) (138)), (A2_i64.mk (3) (139))] i_2).a0)⟩, ⟨60, [], .s (.int .i64 i_2)⟩, ⟨61, [], .ptr 2 0 (0 + (i_2 : Int).toNat * 2)⟩, ⟨62, [], .ptr 2 0 (0 + (i_2 : Int).toNat * 2 + 1)⟩, ⟨63, [], .s (.int .i64 (gt [(A2_i64.mk (10) (128)), (A2_i64.mk (6) (129)), (A2_i64.mk (9) (130)), (A2_i64.mk (4) (132)), (A2_i64.mk (5) (133)), (A2_i64.mk (11) (134)), (A2_i64.mk (12) (135)), (A2_i64.mk (7) (136)), (A2_i64.mk (2) (137)), (A2_i64.mk (8) (138)), (A2_i64.mk (3) (139))] i_2).a1)⟩, ⟨64, [], .s (.int .i64 (IntKind.wrap .i64 ((gt [(A2_i64.mk (10) (128)), (A2_i64.mk (6) (129)), (A2_i64.mk (9) (130)), (A2_i64.mk (4) (132)), (A2_i64.mk (5) (133)), (A2_i64.mk (11) (134)), (A2_i64.mk (12) (135)), (A2_i64.mk (7) (136)), (A2_i64.mk (2) (137)), (A2_i64.mk (8) (138)), (A2_i64.mk (3) (139))] i_2).a1 + 64)))⟩, ⟨65, [], .s (.int .i64 imm_3)⟩, ⟨66, [], .agg [.s (.int .i64 (gt [(A2_i64.mk (10) (128)), (A2_i64.mk (6) (129)), (A2_i64.mk (9) (130)), (A2_i64.mk (4) (132)), (A2_i64.mk (5) (133)), (A2_i64.mk (11) (134)), (A2_i64.mk (12) (135)), (A2_i64.mk (7) (136)), (A2_i64.mk (2) (137)), (A2_i64.mk (8) (138)), (A2_i64.mk (3) (139))] i_2).a0), .s (.int .i64 9), .s (.int .i64 1), .s (.int .i64 (IntKind.wrap .i64 ((gt [(A2_i64.mk (10) (128)), (A2_i64.mk (6) (129)), (A2_i64.mk (9) (130)), (A2_i64.mk (4) (132)), (A2_i64.mk (5) (133)), (A2_i64.mk (11) (134)), (A2_i64.mk (12) (135)), (A2_i64.mk (7) (136)), (A2_i64.mk (2) (137)), (A2_i64.mk (8) (138)), (A2_i64.mk (3) (139))] i_2).a1 + 64))), .s (.int .i64 imm_3)]⟩]) (L' := [⟨0, .grow, 5, cat A5_i64.v ([] : List A5_i64)⟩, ⟨v_2, .grow, 5, cat A5_i64.v l_2⟩, ⟨0, .mem, 1, cat A2_i64.v [(A2_i64.mk (10) (128)), (A2_i64.mk (6) (129)), (A2_i64.mk (9) (130)), (A2_i64.mk (4) (132)), (A2_i64.mk (5) (133)), (A2_i64.mk (11) (134)), (A2_i64.mk (12) (135)), (A2_i64.mk (7) (136)), (A2_i64.mk (2) (137)), (A2_i64.mk (8) (138)), (A2_i64.mk (3) (139))]⟩]) (by kernel_rfl) fun f18 hf18 => ?_
        intro _
        refine lw_w (a := ⟨⟨(some 67), (.e (.bslo 5 2 [(.int .i64 0), (.int .i64 0), (.int .i64 0), (.int .i64 0), (.int .i64 0), (.int .i64 0), (.int .i64 0), (.int .i64 0), (.int .i64 0), (.int .i64 0)] [(0, (5, (.t 55))), (5, (5, (.t 66)))])), none, [10, 21]⟩, true, 0, 1⟩) (by kernel_rfl) rfl rfl ?_
        refine mops_end [0, 1, 2, 3, 4, 36, 37, 40, 41, 42, 43, 44, 45, 46, 47, 48, 49, 50, 51, 52, 53, 54, 55, 56, 57, 58, 59, 60, 61, 62, 63, 64, 65, 66, 67] hf18 (l' := [⟨0, [], .ref 0 0 0 0⟩, ⟨1, [], .ref 1 v_2 0 m_2⟩, ⟨2, [], .ptr 2 0 0⟩, ⟨3, [], .s (.int .i64 i_2)⟩, ⟨4, [], .s (.int .i64 imm_3)⟩, ⟨36, [], .s (.int .i64 i_2)⟩, ⟨37, [], .s (.bool (decide (i_2 < 11)))⟩, ⟨40, [], .s (.int .i64 i_2)⟩, ⟨41, [], .ptr 2 0 (0 + (i_2 : Int).toNat * 2)⟩, ⟨42, [], .ptr 2 0 (0 + (i_2 : Int).toNat * 2 + 0)⟩, ⟨43, [], .s (.int .i64 (gt [(A2_i64.mk (10) (128)), (A2_i64.mk (6) (129)), (A2_i64.mk (9) (130)), (A2_i64.mk (4) (132)), (A2_i64.mk (5) (133)), (A2_i64.mk (11) (134)), (A2_i64.mk (12) (135)), (A2_i64.mk (7) (136)), (A2_i64.mk (2) (137)), (A2_i64.mk (8) (138)), (A2_i64.mk (3) (139))] i_2).a0)⟩, ⟨44, [], .s (.bool ((gt [(A2_i64.mk (10) (128)), (A2_i64.mk (6) (129)), (A2_i64.mk (9) (130)), (A2_i64.mk (4) (132)), (A2_i64.mk (5) (133)), (A2_i64.mk (11) (134)), (A2_i64.mk (12) (135)), (A2_i64.mk (7) (136)), (A2_i64.mk (2) (137)), (A2_i64.mk (8) (138)), (A2_i64.mk (3) (139))] i_2).a0 == 12))⟩, ⟨45, [], .ref 1 v_2 0 m_2⟩, ⟨46, [], .s (.int .i64 i_2)⟩, ⟨47, [], .ptr 2 0 (0 + (i_2 : Int).toNat * 2)⟩, ⟨48, [], .ptr 2 0 (0 + (i_2 : Int).toNat * 2 + 0)⟩, ⟨49, [], .s (.int .i64 (gt [(A2_i64.mk (10) (128)), (A2_i64.mk (6) (129)), (A2_i64.mk (9) (130)), (A2_i64.mk (4) (132)), (A2_i64.mk (5) (133)), (A2_i64.mk (11) (134)), (A2_i64.mk (12) (135)), (A2_i64.mk (7) (136)), (A2_i64.mk (2) (137)), (A2_i64.mk (8) (138)), (A2_i64.mk (3) (139))] i_2).a0)⟩, ⟨50, [], .s (.int .i64 i_2)⟩, ⟨51, [], .ptr 2 0 (0 + (i_2 : Int).toNat * 2)⟩, ⟨52, [], .ptr 2 0 (0 + (i_2 : Int).toNat * 2 + 1)⟩, ⟨53, [], .s (.int .i64 (gt [(A2_i64.mk (10) (128)), (A2_i64.mk (6) (129)), (A2_i64.mk (9) (130)), (A2_i64.mk (4) (132)), (A2_i64.mk (5) (133)), (A2_i64.mk (11) (134)), (A2_i64.mk (12) (135)), (A2_i64.mk (7) (136)), (A2_i64.mk (2) (137)), (A2_i64.mk (8) (138)), (A2_i64.mk (3) (139))] i_2).a1)⟩, ⟨54, [], .s (.int .i64 imm_3)⟩, ⟨55, [], .agg [.s (.int .i64 (gt [(A2_i64.mk (10) (128)), (A2_i64.mk (6) (129)), (A2_i64.mk (9) (130)), (A2_i64.mk (4) (132)), (A2_i64.mk (5) (133)), (A2_i64.mk (11) (134)), (A2_i64.mk (12) (135)), (A2_i64.mk (7) (136)), (A2_i64.mk (2) (137)), (A2_i64.mk (8) (138)), (A2_i64.mk (3) (139))] i_2).a0), .s (.int .i64 8), .s (.int .i64 1), .s (.int .i64 (gt [(A2_i64.mk (10) (128)), (A2_i64.mk (6) (129)), (A2_i64.mk (9) (130)), (A2_i64.mk (4) (132)), (A2_i64.mk (5) (133)), (A2_i64.mk (11) (134)), (A2_i64.mk (12) (135)), (A2_i64.mk (7) (136)), (A2_i64.mk (2) (137)), (A2_i64.mk (8) (138)), (A2_i64.mk (3) (139))] i_2).a1), .s (.int .i64 imm_3)]⟩, ⟨56, [], .s (.int .i64 i_2)⟩, ⟨57, [], .ptr 2 0 (0 + (i_2 : Int).toNat * 2)⟩, ⟨58, [], .ptr 2 0 (0 + (i_2 : Int).toNat * 2 + 0)⟩, ⟨59, [], .s (.int .i64 (gt [(A2_i64.mk (10) (128)), (A2_i64.mk (6) (129)), (A2_i64.mk (9) (130)), (A2_i64.mk (4) (132)), (A2_i64.mk (5) (133)), (A2_i64.mk (11) (134)), (A2_i64.mk (12) (135)), (A2_i64.mk (7) (136)), (A2_i64.mk (2) (137)), (A2_i64.mk (8) (138)), (A2_i64.mk (3) (139))] i_2).a0)⟩, ⟨60, [], .s (.int .i64 i_2)⟩, ⟨61, [], .ptr 2 0 (0 + (i_2 : Int).toNat * 2)⟩, ⟨62, [], .ptr 2 0 (0 + (i_2 : Int).toNat * 2 + 1)⟩, ⟨63, [], .s (.int .i64 (gt [(A2_i64.mk (10) (128)), (A2_i64.mk (6) (129)), (A2_i64.mk (9) (130)), (A2_i64.mk (4) (132)), (A2_i64.mk (5) (133)), (A2_i64.mk (11) (134)), (A2_i64.mk (12) (135)), (A2_i64.mk (7) (136)), (A2_i64.mk (2) (137)), (A2_i64.mk (8) (138)), (A2_i64.mk (3) (139))] i_2).a1)⟩, ⟨64, [], .s (.int .i64 (IntKind.wrap .i64 ((gt [(A2_i64.mk (10) (128)), (A2_i64.mk (6) (129)), (A2_i64.mk (9) (130)), (A2_i64.mk (4) (132)), (A2_i64.mk (5) (133)), (A2_i64.mk (11) (134)), (A2_i64.mk (12) (135)), (A2_i64.mk (7) (136)), (A2_i64.mk (2) (137)), (A2_i64.mk (8) (138)), (A2_i64.mk (3) (139))] i_2).a1 + 64)))⟩, ⟨65, [], .s (.int .i64 imm_3)⟩, ⟨66, [], .agg [.s (.int .i64 (gt [(A2_i64.mk (10) (128)), (A2_i64.mk (6) (129)), (A2_i64.mk (9) (130)), (A2_i64.mk (4) (132)), (A2_i64.mk (5) (133)), (A2_i64.mk (11) (134)), (A2_i64.mk (12) (135)), (A2_i64.mk (7) (136)), (A2_i64.mk (2) (137)), (A2_i64.mk (8) (138)), (A2_i64.mk (3) (139))] i_2).a0), .s (.int .i64 9), .s (.int .i64 1), .s (.int .i64 (IntKind.wrap .i64 ((gt [(A2_i64.mk (10) (128)), (A2_i64.mk (6) (129)), (A2_i64.mk (9) (130)), (A2_i64.mk (4) (132)), (A2_i64.mk (5) (133)), (A2_i64.mk (11) (134)), (A2_i64.mk (12) (135)), (A2_i64.mk (7) (136)), (A2_i64.mk (2) (137)), (A2_i64.mk (8) (138)), (A2_i64.mk (3) (139))] i_2).a1 + 64))), .s (.int .i64 imm_3)]⟩, ⟨67, [], .ref 3 0 0 2⟩]) (L' := [⟨0, .grow, 5, cat A5_i64.v ([] : List A5_i64)⟩, ⟨v_2, .grow, 5, cat A5_i64.v l_2⟩, ⟨0, .mem, 1, cat A2_i64.v [(A2_i64.mk (10) (128)), (A2_i64.mk (6) (129)), (A2_i64.mk (9) (130)), (A2_i64.mk (4) (132)), (A2_i64.mk (5) (133)), (A2_i64.mk (11) (134)), (A2_i64.mk (12) (135)), (A2_i64.mk (7) (136)), (A2_i64.mk (2) (137)), (A2_i64.mk (8) (138)), (A2_i64.mk (3) (139))]⟩, ⟨0, .grow, 5, [.s (.int .i64 (gt [(A2_i64.mk (10) (128)), (A2_i64.mk (6) (129)), (A2_i64.mk (9) (130)), (A2_i64.mk (4) (132)), (A2_i64.mk (5) (133)), (A2_i64.mk (11) (134)), (A2_i64.mk (12) (135)), (A2_i64.mk (7) (136)), (A2_i64.mk (2) (137)), (A2_i64.mk (8) (138)), (A2_i64.mk (3) (139))] i_2).a0), .s (.int .i64 8), .s (.int .i64 1), .s (.int .i64 (gt [(A2_i64.mk (10) (128)), (A2_i64.mk (6) (129)), (A2_i64.mk (9) (130)), (A2_i64.mk (4) (132)), (A2_i64.mk (5) (133)), (A2_i64.mk (11) (134)), (A2_i64.mk (12) (135)), (A2_i64.mk (7) (136)), (A2_i64.mk (2) (137)), (A2_i64.mk (8) (138)), (A2_i64.mk (3) (139))] i_2).a1), .s (.int .i64 imm_3), .s (.int .i64 (gt [(A2_i64.mk (10) (128)), (A2_i64.mk (6) (129)), (A2_i64.mk (9) (130)), (A2_i64.mk (4) (132)), (A2_i64.mk (5) (133)), (A2_i64.mk (11) (134)), (A2_i64.mk (12) (135)), (A2_i64.mk (7) (136)), (A2_i64.mk (2) (137)), (A2_i64.mk (8) (138)), (A2_i64.mk (3) (139))] i_2).a0), .s (.int .i64 9), .s (.int .i64 1), .s (.int .i64 (IntKind.wrap .i64 ((gt [(A2_i64.mk (10) (128)), (A2_i64.mk (6) (129)), (A2_i64.mk (9) (130)), (A2_i64.mk (4) (132)), (A2_i64.mk (5) (133)), (A2_i64.mk (11) (134)), (A2_i64.mk (12) (135)), (A2_i64.mk (7) (136)), (A2_i64.mk (2) (137)), (A2_i64.mk (8) (138)), (A2_i64.mk (3) (139))] i_2).a1 + 64))), .s (.int .i64 imm_3)]⟩]) (by kernel_rfl) fun f19 hf19 => ?_
        refine ⟨(pend_ok hf (by kernel_rfl) (by kernel_rfl) trivial), ?_⟩
        refine lw_w (a := ⟨⟨(some 68), (.e (.app 5 40 (.t 45) (.t 67))), none, [0, 22]⟩, true, 1, 2⟩) (by kernel_rfl) rfl rfl ?_
        obtain ⟨c8, h⟩ := as_ok h
        refine mops_adv rfl (v := .ref 1 (v_2 + 1) 0 (l_2 ++ [(A5_i64.mk ((gt [(A2_i64.mk (10) (128)), (A2_i64.mk (6) (129)), (A2_i64.mk (9) (130)), (A2_i64.mk (4) (132)), (A2_i64.mk (5) (133)), (A2_i64.mk (11) (134)), (A2_i64.mk (12) (135)), (A2_i64.mk (7) (136)), (A2_i64.mk (2) (137)), (A2_i64.mk (8) (138)), (A2_i64.mk (3) (139))] i_2).a0) (8) (1) ((gt [(A2_i64.mk (10) (128)), (A2_i64.mk (6) (129)), (A2_i64.mk (9) (130)), (A2_i64.mk (4) (132)), (A2_i64.mk (5) (133)), (A2_i64.mk (11) (134)), (A2_i64.mk (12) (135)), (A2_i64.mk (7) (136)), (A2_i64.mk (2) (137)), (A2_i64.mk (8) (138)), (A2_i64.mk (3) (139))] i_2).a1) imm_3), (A5_i64.mk ((gt [(A2_i64.mk (10) (128)), (A2_i64.mk (6) (129)), (A2_i64.mk (9) (130)), (A2_i64.mk (4) (132)), (A2_i64.mk (5) (133)), (A2_i64.mk (11) (134)), (A2_i64.mk (12) (135)), (A2_i64.mk (7) (136)), (A2_i64.mk (2) (137)), (A2_i64.mk (8) (138)), (A2_i64.mk (3) (139))] i_2).a0) (9) (1) (IntKind.wrap .i64 ((gt [(A2_i64.mk (10) (128)), (A2_i64.mk (6) (129)), (A2_i64.mk (9) (130)), (A2_i64.mk (4) (132)), (A2_i64.mk (5) (133)), (A2_i64.mk (11) (134)), (A2_i64.mk (12) (135)), (A2_i64.mk (7) (136)), (A2_i64.mk (2) (137)), (A2_i64.mk (8) (138)), (A2_i64.mk (3) (139))] i_2).a1 + 64)) imm_3)]).length) hf19 (by kernel_rfl) (e_app (g := A5_i64.v) (l := l_2) (l' := [(A5_i64.mk ((gt [(A2_i64.mk (10) (128)), (A2_i64.mk (6) (129)), (A2_i64.mk (9) (130)), (A2_i64.mk (4) (132)), (A2_i64.mk (5) (133)), (A2_i64.mk (11) (134)), (A2_i64.mk (12) (135)), (A2_i64.mk (7) (136)), (A2_i64.mk (2) (137)), (A2_i64.mk (8) (138)), (A2_i64.mk (3) (139))] i_2).a0) (8) (1) ((gt [(A2_i64.mk (10) (128)), (A2_i64.mk (6) (129)), (A2_i64.mk (9) (130)), (A2_i64.mk (4) (132)), (A2_i64.mk (5) (133)), (A2_i64.mk (11) (134)), (A2_i64.mk (12) (135)), (A2_i64.mk (7) (136)), (A2_i64.mk (2) (137)), (A2_i64.mk (8) (138)), (A2_i64.mk (3) (139))] i_2).a1) imm_3), (A5_i64.mk ((gt [(A2_i64.mk (10) (128)), (A2_i64.mk (6) (129)), (A2_i64.mk (9) (130)), (A2_i64.mk (4) (132)), (A2_i64.mk (5) (133)), (A2_i64.mk (11) (134)), (A2_i64.mk (12) (135)), (A2_i64.mk (7) (136)), (A2_i64.mk (2) (137)), (A2_i64.mk (8) (138)), (A2_i64.mk (3) (139))] i_2).a0) (9) (1) (IntKind.wrap .i64 ((gt [(A2_i64.mk (10) (128)), (A2_i64.mk (6) (129)), (A2_i64.mk (9) (130)), (A2_i64.mk (4) (132)), (A2_i64.mk (5) (133)), (A2_i64.mk (11) (134)), (A2_i64.mk (12) (135)), (A2_i64.mk (7) (136)), (A2_i64.mk (2) (137)), (A2_i64.mk (8) (138)), (A2_i64.mk (3) (139))] i_2).a1 + 64)) imm_3)]) (b := 1) (ver := v_2) (n := m_2) (by kernel_rfl) hn_2 (live_grow (by kernel_rfl)) (sll_ev (v := .ref 3 0 0 2) (by kernel_rfl) (sll_ref (B := ⟨0, .grow, 5, cat A5_i64.v [(A5_i64.mk ((gt [(A2_i64.mk (10) (128)), (A2_i64.mk (6) (129)), (A2_i64.mk (9) (130)), (A2_i64.mk (4) (132)), (A2_i64.mk (5) (133)), (A2_i64.mk (11) (134)), (A2_i64.mk (12) (135)), (A2_i64.mk (7) (136)), (A2_i64.mk (2) (137)), (A2_i64.mk (8) (138)), (A2_i64.mk (3) (139))] i_2).a0) (8) (1) ((gt [(A2_i64.mk (10) (128)), (A2_i64.mk (6) (129)), (A2_i64.mk (9) (130)), (A2_i64.mk (4) (132)), (A2_i64.mk (5) (133)), (A2_i64.mk (11) (134)), (A2_i64.mk (12) (135)), (A2_i64.mk (7) (136)), (A2_i64.mk (2) (137)), (A2_i64.mk (8) (138)), (A2_i64.mk (3) (139))] i_2).a1) imm_3), (A5_i64.mk ((gt [(A2_i64.mk (10) (128)), (A2_i64.mk (6) (129)), (A2_i64.mk (9) (130)), (A2_i64.mk (4) (132)), (A2_i64.mk (5) (133)), (A2_i64.mk (11) (134)), (A2_i64.mk (12) (135)), (A2_i64.mk (7) (136)), (A2_i64.mk (2) (137)), (A2_i64.mk (8) (138)), (A2_i64.mk (3) (139))] i_2).a0) (9) (1) (IntKind.wrap .i64 ((gt [(A2_i64.mk (10) (128)), (A2_i64.mk (6) (129)), (A2_i64.mk (9) (130)), (A2_i64.mk (4) (132)), (A2_i64.mk (5) (133)), (A2_i64.mk (11) (134)), (A2_i64.mk (12) (135)), (A2_i64.mk (7) (136)), (A2_i64.mk (2) (137)), (A2_i64.mk (8) (138)), (A2_i64.mk (3) (139))] i_2).a1 + 64)) imm_3)]⟩) (by kernel_rfl) (live_grow (by kernel_rfl)))) (slc_ev (v := .ref 3 0 0 2) (by kernel_rfl) (slc_ref (g := A5_i64.v) (l := [(A5_i64.mk ((gt [(A2_i64.mk (10) (128)), (A2_i64.mk (6) (129)), (A2_i64.mk (9) (130)), (A2_i64.mk (4) (132)), (A2_i64.mk (5) (133)), (A2_i64.mk (11) (134)), (A2_i64.mk (12) (135)), (A2_i64.mk (7) (136)), (A2_i64.mk (2) (137)), (A2_i64.mk (8) (138)), (A2_i64.mk (3) (139))] i_2).a0) (8) (1) ((gt [(A2_i64.mk (10) (128)), (A2_i64.mk (6) (129)), (A2_i64.mk (9) (130)), (A2_i64.mk (4) (132)), (A2_i64.mk (5) (133)), (A2_i64.mk (11) (134)), (A2_i64.mk (12) (135)), (A2_i64.mk (7) (136)), (A2_i64.mk (2) (137)), (A2_i64.mk (8) (138)), (A2_i64.mk (3) (139))] i_2).a1) imm_3), (A5_i64.mk ((gt [(A2_i64.mk (10) (128)), (A2_i64.mk (6) (129)), (A2_i64.mk (9) (130)), (A2_i64.mk (4) (132)), (A2_i64.mk (5) (133)), (A2_i64.mk (11) (134)), (A2_i64.mk (12) (135)), (A2_i64.mk (7) (136)), (A2_i64.mk (2) (137)), (A2_i64.mk (8) (138)), (A2_i64.mk (3) (139))] i_2).a0) (9) (1) (IntKind.wrap .i64 ((gt [(A2_i64.mk (10) (128)), (A2_i64.mk (6) (129)), (A2_i64.mk (9) (130)), (A2_i64.mk (4) (132)), (A2_i64.mk (5) (133)), (A2_i64.mk (11) (134)), (A2_i64.mk (12) (135)), (A2_i64.mk (7) (136)), (A2_i64.mk (2) (137)), (A2_i64.mk (8) (138)), (A2_i64.mk (3) (139))] i_2).a1 + 64)) imm_3)]) (kd := .grow) (q := 5) (by kernel_rfl) (live_grow (by kernel_rfl)))) c8) fun f20 hf20 => ?_
        refine mops_end [0, 1, 2, 3, 4, 36, 37, 40, 41, 42, 43, 44, 45, 46, 47, 48, 49, 50, 51, 52, 53, 54, 55, 56, 57, 58, 59, 60, 61, 62, 63, 64, 65, 66, 67, 68] hf20 (l' := [⟨0, [], .ref 0 0 0 0⟩, ⟨1, [], .ref 1 v_2 0 m_2⟩, ⟨2, [], .ptr 2 0 0⟩, ⟨3, [], .s (.int .i64 i_2)⟩, ⟨4, [], .s (.int .i64 imm_3)⟩, ⟨36, [], .s (.int .i64 i_2)⟩, ⟨37, [], .s (.bool (decide (i_2 < 11)))⟩, ⟨40, [], .s (.int .i64 i_2)⟩, ⟨41, [], .ptr 2 0 (0 + (i_2 : Int).toNat * 2)⟩, ⟨42, [], .ptr 2 0 (0 + (i_2 : Int).toNat * 2 + 0)⟩, ⟨43, [], .s (.int .i64 (gt [(A2_i64.mk (10) (128)), (A2_i64.mk (6) (129)), (A2_i64.mk (9) (130)), (A2_i64.mk (4) (132)), (A2_i64.mk (5) (133)), (A2_i64.mk (11) (134)), (A2_i64.mk (12) (135)), (A2_i64.mk (7) (136)), (A2_i64.mk (2) (137)), (A2_i64.mk (8) (138)), (A2_i64.mk (3) (139))] i_2).a0)⟩, ⟨44, [], .s (.bool ((gt [(A2_i64.mk (10) (128)), (A2_i64.mk (6) (129)), (A2_i64.mk (9) (130)), (A2_i64.mk (4) (132)), (A2_i64.mk (5) (133)), (A2_i64.mk (11) (134)), (A2_i64.mk (12) (135)), (A2_i64.mk (7) (136)), (A2_i64.mk (2) (137)), (A2_i64.mk (8) (138)), (A2_i64.mk (3) (139))] i_2).a0 == 12))⟩, ⟨45, [], .ref 1 v_2 0 m_2⟩, ⟨46, [], .s (.int .i64 i_2)⟩, ⟨47, [], .ptr 2 0 (0 + (i_2 : Int).toNat * 2)⟩, ⟨48, [], .ptr 2 0 (0 + (i_2 : Int).toNat * 2 + 0)⟩, ⟨49, [], .s (.int .i64 (gt [(A2_i64.mk (10) (128)), (A2_i64.mk (6) (129)), (A2_i64.mk (9) (130)), (A2_i64.mk (4) (132)), (A2_i64.mk (5) (133)), (A2_i64.mk (11) (134)), (A2_i64.mk (12) (135)), (A2_i64.mk (7) (136)), (A2_i64.mk (2) (137)), (A2_i64.mk (8) (138)), (A2_i64.mk (3) (139))] i_2).a0)⟩, ⟨50, [], .s (.int .i64 i_2)⟩, ⟨51, [], .ptr 2 0 (0 + (i_2 : Int).toNat * 2)⟩, ⟨52, [], .ptr 2 0 (0 + (i_2 : Int).toNat * 2 + 1)⟩, ⟨53, [], .s (.int .i64 (gt [(A2_i64.mk (10) (128)), (A2_i64.mk (6) (129)), (A2_i64.mk (9) (130)), (A2_i64.mk (4) (132)), (A2_i64.mk (5) (133)), (A2_i64.mk (11) (134)), (A2_i64.mk (12) (135)), (A2_i64.mk (7) (136)), (A2_i64.mk (2) (137)), (A2_i64.mk (8) (138)), (A2_i64.mk (3) (139))] i_2).a1)⟩, ⟨54, [], .s (.int .i64 imm_3)⟩, ⟨55, [], .agg [.s (.int .i64 (gt [(A2_i64.mk (10) (128)), (A2_i64.mk (6) (129)), (A2_i64.mk (9) (130)), (A2_i64.mk (4) (132)), (A2_i64.mk (5) (133)), (A2_i64.mk (11) (134)), (A2_i64.mk (12) (135)), (A2_i64.mk (7) (136)), (A2_i64.mk (2) (137)), (A2_i64.mk (8) (138)), (A2_i64.mk (3) (139))] i_2).a0), .s (.int .i64 8), .s (.int .i64 1), .s (.int .i64 (gt [(A2_i64.mk (10) (128)), (A2_i64.mk (6) (129)), (A2_i64.mk (9) (130)), (A2_i64.mk (4) (132)), (A2_i64.mk (5) (133)), (A2_i64.mk (11) (134)), (A2_i64.mk (12) (135)), (A2_i64.mk (7) (136)), (A2_i64.mk (2) (137)), (A2_i64.mk (8) (138)), (A2_i64.mk (3) (139))] i_2).a1), .s (.int .i64 imm_3)]⟩, ⟨56, [], .s (.int .i64 i_2)⟩, ⟨57, [], .ptr 2 0 (0 + (i_2 : Int).toNat * 2)⟩, ⟨58, [], .ptr 2 0 (0 + (i_2 : Int).toNat * 2 + 0)⟩, ⟨59, [], .s (.int .i64 (gt [(A2_i64.mk (10) (128)), (A2_i64.mk (6) (129)), (A2_i64.mk (9) (130)), (A2_i64.mk (4) (132)), (A2_i64.mk (5) (133)), (A2_i64.mk (11) (134)), (A2_i64.mk (12) (135)), (A2_i64.mk (7) (136)), (A2_i64.mk (2) (137)), (A2_i64.mk (8) (138)), (A2_i64.mk (3) (139))] i_2).a0)⟩, ⟨60, [], .s (.int .i64 i_2)⟩, ⟨61, [], .ptr 2 0 (0 + (i_2 : Int).toNat * 2)⟩, ⟨62, [], .ptr 2 0 (0 + (i_2 : Int).toNat * 2 + 1)⟩, ⟨63, [], .s (.int .i64 (gt [(A2_i64.mk (10) (128)), (A2_i64.mk (6) (129)), (A2_i64.mk (9) (130)), (A2_i64.mk (4) (132)), (A2_i64.mk (5) (133)), (A2_i64.mk (11) (134)), (A2_i64.mk (12) (135)), (A2_i64.mk (7) (136)), (A2_i64.mk (2) (137)), (A2_i64.mk (8) (138)), (A2_i64.mk (3) (139))] i_2).a1)⟩, ⟨64, [], .s (.int .i64 (IntKind.wrap .i64 ((gt [(A2_i64.mk (10) (128)), (A2_i64.mk (6) (129)), (A2_i64.mk (9) (130)), (A2_i64.mk (4) (132)), (A2_i64.mk (5) (133)), (A2_i64.mk (11) (134)), (A2_i64.mk (12) (135)), (A2_i64.mk (7) (136)), (A2_i64.mk (2) (137)), (A2_i64.mk (8) (138)), (A2_i64.mk (3) (139))] i_2).a1 + 64)))⟩, ⟨65, [], .s (.int .i64 imm_3)⟩, ⟨66, [], .agg [.s (.int .i64 (gt [(A2_i64.mk (10) (128)), (A2_i64.mk (6) (129)), (A2_i64.mk (9) (130)), (A2_i64.mk (4) (132)), (A2_i64.mk (5) (133)), (A2_i64.mk (11) (134)), (A2_i64.mk (12) (135)), (A2_i64.mk (7) (136)), (A2_i64.mk (2) (137)), (A2_i64.mk (8) (138)), (A2_i64.mk (3) (139))] i_2).a0), .s (.int .i64 9), .s (.int .i64 1), .s (.int .i64 (IntKind.wrap .i64 ((gt [(A2_i64.mk (10) (128)), (A2_i64.mk (6) (129)), (A2_i64.mk (9) (130)), (A2_i64.mk (4) (132)), (A2_i64.mk (5) (133)), (A2_i64.mk (11) (134)), (A2_i64.mk (12) (135)), (A2_i64.mk (7) (136)), (A2_i64.mk (2) (137)), (A2_i64.mk (8) (138)), (A2_i64.mk (3) (139))] i_2).a1 + 64))), .s (.int .i64 imm_3)]⟩, ⟨67, [], .ref 3 0 0 2⟩, ⟨68, [], .ref 1 (v_2 + 1) 0 (l_2 ++ [(A5_i64.mk ((gt [(A2_i64.mk (10) (128)), (A2_i64.mk (6) (129)), (A2_i64.mk (9) (130)), (A2_i64.mk (4) (132)), (A2_i64.mk (5) (133)), (A2_i64.mk (11) (134)), (A2_i64.mk (12) (135)), (A2_i64.mk (7) (136)), (A2_i64.mk (2) (137)), (A2_i64.mk (8) (138)), (A2_i64.mk (3) (139))] i_2).a0) (8) (1) ((gt [(A2_i64.mk (10) (128)), (A2_i64.mk (6) (129)), (A2_i64.mk (9) (130)), (A2_i64.mk (4) (132)), (A2_i64.mk (5) (133)), (A2_i64.mk (11) (134)), (A2_i64.mk (12) (135)), (A2_i64.mk (7) (136)), (A2_i64.mk (2) (137)), (A2_i64.mk (8) (138)), (A2_i64.mk (3) (139))] i_2).a1) imm_3), (A5_i64.mk ((gt [(A2_i64.mk (10) (128)), (A2_i64.mk (6) (129)), (A2_i64.mk (9) (130)), (A2_i64.mk (4) (132)), (A2_i64.mk (5) (133)), (A2_i64.mk (11) (134)), (A2_i64.mk (12) (135)), (A2_i64.mk (7) (136)), (A2_i64.mk (2) (137)), (A2_i64.mk (8) (138)), (A2_i64.mk (3) (139))] i_2).a0) (9) (1) (IntKind.wrap .i64 ((gt [(A2_i64.mk (10) (128)), (A2_i64.mk (6) (129)), (A2_i64.mk (9) (130)), (A2_i64.mk (4) (132)), (A2_i64.mk (5) (133)), (A2_i64.mk (11) (134)), (A2_i64.mk (12) (135)), (A2_i64.mk (7) (136)), (A2_i64.mk (2) (137)), (A2_i64.mk (8) (138)), (A2_i64.mk (3) (139))] i_2).a1 + 64)) imm_3)]).length⟩]) (L' := [⟨0, .grow, 5, cat A5_i64.v ([] : List A5_i64)⟩, ⟨(v_2 + 1), .grow, 5, cat A5_i64.v (l_2 ++ [(A5_i64.mk ((gt [(A2_i64.mk (10) (128)), (A2_i64.mk (6) (129)), (A2_i64.mk (9) (130)), (A2_i64.mk (4) (132)), (A2_i64.mk (5) (133)), (A2_i64.mk (11) (134)), (A2_i64.mk (12) (135)), (A2_i64.mk (7) (136)), (A2_i64.mk (2) (137)), (A2_i64.mk (8) (138)), (A2_i64.mk (3) (139))] i_2).a0) (8) (1) ((gt [(A2_i64.mk (10) (128)), (A2_i64.mk (6) (129)), (A2_i64.mk (9) (130)), (A2_i64.mk (4) (132)), (A2_i64.mk (5) (133)), (A2_i64.mk (11) (134)), (A2_i64.mk (12) (135)), (A2_i64.mk (7) (136)), (A2_i64.mk (2) (137)), (A2_i64.mk (8) (138)), (A2_i64.mk (3) (139))] i_2).a1) imm_3), (A5_i64.mk ((gt [(A2_i64.mk (10) (128)), (A2_i64.mk (6) (129)), (A2_i64.mk (9) (130)), (A2_i64.mk (4) (132)), (A2_i64.mk (5) (133)), (A2_i64.mk (11) (134)), (A2_i64.mk (12) (135)), (A2_i64.mk (7) (136)), (A2_i64.mk (2) (137)), (A2_i64.mk (8) (138)), (A2_i64.mk (3) (139))] i_2).a0) (9) (1) (IntKind.wrap .i64 ((gt [(A2_i64.mk (10) (128)), (A2_i64.mk (6) (129)), (A2_i64.mk (9) (130)), (A2_i64.mk (4) (132)), (A2_i64.mk (5) (133)), (A2_i64.mk (11) (134)), (A2_i64.mk (12) (135)), (A2_i64.mk (7) (136)), (A2_i64.mk (2) (137)), (A2_i64.mk (8) (138)), (A2_i64.mk (3) (139))] i_2).a1 + 64)) imm_3)])⟩, ⟨0, .mem, 1, cat A2_i64.v [(A2_i64.mk (10) (128)), (A2_i64.mk (6) (129)), (A2_i64.mk (9) (130)), (A2_i64.mk (4) (132)), (A2_i64.mk (5) (133)), (A2_i64.mk (11) (134)), (A2_i64.mk (12) (135)), (A2_i64.mk (7) (136)), (A2_i64.mk (2) (137)), (A2_i64.mk (8) (138)), (A2_i64.mk (3) (139))]⟩, ⟨0, .grow, 5, cat A5_i64.v [(A5_i64.mk ((gt [(A2_i64.mk (10) (128)), (A2_i64.mk (6) (129)), (A2_i64.mk (9) (130)), (A2_i64.mk (4) (132)), (A2_i64.mk (5) (133)), (A2_i64.mk (11) (134)), (A2_i64.mk (12) (135)), (A2_i64.mk (7) (136)), (A2_i64.mk (2) (137)), (A2_i64.mk (8) (138)), (A2_i64.mk (3) (139))] i_2).a0) (8) (1) ((gt [(A2_i64.mk (10) (128)), (A2_i64.mk (6) (129)), (A2_i64.mk (9) (130)), (A2_i64.mk (4) (132)), (A2_i64.mk (5) (133)), (A2_i64.mk (11) (134)), (A2_i64.mk (12) (135)), (A2_i64.mk (7) (136)), (A2_i64.mk (2) (137)), (A2_i64.mk (8) (138)), (A2_i64.mk (3) (139))] i_2).a1) imm_3), (A5_i64.mk ((gt [(A2_i64.mk (10) (128)), (A2_i64.mk (6) (129)), (A2_i64.mk (9) (130)), (A2_i64.mk (4) (132)), (A2_i64.mk (5) (133)), (A2_i64.mk (11) (134)), (A2_i64.mk (12) (135)), (A2_i64.mk (7) (136)), (A2_i64.mk (2) (137)), (A2_i64.mk (8) (138)), (A2_i64.mk (3) (139))] i_2).a0) (9) (1) (IntKind.wrap .i64 ((gt [(A2_i64.mk (10) (128)), (A2_i64.mk (6) (129)), (A2_i64.mk (9) (130)), (A2_i64.mk (4) (132)), (A2_i64.mk (5) (133)), (A2_i64.mk (11) (134)), (A2_i64.mk (12) (135)), (A2_i64.mk (7) (136)), (A2_i64.mk (2) (137)), (A2_i64.mk (8) (138)), (A2_i64.mk (3) (139))] i_2).a1 + 64)) imm_3)]⟩]) (by kernel_rfl) fun f21 hf21 => ?_
        refine ⟨(pend_ok hf (by kernel_rfl) (by kernel_rfl) trivial), ?_⟩
        refine lw_tight 1 (by kernel_rfl) ?_
        refine mops_end [0, 1, 2, 3, 4, 36, 37, 40, 41, 42, 43, 44, 45, 46, 47, 48, 49, 50, 51, 52, 53, 54, 55, 56, 57, 58, 59, 60, 61, 62, 63, 64, 65, 66, 67, 68] hf21 (l' := [⟨0, [], .ref 0 0 0 0⟩, ⟨1, [], .ref 1 (v_2 + 1) 0 (l_2 ++ [(A5_i64.mk ((gt [(A2_i64.mk (10) (128)), (A2_i64.mk (6) (129)), (A2_i64.mk (9) (130)), (A2_i64.mk (4) (132)), (A2_i64.mk (5) (133)), (A2_i64.mk (11) (134)), (A2_i64.mk (12) (135)), (A2_i64.mk (7) (136)), (A2_i64.mk (2) (137)), (A2_i64.mk (8) (138)), (A2_i64.mk (3) (139))] i_2).a0) (8) (1) ((gt [(A2_i64.mk (10) (128)), (A2_i64.mk (6) (129)), (A2_i64.mk (9) (130)), (A2_i64.mk (4) (132)), (A2_i64.mk (5) (133)), (A2_i64.mk (11) (134)), (A2_i64.mk (12) (135)), (A2_i64.mk (7) (136)), (A2_i64.mk (2) (137)), (A2_i64.mk (8) (138)), (A2_i64.mk (3) (139))] i_2).a1) imm_3), (A5_i64.mk ((gt [(A2_i64.mk (10) (128)), (A2_i64.mk (6) (129)), (A2_i64.mk (9) (130)), (A2_i64.mk (4) (132)), (A2_i64.mk (5) (133)), (A2_i64.mk (11) (134)), (A2_i64.mk (12) (135)), (A2_i64.mk (7) (136)), (A2_i64.mk (2) (137)), (A2_i64.mk (8) (138)), (A2_i64.mk (3) (139))] i_2).a0) (9) (1) (IntKind.wrap .i64 ((gt [(A2_i64.mk (10) (128)), (A2_i64.mk (6) (129)), (A2_i64.mk (9) (130)), (A2_i64.mk (4) (132)), (A2_i64.mk (5) (133)), (A2_i64.mk (11) (134)), (A2_i64.mk (12) (135)), (A2_i64.mk (7) (136)), (A2_i64.mk (2) (137)), (A2_i64.mk (8) (138)), (A2_i64.mk (3) (139))] i_2).a1 + 64)) imm_3)]).length⟩, ⟨2, [], .ptr 2 0 0⟩, ⟨3, [], .s (.int .i64 i_2)⟩, ⟨4, [], .s (.int .i64 imm_3)⟩, ⟨36, [], .s (.int .i64 i_2)⟩, ⟨37, [], .s (.bool (decide (i_2 < 11)))⟩, ⟨40, [], .s (.int .i64 i_2)⟩, ⟨41, [], .ptr 2 0 (0 + (i_2 : Int).toNat * 2)⟩, ⟨42, [], .ptr 2 0 (0 + (i_2 : Int).toNat * 2 + 0)⟩, ⟨43, [], .s (.int .i64 (gt [(A2_i64.mk (10) (128)), (A2_i64.mk (6) (129)), (A2_i64.mk (9) (130)), (A2_i64.mk (4) (132)), (A2_i64.mk (5) (133)), (A2_i64.mk (11) (134)), (A2_i64.mk (12) (135)), (A2_i64.mk (7) (136)), (A2_i64.mk (2) (137)), (A2_i64.mk (8) (138)), (A2_i64.mk (3) (139))] i_2).a0)⟩, ⟨44, [], .s (.bool ((gt [(A2_i64.mk (10) (128)), (A2_i64.mk (6) (129)), (A2_i64.mk (9) (130)), (A2_i64.mk (4) (132)), (A2_i64.mk (5) (133)), (A2_i64.mk (11) (134)), (A2_i64.mk (12) (135)), (A2_i64.mk (7) (136)), (A2_i64.mk (2) (137)), (A2_i64.mk (8) (138)), (A2_i64.mk (3) (139))] i_2).a0 == 12))⟩, ⟨45, [], .ref 1 v_2 0 m_2⟩, ⟨46, [], .s (.int .i64 i_2)⟩, ⟨47, [], .ptr 2 0 (0 + (i_2 : Int).toNat * 2)⟩, ⟨48, [], .ptr 2 0 (0 + (i_2 : Int).toNat * 2 + 0)⟩, ⟨49, [], .s (.int .i64 (gt [(A2_i64.mk (10) (128)), (A2_i64.mk (6) (129)), (A2_i64.mk (9) (130)), (A2_i64.mk (4) (132)), (A2_i64.mk (5) (133)), (A2_i64.mk (11) (134)), (A2_i64.mk (12) (135)), (A2_i64.mk (7) (136)), (A2_i64.mk (2) (137)), (A2_i64.mk (8) (138)), (A2_i64.mk (3) (139))] i_2).a0)⟩, ⟨50, [], .s (.int .i64 i_2)⟩, ⟨51, [], .ptr 2 0 (0 + (i_2 : Int).toNat * 2)⟩, ⟨52, [], .ptr 2 0 (0 + (i_2 : Int).toNat * 2 + 1)⟩, ⟨53, [], .s (.int .i64 (gt [(A2_i64.mk (10) (128)), (A2_i64.mk (6) (129)), (A2_i64.mk (9) (130)), (A2_i64.mk (4) (132)), (A2_i64.mk (5) (133)), (A2_i64.mk (11) (134)), (A2_i64.mk (12) (135)), (A2_i64.mk (7) (136)), (A2_i64.mk (2) (137)), (A2_i64.mk (8) (138)), (A2_i64.mk (3) (139))] i_2).a1)⟩, ⟨54, [], .s (.int .i64 imm_3)⟩, ⟨55, [], .agg [.s (.int .i64 (gt [(A2_i64.mk (10) (128)), (A2_i64.mk (6) (129)), (A2_i64.mk (9) (130)), (A2_i64.mk (4) (132)), (A2_i64.mk (5) (133)), (A2_i64.mk (11) (134)), (A2_i64.mk (12) (135)), (A2_i64.mk (7) (136)), (A2_i64.mk (2) (137)), (A2_i64.mk (8) (138)), (A2_i64.mk (3) (139))] i_2).a0), .s (.int .i64 8), .s (.int .i64 1), .s (.int .i64 (gt [(A2_i64.mk (10) (128)), (A2_i64.mk (6) (129)), (A2_i64.mk (9) (130)), (A2_i64.mk (4) (132)), (A2_i64.mk (5) (133)), (A2_i64.mk (11) (134)), (A2_i64.mk (12) (135)), (A2_i64.mk (7) (136)), (A2_i64.mk (2) (137)), (A2_i64.mk (8) (138)), (A2_i64.mk (3) (139))] i_2).a1), .s (.int .i64 imm_3)]⟩, ⟨56, [], .s (.int .i64 i_2)⟩, ⟨57, [], .ptr 2 0 (0 + (i_2 : Int).toNat * 2)⟩, ⟨58, [], .ptr 2 0 (0 + (i_2 : Int).toNat * 2 + 0)⟩, ⟨59, [], .s (.int .i64 (gt [(A2_i64.mk (10) (128)), (A2_i64.mk (6) (129)), (A2_i64.mk (9) (130)), (A2_i64.mk (4) (132)), (A2_i64.mk (5) (133)), (A2_i64.mk (11) (134)), (A2_i64.mk (12) (135)), (A2_i64.mk (7) (136)), (A2_i64.mk (2) (137)), (A2_i64.mk (8) (138)), (A2_i64.mk (3) (139))] i_2).a0)⟩, ⟨60, [], .s (.int .i64 i_2)⟩, ⟨61, [], .ptr 2 0 (0 + (i_2 : Int).toNat * 2)⟩, ⟨62, [], .ptr 2 0 (0 + (i_2 : Int).toNat * 2 + 1)⟩, ⟨63, [], .s (.int .i64 (gt [(A2_i64.mk (10) (128)), (A2_i64.mk (6) (129)), (A2_i64.mk (9) (130)), (A2_i64.mk (4) (132)), (A2_i64.mk (5) (133)), (A2_i64.mk (11) (134)), (A2_i64.mk (12) (135)), (A2_i64.mk (7) (136)), (A2_i64.mk (2) (137)), (A2_i64.mk (8) (138)), (A2_i64.mk (3) (139))] i_2).a1)⟩, ⟨64, [], .s (.int .i64 (IntKind.wrap .i64 ((gt [(A2_i64.mk (10) (128)), (A2_i64.mk (6) (129)), (A2_i64.mk (9) (130)), (A2_i64.mk (4) (132)), (A2_i64.mk (5) (133)), (A2_i64.mk (11) (134)), (A2_i64.mk (12) (135)), (A2_i64.mk (7) (136)), (A2_i64.mk (2) (137)), (A2_i64.mk (8) (138)), (A2_i64.mk (3) (139))] i_2).a1 + 64)))⟩, ⟨65, [], .s (.int .i64 imm_3)⟩, ⟨66, [], .agg [.s (.int .i64 (gt [(A2_i64.mk (10) (128)), (A2_i64.mk (6) (129)), (A2_i64.mk (9) (130)), (A2_i64.mk (4) (132)), (A2_i64.mk (5) (133)), (A2_i64.mk (11) (134)), (A2_i64.mk (12) (135)), (A2_i64.mk (7) (136)), (A2_i64.mk (2) (137)), (A2_i64.mk (8) (138)), (A2_i64.mk (3) (139))] i_2).a0), .s (.int .i64 9), .s (.int .i64 1), .s (.int .i64 (IntKind.wrap .i64 ((gt [(A2_i64.mk (10) (128)), (A2_i64.mk (6) (129)), (A2_i64.mk (9) (130)), (A2_i64.mk (4) (132)), (A2_i64.mk (5) (133)), (A2_i64.mk (11) (134)), (A2_i64.mk (12) (135)), (A2_i64.mk (7) (136)), (A2_i64.mk (2) (137)), (A2_i64.mk (8) (138)), (A2_i64.mk (3) (139))] i_2).a1 + 64))), .s (.int .i64 imm_3)]⟩, ⟨67, [], .ref 3 0 0 2⟩, ⟨68, [], .ref 1 (v_2 + 1) 0 (l_2 ++ [(A5_i64.mk ((gt [(A2_i64.mk (10) (128)), (A2_i64.mk (6) (129)), (A2_i64.mk (9) (130)), (A2_i64.mk (4) (132)), (A2_i64.mk (5) (133)), (A2_i64.mk (11) (134)), (A2_i64.mk (12) (135)), (A2_i64.mk (7) (136)), (A2_i64.mk (2) (137)), (A2_i64.mk (8) (138)), (A2_i64.mk (3) (139))] i_2).a0) (8) (1) ((gt [(A2_i64.mk (10) (128)), (A2_i64.mk (6) (129)), (A2_i64.mk (9) (130)), (A2_i64.mk (4) (132)), (A2_i64.mk (5) (133)), (A2_i64.mk (11) (134)), (A2_i64.mk (12) (135)), (A2_i64.mk (7) (136)), (A2_i64.mk (2) (137)), (A2_i64.mk (8) (138)), (A2_i64.mk (3) (139))] i_2).a1) imm_3), (A5_i64.mk ((gt [(A2_i64.mk (10) (128)), (A2_i64.mk (6) (129)), (A2_i64.mk (9) (130)), (A2_i64.mk (4) (132)), (A2_i64.mk (5) (133)), (A2_i64.mk (11) (134)), (A2_i64.mk (12) (135)), (A2_i64.mk (7) (136)), (A2_i64.mk (2) (137)), (A2_i64.mk (8) (138)), (A2_i64.mk (3) (139))] i_2).a0) (9) (1) (IntKind.wrap .i64 ((gt [(A2_i64.mk (10) (128)), (A2_i64.mk (6) (129)), (A2_i64.mk (9) (130)), (A2_i64.mk (4) (132)), (A2_i64.mk (5) (133)), (A2_i64.mk (11) (134)), (A2_i64.mk (12) (135)), (A2_i64.mk (7) (136)), (A2_i64.mk (2) (137)), (A2_i64.mk (8) (138)), (A2_i64.mk (3) (139))] i_2).a1 + 64)) imm_3)]).length⟩]) (L' := [⟨0, .grow, 5, cat A5_i64.v ([] : List A5_i64)⟩, ⟨(v_2 + 1), .grow, 5, cat A5_i64.v (l_2 ++ [(A5_i64.mk ((gt [(A2_i64.mk (10) (128)), (A2_i64.mk (6) (129)), (A2_i64.mk (9) (130)), (A2_i64.mk (4) (132)), (A2_i64.mk (5) (133)), (A2_i64.mk (11) (134)), (A2_i64.mk (12) (135)), (A2_i64.mk (7) (136)), (A2_i64.mk (2) (137)), (A2_i64.mk (8) (138)), (A2_i64.mk (3) (139))] i_2).a0) (8) (1) ((gt [(A2_i64.mk (10) (128)), (A2_i64.mk (6) (129)), (A2_i64.mk (9) (130)), (A2_i64.mk (4) (132)), (A2_i64.mk (5) (133)), (A2_i64.mk (11) (134)), (A2_i64.mk (12) (135)), (A2_i64.mk (7) (136)), (A2_i64.mk (2) (137)), (A2_i64.mk (8) (138)), (A2_i64.mk (3) (139))] i_2).a1) imm_3), (A5_i64.mk ((gt [(A2_i64.mk (10) (128)), (A2_i64.mk (6) (129)), (A2_i64.mk (9) (130)), (A2_i64.mk (4) (132)), (A2_i64.mk (5) (133)), (A2_i64.mk (11) (134)), (A2_i64.mk (12) (135)), (A2_i64.mk (7) (136)), (A2_i64.mk (2) (137)), (A2_i64.mk (8) (138)), (A2_i64.mk (3) (139))] i_2).a0) (9) (1) (IntKind.wrap .i64 ((gt [(A2_i64.mk (10) (128)), (A2_i64.mk (6) (129)), (A2_i64.mk (9) (130)), (A2_i64.mk (4) (132)), (A2_i64.mk (5) (133)), (A2_i64.mk (11) (134)), (A2_i64.mk (12) (135)), (A2_i64.mk (7) (136)), (A2_i64.mk (2) (137)), (A2_i64.mk (8) (138)), (A2_i64.mk (3) (139))] i_2).a1 + 64)) imm_3)])⟩, ⟨0, .mem, 1, cat A2_i64.v [(A2_i64.mk (10) (128)), (A2_i64.mk (6) (129)), (A2_i64.mk (9) (130)), (A2_i64.mk (4) (132)), (A2_i64.mk (5) (133)), (A2_i64.mk (11) (134)), (A2_i64.mk (12) (135)), (A2_i64.mk (7) (136)), (A2_i64.mk (2) (137)), (A2_i64.mk (8) (138)), (A2_i64.mk (3) (139))]⟩, ⟨0, .grow, 5, cat A5_i64.v [(A5_i64.mk ((gt [(A2_i64.mk (10) (128)), (A2_i64.mk (6) (129)), (A2_i64.mk (9) (130)), (A2_i64.mk (4) (132)), (A2_i64.mk (5) (133)), (A2_i64.mk (11) (134)), (A2_i64.mk (12) (135)), (A2_i64.mk (7) (136)), (A2_i64.mk (2) (137)), (A2_i64.mk (8) (138)), (A2_i64.mk (3) (139))] i_2).a0) (8) (1) ((gt [(A2_i64.mk (10) (128)), (A2_i64.mk (6) (129)), (A2_i64.mk (9) (130)), (A2_i64.mk (4) (132)), (A2_i64.mk (5) (133)), (A2_i64.mk (11) (134)), (A2_i64.mk (12) (135)), (A2_i64.mk (7) (136)), (A2_i64.mk (2) (137)), (A2_i64.mk (8) (138)), (A2_i64.mk (3) (139))] i_2).a1) imm_3), (A5_i64.mk ((gt [(A2_i64.mk (10) (128)), (A2_i64.mk (6) (129)), (A2_i64.mk (9) (130)), (A2_i64.mk (4) (132)), (A2_i64.mk (5) (133)), (A2_i64.mk (11) (134)), (A2_i64.mk (12) (135)), (A2_i64.mk (7) (136)), (A2_i64.mk (2) (137)), (A2_i64.mk (8) (138)), (A2_i64.mk (3) (139))] i_2).a0) (9) (1) (IntKind.wrap .i64 ((gt [(A2_i64.mk (10) (128)), (A2_i64.mk (6) (129)), (A2_i64.mk (9) (130)), (A2_i64.mk (4) (132)), (A2_i64.mk (5) (133)), (A2_i64.mk (11) (134)), (A2_i64.mk (12) (135)), (A2_i64.mk (7) (136)), (A2_i64.mk (2) (137)), (A2_i64.mk (8) (138)), (A2_i64.mk (3) (139))] i_2).a1 + 64)) imm_3)]⟩]) (by kernel_rfl) fun f22 hf22 => ?_
        intro _
        refine lw_end (by kernel_rfl) ?_
        refine k_b ?_
        refine k_c ?_
        refine k_reg ?_
        refine mops_en hf22 (by kernel_rfl) fun f23 hf23 => ?_
        refine k_l' (vs_cut (l := [⟨0, [], .ref 0 0 0 0⟩, ⟨1, [], .ref 1 (v_2 + 1) 0 (l_2 ++ [(A5_i64.mk ((gt [(A2_i64.mk (10) (128)), (A2_i64.mk (6) (129)), (A2_i64.mk (9) (130)), (A2_i64.mk (4) (132)), (A2_i64.mk (5) (133)), (A2_i64.mk (11) (134)), (A2_i64.mk (12) (135)), (A2_i64.mk (7) (136)), (A2_i64.mk (2) (137)), (A2_i64.mk (8) (138)), (A2_i64.mk (3) (139))] i_2).a0) (8) (1) ((gt [(A2_i64.mk (10) (128)), (A2_i64.mk (6) (129)), (A2_i64.mk (9) (130)), (A2_i64.mk (4) (132)), (A2_i64.mk (5) (133)), (A2_i64.mk (11) (134)), (A2_i64.mk (12) (135)), (A2_i64.mk (7) (136)), (A2_i64.mk (2) (137)), (A2_i64.mk (8) (138)), (A2_i64.mk (3) (139))] i_2).a1) imm_3), (A5_i64.mk ((gt [(A2_i64.mk (10) (128)), (A2_i64.mk (6) (129)), (A2_i64.mk (9) (130)), (A2_i64.mk (4) (132)), (A2_i64.mk (5) (133)), (A2_i64.mk (11) (134)), (A2_i64.mk (12) (135)), (A2_i64.mk (7) (136)), (A2_i64.mk (2) (137)), (A2_i64.mk (8) (138)), (A2_i64.mk (3) (139))] i_2).a0) (9) (1) (IntKind.wrap .i64 ((gt [(A2_i64.mk (10) (128)), (A2_i64.mk (6) (129)), (A2_i64.mk (9) (130)), (A2_i64.mk (4) (132)), (A2_i64.mk (5) (133)), (A2_i64.mk (11) (134)), (A2_i64.mk (12) (135)), (A2_i64.mk (7) (136)), (A2_i64.mk (2) (137)), (A2_i64.mk (8) (138)), (A2_i64.mk (3) (139))] i_2).a1 + 64)) imm_3)]).length⟩, ⟨2, [], .ptr 2 0 0⟩, ⟨3, [], .s (.int .i64 (IntKind.wrap .i64 (i_2 + 1)))⟩]) 3 (by kernel_rfl) (by kernel_rfl) (L' := [⟨0, .grow, 5, cat A5_i64.v ([] : List A5_i64)⟩, ⟨(v_2 + 1), .grow, 5, cat A5_i64.v (l_2 ++ [(A5_i64.mk ((gt [(A2_i64.mk (10) (128)), (A2_i64.mk (6) (129)), (A2_i64.mk (9) (130)), (A2_i64.mk (4) (132)), (A2_i64.mk (5) (133)), (A2_i64.mk (11) (134)), (A2_i64.mk (12) (135)), (A2_i64.mk (7) (136)), (A2_i64.mk (2) (137)), (A2_i64.mk (8) (138)), (A2_i64.mk (3) (139))] i_2).a0) (8) (1) ((gt [(A2_i64.mk (10) (128)), (A2_i64.mk (6) (129)), (A2_i64.mk (9) (130)), (A2_i64.mk (4) (132)), (A2_i64.mk (5) (133)), (A2_i64.mk (11) (134)), (A2_i64.mk (12) (135)), (A2_i64.mk (7) (136)), (A2_i64.mk (2) (137)), (A2_i64.mk (8) (138)), (A2_i64.mk (3) (139))] i_2).a1) imm_3), (A5_i64.mk ((gt [(A2_i64.mk (10) (128)), (A2_i64.mk (6) (129)), (A2_i64.mk (9) (130)), (A2_i64.mk (4) (132)), (A2_i64.mk (5) (133)), (A2_i64.mk (11) (134)), (A2_i64.mk (12) (135)), (A2_i64.mk (7) (136)), (A2_i64.mk (2) (137)), (A2_i64.mk (8) (138)), (A2_i64.mk (3) (139))] i_2).a0) (9) (1) (IntKind.wrap .i64 ((gt [(A2_i64.mk (10) (128)), (A2_i64.mk (6) (129)), (A2_i64.mk (9) (130)), (A2_i64.mk (4) (132)), (A2_i64.mk (5) (133)), (A2_i64.mk (11) (134)), (A2_i64.mk (12) (135)), (A2_i64.mk (7) (136)), (A2_i64.mk (2) (137)), (A2_i64.mk (8) (138)), (A2_i64.mk (3) (139))] i_2).a1 + 64)) imm_3)])⟩, ⟨0, .mem, 1, cat A2_i64.v [(A2_i64.mk (10) (128)), (A2_i64.mk (6) (129)), (A2_i64.mk (9) (130)), (A2_i64.mk (4) (132)), (A2_i64.mk (5) (133)), (A2_i64.mk (11) (134)), (A2_i64.mk (12) (135)), (A2_i64.mk (7) (136)), (A2_i64.mk (2) (137)), (A2_i64.mk (8) (138)), (A2_i64.mk (3) (139))]⟩]) (by kernel_rfl) ⟨⟨rfl, rfl⟩, ⟨rfl, rfl⟩, ⟨rfl, rfl⟩, ⟨rfl, rfl⟩, trivial⟩ ⟨.inr (.inr (statics_unders _ _ (cat_stat _))), .inr (.inr (statics_unders _ _ (cat_stat _))), .inr (.inr (statics_unders _ _ (cat_stat _))), trivial⟩ (FOk_of [0, 1, 2, 3] hf23 (by kernel_rfl)) fun f hf => ?_)
        exact ih _ _ ⟨(l_2 ++ [(A5_i64.mk ((gt [(A2_i64.mk (10) (128)), (A2_i64.mk (6) (129)), (A2_i64.mk (9) (130)), (A2_i64.mk (4) (132)), (A2_i64.mk (5) (133)), (A2_i64.mk (11) (134)), (A2_i64.mk (12) (135)), (A2_i64.mk (7) (136)), (A2_i64.mk (2) (137)), (A2_i64.mk (8) (138)), (A2_i64.mk (3) (139))] i_2).a0) (8) (1) ((gt [(A2_i64.mk (10) (128)), (A2_i64.mk (6) (129)), (A2_i64.mk (9) (130)), (A2_i64.mk (4) (132)), (A2_i64.mk (5) (133)), (A2_i64.mk (11) (134)), (A2_i64.mk (12) (135)), (A2_i64.mk (7) (136)), (A2_i64.mk (2) (137)), (A2_i64.mk (8) (138)), (A2_i64.mk (3) (139))] i_2).a1) imm_3), (A5_i64.mk ((gt [(A2_i64.mk (10) (128)), (A2_i64.mk (6) (129)), (A2_i64.mk (9) (130)), (A2_i64.mk (4) (132)), (A2_i64.mk (5) (133)), (A2_i64.mk (11) (134)), (A2_i64.mk (12) (135)), (A2_i64.mk (7) (136)), (A2_i64.mk (2) (137)), (A2_i64.mk (8) (138)), (A2_i64.mk (3) (139))] i_2).a0) (9) (1) (IntKind.wrap .i64 ((gt [(A2_i64.mk (10) (128)), (A2_i64.mk (6) (129)), (A2_i64.mk (9) (130)), (A2_i64.mk (4) (132)), (A2_i64.mk (5) (133)), (A2_i64.mk (11) (134)), (A2_i64.mk (12) (135)), (A2_i64.mk (7) (136)), (A2_i64.mk (2) (137)), (A2_i64.mk (8) (138)), (A2_i64.mk (3) (139))] i_2).a1 + 64)) imm_3)]), (IntKind.wrap .i64 (i_2 + 1)), (v_2 + 1), ((l_2 ++ [(A5_i64.mk ((gt [(A2_i64.mk (10) (128)), (A2_i64.mk (6) (129)), (A2_i64.mk (9) (130)), (A2_i64.mk (4) (132)), (A2_i64.mk (5) (133)), (A2_i64.mk (11) (134)), (A2_i64.mk (12) (135)), (A2_i64.mk (7) (136)), (A2_i64.mk (2) (137)), (A2_i64.mk (8) (138)), (A2_i64.mk (3) (139))] i_2).a0) (8) (1) ((gt [(A2_i64.mk (10) (128)), (A2_i64.mk (6) (129)), (A2_i64.mk (9) (130)), (A2_i64.mk (4) (132)), (A2_i64.mk (5) (133)), (A2_i64.mk (11) (134)), (A2_i64.mk (12) (135)), (A2_i64.mk (7) (136)), (A2_i64.mk (2) (137)), (A2_i64.mk (8) (138)), (A2_i64.mk (3) (139))] i_2).a1) imm_3), (A5_i64.mk ((gt [(A2_i64.mk (10) (128)), (A2_i64.mk (6) (129)), (A2_i64.mk (9) (130)), (A2_i64.mk (4) (132)), (A2_i64.mk (5) (133)), (A2_i64.mk (11) (134)), (A2_i64.mk (12) (135)), (A2_i64.mk (7) (136)), (A2_i64.mk (2) (137)), (A2_i64.mk (8) (138)), (A2_i64.mk (3) (139))] i_2).a0) (9) (1) (IntKind.wrap .i64 ((gt [(A2_i64.mk (10) (128)), (A2_i64.mk (6) (129)), (A2_i64.mk (9) (130)), (A2_i64.mk (4) (132)), (A2_i64.mk (5) (133)), (A2_i64.mk (11) (134)), (A2_i64.mk (12) (135)), (A2_i64.mk (7) (136)), (A2_i64.mk (2) (137)), (A2_i64.mk (8) (138)), (A2_i64.mk (3) (139))] i_2).a1 + 64)) imm_3)]).length), rfl, h, hf, rfl⟩
      refine k_cond hf7 (t := ((gt [(A2_i64.mk (10) (128)), (A2_i64.mk (6) (129)), (A2_i64.mk (9) (130)), (A2_i64.mk (4) (132)), (A2_i64.mk (5) (133)), (A2_i64.mk (11) (134)), (A2_i64.mk (12) (135)), (A2_i64.mk (7) (136)), (A2_i64.mk (2) (137)), (A2_i64.mk (8) (138)), (A2_i64.mk (3) (139))] i_2).a0 == 12)) (by kernel_rfl) (fun hc3 => ?_) (fun hc3 => ?_)
      · have h := if_t h hc3
        refine k_reg ?_
        refine mops_en hf7 (by kernel_rfl) fun f8 hf8 => ?_
        refine k_hp (L' := [⟨0, .grow, 5, cat A5_i64.v ([] : List A5_i64)⟩, ⟨v_2, .grow, 5, cat A5_i64.v l_2⟩, ⟨0, .mem, 1, cat A2_i64.v [(A2_i64.mk (10) (128)), (A2_i64.mk (6) (129)), (A2_i64.mk (9) (130)), (A2_i64.mk (4) (132)), (A2_i64.mk (5) (133)), (A2_i64.mk (11) (134)), (A2_i64.mk (12) (135)), (A2_i64.mk (7) (136)), (A2_i64.mk (2) (137)), (A2_i64.mk (8) (138)), (A2_i64.mk (3) (139))]⟩]) (by kernel_rfl) ?_
        exact hj1 (0) h _ (FOk_of [0, 1, 2, 3, 4, 36, 37, 40, 41, 42, 43, 44] hf8 (by kernel_rfl))
      · have h := if_f h hc3
        refine k_skip ?_
        refine k_hp (L' := [⟨0, .grow, 5, cat A5_i64.v ([] : List A5_i64)⟩, ⟨v_2, .grow, 5, cat A5_i64.v l_2⟩, ⟨0, .mem, 1, cat A2_i64.v [(A2_i64.mk (10) (128)), (A2_i64.mk (6) (129)), (A2_i64.mk (9) (130)), (A2_i64.mk (4) (132)), (A2_i64.mk (5) (133)), (A2_i64.mk (11) (134)), (A2_i64.mk (12) (135)), (A2_i64.mk (7) (136)), (A2_i64.mk (2) (137)), (A2_i64.mk (8) (138)), (A2_i64.mk (3) (139))]⟩]) (by kernel_rfl) ?_
        exact hj1 (1) h _ (FOk_of [0, 1, 2, 3, 4, 36, 37, 40, 41, 42, 43, 44] hf7 (by kernel_rfl))
    · have h := if_f h hc1
      refine k_exit ?_
      refine x_c nofun ?_
      refine x_l nofun ?_
      refine x_b ?_
      refine k_hp (L' := [⟨0, .grow, 5, cat A5_i64.v ([] : List A5_i64)⟩, ⟨v_2, .grow, 5, cat A5_i64.v l_2⟩, ⟨0, .mem, 1, cat A2_i64.v [(A2_i64.mk (10) (128)), (A2_i64.mk (6) (129)), (A2_i64.mk (9) (130)), (A2_i64.mk (4) (132)), (A2_i64.mk (5) (133)), (A2_i64.mk (11) (134)), (A2_i64.mk (12) (135)), (A2_i64.mk (7) (136)), (A2_i64.mk (2) (137)), (A2_i64.mk (8) (138)), (A2_i64.mk (3) (139))]⟩]) (by kernel_rfl) ?_
      exact hgo0 l_2 v_2 m_2 hn_2 (Option.some.inj h) _ (FOk_of [0, 1] hf1 (by kernel_rfl))
end Go.Proofs.YtmabdijipkmmkaaK
