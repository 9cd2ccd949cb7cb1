/- The Go functions come to the functions over typed data. Printed by a program of this work. -/
import Derived.Test.YtfdadnldlngmeaaF
import Derived.Test.YtfdadnldlngmeaaProg
import Derived.Test.YtfdadnldlngmeaaG0
import Derived.Test.YtfdadnldlngmeaaG1
namespace Go.Proofs.YtfdadnldlngmeaaK
set_option linter.unusedVariables false
set_option linter.unusedSimpArgs false
set_option maxHeartbeats 4000000
open Go.RowKit
attribute [local irreducible] dwv mops lops lqops lwops kont iter run runK rk okK ex E1 vals val chain chB sel resF
def record_Text_i0 : List Op1 := [(oE 1 (.box (.t 0)) []), (oM 2 (.k (.string ⟨#[]⟩)) [])]
def record_Text_i1 : List An := [(aO (oE 6 (.fld 0 (.t 1)) []) false 0 0), (aO (oE 7 (.load false 1 (.t 6)) [0]) false 0 0), (aO (oE 8 (.cint .u64 (.t 7)) [1]) false 0 0), (aO (oC 9 58 [(.t 8), (.k (.int .i64 4))] [2]) false 0 0), (aO (oE 10 (.bin .add (.t 9) (.k (.string ⟨#[32]⟩))) [3]) false 0 0), (aO (oE 11 (.fld 1 (.t 1)) []) false 0 0), (aO (oE 12 (.load false 1 (.t 11)) [5]) false 0 0), (aO (oE 13 (.bsl 1 [(.int .u8 0)] [(0, (1, (.t 12)))]) [6]) false 0 0), (aO (oC 14 35 [(.t 13)] [7, 3]) false 0 0), (aO (oE 15 (.bin .add (.t 10) (.t 14)) [4, 8]) false 0 0), (aO (oE 16 (.bin .add (.t 15) (.k (.string ⟨#[32, 87, 32, 45, 45, 45, 45, 45, 32, 45]⟩))) [9]) false 0 0), (aO (oE 17 (.strb (.t 16)) [10]) true 0 1), (aO (oM 3 (.t 17) [11, 8, 0, 1, 2, 3, 4, 5, 6, 7, 8, 9, 10, 11]) false 1 1)]
def record_Text_i2 : List Op1 := [(oE 18 (.load true 9 (.t 1)) []), (oC 19 59 [(.t 18)] [0]), (oM 20 (.k (.int .i64 0)) [])]
def record_Text_i3 : List Op1 := [(oE 21 (.bin .lss (.t 20) (.k (.int .i64 7))) [])]
def record_Text_i4 : List Op1 := [(oM 22 (.t 20) []), (oE 23 (.ixa false 7 1 (.t 19) (.t 20)) []), (oM 4 (.t 22) [0, 0, 1]), (oM 5 (.t 23) [1, 2, 0, 1, 2])]
def record_Text_i5 : List Op1 := [(oM 32 (.t 5) []), (oE 33 (.un .not (.t 32)) [0]), (oM 31 (.t 33) [1])]
def record_Text_i6 : List Op1 := [(oM 35 (.t 4) []), (oE 36 (.bin .eql (.t 35) (.k (.int .i64 0))) [0]), (oM 34 (.t 36) [1])]
def record_Text_i7 : List Op1 := [(oM 37 (.t 3) []), (oE 38 (.ias 1 (.t 37) (.k (.int .i64 8))) [0, 0]), (oN (.store 1 (.t 38) (.k (.int .u8 82))) [1, 0])]
def record_Text_i8 : List Op1 := [(oM 40 (.t 4) []), (oE 41 (.bin .eql (.t 40) (.k (.int .i64 6))) [0]), (oM 39 (.t 41) [1])]
def record_Text_i9 : List Op1 := [(oM 42 (.t 3) []), (oE 43 (.ias 1 (.t 42) (.k (.int .i64 16))) [0, 0]), (oN (.store 1 (.t 43) (.k (.int .u8 77))) [1, 0])]
def record_Text_i10 : List Op1 := [(oM 24 (.t 3) []), (oM 25 (.t 4) []), (oE 26 (.bin .add (.k (.int .i64 9)) (.t 25)) [1]), (oM 27 (.t 4) []), (oE 28 (.bin .sub (.t 27) (.k (.int .i64 1))) [3]), (oE 29 (.ixs (.k (.string ⟨#[65, 83, 76, 86, 66]⟩)) (.t 28)) [4]), (oE 30 (.ias 1 (.t 24) (.t 26)) [0, 2, 0, 1, 2, 3, 4, 5]), (oN (.store 1 (.t 30) (.t 29)) [6, 5, 0, 1, 2, 3, 4, 5])]
def record_Text_i11 : IR := (.cond (.t 39) (.reg false record_Text_i9) (.reg false record_Text_i10))
def record_Text_i12 : IR := (.cond (.t 34) (.reg false record_Text_i7) (.seq (.reg false record_Text_i8) record_Text_i11))
def record_Text_i13 : IR := (.cond (.t 31) .skip (.seq (.reg false record_Text_i6) record_Text_i12))
def record_Text_i14 : IR := (.block 2 (.seq (.reg false record_Text_i5) record_Text_i13))
def record_Text_i15 : List Op1 := [(oE 44 (.bin .add (.t 20) (.k (.int .i64 1))) []), (oM 20 (.t 44) [0])]
def record_Text_i16 : IR := (.reg false record_Text_i15)
def record_Text_i17 : IR := (.seq (.block 1 (.seq (.reg false record_Text_i4) record_Text_i14)) record_Text_i16)
def record_Text_i18 : IR := (.seq (.cond (.t 21) .skip (.exit 0)) record_Text_i17)
def record_Text_i19 : IR := (.seq (.reg false record_Text_i3) record_Text_i18)
def record_Text_i20 : IR := (.block 0 (.loop record_Text_i19))
def record_Text_i21 : List Op1 := [(oM 45 (.t 3) []), (oE 46 (.bstr (.t 45)) [0]), (oM 2 (.t 46) [1, 0, 1])]
def record_Text_i22 : IR := .ret
def record_Text_i23 : IR := (.seq (.reg false record_Text_i21) record_Text_i22)
def record_Text_i24 : IR := (.seq (.seq (.reg false record_Text_i2) record_Text_i20) record_Text_i23)
def record_Text_i25 : IR := (.seq (.regw record_Text_i1) record_Text_i24)
def record_Text_ir : IR := (.seq (.reg false record_Text_i0) record_Text_i25)
theorem record_Text_cfn : cFn Try.prog 52 = some (record_Text_ir, [(.t 2)], 47) := by kernel_rfl
def record_Text_V (r : (ByteArray)) : V := .s (.string r)
def record_Text_C (r : (ByteArray)) : X → Fr → Hp → Prop := FinL [(.t 2)] [] (record_Text_V r) []
theorem record_Text_ok (r_ : api_Rec) (r : (ByteArray)) (h : record_Text r_ = some r) : Pure Try.prog 52 [.agg [.s (.int .u16 r_.Addr), .s (.int .u8 r_.Data), .s (.bool r_.Read), .s (.bool r_.BA), .s (.bool r_.BS), .s (.bool r_.LIC), .s (.bool r_.AVMA), .s (.bool r_.BUSY), .s (.bool r_.Mine)]] (record_Text_V r) := by
  refine ConL.of record_Text_cfn (Nat.le_of_ble_eq_true (by kernel_rfl)) (Nat.le_of_ble_eq_true (by kernel_rfl)) ?_
  refine k_start ?_
  show dwv Try.prog [] record_Text_ir (kont Try.prog [] (record_Text_C r) []) (fr0 [.agg [.s (.int .u16 r_.Addr), .s (.int .u8 r_.Data), .s (.bool r_.Read), .s (.bool r_.BA), .s (.bool r_.BS), .s (.bool r_.LIC), .s (.bool r_.AVMA), .s (.bool r_.BUSY), .s (.bool r_.Mine)]]) []
  have hf : FOk (fr0 [.agg [.s (.int .u16 r_.Addr), .s (.int .u8 r_.Data), .s (.bool r_.Read), .s (.bool r_.BA), .s (.bool r_.BS), .s (.bool r_.LIC), .s (.bool r_.AVMA), .s (.bool r_.BUSY), .s (.bool r_.Mine)]]) [⟨0, [], .agg [.s (.int .u16 r_.Addr), .s (.int .u8 r_.Data), .s (.bool r_.Read), .s (.bool r_.BA), .s (.bool r_.BS), .s (.bool r_.LIC), .s (.bool r_.AVMA), .s (.bool r_.BUSY), .s (.bool r_.Mine)]⟩] := ⟨⟨fun _ => rfl, fun h => (h trivial).elim⟩, trivial⟩
  generalize fr0 [.agg [.s (.int .u16 r_.Addr), .s (.int .u8 r_.Data), .s (.bool r_.Read), .s (.bool r_.BA), .s (.bool r_.BS), .s (.bool r_.LIC), .s (.bool r_.AVMA), .s (.bool r_.BUSY), .s (.bool r_.Mine)]] = f at hf ⊢
  unfold record_Text at h
  refine k_seq ?_
  refine k_reg ?_
  refine mops_en hf (by kernel_rfl) fun f1 hf1 => ?_
  refine k_c ?_
  refine k_seq ?_
  refine k_regw ?_
  refine lw_tight 11 (by kernel_rfl) ?_
  refine mops_seg [1, 2, 8] 3 hf1 (l' := [⟨1, [], .ptr 0 0 0⟩, ⟨2, [], .s (.string (⟨#[]⟩ : ByteArray))⟩, ⟨8, [], .s (.int .u64 (IntKind.wrap .u64 r_.Addr))⟩]) (L' := [⟨0, .mem, 1, [.s (.int .u16 r_.Addr), .s (.int .u8 r_.Data), .s (.bool r_.Read), .s (.bool r_.BA), .s (.bool r_.BS), .s (.bool r_.LIC), .s (.bool r_.AVMA), .s (.bool r_.BUSY), .s (.bool r_.Mine)]⟩]) (by kernel_rfl) fun f2 hf2 => ?_
  obtain ⟨r_1, hx_r_1, h⟩ := Option.bind_eq_some_iff.1 h
  refine mops_call rfl hf2 (av := [.s (.int .u64 (IntKind.wrap .u64 r_.Addr)), .s (.int .i64 4)]) (by kernel_rfl) (v := .s (.string r_1)) (CalL.pure (digit_Hex_ok (IntKind.wrap .u64 r_.Addr) (4) r_1 hx_r_1) rfl rfl (Nat.le_of_ble_eq_true (by kernel_rfl))) (fun _ => rfl) fun f3 hf3 => ?_
  obtain ⟨c1, h⟩ := as_ok h
  refine mops_adv rfl (v := .s (.string (r_1 ++ (⟨#[32]⟩ : ByteArray)))) hf3 (by kernel_rfl) (e_sadd (t := r_1) (t' := (⟨#[32]⟩ : ByteArray)) (by kernel_rfl) (by kernel_rfl) c1) fun f4 hf4 => ?_
  refine mops_seg [1, 2, 10, 13] 3 hf4 (l' := [⟨1, [], .ptr 0 0 0⟩, ⟨2, [], .s (.string (⟨#[]⟩ : ByteArray))⟩, ⟨10, [], .s (.string (r_1 ++ (⟨#[32]⟩ : ByteArray)))⟩, ⟨13, [], .sl true 1 [.s (.int .u8 r_.Data)]⟩]) (L' := [⟨0, .mem, 1, [.s (.int .u16 r_.Addr), .s (.int .u8 r_.Data), .s (.bool r_.Read), .s (.bool r_.BA), .s (.bool r_.BS), .s (.bool r_.LIC), .s (.bool r_.AVMA), .s (.bool r_.BUSY), .s (.bool r_.Mine)]⟩]) (by kernel_rfl) fun f5 hf5 => ?_
  obtain ⟨r_2, hx_r_2, h⟩ := Option.bind_eq_some_iff.1 h
  refine mops_call rfl hf5 (av := [.sl true [r_.Data].length (cat (nI .u8) [r_.Data])]) (by kernel_rfl) (v := .s (.string r_2)) (CalL.purew (digit_Pairs_ok [r_.Data] r_2 hx_r_2) (Wks.cons Wk.slf Wks.nil) (by simp [V.static, statics, cat_stat]) rfl (by kernel_rfl)) (fun _ => rfl) fun f6 hf6 => ?_
  obtain ⟨c2, h⟩ := as_ok h
  refine mops_adv rfl (v := .s (.string ((r_1 ++ (⟨#[32]⟩ : ByteArray)) ++ r_2))) hf6 (by kernel_rfl) (e_sadd (t := (r_1 ++ (⟨#[32]⟩ : ByteArray))) (t' := r_2) (by kernel_rfl) (by kernel_rfl) c2) fun f7 hf7 => ?_
  obtain ⟨c3, h⟩ := as_ok h
  refine mops_adv rfl (v := .s (.string (((r_1 ++ (⟨#[32]⟩ : ByteArray)) ++ r_2) ++ (⟨#[32, 87, 32, 45, 45, 45, 45, 45, 32, 45]⟩ : ByteArray)))) hf7 (by kernel_rfl) (e_sadd (t := ((r_1 ++ (⟨#[32]⟩ : ByteArray)) ++ r_2)) (t' := (⟨#[32, 87, 32, 45, 45, 45, 45, 45, 32, 45]⟩ : ByteArray)) (by kernel_rfl) (by kernel_rfl) c3) fun f8 hf8 => ?_
  refine mops_end [1, 2, 16] hf8 (l' := [⟨1, [], .ptr 0 0 0⟩, ⟨2, [], .s (.string (⟨#[]⟩ : ByteArray))⟩, ⟨16, [], .s (.string (((r_1 ++ (⟨#[32]⟩ : ByteArray)) ++ r_2) ++ (⟨#[32, 87, 32, 45, 45, 45, 45, 45, 32, 45]⟩ : ByteArray)))⟩]) (L' := [⟨0, .mem, 1, [.s (.int .u16 r_.Addr), .s (.int .u8 r_.Data), .s (.bool r_.Read), .s (.bool r_.BA), .s (.bool r_.BS), .s (.bool r_.LIC), .s (.bool r_.AVMA), .s (.bool r_.BUSY), .s (.bool r_.Mine)]⟩]) (by kernel_rfl) fun f9 hf9 => ?_
  intro _
  refine lw_w (a := ⟨⟨(some 17), (.e (.strb (.t 16))), none, [10]⟩, true, 0, 1⟩) (by kernel_rfl) rfl rfl ?_
  obtain ⟨c4, h⟩ := as_ok h
  refine mops_adv rfl (v := .ref 1 0 0 (sbl (((r_1 ++ (⟨#[32]⟩ : ByteArray)) ++ r_2) ++ (⟨#[32, 87, 32, 45, 45, 45, 45, 45, 32, 45]⟩ : ByteArray))).length) hf9 (by kernel_rfl) (e_strb (t := (((r_1 ++ (⟨#[32]⟩ : ByteArray)) ++ r_2) ++ (⟨#[32, 87, 32, 45, 45, 45, 45, 45, 32, 45]⟩ : ByteArray))) (by kernel_rfl) c4 (by kernel_rfl)) fun f10 hf10 => ?_
  refine mops_end [1, 2, 17] hf10 (l' := [⟨1, [], .ptr 0 0 0⟩, ⟨2, [], .s (.string (⟨#[]⟩ : ByteArray))⟩, ⟨17, [], .ref 1 0 0 (sbl (((r_1 ++ (⟨#[32]⟩ : ByteArray)) ++ r_2) ++ (⟨#[32, 87, 32, 45, 45, 45, 45, 45, 32, 45]⟩ : ByteArray))).length⟩]) (L' := [⟨0, .mem, 1, [.s (.int .u16 r_.Addr), .s (.int .u8 r_.Data), .s (.bool r_.Read), .s (.bool r_.BA), .s (.bool r_.BS), .s (.bool r_.LIC), .s (.bool r_.AVMA), .s (.bool r_.BUSY), .s (.bool r_.Mine)]⟩, ⟨0, .grow, 1, cat (nI .u8) (sbl (((r_1 ++ (⟨#[32]⟩ : ByteArray)) ++ r_2) ++ (⟨#[32, 87, 32, 45, 45, 45, 45, 45, 32, 45]⟩ : ByteArray)))⟩]) (by kernel_rfl) fun f11 hf11 => ?_
  refine ⟨trivial, ?_⟩
  refine lw_tight 1 (by kernel_rfl) ?_
  refine mops_end [1, 2, 3] hf11 (l' := [⟨1, [], .ptr 0 0 0⟩, ⟨2, [], .s (.string (⟨#[]⟩ : ByteArray))⟩, ⟨3, [], .ref 1 0 0 (sbl (((r_1 ++ (⟨#[32]⟩ : ByteArray)) ++ r_2) ++ (⟨#[32, 87, 32, 45, 45, 45, 45, 45, 32, 45]⟩ : ByteArray))).length⟩]) (L' := [⟨0, .mem, 1, [.s (.int .u16 r_.Addr), .s (.int .u8 r_.Data), .s (.bool r_.Read), .s (.bool r_.BA), .s (.bool r_.BS), .s (.bool r_.LIC), .s (.bool r_.AVMA), .s (.bool r_.BUSY), .s (.bool r_.Mine)]⟩, ⟨0, .grow, 1, cat (nI .u8) (sbl (((r_1 ++ (⟨#[32]⟩ : ByteArray)) ++ r_2) ++ (⟨#[32, 87, 32, 45, 45, 45, 45, 45, 32, 45]⟩ : ByteArray)))⟩]) (by kernel_rfl) fun f12 hf12 => ?_
  intro _
  refine lw_end (by kernel_rfl) ?_
  refine k_c ?_
  refine k_seq ?_
  refine k_seq ?_
  refine k_reg ?_
  refine mops_sg 1 hf12 (by kernel_rfl) fun f13 hf13 => ?_
  obtain ⟨r_3, hx_r_3, h⟩ := Option.bind_eq_some_iff.1 h
  refine mops_call rfl hf13 (av := [.agg [.s (.int .u16 r_.Addr), .s (.int .u8 r_.Data), .s (.bool r_.Read), .s (.bool r_.BA), .s (.bool r_.BS), .s (.bool r_.LIC), .s (.bool r_.AVMA), .s (.bool r_.BUSY), .s (.bool r_.Mine)]]) (by kernel_rfl) (v := .agg [.s (.bool r_3.a0), .s (.bool r_3.a1), .s (.bool r_3.a2), .s (.bool r_3.a3), .s (.bool r_3.a4), .s (.bool r_3.a5), .s (.bool r_3.a6)]) (CalL.pure (record_lines_ok r_ r_3 hx_r_3) rfl rfl (Nat.le_of_ble_eq_true (by kernel_rfl))) (fun _ => rfl) fun f14 hf14 => ?_
  refine mops_en hf14 (by kernel_rfl) fun f15 hf15 => ?_
  refine k_c ?_
  refine k_block ?_
  obtain ⟨o0, hx0, h⟩ := Option.bind_eq_some_iff.1 h
  have hgo0 : ∀ (l_2 : (List Int)) (m_2 : Nat) (hn_2 : l_2.length = m_2), l_2 = o0 → ∀ f, FOk f [⟨2, [], .s (.string (⟨#[]⟩ : ByteArray))⟩, ⟨3, [], .ref 1 0 0 m_2⟩] → kont Try.prog [] (record_Text_C r) ((.c record_Text_i23) :: []) .normal f [⟨0, .mem, 1, [.s (.int .u16 r_.Addr), .s (.int .u8 r_.Data), .s (.bool r_.Read), .s (.bool r_.BA), .s (.bool r_.BS), .s (.bool r_.LIC), .s (.bool r_.AVMA), .s (.bool r_.BUSY), .s (.bool r_.Mine)]⟩, ⟨0, .grow, 1, cat (nI .u8) l_2⟩] := by
    intro l_2 m_2 hn_2 e f hf
    subst e
    refine k_c ?_
    refine k_seq ?_
    refine k_reg ?_
    refine mops_sg 1 hf (by kernel_rfl) fun f1 hf1 => ?_
    refine mops_adv rfl (v := .s (.string (bs l_2))) hf1 (by kernel_rfl) (e_bstr (q := l_2) (slc_ev (v := .ref 1 0 0 m_2) (by kernel_rfl) (slc_ref (g := (nI .u8)) (l := l_2) (kd := .grow) (q := 1) hn_2 (live_grow (by kernel_rfl))))) fun f2 hf2 => ?_
    refine mops_en hf2 (by kernel_rfl) fun f3 hf3 => ?_
    refine k_c ?_
    refine k_ret ?_
    obtain rfl := Option.some.inj h
    exact k_fin (fin_ret (.inl rfl) hf3 (vs := [.s (.string (bs l_2))]) (by kernel_rfl) (SettL.pure (FzL.stat rfl)))
  refine k_loop BIG ?_
  refine loop_ind (fun n f L => ∃ (l_1 : (List Int)) (t_1 : Int) (m_1 : Nat) (hn_1 : l_1.length = m_1), record_Text_l0 r_3 n l_1 t_1 = some o0 ∧ FOk f [⟨2, [], .s (.string (⟨#[]⟩ : ByteArray))⟩, ⟨3, [], .ref 1 0 0 m_1⟩, ⟨19, [], .agg [.s (.bool r_3.a0), .s (.bool r_3.a1), .s (.bool r_3.a2), .s (.bool r_3.a3), .s (.bool r_3.a4), .s (.bool r_3.a5), .s (.bool r_3.a6)]⟩, ⟨20, [], .s (.int .i64 t_1)⟩] ∧ L = [⟨0, .mem, 1, [.s (.int .u16 r_.Addr), .s (.int .u8 r_.Data), .s (.bool r_.Read), .s (.bool r_.BA), .s (.bool r_.BS), .s (.bool r_.LIC), .s (.bool r_.AVMA), .s (.bool r_.BUSY), .s (.bool r_.Mine)]⟩, ⟨0, .grow, 1, cat (nI .u8) l_1⟩]) ?_ ?_ BIG _ _ ⟨(sbl (((r_1 ++ (⟨#[32]⟩ : ByteArray)) ++ r_2) ++ (⟨#[32, 87, 32, 45, 45, 45, 45, 45, 32, 45]⟩ : ByteArray))), (0), ((sbl (((r_1 ++ (⟨#[32]⟩ : ByteArray)) ++ r_2) ++ (⟨#[32, 87, 32, 45, 45, 45, 45, 45, 32, 45]⟩ : ByteArray))).length), rfl, hx0, FOk_of [2, 3, 19, 20] hf15 (by kernel_rfl), (by kernel_rfl)⟩
  · rintro f L ⟨l_1, t_1, m_1, hn_1, h, _⟩
    cases (show (none : Option _) = some _ from h)
  · rintro n0 R0 ih f L ⟨l_1, t_1, m_1, hn_1, h, hf, rfl⟩
    rw [record_Text_l0] at h
    refine k_seq ?_
    refine k_reg ?_
    refine mops_en hf (by kernel_rfl) fun f1 hf1 => ?_
    refine k_c ?_
    refine k_seq ?_
    refine k_cond hf1 (t := (decide (t_1 < 7))) (by kernel_rfl) (fun hc5 => ?_) (fun hc5 => ?_)
    · have h := if_t h hc5
      refine k_skip ?_
      refine k_c ?_
      refine k_seq ?_
      refine k_block ?_
      refine k_seq ?_
      refine k_reg ?_
      refine mops_sg 1 hf1 (by kernel_rfl) fun f2 hf2 => ?_
      obtain ⟨c6, h⟩ := as_ok h
      refine mops_adv rfl (v := .s (.bool (gt [r_3.a0, r_3.a1, r_3.a2, r_3.a3, r_3.a4, r_3.a5, r_3.a6] t_1))) hf2 (by kernel_rfl) (e_ixa (g := nB) (l := [r_3.a0, r_3.a1, r_3.a2, r_3.a3, r_3.a4, r_3.a5, r_3.a6]) (n := 7) (k := .i64) (iv := t_1) (by kernel_rfl) (by kernel_rfl) c6 (by kernel_rfl) (by kernel_rfl)) fun f3 hf3 => ?_
      refine mops_en hf3 (by kernel_rfl) fun f4 hf4 => ?_
      refine k_c ?_
      refine k_block ?_
      refine k_seq ?_
      refine k_reg ?_
      refine mops_en hf4 (by kernel_rfl) fun f5 hf5 => ?_
      refine k_c ?_
      refine k_cond hf5 (t := (!(gt [r_3.a0, r_3.a1, r_3.a2, r_3.a3, r_3.a4, r_3.a5, r_3.a6] t_1))) (by kernel_rfl) (fun hc7 => ?_) (fun hc7 => ?_)
      · have h := if_t h hc7
        refine k_skip ?_
        refine k_b ?_
        refine k_b ?_
        refine k_c ?_
        refine k_reg ?_
        refine mops_en hf5 (by kernel_rfl) fun f6 hf6 => ?_
        refine k_l ?_
        exact ih _ _ ⟨l_1, (IntKind.wrap .i64 (t_1 + 1)), m_1, hn_1, h, FOk_of [2, 3, 19, 20] hf6 (by kernel_rfl), (by kernel_rfl)⟩
      · have h := if_f h hc7
        refine k_seq ?_
        refine k_reg ?_
        refine mops_en hf5 (by kernel_rfl) fun f6 hf6 => ?_
        refine k_c ?_
        refine k_cond hf6 (t := (t_1 == 0)) (by kernel_rfl) (fun hc8 => ?_) (fun hc8 => ?_)
        · have h := if_t h hc8
          refine k_reg ?_
          refine mops_sg 1 hf6 (by kernel_rfl) fun f7 hf7 => ?_
          obtain ⟨c9, h⟩ := as_ok h
          refine mops_adv rfl (v := .ptr 1 0 (0 + (8 : Int).toNat * 1)) hf7 (by kernel_rfl) (e_ias_ref (l := l_1) (B := ⟨0, .grow, 1, cat (nI .u8) l_1⟩) (b := 1) (ver := 0) (n := m_1) (k := .i64) (iv := 8) (by kernel_rfl) (by kernel_rfl) hn_1 (live_grow (by kernel_rfl)) c9) fun f8 hf8 => ?_
          refine mops_adv rfl (v := .s undef) hf8 (by kernel_rfl) (e_store_pe (g := (nI .u8)) (l := l_1) (iv := 8) (kd := .grow) (q := 1) (b := 1) (ver := 0) (ys := [.s (.int .u8 82)]) (a := 82) [] (by kernel_rfl) (live_grow (by kernel_rfl)) (by kernel_rfl) (by kernel_rfl) (by kernel_rfl) c9 (by kernel_rfl) (by kernel_rfl)) fun f9 hf9 => ?_
          refine mops_en hf9 (by kernel_rfl) fun f10 hf10 => ?_
          refine k_b ?_
          refine k_b ?_
          refine k_c ?_
          refine k_reg ?_
          refine mops_en hf10 (by kernel_rfl) fun f11 hf11 => ?_
          refine k_l ?_
          exact ih _ _ ⟨(st l_1 (8) (82)), (IntKind.wrap .i64 (t_1 + 1)), m_1, (st_len.trans hn_1), h, FOk_of [2, 3, 19, 20] hf11 (by kernel_rfl), (by kernel_rfl)⟩
        · have h := if_f h hc8
          refine k_seq ?_
          refine k_reg ?_
          refine mops_en hf6 (by kernel_rfl) fun f7 hf7 => ?_
          refine k_c ?_
          refine k_cond hf7 (t := (t_1 == 6)) (by kernel_rfl) (fun hc10 => ?_) (fun hc10 => ?_)
          · have h := if_t h hc10
            refine k_reg ?_
            refine mops_sg 1 hf7 (by kernel_rfl) fun f8 hf8 => ?_
            obtain ⟨c11, h⟩ := as_ok h
            refine mops_adv rfl (v := .ptr 1 0 (0 + (16 : Int).toNat * 1)) hf8 (by kernel_rfl) (e_ias_ref (l := l_1) (B := ⟨0, .grow, 1, cat (nI .u8) l_1⟩) (b := 1) (ver := 0) (n := m_1) (k := .i64) (iv := 16) (by kernel_rfl) (by kernel_rfl) hn_1 (live_grow (by kernel_rfl)) c11) fun f9 hf9 => ?_
            refine mops_adv rfl (v := .s undef) hf9 (by kernel_rfl) (e_store_pe (g := (nI .u8)) (l := l_1) (iv := 16) (kd := .grow) (q := 1) (b := 1) (ver := 0) (ys := [.s (.int .u8 77)]) (a := 77) [] (by kernel_rfl) (live_grow (by kernel_rfl)) (by kernel_rfl) (by kernel_rfl) (by kernel_rfl) c11 (by kernel_rfl) (by kernel_rfl)) fun f10 hf10 => ?_
            refine mops_en hf10 (by kernel_rfl) fun f11 hf11 => ?_
            refine k_b ?_
            refine k_b ?_
            refine k_c ?_
            refine k_reg ?_
            refine mops_en hf11 (by kernel_rfl) fun f12 hf12 => ?_
            refine k_l ?_
            exact ih _ _ ⟨(st l_1 (16) (77)), (IntKind.wrap .i64 (t_1 + 1)), m_1, (st_len.trans hn_1), h, FOk_of [2, 3, 19, 20] hf12 (by kernel_rfl), (by kernel_rfl)⟩
          · have h := if_f h hc10
            refine k_reg ?_
            refine mops_sg 5 hf7 (by kernel_rfl) fun f8 hf8 => ?_
            obtain ⟨c12, h⟩ := as_ok h
            refine mops_adv rfl (v := .s (.int .u8 (bt (⟨#[65, 83, 76, 86, 66]⟩ : ByteArray) (IntKind.wrap .i64 (t_1 - 1))))) hf8 (by kernel_rfl) (e_ixs (t := (⟨#[65, 83, 76, 86, 66]⟩ : ByteArray)) (k := .i64) (iv := (IntKind.wrap .i64 (t_1 - 1))) (by kernel_rfl) (by kernel_rfl) c12) fun f9 hf9 => ?_
            obtain ⟨c13, h⟩ := as_ok h
            refine mops_adv rfl (v := .ptr 1 0 (0 + ((IntKind.wrap .i64 (9 + t_1)) : Int).toNat * 1)) hf9 (by kernel_rfl) (e_ias_ref (l := l_1) (B := ⟨0, .grow, 1, cat (nI .u8) l_1⟩) (b := 1) (ver := 0) (n := m_1) (k := .i64) (iv := (IntKind.wrap .i64 (9 + t_1))) (by kernel_rfl) (by kernel_rfl) hn_1 (live_grow (by kernel_rfl)) c13) fun f10 hf10 => ?_
            refine mops_adv rfl (v := .s undef) hf10 (by kernel_rfl) (e_store_pe (g := (nI .u8)) (l := l_1) (iv := (IntKind.wrap .i64 (9 + t_1))) (kd := .grow) (q := 1) (b := 1) (ver := 0) (ys := [.s (.int .u8 (bt (⟨#[65, 83, 76, 86, 66]⟩ : ByteArray) (IntKind.wrap .i64 (t_1 - 1))))]) (a := (bt (⟨#[65, 83, 76, 86, 66]⟩ : ByteArray) (IntKind.wrap .i64 (t_1 - 1)))) [] (by kernel_rfl) (live_grow (by kernel_rfl)) (by kernel_rfl) (by kernel_rfl) (by kernel_rfl) c13 (by kernel_rfl) (by kernel_rfl)) fun f11 hf11 => ?_
            refine mops_en hf11 (by kernel_rfl) fun f12 hf12 => ?_
            refine k_b ?_
            refine k_b ?_
            refine k_c ?_
            refine k_reg ?_
            refine mops_en hf12 (by kernel_rfl) fun f13 hf13 => ?_
            refine k_l ?_
            exact ih _ _ ⟨(st l_1 (IntKind.wrap .i64 (9 + t_1)) (bt (⟨#[65, 83, 76, 86, 66]⟩ : ByteArray) (IntKind.wrap .i64 (t_1 - 1)))), (IntKind.wrap .i64 (t_1 + 1)), m_1, (st_len.trans hn_1), h, FOk_of [2, 3, 19, 20] hf13 (by kernel_rfl), (by kernel_rfl)⟩
    · have h := if_f h hc5
      refine k_exit ?_
      refine x_c nofun ?_
      refine x_l nofun ?_
      refine x_b ?_
      refine k_hp (L' := [⟨0, .mem, 1, [.s (.int .u16 r_.Addr), .s (.int .u8 r_.Data), .s (.bool r_.Read), .s (.bool r_.BA), .s (.bool r_.BS), .s (.bool r_.LIC), .s (.bool r_.AVMA), .s (.bool r_.BUSY), .s (.bool r_.Mine)]⟩, ⟨0, .grow, 1, cat (nI .u8) l_1⟩]) (by kernel_rfl) ?_
      exact hgo0 l_1 m_1 hn_1 (Option.some.inj h) _ (FOk_of [2, 3] hf1 (by kernel_rfl))
end Go.Proofs.YtfdadnldlngmeaaK
