/- The Go functions come to the functions over typed data. Printed by a program of this work. -/
import Derived.Test.YtphfmfbebcconaaDoorF
import Derived.Test.YtphfmfbebcconaaDoorProg
import Derived.Test.YtphfmfbebcconaaDoorSf
namespace Go.Proofs.YtphfmfbebcconaaDoorK
set_option linter.unusedVariables false
set_option linter.unusedSimpArgs false
set_option maxHeartbeats 4000000
open Go.RowKit
attribute [local irreducible] dwv mops lops lqops lwops kont iter run runK rk okK ex E1 vals val chain chB sel resF
def spinetlaw40_fits_i0 : List Op1 := [(oM 2 (.k (.bool false)) [])]
def spinetlaw40_fits_i1 : List Op1 := [(oM 3 (.k (.int .i64 0)) [])]
def spinetlaw40_fits_i2 : List Op1 := [(oM 4 (.t 3) []), (oM 5 (.t 0) []), (oE 6 (.len (.t 5)) [1]), (oE 7 (.bin .lss (.t 4) (.t 6)) [0, 2])]
def spinetlaw40_fits_i3 : IR := (.cond (.t 7) .skip (.exit 0))
def spinetlaw40_fits_i4 : List Op1 := [(oM 10 (.t 0) []), (oM 11 (.t 3) []), (oE 12 (.ias 2 (.t 10) (.t 11)) [0, 1]), (oE 13 (.fld 1 (.t 12)) [2]), (oE 14 (.load false 1 (.t 13)) [3]), (oE 15 (.len (.t 14)) [4]), (oE 16 (.bin .gtr (.t 15) (.k (.int .i64 200))) [5]), (oM 17 (.t 16) [6]), (oG 18 (.mv (.t 0)) 17 false [7]), (oG 19 (.mv (.t 3)) 17 false [7]), (oG 20 (.ias 2 (.t 18) (.t 19)) 17 false [8, 9, 7]), (oG 21 (.fld 0 (.t 20)) 17 false [10, 7]), (oG 22 (.load false 1 (.t 21)) 17 false [11, 7]), (oG 23 (.cint .i64 (.t 22)) 17 false [12, 7]), (oG 24 (.mv (.t 0)) 17 false [7]), (oG 25 (.mv (.t 3)) 17 false [7]), (oG 26 (.ias 2 (.t 24) (.t 25)) 17 false [14, 15, 7]), (oG 27 (.fld 1 (.t 26)) 17 false [16, 7]), (oG 28 (.load false 1 (.t 27)) 17 false [17, 7]), (oG 29 (.len (.t 28)) 17 false [18, 7]), (oG 30 (.bin .add (.t 23) (.t 29)) 17 false [13, 19, 7]), (oG 31 (.bin .gtr (.t 30) (.k (.int .i64 65536))) 17 false [20, 7]), (oE 32 (.pick (.t 17) (.k (.bool true)) (.t 31)) [7, 21])]
def spinetlaw40_fits_i5 : List Op1 := [(oM 2 (.k (.bool false)) [])]
def spinetlaw40_fits_i6 : IR := .ret
def spinetlaw40_fits_i7 : IR := (.cond (.t 32) (.seq (.reg false spinetlaw40_fits_i5) spinetlaw40_fits_i6) .skip)
def spinetlaw40_fits_i8 : List Op1 := [(oM 8 (.t 3) []), (oE 9 (.bin .add (.t 8) (.k (.int .i64 1))) [0]), (oM 3 (.t 9) [1, 0, 1])]
def spinetlaw40_fits_i9 : IR := (.reg false spinetlaw40_fits_i8)
def spinetlaw40_fits_i10 : IR := (.seq (.block 1 (.seq (.reg true spinetlaw40_fits_i4) spinetlaw40_fits_i7)) spinetlaw40_fits_i9)
def spinetlaw40_fits_i11 : IR := (.seq (.seq (.reg false spinetlaw40_fits_i2) spinetlaw40_fits_i3) spinetlaw40_fits_i10)
def spinetlaw40_fits_i12 : IR := (.block 0 (.loop spinetlaw40_fits_i11))
def spinetlaw40_fits_i13 : List Op1 := [(oM 2 (.k (.bool true)) [])]
def spinetlaw40_fits_i14 : IR := .ret
def spinetlaw40_fits_i15 : IR := (.seq (.reg false spinetlaw40_fits_i13) spinetlaw40_fits_i14)
def spinetlaw40_fits_i16 : IR := (.seq (.seq (.reg false spinetlaw40_fits_i1) spinetlaw40_fits_i12) spinetlaw40_fits_i15)
def spinetlaw40_fits_ir : IR := (.seq (.reg false spinetlaw40_fits_i0) spinetlaw40_fits_i16)
theorem spinetlaw40_fits_cfn : cFn Tryd.prog 4 = some (spinetlaw40_fits_ir, [(.t 2)], 33) := by kernel_rfl
def spinetlaw40_fits_V (r : (Bool)) : V := .s (.bool r)
def spinetlaw40_fits_C (r : (Bool)) : X → Fr → Hp → Prop := FinL [(.t 2)] [] (spinetlaw40_fits_V r) []
theorem spinetlaw40_fits_ok (l_ : (List srec_Piece)) (r : (Bool)) (h : spinetlaw40_fits l_ = some r) : Pure Tryd.prog 4 [.sl false l_.length (cat srec_Piece.v l_)] (spinetlaw40_fits_V r) := by
  refine ConL.of spinetlaw40_fits_cfn (Nat.le_of_ble_eq_true (by kernel_rfl)) (Nat.le_of_ble_eq_true (by kernel_rfl)) ?_
  refine k_start ?_
  show dwv Tryd.prog [] spinetlaw40_fits_ir (kont Tryd.prog [] (spinetlaw40_fits_C r) []) (fr0 [.sl false l_.length (cat srec_Piece.v l_)]) []
  have hf : FOk (fr0 [.sl false l_.length (cat srec_Piece.v l_)]) [⟨0, [], .sl false l_.length (cat srec_Piece.v l_)⟩] := ⟨⟨fun _ => rfl, fun h => (h trivial).elim⟩, trivial⟩
  generalize fr0 [.sl false l_.length (cat srec_Piece.v l_)] = f at hf ⊢
  unfold spinetlaw40_fits at h
  refine k_seq ?_
  refine k_reg ?_
  refine mops_en hf (by kernel_rfl) fun f1 hf1 => ?_
  refine k_c ?_
  refine k_seq ?_
  refine k_seq ?_
  refine k_reg ?_
  refine mops_en hf1 (by kernel_rfl) fun f2 hf2 => ?_
  refine k_c ?_
  refine k_block ?_
  obtain ⟨o0, hx0, h⟩ := Option.bind_eq_some_iff.1 h
  have hret0 : ∀ r0, .ret r0 = o0 → r0 = r := fun r0 e => by subst e; exact Option.some.inj h
  have hgo0 : .go () = o0 → ∀ f, FOk f [⟨2, [], .s (.bool false)⟩] → kont Tryd.prog [] (spinetlaw40_fits_C r) ((.c spinetlaw40_fits_i15) :: []) .normal f [] := by
    intro  e f hf
    subst e
    refine k_c ?_
    refine k_seq ?_
    refine k_reg ?_
    refine mops_en hf (by kernel_rfl) fun f1 hf1 => ?_
    refine k_c ?_
    refine k_ret ?_
    obtain rfl := Option.some.inj h
    exact k_fin (fin_ret (.inl rfl) hf1 (vs := [.s (.bool true)]) (by kernel_rfl) (SettL.pure (FzL.stat rfl)))
  refine k_loop BIG ?_
  refine loop_ind (fun n f L => ∃ (i_1 : Int), spinetlaw40_fits_l0 l_ n i_1 = some o0 ∧ FOk f [⟨0, [], .sl false l_.length (cat srec_Piece.v l_)⟩, ⟨2, [], .s (.bool false)⟩, ⟨3, [], .s (.int .i64 i_1)⟩] ∧ L = []) ?_ ?_ BIG _ _ ⟨(0), hx0, FOk_of [0, 2, 3] hf2 (by kernel_rfl), (by kernel_rfl)⟩
  · rintro f L ⟨i_1, h, _⟩
    cases (show (none : Option _) = some _ from h)
  · rintro n0 R0 ih f L ⟨i_1, h, hf, rfl⟩
    rw [spinetlaw40_fits_l0] at h
    refine k_seq ?_
    refine k_seq ?_
    refine k_reg ?_
    refine mops_en hf (by kernel_rfl) fun f1 hf1 => ?_
    refine k_c ?_
    refine k_cond hf1 (t := (decide (i_1 < (ln l_)))) (by kernel_rfl) (fun hc1 => ?_) (fun hc1 => ?_)
    · have h := if_t h hc1
      refine k_skip ?_
      refine k_c ?_
      refine k_seq ?_
      refine k_block ?_
      refine k_seq ?_
      refine k_regq ?_
      refine mops_sg 2 hf1 (by kernel_rfl) fun f2 hf2 => ?_
      obtain ⟨c2, h⟩ := as_ok h
      refine mops_adv rfl (v := .ip ((cat srec_Piece.v l_).drop ((i_1 : Int).toNat * 2))) hf2 (by kernel_rfl) (e_ias (n := l_.length) (xv := .sl false l_.length (cat srec_Piece.v l_)) (k := .i64) (iv := i_1) (p := .ip ((cat srec_Piece.v l_).drop ((i_1 : Int).toNat * 2))) (by kernel_rfl) (by kernel_rfl) (by kernel_rfl) (by kernel_rfl) c2) fun f3 hf3 => ?_
      refine mops_sg 1 hf3 (by kernel_rfl) fun f4 hf4 => ?_
      refine mops_adv rfl (v := .sl false ((gt l_ i_1).B).length (cat (nI .u8) ((gt l_ i_1).B))) hf4 (by kernel_rfl) (e_load_ip (g := srec_Piece.v) (l := l_) (iv := i_1) [1] (by kernel_rfl) c2 (by kernel_rfl) (by kernel_rfl)) fun f5 hf5 => ?_
      refine mops_sg 5 hf5 (by kernel_rfl) fun f6 hf6 => ?_
      obtain ⟨c3, h⟩ := as_ok h
      refine mops_gadv (dst := (some 20)) (op := (.ias 2 (.t 18) (.t 19))) (aft := [8, 9, 7]) (t := 17) (w := false) (ch := [(17, false)]) (b := (!(decide (200 < (ln ((gt l_ i_1).B)))))) (v := .ip ((cat srec_Piece.v l_).drop ((i_1 : Int).toNat * 2))) (by kernel_rfl) hf6 (by kernel_rfl) (by kernel_rfl) (by kernel_rfl) (fun hb4 => e_ias (n := l_.length) (xv := .sl false l_.length (cat srec_Piece.v l_)) (k := .i64) (iv := i_1) (p := .ip ((cat srec_Piece.v l_).drop ((i_1 : Int).toNat * 2))) (by kernel_rfl) (by kernel_rfl) (by kernel_rfl) (by kernel_rfl) (c3 hb4)) fun f7 hf7 => ?_
      refine mops_sg 1 hf7 (by kernel_rfl) fun f8 hf8 => ?_
      refine mops_gadv (dst := (some 22)) (op := (.load false 1 (.t 21))) (aft := [11, 7]) (t := 17) (w := false) (ch := [(17, false)]) (b := (!(decide (200 < (ln ((gt l_ i_1).B)))))) (v := .s (.int .u16 (gt l_ i_1).At)) (by kernel_rfl) hf8 (by kernel_rfl) (by kernel_rfl) (by kernel_rfl) (fun hb5 => e_load_ip (g := srec_Piece.v) (l := l_) (iv := i_1) [0] (by kernel_rfl) (c3 hb5) (by kernel_rfl) (by kernel_rfl)) fun f9 hf9 => ?_
      refine mops_sg 3 hf9 (by kernel_rfl) fun f10 hf10 => ?_
      obtain ⟨c6, h⟩ := as_ok h
      refine mops_gadv (dst := (some 26)) (op := (.ias 2 (.t 24) (.t 25))) (aft := [14, 15, 7]) (t := 17) (w := false) (ch := [(17, false)]) (b := (!(decide (200 < (ln ((gt l_ i_1).B)))))) (v := .ip ((cat srec_Piece.v l_).drop ((i_1 : Int).toNat * 2))) (by kernel_rfl) hf10 (by kernel_rfl) (by kernel_rfl) (by kernel_rfl) (fun hb7 => e_ias (n := l_.length) (xv := .sl false l_.length (cat srec_Piece.v l_)) (k := .i64) (iv := i_1) (p := .ip ((cat srec_Piece.v l_).drop ((i_1 : Int).toNat * 2))) (by kernel_rfl) (by kernel_rfl) (by kernel_rfl) (by kernel_rfl) (c6 hb7)) fun f11 hf11 => ?_
      refine mops_sg 1 hf11 (by kernel_rfl) fun f12 hf12 => ?_
      refine mops_gadv (dst := (some 28)) (op := (.load false 1 (.t 27))) (aft := [17, 7]) (t := 17) (w := false) (ch := [(17, false)]) (b := (!(decide (200 < (ln ((gt l_ i_1).B)))))) (v := .sl false ((gt l_ i_1).B).length (cat (nI .u8) ((gt l_ i_1).B))) (by kernel_rfl) hf12 (by kernel_rfl) (by kernel_rfl) (by kernel_rfl) (fun hb8 => e_load_ip (g := srec_Piece.v) (l := l_) (iv := i_1) [1] (by kernel_rfl) (c6 hb8) (by kernel_rfl) (by kernel_rfl)) fun f13 hf13 => ?_
      refine mops_en hf13 (by kernel_rfl) fun f14 hf14 => ?_
      refine k_c ?_
      refine k_cond hf14 (t := ((decide (200 < (ln ((gt l_ i_1).B)))) || (decide (65536 < (IntKind.wrap .i64 ((IntKind.wrap .i64 (gt l_ i_1).At) + (ln ((gt l_ i_1).B)))))))) (by kernel_rfl) (fun hc9 => ?_) (fun hc9 => ?_)
      · have h := if_t h hc9
        refine k_seq ?_
        refine k_reg ?_
        refine mops_en hf14 (by kernel_rfl) fun f15 hf15 => ?_
        refine k_c ?_
        refine k_ret ?_
        refine x_br ?_
        refine x_c nofun ?_
        refine x_l nofun ?_
        refine x_br ?_
        refine x_c nofun ?_
        obtain rfl := hret0 _ (Option.some.inj h)
        exact k_fin (fin_ret (.inl rfl) hf15 (vs := [.s (.bool false)]) (by kernel_rfl) (SettL.pure (FzL.stat rfl)))
      · have h := if_f h hc9
        refine k_skip ?_
        refine k_b ?_
        refine k_c ?_
        refine k_reg ?_
        refine mops_en hf14 (by kernel_rfl) fun f15 hf15 => ?_
        refine k_l ?_
        exact ih _ _ ⟨(IntKind.wrap .i64 (i_1 + 1)), h, FOk_of [0, 2, 3] hf15 (by kernel_rfl), (by kernel_rfl)⟩
    · have h := if_f h hc1
      refine k_exit ?_
      refine x_c nofun ?_
      refine x_l nofun ?_
      refine x_b ?_
      refine k_hp (L' := []) (by kernel_rfl) ?_
      exact hgo0  (Option.some.inj h) _ (FOk_of [2] hf1 (by kernel_rfl))
def spinetref02_Digits_i0 : List Op1 := [(oM 6 (.k (.string ⟨#[]⟩)) [])]
def spinetref02_Digits_i1 : List Op1 := [(oM 7 (.k (.string ⟨#[]⟩)) [])]
def spinetref02_Digits_i2 : List Op1 := [(oM 9 (.t 0) []), (oE 10 (.bin .gtr (.t 9) (.k (.int .u64 0))) [0]), (oM 11 (.t 10) [1]), (oG 12 (.mv (.t 7)) 11 false [2]), (oG 13 (.lens (.t 12)) 11 false [3, 2]), (oG 14 (.mv (.t 2)) 11 false [2]), (oG 15 (.bin .lss (.t 13) (.t 14)) 11 false [4, 5, 2]), (oE 16 (.pick (.t 11) (.k (.bool true)) (.t 15)) [2, 6]), (oM 17 (.t 16) [7, 2]), (oG 18 (.mv (.t 7)) 17 false [8]), (oG 19 (.bin .eql (.t 18) (.k (.string ⟨#[]⟩))) 17 false [9, 8]), (oE 20 (.pick (.t 17) (.k (.bool true)) (.t 19)) [8, 10])]
def spinetref02_Digits_i3 : IR := (.cond (.t 20) .skip (.exit 0))
def spinetref02_Digits_i4 : List Op1 := [(oM 21 (.t 0) []), (oM 22 (.t 1) []), (oE 23 (.bin .rem (.t 21) (.t 22)) [0, 1]), (oE 24 (.cint .i64 (.t 23)) [2]), (oM 8 (.t 24) [3, 0, 1, 2, 3])]
def spinetref02_Digits_i5 : List Op1 := [(oM 25 (.t 8) []), (oM 26 (.t 8) []), (oE 27 (.bin .add (.t 26) (.k (.int .i64 1))) [1]), (oE 28 (.sstr (.k (.string ⟨#[48, 49, 50, 51, 52, 53, 54, 55, 56, 57, 65, 66, 67, 68, 69, 70]⟩)) (some (.t 25)) (some (.t 27))) [0, 2]), (oM 29 (.t 7) []), (oE 30 (.bin .add (.t 28) (.t 29)) [3, 4]), (oM 7 (.t 30) [5, 0, 1, 2, 3, 4, 5])]
def spinetref02_Digits_i6 : List Op1 := [(oM 31 (.t 0) []), (oM 32 (.t 1) []), (oE 33 (.bin .quo (.t 31) (.t 32)) [0, 1]), (oM 0 (.t 33) [2, 0, 1, 2])]
def spinetref02_Digits_i7 : IR := (.reg false spinetref02_Digits_i6)
def spinetref02_Digits_i8 : IR := (.seq (.reg false spinetref02_Digits_i5) spinetref02_Digits_i7)
def spinetref02_Digits_i9 : IR := (.block 1 (.seq (.reg false spinetref02_Digits_i4) spinetref02_Digits_i8))
def spinetref02_Digits_i10 : IR := (.seq (.seq (.reg false spinetref02_Digits_i2) spinetref02_Digits_i3) spinetref02_Digits_i9)
def spinetref02_Digits_i11 : List Op1 := [(oM 34 (.t 7) []), (oM 6 (.t 34) [0, 0])]
def spinetref02_Digits_i12 : IR := .ret
def spinetref02_Digits_i13 : IR := (.seq (.reg false spinetref02_Digits_i11) spinetref02_Digits_i12)
def spinetref02_Digits_i14 : IR := (.seq (.block 0 (.loop spinetref02_Digits_i10)) spinetref02_Digits_i13)
def spinetref02_Digits_i15 : IR := (.seq (.reg false spinetref02_Digits_i1) spinetref02_Digits_i14)
def spinetref02_Digits_ir : IR := (.seq (.reg false spinetref02_Digits_i0) spinetref02_Digits_i15)
theorem spinetref02_Digits_cfn : cFn Tryd.prog 11 = some (spinetref02_Digits_ir, [(.t 6)], 35) := by kernel_rfl
def spinetref02_Digits_V (r : (ByteArray)) : V := .s (.string r)
def spinetref02_Digits_C (r : (ByteArray)) : X → Fr → Hp → Prop := FinL [(.t 6)] [] (spinetref02_Digits_V r) []
theorem spinetref02_Digits_ok (n_ : Int) (base_ : Int) (width_ : Int) (r : (ByteArray)) (h : spinetref02_Digits n_ base_ width_ = some r) : Pure Tryd.prog 11 [.s (.int .u64 n_), .s (.int .u64 base_), .s (.int .i64 width_)] (spinetref02_Digits_V r) := by
  refine ConL.of spinetref02_Digits_cfn (Nat.le_of_ble_eq_true (by kernel_rfl)) (Nat.le_of_ble_eq_true (by kernel_rfl)) ?_
  refine k_start ?_
  show dwv Tryd.prog [] spinetref02_Digits_ir (kont Tryd.prog [] (spinetref02_Digits_C r) []) (fr0 [.s (.int .u64 n_), .s (.int .u64 base_), .s (.int .i64 width_)]) []
  have hf : FOk (fr0 [.s (.int .u64 n_), .s (.int .u64 base_), .s (.int .i64 width_)]) [⟨0, [], .s (.int .u64 n_)⟩, ⟨1, [], .s (.int .u64 base_)⟩, ⟨2, [], .s (.int .i64 width_)⟩] := ⟨⟨fun _ => rfl, fun h => (h trivial).elim⟩, ⟨fun _ => rfl, fun h => (h trivial).elim⟩, ⟨fun _ => rfl, fun h => (h trivial).elim⟩, trivial⟩
  generalize fr0 [.s (.int .u64 n_), .s (.int .u64 base_), .s (.int .i64 width_)] = f at hf ⊢
  unfold spinetref02_Digits at h
  refine k_seq ?_
  refine k_reg ?_
  refine mops_en hf (by kernel_rfl) fun f1 hf1 => ?_
  refine k_c ?_
  refine k_seq ?_
  refine k_reg ?_
  refine mops_en hf1 (by kernel_rfl) fun f2 hf2 => ?_
  refine k_c ?_
  refine k_seq ?_
  refine k_block ?_
  obtain ⟨o0, hx0, h⟩ := Option.bind_eq_some_iff.1 h
  have hgo0 : ∀ (s_2 : ByteArray), s_2 = o0 → ∀ f, FOk f [⟨6, [], .s (.string (⟨#[]⟩ : ByteArray))⟩, ⟨7, [], .s (.string s_2)⟩] → kont Tryd.prog [] (spinetref02_Digits_C r) ((.c spinetref02_Digits_i13) :: []) .normal f [] := by
    intro s_2 e f hf
    subst e
    refine k_c ?_
    refine k_seq ?_
    refine k_reg ?_
    refine mops_en hf (by kernel_rfl) fun f1 hf1 => ?_
    refine k_c ?_
    refine k_ret ?_
    obtain rfl := Option.some.inj h
    exact k_fin (fin_ret (.inl rfl) hf1 (vs := [.s (.string s_2)]) (by kernel_rfl) (SettL.pure (FzL.stat rfl)))
  refine k_loop BIG ?_
  refine loop_ind (fun n f L => ∃ (t_1 : Int) (s_1 : ByteArray), spinetref02_Digits_l0 base_ width_ n t_1 s_1 = some o0 ∧ FOk f [⟨0, [], .s (.int .u64 t_1)⟩, ⟨1, [], .s (.int .u64 base_)⟩, ⟨2, [], .s (.int .i64 width_)⟩, ⟨6, [], .s (.string (⟨#[]⟩ : ByteArray))⟩, ⟨7, [], .s (.string s_1)⟩] ∧ L = []) ?_ ?_ BIG _ _ ⟨n_, (⟨#[]⟩ : ByteArray), hx0, FOk_of [0, 1, 2, 6, 7] hf2 (by kernel_rfl), (by kernel_rfl)⟩
  · rintro f L ⟨t_1, s_1, h, _⟩
    cases (show (none : Option _) = some _ from h)
  · rintro n0 R0 ih f L ⟨t_1, s_1, h, hf, rfl⟩
    rw [spinetref02_Digits_l0] at h
    refine k_seq ?_
    refine k_seq ?_
    refine k_reg ?_
    refine mops_en hf (by kernel_rfl) fun f1 hf1 => ?_
    refine k_c ?_
    refine k_cond hf1 (t := (((decide (0 < t_1)) || (decide ((sln s_1) < width_))) || (s_1.toList == (⟨#[]⟩ : ByteArray).toList))) (by kernel_rfl) (fun hc1 => ?_) (fun hc1 => ?_)
    · have h := if_t h hc1
      refine k_skip ?_
      refine k_c ?_
      refine k_block ?_
      refine k_seq ?_
      refine k_reg ?_
      refine mops_sg 2 hf1 (by kernel_rfl) fun f2 hf2 => ?_
      obtain ⟨c2, h⟩ := as_ok h
      refine mops_adv rfl (v := .s (.int .u64 (Int.tmod t_1 base_))) hf2 (by kernel_rfl) (e_rem (k := .u64) (iv := t_1) (jv := base_) (by kernel_rfl) (by kernel_rfl) c2) fun f3 hf3 => ?_
      refine mops_en hf3 (by kernel_rfl) fun f4 hf4 => ?_
      refine k_c ?_
      refine k_seq ?_
      refine k_reg ?_
      refine mops_sg 3 hf4 (by kernel_rfl) fun f5 hf5 => ?_
      obtain ⟨c3, h⟩ := as_ok h
      refine mops_adv rfl (v := .s (.string ((⟨#[48, 49, 50, 51, 52, 53, 54, 55, 56, 57, 65, 66, 67, 68, 69, 70]⟩ : ByteArray).extract ((IntKind.wrap .i64 (Int.tmod t_1 base_)) : Int).toNat ((IntKind.wrap .i64 ((IntKind.wrap .i64 (Int.tmod t_1 base_)) + 1)) : Int).toNat))) hf5 (by kernel_rfl) (e_sstr (t := (⟨#[48, 49, 50, 51, 52, 53, 54, 55, 56, 57, 65, 66, 67, 68, 69, 70]⟩ : ByteArray)) (by kernel_rfl) (b_ss (k := .i64) (k' := .i64) (iv := (IntKind.wrap .i64 (Int.tmod t_1 base_))) (jv := (IntKind.wrap .i64 ((IntKind.wrap .i64 (Int.tmod t_1 base_)) + 1))) (by kernel_rfl) (by kernel_rfl) c3)) fun f6 hf6 => ?_
      refine mops_sg 1 hf6 (by kernel_rfl) fun f7 hf7 => ?_
      obtain ⟨c4, h⟩ := as_ok h
      refine mops_adv rfl (v := .s (.string (((⟨#[48, 49, 50, 51, 52, 53, 54, 55, 56, 57, 65, 66, 67, 68, 69, 70]⟩ : ByteArray).extract ((IntKind.wrap .i64 (Int.tmod t_1 base_)) : Int).toNat ((IntKind.wrap .i64 ((IntKind.wrap .i64 (Int.tmod t_1 base_)) + 1)) : Int).toNat) ++ s_1))) hf7 (by kernel_rfl) (e_sadd (t := ((⟨#[48, 49, 50, 51, 52, 53, 54, 55, 56, 57, 65, 66, 67, 68, 69, 70]⟩ : ByteArray).extract ((IntKind.wrap .i64 (Int.tmod t_1 base_)) : Int).toNat ((IntKind.wrap .i64 ((IntKind.wrap .i64 (Int.tmod t_1 base_)) + 1)) : Int).toNat)) (t' := s_1) (by kernel_rfl) (by kernel_rfl) c4) fun f8 hf8 => ?_
      refine mops_en hf8 (by kernel_rfl) fun f9 hf9 => ?_
      refine k_c ?_
      refine k_reg ?_
      refine mops_sg 2 hf9 (by kernel_rfl) fun f10 hf10 => ?_
      obtain ⟨c5, h⟩ := as_ok h
      refine mops_adv rfl (v := .s (.int .u64 (IntKind.wrap .u64 (Int.tdiv t_1 base_)))) hf10 (by kernel_rfl) (e_quo (k := .u64) (iv := t_1) (jv := base_) (by kernel_rfl) (by kernel_rfl) c5) fun f11 hf11 => ?_
      refine mops_en hf11 (by kernel_rfl) fun f12 hf12 => ?_
      refine k_b ?_
      refine k_l ?_
      exact ih _ _ ⟨(IntKind.wrap .u64 (Int.tdiv t_1 base_)), (((⟨#[48, 49, 50, 51, 52, 53, 54, 55, 56, 57, 65, 66, 67, 68, 69, 70]⟩ : ByteArray).extract ((IntKind.wrap .i64 (Int.tmod t_1 base_)) : Int).toNat ((IntKind.wrap .i64 ((IntKind.wrap .i64 (Int.tmod t_1 base_)) + 1)) : Int).toNat) ++ s_1), h, FOk_of [0, 1, 2, 6, 7] hf12 (by kernel_rfl), (by kernel_rfl)⟩
    · have h := if_f h hc1
      refine k_exit ?_
      refine x_c nofun ?_
      refine x_l nofun ?_
      refine x_b ?_
      refine k_hp (L' := []) (by kernel_rfl) ?_
      exact hgo0 s_1 (Option.some.inj h) _ (FOk_of [6, 7] hf1 (by kernel_rfl))
def octet_High_i0 : List Op1 := [(oM 2 (.k (.int .u8 0)) [])]
def octet_High_i1 : List Op1 := [(oM 3 (.t 0) []), (oE 4 (.bin .shr (.t 3) (.k (.int .u64 8))) [0]), (oE 5 (.cint .u8 (.t 4)) [1]), (oM 2 (.t 5) [2, 0, 1, 2])]
def octet_High_i2 : IR := .ret
def octet_High_i3 : IR := (.seq (.reg false octet_High_i1) octet_High_i2)
def octet_High_ir : IR := (.seq (.reg false octet_High_i0) octet_High_i3)
theorem octet_High_cfn : cFn Tryd.prog 19 = some (octet_High_ir, [(.t 2)], 6) := by kernel_rfl
def octet_High_V (r : (Int)) : V := .s (.int .u8 r)
def octet_High_C (r : (Int)) : X → Fr → Hp → Prop := FinL [(.t 2)] [] (octet_High_V r) []
theorem octet_High_ok (w_ : Int) (r : (Int)) (h : octet_High w_ = some r) : Pure Tryd.prog 19 [.s (.int .u16 w_)] (octet_High_V r) := by
  refine ConL.of octet_High_cfn (Nat.le_of_ble_eq_true (by kernel_rfl)) (Nat.le_of_ble_eq_true (by kernel_rfl)) ?_
  refine k_start ?_
  show dwv Tryd.prog [] octet_High_ir (kont Tryd.prog [] (octet_High_C r) []) (fr0 [.s (.int .u16 w_)]) []
  have hf : FOk (fr0 [.s (.int .u16 w_)]) [⟨0, [], .s (.int .u16 w_)⟩] := ⟨⟨fun _ => rfl, fun h => (h trivial).elim⟩, trivial⟩
  generalize fr0 [.s (.int .u16 w_)] = f at hf ⊢
  unfold octet_High at h
  refine k_seq ?_
  refine k_reg ?_
  refine mops_en hf (by kernel_rfl) fun f1 hf1 => ?_
  refine k_c ?_
  refine k_seq ?_
  refine k_reg ?_
  refine mops_en hf1 (by kernel_rfl) fun f2 hf2 => ?_
  refine k_c ?_
  refine k_ret ?_
  obtain rfl := Option.some.inj h
  exact k_fin (fin_ret (.inl rfl) hf2 (vs := [.s (.int .u8 (IntKind.wrap .u8 (Int.fdiv w_ (2 ^ (8)))))]) (by kernel_rfl) (SettL.pure (FzL.stat rfl)))
def octet_Low_i0 : List Op1 := [(oM 2 (.k (.int .u8 0)) [])]
def octet_Low_i1 : List Op1 := [(oM 3 (.t 0) []), (oE 4 (.cint .u8 (.t 3)) [0]), (oM 2 (.t 4) [1, 0, 1])]
def octet_Low_i2 : IR := .ret
def octet_Low_i3 : IR := (.seq (.reg false octet_Low_i1) octet_Low_i2)
def octet_Low_ir : IR := (.seq (.reg false octet_Low_i0) octet_Low_i3)
theorem octet_Low_cfn : cFn Tryd.prog 20 = some (octet_Low_ir, [(.t 2)], 5) := by kernel_rfl
def octet_Low_V (r : (Int)) : V := .s (.int .u8 r)
def octet_Low_C (r : (Int)) : X → Fr → Hp → Prop := FinL [(.t 2)] [] (octet_Low_V r) []
theorem octet_Low_ok (w_ : Int) (r : (Int)) (h : octet_Low w_ = some r) : Pure Tryd.prog 20 [.s (.int .u16 w_)] (octet_Low_V r) := by
  refine ConL.of octet_Low_cfn (Nat.le_of_ble_eq_true (by kernel_rfl)) (Nat.le_of_ble_eq_true (by kernel_rfl)) ?_
  refine k_start ?_
  show dwv Tryd.prog [] octet_Low_ir (kont Tryd.prog [] (octet_Low_C r) []) (fr0 [.s (.int .u16 w_)]) []
  have hf : FOk (fr0 [.s (.int .u16 w_)]) [⟨0, [], .s (.int .u16 w_)⟩] := ⟨⟨fun _ => rfl, fun h => (h trivial).elim⟩, trivial⟩
  generalize fr0 [.s (.int .u16 w_)] = f at hf ⊢
  unfold octet_Low at h
  refine k_seq ?_
  refine k_reg ?_
  refine mops_en hf (by kernel_rfl) fun f1 hf1 => ?_
  refine k_c ?_
  refine k_seq ?_
  refine k_reg ?_
  refine mops_en hf1 (by kernel_rfl) fun f2 hf2 => ?_
  refine k_c ?_
  refine k_ret ?_
  obtain rfl := Option.some.inj h
  exact k_fin (fin_ret (.inl rfl) hf2 (vs := [.s (.int .u8 (IntKind.wrap .u8 w_))]) (by kernel_rfl) (SettL.pure (FzL.stat rfl)))
def digit_sign_i0 : List Op1 := [(oM 2 (.k (.int .u8 0)) [])]
def digit_sign_i1 : List Op1 := [(oM 3 (.t 0) []), (oE 4 (.bin .lss (.t 3) (.k (.int .u8 10))) [0])]
def digit_sign_i2 : List Op1 := [(oM 5 (.t 0) []), (oE 6 (.bin .add (.k (.int .u8 48)) (.t 5)) [0]), (oM 2 (.t 6) [1, 0, 1])]
def digit_sign_i3 : IR := .ret
def digit_sign_i4 : IR := (.cond (.t 4) (.seq (.reg false digit_sign_i2) digit_sign_i3) .skip)
def digit_sign_i5 : List Op1 := [(oM 7 (.t 0) []), (oE 8 (.bin .add (.k (.int .u8 65)) (.t 7)) [0]), (oE 9 (.bin .sub (.t 8) (.k (.int .u8 10))) [1]), (oM 2 (.t 9) [2, 0, 1, 2])]
def digit_sign_i6 : IR := .ret
def digit_sign_i7 : IR := (.seq (.reg false digit_sign_i5) digit_sign_i6)
def digit_sign_i8 : IR := (.seq (.seq (.reg false digit_sign_i1) digit_sign_i4) digit_sign_i7)
def digit_sign_ir : IR := (.seq (.reg false digit_sign_i0) digit_sign_i8)
theorem digit_sign_cfn : cFn Tryd.prog 29 = some (digit_sign_ir, [(.t 2)], 10) := by kernel_rfl
def digit_sign_V (r : (Int)) : V := .s (.int .u8 r)
def digit_sign_C (r : (Int)) : X → Fr → Hp → Prop := FinL [(.t 2)] [] (digit_sign_V r) []
theorem digit_sign_ok (n_ : Int) (r : (Int)) (h : digit_sign n_ = some r) : Pure Tryd.prog 29 [.s (.int .u8 n_)] (digit_sign_V r) := by
  refine ConL.of digit_sign_cfn (Nat.le_of_ble_eq_true (by kernel_rfl)) (Nat.le_of_ble_eq_true (by kernel_rfl)) ?_
  refine k_start ?_
  show dwv Tryd.prog [] digit_sign_ir (kont Tryd.prog [] (digit_sign_C r) []) (fr0 [.s (.int .u8 n_)]) []
  have hf : FOk (fr0 [.s (.int .u8 n_)]) [⟨0, [], .s (.int .u8 n_)⟩] := ⟨⟨fun _ => rfl, fun h => (h trivial).elim⟩, trivial⟩
  generalize fr0 [.s (.int .u8 n_)] = f at hf ⊢
  unfold digit_sign at h
  refine k_seq ?_
  refine k_reg ?_
  refine mops_en hf (by kernel_rfl) fun f1 hf1 => ?_
  refine k_c ?_
  refine k_seq ?_
  refine k_seq ?_
  refine k_reg ?_
  refine mops_en hf1 (by kernel_rfl) fun f2 hf2 => ?_
  refine k_c ?_
  refine k_cond hf2 (t := (decide (n_ < 10))) (by kernel_rfl) (fun hc1 => ?_) (fun hc1 => ?_)
  · have h := if_t h hc1
    refine k_seq ?_
    refine k_reg ?_
    refine mops_en hf2 (by kernel_rfl) fun f3 hf3 => ?_
    refine k_c ?_
    refine k_ret ?_
    refine x_c nofun ?_
    obtain rfl := Option.some.inj h
    exact k_fin (fin_ret (.inl rfl) hf3 (vs := [.s (.int .u8 (IntKind.wrap .u8 (48 + n_)))]) (by kernel_rfl) (SettL.pure (FzL.stat rfl)))
  · have h := if_f h hc1
    refine k_skip ?_
    refine k_c ?_
    refine k_seq ?_
    refine k_reg ?_
    refine mops_en hf2 (by kernel_rfl) fun f3 hf3 => ?_
    refine k_c ?_
    refine k_ret ?_
    obtain rfl := Option.some.inj h
    exact k_fin (fin_ret (.inl rfl) hf3 (vs := [.s (.int .u8 (IntKind.wrap .u8 ((IntKind.wrap .u8 (65 + n_)) - 10)))]) (by kernel_rfl) (SettL.pure (FzL.stat rfl)))
def octet_Sum_i0 : List Op1 := [(oM 2 (.k (.int .u8 0)) [])]
def octet_Sum_i1 : List Op1 := [(oM 3 (.k (.int .u8 0)) [])]
def octet_Sum_i2 : List Op1 := [(oM 6 (.t 0) []), (oE 7 (.len (.t 6)) [0]), (oM 8 (.k (.int .i64 0)) [])]
def octet_Sum_i3 : List Op1 := [(oE 9 (.bin .lss (.t 8) (.t 7)) [])]
def octet_Sum_i4 : List Op1 := [(oE 10 (.ias 1 (.t 6) (.t 8)) []), (oE 11 (.load false 1 (.t 10)) [0]), (oM 5 (.t 11) [1, 0, 1])]
def octet_Sum_i5 : List Op1 := [(oM 12 (.t 3) []), (oM 13 (.t 5) []), (oE 14 (.bin .add (.t 12) (.t 13)) [0, 1]), (oM 3 (.t 14) [2, 0, 1, 2])]
def octet_Sum_i6 : IR := (.reg false octet_Sum_i5)
def octet_Sum_i7 : List Op1 := [(oE 15 (.bin .add (.t 8) (.k (.int .i64 1))) []), (oM 8 (.t 15) [0])]
def octet_Sum_i8 : IR := (.reg false octet_Sum_i7)
def octet_Sum_i9 : IR := (.seq (.block 1 (.seq (.reg false octet_Sum_i4) octet_Sum_i6)) octet_Sum_i8)
def octet_Sum_i10 : IR := (.seq (.cond (.t 9) .skip (.exit 0)) octet_Sum_i9)
def octet_Sum_i11 : IR := (.seq (.reg false octet_Sum_i3) octet_Sum_i10)
def octet_Sum_i12 : IR := (.block 0 (.loop octet_Sum_i11))
def octet_Sum_i13 : List Op1 := [(oM 16 (.t 3) []), (oM 2 (.t 16) [0, 0])]
def octet_Sum_i14 : IR := .ret
def octet_Sum_i15 : IR := (.seq (.reg false octet_Sum_i13) octet_Sum_i14)
def octet_Sum_i16 : IR := (.seq (.seq (.reg false octet_Sum_i2) octet_Sum_i12) octet_Sum_i15)
def octet_Sum_i17 : IR := (.seq (.reg false octet_Sum_i1) octet_Sum_i16)
def octet_Sum_ir : IR := (.seq (.reg false octet_Sum_i0) octet_Sum_i17)
theorem octet_Sum_cfn : cFn Tryd.prog 23 = some (octet_Sum_ir, [(.t 2)], 17) := by kernel_rfl
def octet_Sum_V (r : (Int)) : V := .s (.int .u8 r)
def octet_Sum_C (r : (Int)) : X → Fr → Hp → Prop := FinL [(.t 2)] [] (octet_Sum_V r) []
theorem octet_Sum_ok (b_ : (List Int)) (r : (Int)) (h : octet_Sum b_ = some r) : Pure Tryd.prog 23 [.sl false b_.length (cat (nI .u8) b_)] (octet_Sum_V r) := by
  refine ConL.of octet_Sum_cfn (Nat.le_of_ble_eq_true (by kernel_rfl)) (Nat.le_of_ble_eq_true (by kernel_rfl)) ?_
  refine k_start ?_
  show dwv Tryd.prog [] octet_Sum_ir (kont Tryd.prog [] (octet_Sum_C r) []) (fr0 [.sl false b_.length (cat (nI .u8) b_)]) []
  have hf : FOk (fr0 [.sl false b_.length (cat (nI .u8) b_)]) [⟨0, [], .sl false b_.length (cat (nI .u8) b_)⟩] := ⟨⟨fun _ => rfl, fun h => (h trivial).elim⟩, trivial⟩
  generalize fr0 [.sl false b_.length (cat (nI .u8) b_)] = f at hf ⊢
  unfold octet_Sum at h
  refine k_seq ?_
  refine k_reg ?_
  refine mops_en hf (by kernel_rfl) fun f1 hf1 => ?_
  refine k_c ?_
  refine k_seq ?_
  refine k_reg ?_
  refine mops_en hf1 (by kernel_rfl) fun f2 hf2 => ?_
  refine k_c ?_
  refine k_seq ?_
  refine k_seq ?_
  refine k_reg ?_
  refine mops_en hf2 (by kernel_rfl) fun f3 hf3 => ?_
  refine k_c ?_
  refine k_block ?_
  obtain ⟨o0, hx0, h⟩ := Option.bind_eq_some_iff.1 h
  have hgo0 : ∀ (s_2 : Int), s_2 = o0 → ∀ f, FOk f [⟨2, [], .s (.int .u8 0)⟩, ⟨3, [], .s (.int .u8 s_2)⟩] → kont Tryd.prog [] (octet_Sum_C r) ((.c octet_Sum_i15) :: []) .normal f [] := by
    intro s_2 e f hf
    subst e
    refine k_c ?_
    refine k_seq ?_
    refine k_reg ?_
    refine mops_en hf (by kernel_rfl) fun f1 hf1 => ?_
    refine k_c ?_
    refine k_ret ?_
    obtain rfl := Option.some.inj h
    exact k_fin (fin_ret (.inl rfl) hf1 (vs := [.s (.int .u8 s_2)]) (by kernel_rfl) (SettL.pure (FzL.stat rfl)))
  refine k_loop BIG ?_
  refine loop_ind (fun n f L => ∃ (s_1 : Int) (t_1 : Int), octet_Sum_l0 b_ n s_1 t_1 = some o0 ∧ FOk f [⟨2, [], .s (.int .u8 0)⟩, ⟨3, [], .s (.int .u8 s_1)⟩, ⟨6, [], .sl false b_.length (cat (nI .u8) b_)⟩, ⟨7, [], .s (.int .i64 (ln b_))⟩, ⟨8, [], .s (.int .i64 t_1)⟩] ∧ L = []) ?_ ?_ BIG _ _ ⟨(0), (0), hx0, FOk_of [2, 3, 6, 7, 8] hf3 (by kernel_rfl), (by kernel_rfl)⟩
  · rintro f L ⟨s_1, t_1, h, _⟩
    cases (show (none : Option _) = some _ from h)
  · rintro n0 R0 ih f L ⟨s_1, t_1, h, hf, rfl⟩
    rw [octet_Sum_l0] at h
    refine k_seq ?_
    refine k_reg ?_
    refine mops_en hf (by kernel_rfl) fun f1 hf1 => ?_
    refine k_c ?_
    refine k_seq ?_
    refine k_cond hf1 (t := (decide (t_1 < (ln b_)))) (by kernel_rfl) (fun hc1 => ?_) (fun hc1 => ?_)
    · have h := if_t h hc1
      refine k_skip ?_
      refine k_c ?_
      refine k_seq ?_
      refine k_block ?_
      refine k_seq ?_
      refine k_reg ?_
      obtain ⟨c2, h⟩ := as_ok h
      refine mops_adv rfl (v := .ip ((cat (nI .u8) b_).drop ((t_1 : Int).toNat * 1))) hf1 (by kernel_rfl) (e_ias (n := b_.length) (xv := .sl false b_.length (cat (nI .u8) b_)) (k := .i64) (iv := t_1) (p := .ip ((cat (nI .u8) b_).drop ((t_1 : Int).toNat * 1))) (by kernel_rfl) (by kernel_rfl) (by kernel_rfl) (by kernel_rfl) c2) fun f2 hf2 => ?_
      refine mops_adv rfl (v := .s (.int .u8 (gt b_ t_1))) hf2 (by kernel_rfl) (e_load_ip (g := (nI .u8)) (l := b_) (iv := t_1) [] (by kernel_rfl) c2 (by kernel_rfl) (by kernel_rfl)) fun f3 hf3 => ?_
      refine mops_en hf3 (by kernel_rfl) fun f4 hf4 => ?_
      refine k_c ?_
      refine k_reg ?_
      refine mops_en hf4 (by kernel_rfl) fun f5 hf5 => ?_
      refine k_b ?_
      refine k_c ?_
      refine k_reg ?_
      refine mops_en hf5 (by kernel_rfl) fun f6 hf6 => ?_
      refine k_l ?_
      exact ih _ _ ⟨(IntKind.wrap .u8 (s_1 + (gt b_ t_1))), (IntKind.wrap .i64 (t_1 + 1)), h, FOk_of [2, 3, 6, 7, 8] hf6 (by kernel_rfl), (by kernel_rfl)⟩
    · have h := if_f h hc1
      refine k_exit ?_
      refine x_c nofun ?_
      refine x_l nofun ?_
      refine x_b ?_
      refine k_hp (L' := []) (by kernel_rfl) ?_
      exact hgo0 s_1 (Option.some.inj h) _ (FOk_of [2, 3] hf1 (by kernel_rfl))
def unicode_utf8_decodeRuneInStringSlow_i0 : List Op1 := [(oM 2 (.k (.int .i32 0)) []), (oM 3 (.k (.int .i64 0)) [0])]
def unicode_utf8_decodeRuneInStringSlow_i1 : List Op1 := [(oM 13 (.t 0) []), (oE 14 (.lens (.t 13)) [0]), (oM 4 (.t 14) [1, 0, 1])]
def unicode_utf8_decodeRuneInStringSlow_i2 : List Op1 := [(oM 15 (.t 4) []), (oE 16 (.bin .lss (.t 15) (.k (.int .i64 1))) [0])]
def unicode_utf8_decodeRuneInStringSlow_i3 : List Op1 := [(oM 2 (.k (.int .i32 65533)) []), (oM 3 (.k (.int .i64 0)) [0, 0])]
def unicode_utf8_decodeRuneInStringSlow_i4 : IR := .ret
def unicode_utf8_decodeRuneInStringSlow_i5 : IR := (.cond (.t 16) (.seq (.reg false unicode_utf8_decodeRuneInStringSlow_i3) unicode_utf8_decodeRuneInStringSlow_i4) .skip)
def unicode_utf8_decodeRuneInStringSlow_i6 : List Op1 := [(oM 17 (.t 0) []), (oE 18 (.ixs (.t 17) (.k (.int .i64 0))) [0]), (oM 5 (.t 18) [1, 0, 1])]
def unicode_utf8_decodeRuneInStringSlow_i7 : List Op1 := [(oM 19 (.t 5) []), (oE 20 (.lens (.k (.bool false))) [0]), (oE 21 (.load false 1 (.t 20)) [1]), (oM 6 (.t 21) [2, 0, 1, 2])]
def unicode_utf8_decodeRuneInStringSlow_i8 : List Op1 := [(oM 22 (.t 6) []), (oE 23 (.bin .geq (.t 22) (.k (.int .u8 240))) [0])]
def unicode_utf8_decodeRuneInStringSlow_i9 : List Op1 := [(oM 24 (.t 6) []), (oE 25 (.cint .i32 (.t 24)) [0]), (oE 26 (.bin .shl (.t 25) (.k (.int .u64 31))) [1]), (oE 27 (.bin .shr (.t 26) (.k (.int .u64 31))) [2]), (oM 7 (.t 27) [3, 0, 1, 2, 3])]
def unicode_utf8_decodeRuneInStringSlow_i10 : List Op1 := [(oM 28 (.t 0) []), (oE 29 (.ixs (.t 28) (.k (.int .i64 0))) [0]), (oE 30 (.cint .i32 (.t 29)) [1]), (oM 31 (.t 7) []), (oE 32 (.bin .andNot (.t 30) (.t 31)) [2, 3]), (oM 33 (.t 7) []), (oE 34 (.bin .and (.k (.int .i32 65533)) (.t 33)) [5]), (oE 35 (.bin .or (.t 32) (.t 34)) [4, 6]), (oM 2 (.t 35) [7, 0, 1, 2, 3, 4, 5, 6, 7]), (oM 3 (.k (.int .i64 1)) [8, 0, 1, 2, 3, 4, 5, 6, 7, 8])]
def unicode_utf8_decodeRuneInStringSlow_i11 : IR := .ret
def unicode_utf8_decodeRuneInStringSlow_i12 : IR := (.seq (.reg false unicode_utf8_decodeRuneInStringSlow_i10) unicode_utf8_decodeRuneInStringSlow_i11)
def unicode_utf8_decodeRuneInStringSlow_i13 : IR := (.cond (.t 23) (.seq (.reg false unicode_utf8_decodeRuneInStringSlow_i9) unicode_utf8_decodeRuneInStringSlow_i12) .skip)
def unicode_utf8_decodeRuneInStringSlow_i14 : List Op1 := [(oM 36 (.t 6) []), (oE 37 (.bin .and (.t 36) (.k (.int .u8 7))) [0]), (oE 38 (.cint .i64 (.t 37)) [1]), (oM 8 (.t 38) [2, 0, 1, 2])]
def unicode_utf8_decodeRuneInStringSlow_i15 : List Op1 := [(oM 39 (.t 6) []), (oE 40 (.bin .shr (.t 39) (.k (.int .u64 4))) [0]), (oE 41 (.lens (.k (.bool false))) [1]), (oE 42 (.load true 2 (.t 41)) [2]), (oE 9 (.zero [(.int .u8 0), (.int .u8 0)]) []), (oN (.store 2 (.t 9) (.t 42)) [4, 3, 0, 1, 2, 3, 4])]
def unicode_utf8_decodeRuneInStringSlow_i16 : List Op1 := [(oM 43 (.t 4) []), (oM 44 (.t 8) []), (oE 45 (.bin .lss (.t 43) (.t 44)) [0, 1])]
def unicode_utf8_decodeRuneInStringSlow_i17 : List Op1 := [(oM 2 (.k (.int .i32 65533)) []), (oM 3 (.k (.int .i64 1)) [0, 0])]
def unicode_utf8_decodeRuneInStringSlow_i18 : IR := .ret
def unicode_utf8_decodeRuneInStringSlow_i19 : IR := (.cond (.t 45) (.seq (.reg false unicode_utf8_decodeRuneInStringSlow_i17) unicode_utf8_decodeRuneInStringSlow_i18) .skip)
def unicode_utf8_decodeRuneInStringSlow_i20 : List Op1 := [(oM 46 (.t 0) []), (oE 47 (.ixs (.t 46) (.k (.int .i64 1))) [0]), (oM 10 (.t 47) [1, 0, 1])]
def unicode_utf8_decodeRuneInStringSlow_i21 : List Op1 := [(oM 48 (.t 10) []), (oE 49 (.fld 0 (.t 9)) []), (oE 50 (.load false 1 (.t 49)) [1]), (oE 51 (.bin .lss (.t 48) (.t 50)) [0, 2]), (oM 52 (.t 51) [3]), (oG 53 (.fld 1 (.t 9)) 52 false [4]), (oG 54 (.load false 1 (.t 53)) 52 false [5, 4]), (oG 55 (.mv (.t 10)) 52 false [4]), (oG 56 (.bin .lss (.t 54) (.t 55)) 52 false [6, 7, 4]), (oE 57 (.pick (.t 52) (.k (.bool true)) (.t 56)) [4, 8])]
def unicode_utf8_decodeRuneInStringSlow_i22 : List Op1 := [(oM 2 (.k (.int .i32 65533)) []), (oM 3 (.k (.int .i64 1)) [0, 0])]
def unicode_utf8_decodeRuneInStringSlow_i23 : IR := .ret
def unicode_utf8_decodeRuneInStringSlow_i24 : IR := (.cond (.t 57) (.seq (.reg false unicode_utf8_decodeRuneInStringSlow_i22) unicode_utf8_decodeRuneInStringSlow_i23) .skip)
def unicode_utf8_decodeRuneInStringSlow_i25 : List Op1 := [(oM 58 (.t 8) []), (oE 59 (.bin .leq (.t 58) (.k (.int .i64 2))) [0])]
def unicode_utf8_decodeRuneInStringSlow_i26 : List Op1 := [(oM 60 (.t 5) []), (oE 61 (.bin .and (.t 60) (.k (.int .u8 31))) [0]), (oE 62 (.cint .i32 (.t 61)) [1]), (oE 63 (.bin .shl (.t 62) (.k (.int .u64 6))) [2]), (oM 64 (.t 10) []), (oE 65 (.bin .and (.t 64) (.k (.int .u8 63))) [4]), (oE 66 (.cint .i32 (.t 65)) [5]), (oE 67 (.bin .or (.t 63) (.t 66)) [3, 6]), (oM 2 (.t 67) [7, 0, 1, 2, 3, 4, 5, 6, 7]), (oM 3 (.k (.int .i64 2)) [8, 0, 1, 2, 3, 4, 5, 6, 7, 8])]
def unicode_utf8_decodeRuneInStringSlow_i27 : IR := .ret
def unicode_utf8_decodeRuneInStringSlow_i28 : IR := (.cond (.t 59) (.seq (.reg false unicode_utf8_decodeRuneInStringSlow_i26) unicode_utf8_decodeRuneInStringSlow_i27) .skip)
def unicode_utf8_decodeRuneInStringSlow_i29 : List Op1 := [(oM 68 (.t 0) []), (oE 69 (.ixs (.t 68) (.k (.int .i64 2))) [0]), (oM 11 (.t 69) [1, 0, 1])]
def unicode_utf8_decodeRuneInStringSlow_i30 : List Op1 := [(oM 70 (.t 11) []), (oE 71 (.bin .lss (.t 70) (.k (.int .u8 128))) [0]), (oM 72 (.t 71) [1]), (oG 73 (.mv (.t 11)) 72 false [2]), (oG 74 (.bin .lss (.k (.int .u8 191)) (.t 73)) 72 false [3, 2]), (oE 75 (.pick (.t 72) (.k (.bool true)) (.t 74)) [2, 4])]
def unicode_utf8_decodeRuneInStringSlow_i31 : List Op1 := [(oM 2 (.k (.int .i32 65533)) []), (oM 3 (.k (.int .i64 1)) [0, 0])]
def unicode_utf8_decodeRuneInStringSlow_i32 : IR := .ret
def unicode_utf8_decodeRuneInStringSlow_i33 : IR := (.cond (.t 75) (.seq (.reg false unicode_utf8_decodeRuneInStringSlow_i31) unicode_utf8_decodeRuneInStringSlow_i32) .skip)
def unicode_utf8_decodeRuneInStringSlow_i34 : List Op1 := [(oM 76 (.t 8) []), (oE 77 (.bin .leq (.t 76) (.k (.int .i64 3))) [0])]
def unicode_utf8_decodeRuneInStringSlow_i35 : List Op1 := [(oM 78 (.t 5) []), (oE 79 (.bin .and (.t 78) (.k (.int .u8 15))) [0]), (oE 80 (.cint .i32 (.t 79)) [1]), (oE 81 (.bin .shl (.t 80) (.k (.int .u64 12))) [2]), (oM 82 (.t 10) []), (oE 83 (.bin .and (.t 82) (.k (.int .u8 63))) [4]), (oE 84 (.cint .i32 (.t 83)) [5]), (oE 85 (.bin .shl (.t 84) (.k (.int .u64 6))) [6]), (oE 86 (.bin .or (.t 81) (.t 85)) [3, 7]), (oM 87 (.t 11) []), (oE 88 (.bin .and (.t 87) (.k (.int .u8 63))) [9]), (oE 89 (.cint .i32 (.t 88)) [10]), (oE 90 (.bin .or (.t 86) (.t 89)) [8, 11]), (oM 2 (.t 90) [12, 0, 1, 2, 3, 4, 5, 6, 7, 8, 9, 10, 11, 12]), (oM 3 (.k (.int .i64 3)) [13, 0, 1, 2, 3, 4, 5, 6, 7, 8, 9, 10, 11, 12, 13])]
def unicode_utf8_decodeRuneInStringSlow_i36 : IR := .ret
def unicode_utf8_decodeRuneInStringSlow_i37 : IR := (.cond (.t 77) (.seq (.reg false unicode_utf8_decodeRuneInStringSlow_i35) unicode_utf8_decodeRuneInStringSlow_i36) .skip)
def unicode_utf8_decodeRuneInStringSlow_i38 : List Op1 := [(oM 91 (.t 0) []), (oE 92 (.ixs (.t 91) (.k (.int .i64 3))) [0]), (oM 12 (.t 92) [1, 0, 1])]
def unicode_utf8_decodeRuneInStringSlow_i39 : List Op1 := [(oM 93 (.t 12) []), (oE 94 (.bin .lss (.t 93) (.k (.int .u8 128))) [0]), (oM 95 (.t 94) [1]), (oG 96 (.mv (.t 12)) 95 false [2]), (oG 97 (.bin .lss (.k (.int .u8 191)) (.t 96)) 95 false [3, 2]), (oE 98 (.pick (.t 95) (.k (.bool true)) (.t 97)) [2, 4])]
def unicode_utf8_decodeRuneInStringSlow_i40 : List Op1 := [(oM 2 (.k (.int .i32 65533)) []), (oM 3 (.k (.int .i64 1)) [0, 0])]
def unicode_utf8_decodeRuneInStringSlow_i41 : IR := .ret
def unicode_utf8_decodeRuneInStringSlow_i42 : IR := (.cond (.t 98) (.seq (.reg false unicode_utf8_decodeRuneInStringSlow_i40) unicode_utf8_decodeRuneInStringSlow_i41) .skip)
def unicode_utf8_decodeRuneInStringSlow_i43 : List Op1 := [(oM 99 (.t 5) []), (oE 100 (.bin .and (.t 99) (.k (.int .u8 7))) [0]), (oE 101 (.cint .i32 (.t 100)) [1]), (oE 102 (.bin .shl (.t 101) (.k (.int .u64 18))) [2]), (oM 103 (.t 10) []), (oE 104 (.bin .and (.t 103) (.k (.int .u8 63))) [4]), (oE 105 (.cint .i32 (.t 104)) [5]), (oE 106 (.bin .shl (.t 105) (.k (.int .u64 12))) [6]), (oE 107 (.bin .or (.t 102) (.t 106)) [3, 7]), (oM 108 (.t 11) []), (oE 109 (.bin .and (.t 108) (.k (.int .u8 63))) [9]), (oE 110 (.cint .i32 (.t 109)) [10]), (oE 111 (.bin .shl (.t 110) (.k (.int .u64 6))) [11]), (oE 112 (.bin .or (.t 107) (.t 111)) [8, 12]), (oM 113 (.t 12) []), (oE 114 (.bin .and (.t 113) (.k (.int .u8 63))) [14]), (oE 115 (.cint .i32 (.t 114)) [15]), (oE 116 (.bin .or (.t 112) (.t 115)) [13, 16]), (oM 2 (.t 116) [17, 0, 1, 2, 3, 4, 5, 6, 7, 8, 9, 10, 11, 12, 13, 14, 15, 16, 17]), (oM 3 (.k (.int .i64 4)) [18, 0, 1, 2, 3, 4, 5, 6, 7, 8, 9, 10, 11, 12, 13, 14, 15, 16, 17, 18])]
def unicode_utf8_decodeRuneInStringSlow_i44 : IR := .ret
def unicode_utf8_decodeRuneInStringSlow_i45 : IR := (.seq (.reg false unicode_utf8_decodeRuneInStringSlow_i43) unicode_utf8_decodeRuneInStringSlow_i44)
def unicode_utf8_decodeRuneInStringSlow_i46 : IR := (.seq (.seq (.reg false unicode_utf8_decodeRuneInStringSlow_i39) unicode_utf8_decodeRuneInStringSlow_i42) unicode_utf8_decodeRuneInStringSlow_i45)
def unicode_utf8_decodeRuneInStringSlow_i47 : IR := (.seq (.reg false unicode_utf8_decodeRuneInStringSlow_i38) unicode_utf8_decodeRuneInStringSlow_i46)
def unicode_utf8_decodeRuneInStringSlow_i48 : IR := (.seq (.seq (.reg false unicode_utf8_decodeRuneInStringSlow_i34) unicode_utf8_decodeRuneInStringSlow_i37) unicode_utf8_decodeRuneInStringSlow_i47)
def unicode_utf8_decodeRuneInStringSlow_i49 : IR := (.seq (.seq (.reg false unicode_utf8_decodeRuneInStringSlow_i30) unicode_utf8_decodeRuneInStringSlow_i33) unicode_utf8_decodeRuneInStringSlow_i48)
def unicode_utf8_decodeRuneInStringSlow_i50 : IR := (.seq (.reg false unicode_utf8_decodeRuneInStringSlow_i29) unicode_utf8_decodeRuneInStringSlow_i49)
def unicode_utf8_decodeRuneInStringSlow_i51 : IR := (.seq (.seq (.reg false unicode_utf8_decodeRuneInStringSlow_i25) unicode_utf8_decodeRuneInStringSlow_i28) unicode_utf8_decodeRuneInStringSlow_i50)
def unicode_utf8_decodeRuneInStringSlow_i52 : IR := (.seq (.seq (.reg false unicode_utf8_decodeRuneInStringSlow_i21) unicode_utf8_decodeRuneInStringSlow_i24) unicode_utf8_decodeRuneInStringSlow_i51)
def unicode_utf8_decodeRuneInStringSlow_i53 : IR := (.seq (.reg false unicode_utf8_decodeRuneInStringSlow_i20) unicode_utf8_decodeRuneInStringSlow_i52)
def unicode_utf8_decodeRuneInStringSlow_i54 : IR := (.seq (.seq (.reg false unicode_utf8_decodeRuneInStringSlow_i16) unicode_utf8_decodeRuneInStringSlow_i19) unicode_utf8_decodeRuneInStringSlow_i53)
def unicode_utf8_decodeRuneInStringSlow_i55 : IR := (.seq (.reg false unicode_utf8_decodeRuneInStringSlow_i15) unicode_utf8_decodeRuneInStringSlow_i54)
def unicode_utf8_decodeRuneInStringSlow_i56 : IR := (.seq (.reg false unicode_utf8_decodeRuneInStringSlow_i14) unicode_utf8_decodeRuneInStringSlow_i55)
def unicode_utf8_decodeRuneInStringSlow_i57 : IR := (.seq (.seq (.reg false unicode_utf8_decodeRuneInStringSlow_i8) unicode_utf8_decodeRuneInStringSlow_i13) unicode_utf8_decodeRuneInStringSlow_i56)
def unicode_utf8_decodeRuneInStringSlow_i58 : IR := (.seq (.reg false unicode_utf8_decodeRuneInStringSlow_i7) unicode_utf8_decodeRuneInStringSlow_i57)
def unicode_utf8_decodeRuneInStringSlow_i59 : IR := (.seq (.reg false unicode_utf8_decodeRuneInStringSlow_i6) unicode_utf8_decodeRuneInStringSlow_i58)
def unicode_utf8_decodeRuneInStringSlow_i60 : IR := (.seq (.seq (.reg false unicode_utf8_decodeRuneInStringSlow_i2) unicode_utf8_decodeRuneInStringSlow_i5) unicode_utf8_decodeRuneInStringSlow_i59)
def unicode_utf8_decodeRuneInStringSlow_i61 : IR := (.seq (.reg false unicode_utf8_decodeRuneInStringSlow_i1) unicode_utf8_decodeRuneInStringSlow_i60)
def unicode_utf8_decodeRuneInStringSlow_ir : IR := (.seq (.reg false unicode_utf8_decodeRuneInStringSlow_i0) unicode_utf8_decodeRuneInStringSlow_i61)
theorem unicode_utf8_decodeRuneInStringSlow_cfn : cFn Tryd.prog 38 = some (unicode_utf8_decodeRuneInStringSlow_ir, [(.t 2), (.t 3)], 117) := by kernel_rfl
def unicode_utf8_decodeRuneInStringSlow_V (r : (Int × Int)) : V := .tup [.s (.int .i32 r.1), .s (.int .i64 r.2)]
def unicode_utf8_decodeRuneInStringSlow_C (r : (Int × Int)) : X → Fr → Hp → Prop := FinL [(.t 2), (.t 3)] [] (unicode_utf8_decodeRuneInStringSlow_V r) []
theorem unicode_utf8_decodeRuneInStringSlow_ok (s_ : ByteArray) (r : (Int × Int)) (h : unicode_utf8_decodeRuneInStringSlow s_ = some r) : Pure Tryd.prog 38 [.s (.string s_)] (unicode_utf8_decodeRuneInStringSlow_V r) := by
  refine ConL.of unicode_utf8_decodeRuneInStringSlow_cfn (Nat.le_of_ble_eq_true (by kernel_rfl)) (Nat.le_of_ble_eq_true (by kernel_rfl)) ?_
  refine k_start ?_
  show dwv Tryd.prog [] unicode_utf8_decodeRuneInStringSlow_ir (kont Tryd.prog [] (unicode_utf8_decodeRuneInStringSlow_C r) []) (fr0 [.s (.string s_)]) []
  have hf : FOk (fr0 [.s (.string s_)]) [⟨0, [], .s (.string s_)⟩] := ⟨⟨fun _ => rfl, fun h => (h trivial).elim⟩, trivial⟩
  generalize fr0 [.s (.string s_)] = f at hf ⊢
  unfold unicode_utf8_decodeRuneInStringSlow at h
  refine k_seq ?_
  refine k_reg ?_
  refine mops_en hf (by kernel_rfl) fun f1 hf1 => ?_
  refine k_c ?_
  refine k_seq ?_
  refine k_reg ?_
  refine mops_en hf1 (by kernel_rfl) fun f2 hf2 => ?_
  refine k_c ?_
  refine k_seq ?_
  refine k_seq ?_
  refine k_reg ?_
  refine mops_en hf2 (by kernel_rfl) fun f3 hf3 => ?_
  refine k_c ?_
  refine k_cond hf3 (t := (decide ((sln s_) < 1))) (by kernel_rfl) (fun hc1 => ?_) (fun hc1 => ?_)
  · have h := if_t h hc1
    refine k_seq ?_
    refine k_reg ?_
    refine mops_en hf3 (by kernel_rfl) fun f4 hf4 => ?_
    refine k_c ?_
    refine k_ret ?_
    refine x_c nofun ?_
    obtain rfl := Option.some.inj h
    exact k_fin (fin_ret (.inl rfl) hf4 (vs := [.s (.int .i32 65533), .s (.int .i64 0)]) (by kernel_rfl) (SettL.pure (FzL.tup (FzsL.cons (FzL.stat rfl) (FzsL.cons (FzL.stat rfl) FzsL.nil)))))
  · have h := if_f h hc1
    cases h
def strings_Index_i0 : List Op1 := [(oM 4 (.k (.int .i64 0)) [])]
def strings_Index_i1 : List Op1 := [(oM 5 (.t 0) []), (oM 6 (.t 1) []), (oC 7 37 [(.t 5), (.t 6)] [0, 1]), (oM 4 (.t 7) [2, 2, 0, 1, 2])]
def strings_Index_i2 : IR := .ret
def strings_Index_i3 : IR := (.seq (.reg false strings_Index_i1) strings_Index_i2)
def strings_Index_ir : IR := (.seq (.reg false strings_Index_i0) strings_Index_i3)
theorem strings_Index_cfn : cFn Tryd.prog 32 = some (strings_Index_ir, [(.t 4)], 8) := by kernel_rfl
def strings_Index_V (r : (Int)) : V := .s (.int .i64 r)
def strings_Index_C (r : (Int)) : X → Fr → Hp → Prop := FinL [(.t 4)] [] (strings_Index_V r) []
theorem strings_Index_ok (s_ : ByteArray) (substr_ : ByteArray) (r : (Int)) (h : strings_Index s_ substr_ = some r) : Pure Tryd.prog 32 [.s (.string s_), .s (.string substr_)] (strings_Index_V r) := by
  refine ConL.of strings_Index_cfn (Nat.le_of_ble_eq_true (by kernel_rfl)) (Nat.le_of_ble_eq_true (by kernel_rfl)) ?_
  refine k_start ?_
  show dwv Tryd.prog [] strings_Index_ir (kont Tryd.prog [] (strings_Index_C r) []) (fr0 [.s (.string s_), .s (.string substr_)]) []
  have hf : FOk (fr0 [.s (.string s_), .s (.string substr_)]) [⟨0, [], .s (.string s_)⟩, ⟨1, [], .s (.string substr_)⟩] := ⟨⟨fun _ => rfl, fun h => (h trivial).elim⟩, ⟨fun _ => rfl, fun h => (h trivial).elim⟩, trivial⟩
  generalize fr0 [.s (.string s_), .s (.string substr_)] = f at hf ⊢
  unfold strings_Index at h
  refine k_seq ?_
  refine k_reg ?_
  refine mops_en hf (by kernel_rfl) fun f1 hf1 => ?_
  refine k_c ?_
  refine k_seq ?_
  refine k_reg ?_
  refine mops_sg 2 hf1 (by kernel_rfl) fun f2 hf2 => ?_
  obtain ⟨r_, hx_r_, h⟩ := Option.bind_eq_some_iff.1 h
  refine mops_call rfl hf2 (av := [.s (.string s_), .s (.string substr_)]) (by kernel_rfl) (v := .s (.int .i64 r_)) (CalL.pure (internal_stringslite_Index_ok s_ substr_ r_ hx_r_) rfl rfl (Nat.le_of_ble_eq_true (by kernel_rfl))) (fun _ => rfl) fun f3 hf3 => ?_
  refine mops_en hf3 (by kernel_rfl) fun f4 hf4 => ?_
  refine k_c ?_
  refine k_ret ?_
  obtain rfl := Option.some.inj h
  exact k_fin (fin_ret (.inl rfl) hf4 (vs := [.s (.int .i64 r_)]) (by kernel_rfl) (SettL.pure (FzL.stat rfl)))
def digit_value_i0 : List Op1 := [(oM 2 (.k (.int .u8 0)) []), (oM 3 (.k (.bool false)) [0])]
def digit_value_i1 : List Op1 := [(oM 5 (.t 0) []), (oE 6 (.bin .geq (.t 5) (.k (.int .u8 48))) [0]), (oM 7 (.t 6) [1]), (oG 8 (.mv (.t 0)) 7 true [2]), (oG 9 (.bin .leq (.t 8) (.k (.int .u8 57))) 7 true [3, 2]), (oE 10 (.pick (.t 7) (.t 9) (.k (.bool false))) [2, 4]), (oM 4 (.t 10) [5, 2])]
def digit_value_i2 : List Op1 := [(oM 11 (.t 0) []), (oE 12 (.bin .sub (.t 11) (.k (.int .u8 48))) [0]), (oM 2 (.t 12) [1, 0, 1]), (oM 3 (.k (.bool true)) [2, 0, 1, 2])]
def digit_value_i3 : IR := .ret
def digit_value_i4 : List Op1 := [(oM 14 (.t 0) []), (oE 15 (.bin .geq (.t 14) (.k (.int .u8 65))) [0]), (oM 16 (.t 15) [1]), (oG 17 (.mv (.t 0)) 16 true [2]), (oG 18 (.bin .leq (.t 17) (.k (.int .u8 70))) 16 true [3, 2]), (oE 19 (.pick (.t 16) (.t 18) (.k (.bool false))) [2, 4]), (oM 13 (.t 19) [5, 2])]
def digit_value_i5 : List Op1 := [(oM 20 (.t 0) []), (oE 21 (.bin .sub (.t 20) (.k (.int .u8 65))) [0]), (oE 22 (.bin .add (.t 21) (.k (.int .u8 10))) [1]), (oM 2 (.t 22) [2, 0, 1, 2]), (oM 3 (.k (.bool true)) [3, 0, 1, 2, 3])]
def digit_value_i6 : IR := .ret
def digit_value_i7 : List Op1 := [(oM 24 (.t 0) []), (oE 25 (.bin .geq (.t 24) (.k (.int .u8 97))) [0]), (oM 26 (.t 25) [1]), (oG 27 (.mv (.t 0)) 26 true [2]), (oG 28 (.bin .leq (.t 27) (.k (.int .u8 102))) 26 true [3, 2]), (oE 29 (.pick (.t 26) (.t 28) (.k (.bool false))) [2, 4]), (oM 23 (.t 29) [5, 2])]
def digit_value_i8 : List Op1 := [(oM 30 (.t 0) []), (oE 31 (.bin .sub (.t 30) (.k (.int .u8 97))) [0]), (oE 32 (.bin .add (.t 31) (.k (.int .u8 10))) [1]), (oM 2 (.t 32) [2, 0, 1, 2]), (oM 3 (.k (.bool true)) [3, 0, 1, 2, 3])]
def digit_value_i9 : IR := .ret
def digit_value_i10 : IR := (.cond (.t 23) (.seq (.reg false digit_value_i8) digit_value_i9) .skip)
def digit_value_i11 : IR := (.cond (.t 13) (.seq (.reg false digit_value_i5) digit_value_i6) (.seq (.reg false digit_value_i7) digit_value_i10))
def digit_value_i12 : IR := (.cond (.t 4) (.seq (.reg false digit_value_i2) digit_value_i3) (.seq (.reg false digit_value_i4) digit_value_i11))
def digit_value_i13 : List Op1 := [(oM 2 (.k (.int .u8 0)) []), (oM 3 (.k (.bool false)) [0, 0])]
def digit_value_i14 : IR := .ret
def digit_value_i15 : IR := (.seq (.reg false digit_value_i13) digit_value_i14)
def digit_value_i16 : IR := (.seq (.block 0 (.seq (.reg false digit_value_i1) digit_value_i12)) digit_value_i15)
def digit_value_ir : IR := (.seq (.reg false digit_value_i0) digit_value_i16)
theorem digit_value_cfn : cFn Tryd.prog 33 = some (digit_value_ir, [(.t 2), (.t 3)], 33) := by kernel_rfl
def digit_value_V (r : (Int × Bool)) : V := .tup [.s (.int .u8 r.1), .s (.bool r.2)]
def digit_value_C (r : (Int × Bool)) : X → Fr → Hp → Prop := FinL [(.t 2), (.t 3)] [] (digit_value_V r) []
theorem digit_value_ok (c_ : Int) (r : (Int × Bool)) (h : digit_value c_ = some r) : Pure Tryd.prog 33 [.s (.int .u8 c_)] (digit_value_V r) := by
  refine ConL.of digit_value_cfn (Nat.le_of_ble_eq_true (by kernel_rfl)) (Nat.le_of_ble_eq_true (by kernel_rfl)) ?_
  refine k_start ?_
  show dwv Tryd.prog [] digit_value_ir (kont Tryd.prog [] (digit_value_C r) []) (fr0 [.s (.int .u8 c_)]) []
  have hf : FOk (fr0 [.s (.int .u8 c_)]) [⟨0, [], .s (.int .u8 c_)⟩] := ⟨⟨fun _ => rfl, fun h => (h trivial).elim⟩, trivial⟩
  generalize fr0 [.s (.int .u8 c_)] = f at hf ⊢
  unfold digit_value at h
  refine k_seq ?_
  refine k_reg ?_
  refine mops_en hf (by kernel_rfl) fun f1 hf1 => ?_
  refine k_c ?_
  refine k_seq ?_
  refine k_block ?_
  refine k_seq ?_
  refine k_reg ?_
  refine mops_en hf1 (by kernel_rfl) fun f2 hf2 => ?_
  refine k_c ?_
  refine k_cond hf2 (t := ((decide (48 ≤ c_)) && (decide (c_ ≤ 57)))) (by kernel_rfl) (fun hc1 => ?_) (fun hc1 => ?_)
  · have h := if_t h hc1
    refine k_seq ?_
    refine k_reg ?_
    refine mops_en hf2 (by kernel_rfl) fun f3 hf3 => ?_
    refine k_c ?_
    refine k_ret ?_
    refine x_br ?_
    refine x_c nofun ?_
    obtain rfl := Option.some.inj h
    exact k_fin (fin_ret (.inl rfl) hf3 (vs := [.s (.int .u8 (IntKind.wrap .u8 (c_ - 48))), .s (.bool true)]) (by kernel_rfl) (SettL.pure (FzL.tup (FzsL.cons (FzL.stat rfl) (FzsL.cons (FzL.stat rfl) FzsL.nil)))))
  · have h := if_f h hc1
    refine k_seq ?_
    refine k_reg ?_
    refine mops_en hf2 (by kernel_rfl) fun f3 hf3 => ?_
    refine k_c ?_
    refine k_cond hf3 (t := ((decide (65 ≤ c_)) && (decide (c_ ≤ 70)))) (by kernel_rfl) (fun hc2 => ?_) (fun hc2 => ?_)
    · have h := if_t h hc2
      refine k_seq ?_
      refine k_reg ?_
      refine mops_en hf3 (by kernel_rfl) fun f4 hf4 => ?_
      refine k_c ?_
      refine k_ret ?_
      refine x_br ?_
      refine x_c nofun ?_
      obtain rfl := Option.some.inj h
      exact k_fin (fin_ret (.inl rfl) hf4 (vs := [.s (.int .u8 (IntKind.wrap .u8 ((IntKind.wrap .u8 (c_ - 65)) + 10))), .s (.bool true)]) (by kernel_rfl) (SettL.pure (FzL.tup (FzsL.cons (FzL.stat rfl) (FzsL.cons (FzL.stat rfl) FzsL.nil)))))
    · have h := if_f h hc2
      refine k_seq ?_
      refine k_reg ?_
      refine mops_en hf3 (by kernel_rfl) fun f4 hf4 => ?_
      refine k_c ?_
      refine k_cond hf4 (t := ((decide (97 ≤ c_)) && (decide (c_ ≤ 102)))) (by kernel_rfl) (fun hc3 => ?_) (fun hc3 => ?_)
      · have h := if_t h hc3
        refine k_seq ?_
        refine k_reg ?_
        refine mops_en hf4 (by kernel_rfl) fun f5 hf5 => ?_
        refine k_c ?_
        refine k_ret ?_
        refine x_br ?_
        refine x_c nofun ?_
        obtain rfl := Option.some.inj h
        exact k_fin (fin_ret (.inl rfl) hf5 (vs := [.s (.int .u8 (IntKind.wrap .u8 ((IntKind.wrap .u8 (c_ - 97)) + 10))), .s (.bool true)]) (by kernel_rfl) (SettL.pure (FzL.tup (FzsL.cons (FzL.stat rfl) (FzsL.cons (FzL.stat rfl) FzsL.nil)))))
      · have h := if_f h hc3
        refine k_skip ?_
        refine k_b ?_
        refine k_c ?_
        refine k_seq ?_
        refine k_reg ?_
        refine mops_en hf4 (by kernel_rfl) fun f5 hf5 => ?_
        refine k_c ?_
        refine k_ret ?_
        obtain rfl := Option.some.inj h
        exact k_fin (fin_ret (.inl rfl) hf5 (vs := [.s (.int .u8 0), .s (.bool false)]) (by kernel_rfl) (SettL.pure (FzL.tup (FzsL.cons (FzL.stat rfl) (FzsL.cons (FzL.stat rfl) FzsL.nil)))))
def octet_Word_i0 : List Op1 := [(oM 4 (.k (.int .u16 0)) [])]
def octet_Word_i1 : List Op1 := [(oM 5 (.t 0) []), (oE 6 (.cint .u16 (.t 5)) [0]), (oE 7 (.bin .shl (.t 6) (.k (.int .u64 8))) [1]), (oM 8 (.t 1) []), (oE 9 (.cint .u16 (.t 8)) [3]), (oE 10 (.bin .or (.t 7) (.t 9)) [2, 4]), (oM 4 (.t 10) [5, 0, 1, 2, 3, 4, 5])]
def octet_Word_i2 : IR := .ret
def octet_Word_i3 : IR := (.seq (.reg false octet_Word_i1) octet_Word_i2)
def octet_Word_ir : IR := (.seq (.reg false octet_Word_i0) octet_Word_i3)
theorem octet_Word_cfn : cFn Tryd.prog 26 = some (octet_Word_ir, [(.t 4)], 11) := by kernel_rfl
def octet_Word_V (r : (Int)) : V := .s (.int .u16 r)
def octet_Word_C (r : (Int)) : X → Fr → Hp → Prop := FinL [(.t 4)] [] (octet_Word_V r) []
theorem octet_Word_ok (hi_ : Int) (lo_ : Int) (r : (Int)) (h : octet_Word hi_ lo_ = some r) : Pure Tryd.prog 26 [.s (.int .u8 hi_), .s (.int .u8 lo_)] (octet_Word_V r) := by
  refine ConL.of octet_Word_cfn (Nat.le_of_ble_eq_true (by kernel_rfl)) (Nat.le_of_ble_eq_true (by kernel_rfl)) ?_
  refine k_start ?_
  show dwv Tryd.prog [] octet_Word_ir (kont Tryd.prog [] (octet_Word_C r) []) (fr0 [.s (.int .u8 hi_), .s (.int .u8 lo_)]) []
  have hf : FOk (fr0 [.s (.int .u8 hi_), .s (.int .u8 lo_)]) [⟨0, [], .s (.int .u8 hi_)⟩, ⟨1, [], .s (.int .u8 lo_)⟩] := ⟨⟨fun _ => rfl, fun h => (h trivial).elim⟩, ⟨fun _ => rfl, fun h => (h trivial).elim⟩, trivial⟩
  generalize fr0 [.s (.int .u8 hi_), .s (.int .u8 lo_)] = f at hf ⊢
  unfold octet_Word at h
  refine k_seq ?_
  refine k_reg ?_
  refine mops_en hf (by kernel_rfl) fun f1 hf1 => ?_
  refine k_c ?_
  refine k_seq ?_
  refine k_reg ?_
  refine mops_en hf1 (by kernel_rfl) fun f2 hf2 => ?_
  refine k_c ?_
  refine k_ret ?_
  obtain rfl := Option.some.inj h
  exact k_fin (fin_ret (.inl rfl) hf2 (vs := [.s (.int .u16 (bits .or .u16 (IntKind.wrap .u16 ((IntKind.wrap .u16 hi_) * 2 ^ (8))) (IntKind.wrap .u16 lo_)))]) (by kernel_rfl) (SettL.pure (FzL.stat rfl)))
def srec_Line_right_i0 : List Op1 := [(oE 1 (.box (.t 0)) []), (oM 2 (.k (.bool false)) [])]
def srec_Line_right_i1 : List Op1 := [(oE 3 (.fld 0 (.t 1)) []), (oE 4 (.load false 1 (.t 3)) [0]), (oE 5 (.bin .eql (.t 4) (.k (.int .i64 0))) [1]), (oM 6 (.t 5) [2]), (oG 7 (.fld 0 (.t 1)) 6 false [3]), (oG 8 (.load false 1 (.t 7)) 6 false [4, 3]), (oG 9 (.bin .eql (.t 8) (.k (.int .i64 1))) 6 false [5, 3]), (oE 10 (.pick (.t 6) (.k (.bool true)) (.t 9)) [3, 6]), (oM 11 (.t 10) [7, 3]), (oG 12 (.fld 0 (.t 1)) 11 false [8]), (oG 13 (.load false 1 (.t 12)) 11 false [9, 8]), (oG 14 (.bin .eql (.t 13) (.k (.int .i64 9))) 11 false [10, 8]), (oG 15 (.mv (.t 14)) 11 false [11, 8, 8]), (oG 16 (.fld 2 (.t 1)) 15 true [12]), (oG 17 (.load false 1 (.t 16)) 15 true [13, 12]), (oG 18 (.len (.t 17)) 15 true [14, 12]), (oG 19 (.bin .eql (.t 18) (.k (.int .i64 0))) 15 true [15, 12]), (oG 20 (.pick (.t 15) (.t 19) (.k (.bool false))) 11 false [12, 16, 8]), (oE 21 (.pick (.t 11) (.k (.bool true)) (.t 20)) [8, 17]), (oM 22 (.t 21) [18, 12]), (oG 23 (.fld 2 (.t 1)) 22 true [19]), (oG 24 (.load false 1 (.t 23)) 22 true [20, 19]), (oG 25 (.len (.t 24)) 22 true [21, 19]), (oG 26 (.bin .leq (.t 25) (.k (.int .i64 252))) 22 true [22, 19]), (oE 27 (.pick (.t 22) (.t 26) (.k (.bool false))) [19, 23]), (oM 2 (.t 27) [24, 19, 0, 1, 2, 3, 4, 5, 6, 7, 8, 9, 10, 11, 12, 13, 14, 15, 16, 17, 18, 19, 20, 21, 22, 23, 24])]
def srec_Line_right_i2 : IR := .ret
def srec_Line_right_i3 : IR := (.seq (.reg false srec_Line_right_i1) srec_Line_right_i2)
def srec_Line_right_ir : IR := (.seq (.reg false srec_Line_right_i0) srec_Line_right_i3)
theorem srec_Line_right_cfn : cFn Tryd.prog 27 = some (srec_Line_right_ir, [(.t 2)], 28) := by kernel_rfl
def srec_Line_right_V (r : (Bool)) : V := .s (.bool r)
def srec_Line_right_C (r : (Bool)) : X → Fr → Hp → Prop := FinL [(.t 2)] [] (srec_Line_right_V r) []
theorem srec_Line_right_ok (l_ : srec_Line) (r : (Bool)) (h : srec_Line_right l_ = some r) : Pure Tryd.prog 27 [.agg [.s (.int .i64 l_.Kind), .s (.int .u16 l_.At), .sl false l_.B.length (cat (nI .u8) l_.B)]] (srec_Line_right_V r) := by
  refine ConL.of srec_Line_right_cfn (Nat.le_of_ble_eq_true (by kernel_rfl)) (Nat.le_of_ble_eq_true (by kernel_rfl)) ?_
  refine k_start ?_
  show dwv Tryd.prog [] srec_Line_right_ir (kont Tryd.prog [] (srec_Line_right_C r) []) (fr0 [.agg [.s (.int .i64 l_.Kind), .s (.int .u16 l_.At), .sl false l_.B.length (cat (nI .u8) l_.B)]]) []
  have hf : FOk (fr0 [.agg [.s (.int .i64 l_.Kind), .s (.int .u16 l_.At), .sl false l_.B.length (cat (nI .u8) l_.B)]]) [⟨0, [], .agg [.s (.int .i64 l_.Kind), .s (.int .u16 l_.At), .sl false l_.B.length (cat (nI .u8) l_.B)]⟩] := ⟨⟨fun _ => rfl, fun h => (h trivial).elim⟩, trivial⟩
  generalize fr0 [.agg [.s (.int .i64 l_.Kind), .s (.int .u16 l_.At), .sl false l_.B.length (cat (nI .u8) l_.B)]] = f at hf ⊢
  unfold srec_Line_right at h
  refine k_seq ?_
  refine k_reg ?_
  refine mops_en hf (by kernel_rfl) fun f1 hf1 => ?_
  refine k_c ?_
  refine k_seq ?_
  refine k_reg ?_
  refine mops_en hf1 (by kernel_rfl) fun f2 hf2 => ?_
  refine k_c ?_
  refine k_ret ?_
  obtain rfl := Option.some.inj h
  exact k_fin (fin_ret (.inl rfl) hf2 (vs := [.s (.bool ((((l_.Kind == 0) || (l_.Kind == 1)) || ((l_.Kind == 9) && ((ln l_.B) == 0))) && (decide ((ln l_.B) ≤ 252))))]) (by kernel_rfl) (SettL.pure (FzL.stat rfl)))
def bytes_Equal_i0 : List Op1 := [(oM 4 (.k (.bool false)) [])]
def bytes_Equal_i1 : List Op1 := [(oM 5 (.t 0) []), (oE 6 (.bstr (.t 5)) [0]), (oM 7 (.t 1) []), (oE 8 (.bstr (.t 7)) [2]), (oE 9 (.bin .eql (.t 6) (.t 8)) [1, 3]), (oM 4 (.t 9) [4, 0, 1, 2, 3, 4])]
def bytes_Equal_i2 : IR := .ret
def bytes_Equal_i3 : IR := (.seq (.reg false bytes_Equal_i1) bytes_Equal_i2)
def bytes_Equal_ir : IR := (.seq (.reg false bytes_Equal_i0) bytes_Equal_i3)
theorem bytes_Equal_cfn : cFn Tryd.prog 8 = some (bytes_Equal_ir, [(.t 4)], 10) := by kernel_rfl
def bytes_Equal_V (r : (Bool)) : V := .s (.bool r)
def bytes_Equal_C (r : (Bool)) : X → Fr → Hp → Prop := FinL [(.t 4)] [] (bytes_Equal_V r) []
theorem bytes_Equal_ok (a_ : (List Int)) (b_ : (List Int)) (r : (Bool)) (h : bytes_Equal a_ b_ = some r) : Pure Tryd.prog 8 [.sl false a_.length (cat (nI .u8) a_), .sl false b_.length (cat (nI .u8) b_)] (bytes_Equal_V r) := by
  refine ConL.of bytes_Equal_cfn (Nat.le_of_ble_eq_true (by kernel_rfl)) (Nat.le_of_ble_eq_true (by kernel_rfl)) ?_
  refine k_start ?_
  show dwv Tryd.prog [] bytes_Equal_ir (kont Tryd.prog [] (bytes_Equal_C r) []) (fr0 [.sl false a_.length (cat (nI .u8) a_), .sl false b_.length (cat (nI .u8) b_)]) []
  have hf : FOk (fr0 [.sl false a_.length (cat (nI .u8) a_), .sl false b_.length (cat (nI .u8) b_)]) [⟨0, [], .sl false a_.length (cat (nI .u8) a_)⟩, ⟨1, [], .sl false b_.length (cat (nI .u8) b_)⟩] := ⟨⟨fun _ => rfl, fun h => (h trivial).elim⟩, ⟨fun _ => rfl, fun h => (h trivial).elim⟩, trivial⟩
  generalize fr0 [.sl false a_.length (cat (nI .u8) a_), .sl false b_.length (cat (nI .u8) b_)] = f at hf ⊢
  unfold bytes_Equal at h
  refine k_seq ?_
  refine k_reg ?_
  refine mops_en hf (by kernel_rfl) fun f1 hf1 => ?_
  refine k_c ?_
  refine k_seq ?_
  refine k_reg ?_
  refine mops_sg 1 hf1 (by kernel_rfl) fun f2 hf2 => ?_
  refine mops_adv rfl (v := .s (.string (bs a_))) hf2 (by kernel_rfl) (e_bstr (q := a_) (slc_ev (v := .sl false a_.length (cat (nI .u8) a_)) (by kernel_rfl) (slc_sl (g := (nI .u8)) a_))) fun f3 hf3 => ?_
  refine mops_sg 1 hf3 (by kernel_rfl) fun f4 hf4 => ?_
  refine mops_adv rfl (v := .s (.string (bs b_))) hf4 (by kernel_rfl) (e_bstr (q := b_) (slc_ev (v := .sl false b_.length (cat (nI .u8) b_)) (by kernel_rfl) (slc_sl (g := (nI .u8)) b_))) fun f5 hf5 => ?_
  refine mops_en hf5 (by kernel_rfl) fun f6 hf6 => ?_
  refine k_c ?_
  refine k_ret ?_
  obtain rfl := Option.some.inj h
  exact k_fin (fin_ret (.inl rfl) hf6 (vs := [.s (.bool ((bs a_).toList == (bs b_).toList))]) (by kernel_rfl) (SettL.pure (FzL.stat rfl)))
end Go.Proofs.YtphfmfbebcconaaDoorK
