/- The Go functions come to the functions over typed data. Printed by a program of this work. -/
import Derived.Test.YtphfmfbebcconaaDoorF
import Derived.Test.YtphfmfbebcconaaDoorProg
import Derived.Test.YtphfmfbebcconaaDoorSf
import Derived.Test.YtphfmfbebcconaaDoorG0
namespace Go.Proofs.YtphfmfbebcconaaDoorK
set_option linter.unusedVariables false
set_option linter.unusedSimpArgs false
set_option maxHeartbeats 4000000
open Go.RowKit
attribute [local irreducible] dwv mops lops lqops lwops kont iter run runK rk okK ex E1 vals val chain chB sel resF
def srec_Load_i0 : List Op1 := [(oE 2 (.nilg 1) [])]
def srec_Load_i1 : List Op1 := [(oE 6 (.mks [(.int .u8 0)] 1 (.k (.int .i64 65536)) (.k (.int .i64 65536))) []), (oM 3 (.t 6) [0, 0])]
def srec_Load_i2 : List Op1 := [(oM 7 (.t 0) []), (oE 8 (.len (.t 7)) [0]), (oM 9 (.k (.int .i64 0)) [])]
def srec_Load_i3 : List Op1 := [(oE 10 (.bin .lss (.t 9) (.t 8)) [])]
def srec_Load_i4 : List Op1 := [(oE 11 (.ias 2 (.t 7) (.t 9)) []), (oE 12 (.load true 2 (.t 11)) [0]), (oE 5 (.zero [(.int .u16 0), (.slice none 0 0)]) []), (oN (.store 2 (.t 5) (.t 12)) [2, 1, 0, 1, 2])]
def srec_Load_i5 : List An := [(aO (oM 13 (.t 3) []) false 0 0), (aO (oE 14 (.fld 0 (.t 5)) []) false 0 0), (aO (oE 15 (.load false 1 (.t 14)) [1]) false 0 0), (aO (oE 16 (.slice 1 (.t 13) (some (.t 15)) none) [0, 2]) false 0 0), (aO (oE 17 (.fld 1 (.t 5)) []) false 0 0), (aO (oE 18 (.load false 1 (.t 17)) [4]) false 0 0), (aO (oE 19 (.cpy (.t 16) (.t 18)) [3, 5]) true 0 1)]
def srec_Load_i6 : IR := (.regw srec_Load_i5)
def srec_Load_i7 : List Op1 := [(oE 20 (.bin .add (.t 9) (.k (.int .i64 1))) []), (oM 9 (.t 20) [0])]
def srec_Load_i8 : IR := (.reg false srec_Load_i7)
def srec_Load_i9 : IR := (.seq (.block 1 (.seq (.reg false srec_Load_i4) srec_Load_i6)) srec_Load_i8)
def srec_Load_i10 : IR := (.seq (.cond (.t 10) .skip (.exit 0)) srec_Load_i9)
def srec_Load_i11 : IR := (.seq (.reg false srec_Load_i3) srec_Load_i10)
def srec_Load_i12 : IR := (.block 0 (.loop srec_Load_i11))
def srec_Load_i13 : List Op1 := [(oM 21 (.t 3) []), (oM 2 (.t 21) [0, 0])]
def srec_Load_i14 : IR := .ret
def srec_Load_i15 : IR := (.seq (.reg false srec_Load_i13) srec_Load_i14)
def srec_Load_i16 : IR := (.seq (.seq (.reg false srec_Load_i2) srec_Load_i12) srec_Load_i15)
def srec_Load_i17 : IR := (.seq (.reg false srec_Load_i1) srec_Load_i16)
def srec_Load_ir : IR := (.seq (.reg false srec_Load_i0) srec_Load_i17)
theorem srec_Load_cfn : cFn Tryd.prog 9 = some (srec_Load_ir, [(.t 2)], 22) := by kernel_rfl
def srec_Load_V (r : ((List Int))) : V := .sl false r.length (cat (nI .u8) r)
def srec_Load_C (r : ((List Int))) : X → Fr → Hp → Prop := FinL [(.t 2)] [] (srec_Load_V r) []
theorem srec_Load_ok (l_ : (List srec_Piece)) (r : ((List Int))) (h : srec_Load l_ = some r) : Pure Tryd.prog 9 [.sl false l_.length (cat srec_Piece.v l_)] (srec_Load_V r) := by
  refine ConL.of srec_Load_cfn (Nat.le_of_ble_eq_true (by kernel_rfl)) (Nat.le_of_ble_eq_true (by kernel_rfl)) ?_
  refine k_start ?_
  show dwv Tryd.prog [] srec_Load_ir (kont Tryd.prog [] (srec_Load_C r) []) (fr0 [.sl false l_.length (cat srec_Piece.v l_)]) []
  have hf : FOk (fr0 [.sl false l_.length (cat srec_Piece.v l_)]) [⟨0, [], .sl false l_.length (cat srec_Piece.v l_)⟩] := ⟨⟨fun _ => rfl, fun h => (h trivial).elim⟩, trivial⟩
  generalize fr0 [.sl false l_.length (cat srec_Piece.v l_)] = f at hf ⊢
  unfold srec_Load at h
  refine k_seq ?_
  refine k_reg ?_
  refine mops_en hf (by kernel_rfl) fun f1 hf1 => ?_
  refine k_c ?_
  refine k_seq ?_
  refine k_reg ?_
  obtain ⟨c1, h⟩ := as_ok h
  refine mops_adv rfl (v := .ref 1 0 0 (rp (65536) (0 : Int)).length) hf1 (by kernel_rfl) (e_mks (g := (nI .u8)) (a := 0) (k := .i64) (k' := .i64) (iv := 65536) (jv := 65536) (by kernel_rfl) (by kernel_rfl) (by kernel_rfl) c1 (by kernel_rfl)) fun f2 hf2 => ?_
  refine mops_en hf2 (by kernel_rfl) fun f3 hf3 => ?_
  refine k_c ?_
  refine k_seq ?_
  refine k_seq ?_
  refine k_reg ?_
  refine mops_en hf3 (by kernel_rfl) fun f4 hf4 => ?_
  refine k_c ?_
  refine k_block ?_
  obtain ⟨o0, hx0, h⟩ := Option.bind_eq_some_iff.1 h
  have hgo0 : ∀ (l_3 : (List Int)) (m_2 : Nat) (hn_2 : l_3.length = m_2), l_3 = o0 → ∀ f, FOk f [⟨2, [], .ref 0 0 0 0⟩, ⟨3, [], .ref 1 0 0 m_2⟩] → kont Tryd.prog [] (srec_Load_C r) ((.c srec_Load_i15) :: []) .normal f [⟨0, .grow, 1, cat (nI .u8) ([] : List Int)⟩, ⟨0, .grow, 1, cat (nI .u8) l_3⟩] := by
    intro l_3 m_2 hn_2 e f hf
    subst e
    refine k_c ?_
    refine k_seq ?_
    refine k_reg ?_
    refine mops_en hf (by kernel_rfl) fun f1 hf1 => ?_
    refine k_c ?_
    refine k_ret ?_
    obtain rfl := Option.some.inj h
    exact k_fin (fin_ret (.inl rfl) hf1 (vs := [.ref 1 0 0 m_2]) (by kernel_rfl) (SettL.pure (FzL.whole (g := (nI .u8)) (kd := .grow) (l := l_3) (by kernel_rfl) hn_2 (live_grow (by kernel_rfl)))))
  refine k_loop BIG ?_
  refine loop_ind (fun n f L => ∃ (l_2 : (List Int)) (t_1 : Int) (m_1 : Nat) (hn_1 : l_2.length = m_1), srec_Load_l0 l_ n l_2 t_1 = some o0 ∧ FOk f [⟨2, [], .ref 0 0 0 0⟩, ⟨3, [], .ref 1 0 0 m_1⟩, ⟨7, [], .sl false l_.length (cat srec_Piece.v l_)⟩, ⟨8, [], .s (.int .i64 (ln l_))⟩, ⟨9, [], .s (.int .i64 t_1)⟩] ∧ L = [⟨0, .grow, 1, cat (nI .u8) ([] : List Int)⟩, ⟨0, .grow, 1, cat (nI .u8) l_2⟩]) ?_ ?_ BIG _ _ ⟨(rp (65536) (0 : Int)), (0), ((rp (65536) (0 : Int)).length), rfl, hx0, FOk_of [2, 3, 7, 8, 9] hf4 (by kernel_rfl), (by kernel_rfl)⟩
  · rintro f L ⟨l_2, t_1, m_1, hn_1, h, _⟩
    cases (show (none : Option _) = some _ from h)
  · rintro n0 R0 ih f L ⟨l_2, t_1, m_1, hn_1, h, hf, rfl⟩
    rw [srec_Load_l0] at h
    refine k_seq ?_
    refine k_reg ?_
    refine mops_en hf (by kernel_rfl) fun f1 hf1 => ?_
    refine k_c ?_
    refine k_seq ?_
    refine k_cond hf1 (t := (decide (t_1 < (ln l_)))) (by kernel_rfl) (fun hc2 => ?_) (fun hc2 => ?_)
    · have h := if_t h hc2
      refine k_skip ?_
      refine k_c ?_
      refine k_seq ?_
      refine k_block ?_
      refine k_seq ?_
      refine k_reg ?_
      obtain ⟨c3, h⟩ := as_ok h
      refine mops_adv rfl (v := .ip ((cat srec_Piece.v l_).drop ((t_1 : Int).toNat * 2))) hf1 (by kernel_rfl) (e_ias (n := l_.length) (xv := .sl false l_.length (cat srec_Piece.v l_)) (k := .i64) (iv := t_1) (p := .ip ((cat srec_Piece.v l_).drop ((t_1 : Int).toNat * 2))) (by kernel_rfl) (by kernel_rfl) (by kernel_rfl) (by kernel_rfl) c3) fun f2 hf2 => ?_
      refine mops_adv rfl (v := .agg [.s (.int .u16 (gt l_ t_1).At), .sl false ((gt l_ t_1).B).length (cat (nI .u8) ((gt l_ t_1).B))]) hf2 (by kernel_rfl) (e_load_ip (g := srec_Piece.v) (l := l_) (iv := t_1) [] (by kernel_rfl) c3 (by kernel_rfl) (by kernel_rfl)) fun f3 hf3 => ?_
      refine mops_en hf3 (by kernel_rfl) fun f4 hf4 => ?_
      refine k_c ?_
      refine k_regw ?_
      refine lw_tight 6 (by kernel_rfl) ?_
      refine mops_seg [2, 3, 5, 7, 8, 9, 10, 11, 12, 13, 14, 15] 3 hf4 (l' := [⟨2, [], .ref 0 0 0 0⟩, ⟨3, [], .ref 1 0 0 m_1⟩, ⟨5, [], .ptr 2 0 0⟩, ⟨7, [], .sl false l_.length (cat srec_Piece.v l_)⟩, ⟨8, [], .s (.int .i64 (ln l_))⟩, ⟨9, [], .s (.int .i64 t_1)⟩, ⟨10, [], .s (.bool (decide (t_1 < (ln l_))))⟩, ⟨11, [], .ip ((cat srec_Piece.v l_).drop ((t_1 : Int).toNat * 2))⟩, ⟨12, [], .agg [.s (.int .u16 (gt l_ t_1).At), .sl false ((gt l_ t_1).B).length (cat (nI .u8) ((gt l_ t_1).B))]⟩, ⟨13, [], .ref 1 0 0 m_1⟩, ⟨14, [], .ptr 2 0 0⟩, ⟨15, [], .s (.int .u16 (gt l_ t_1).At)⟩]) (L' := [⟨0, .grow, 1, cat (nI .u8) ([] : List Int)⟩, ⟨0, .grow, 1, cat (nI .u8) l_2⟩, ⟨0, .mem, 1, [.s (.int .u16 (gt l_ t_1).At), .sl false ((gt l_ t_1).B).length (cat (nI .u8) ((gt l_ t_1).B))]⟩]) (by kernel_rfl) fun f5 hf5 => ?_
      obtain ⟨c4, h⟩ := as_ok h
      refine mops_adv rfl (v := .ref 1 0 (0 + ((gt l_ t_1).At : Int).toNat * 1) (m_1 - ((gt l_ t_1).At : Int).toNat)) hf5 (by kernel_rfl) (e_slice_ref (B := ⟨0, .grow, 1, cat (nI .u8) l_2⟩) (n := m_1) (o := 0) (by kernel_rfl) (live_grow (by kernel_rfl)) rfl (b_sn (k := .u16) (iv := (gt l_ t_1).At) (by kernel_rfl) (ln_ns hn_1 c4))) fun f6 hf6 => ?_
      refine mops_end [2, 3, 5, 7, 8, 9, 10, 11, 12, 13, 14, 15, 16, 17, 18] hf6 (l' := [⟨2, [], .ref 0 0 0 0⟩, ⟨3, [], .ref 1 0 0 m_1⟩, ⟨5, [], .ptr 2 0 0⟩, ⟨7, [], .sl false l_.length (cat srec_Piece.v l_)⟩, ⟨8, [], .s (.int .i64 (ln l_))⟩, ⟨9, [], .s (.int .i64 t_1)⟩, ⟨10, [], .s (.bool (decide (t_1 < (ln l_))))⟩, ⟨11, [], .ip ((cat srec_Piece.v l_).drop ((t_1 : Int).toNat * 2))⟩, ⟨12, [], .agg [.s (.int .u16 (gt l_ t_1).At), .sl false ((gt l_ t_1).B).length (cat (nI .u8) ((gt l_ t_1).B))]⟩, ⟨13, [], .ref 1 0 0 m_1⟩, ⟨14, [], .ptr 2 0 0⟩, ⟨15, [], .s (.int .u16 (gt l_ t_1).At)⟩, ⟨16, [], .ref 1 0 (0 + ((gt l_ t_1).At : Int).toNat * 1) (m_1 - ((gt l_ t_1).At : Int).toNat)⟩, ⟨17, [], .ptr 2 0 1⟩, ⟨18, [], .sl false ((gt l_ t_1).B).length (cat (nI .u8) ((gt l_ t_1).B))⟩]) (L' := [⟨0, .grow, 1, cat (nI .u8) ([] : List Int)⟩, ⟨0, .grow, 1, cat (nI .u8) l_2⟩, ⟨0, .mem, 1, [.s (.int .u16 (gt l_ t_1).At), .sl false ((gt l_ t_1).B).length (cat (nI .u8) ((gt l_ t_1).B))]⟩]) (by kernel_rfl) fun f7 hf7 => ?_
      intro _
      refine lw_w (a := ⟨⟨(some 19), (.e (.cpy (.t 16) (.t 18))), none, [3, 5]⟩, true, 0, 1⟩) (by kernel_rfl) rfl rfl ?_
      refine mops_adv rfl (v := .s (.int .i64 ((((((gt l_ t_1).B)).take (l_2.length - ((gt l_ t_1).At : Int).toNat)).length : Nat) : Int))) hf7 (by kernel_rfl) (e_cpyN (l := l_2) (l' := ((gt l_ t_1).B)) (q := 1) (ver := 0) (n := m_1) (a := ((gt l_ t_1).At : Int).toNat) (kd := .grow) (by kernel_rfl) (cut_sn (n := m_1) (ln_ns hn_1 c4)) hn_1 (live_grow (by kernel_rfl)) (slc_ev (v := .sl false ((gt l_ t_1).B).length (cat (nI .u8) ((gt l_ t_1).B))) (by kernel_rfl) (slc_sl (g := (nI .u8)) ((gt l_ t_1).B)))) fun f8 hf8 => ?_
      refine mops_end [2, 3, 5, 7, 8, 9, 10, 11, 12, 13, 14, 15, 16, 17, 18] hf8 (l' := [⟨2, [], .ref 0 0 0 0⟩, ⟨3, [], .ref 1 0 0 m_1⟩, ⟨5, [], .ptr 2 0 0⟩, ⟨7, [], .sl false l_.length (cat srec_Piece.v l_)⟩, ⟨8, [], .s (.int .i64 (ln l_))⟩, ⟨9, [], .s (.int .i64 t_1)⟩, ⟨10, [], .s (.bool (decide (t_1 < (ln l_))))⟩, ⟨11, [], .ip ((cat srec_Piece.v l_).drop ((t_1 : Int).toNat * 2))⟩, ⟨12, [], .agg [.s (.int .u16 (gt l_ t_1).At), .sl false ((gt l_ t_1).B).length (cat (nI .u8) ((gt l_ t_1).B))]⟩, ⟨13, [], .ref 1 0 0 m_1⟩, ⟨14, [], .ptr 2 0 0⟩, ⟨15, [], .s (.int .u16 (gt l_ t_1).At)⟩, ⟨16, [], .ref 1 0 (0 + ((gt l_ t_1).At : Int).toNat * 1) (m_1 - ((gt l_ t_1).At : Int).toNat)⟩, ⟨17, [], .ptr 2 0 1⟩, ⟨18, [], .sl false ((gt l_ t_1).B).length (cat (nI .u8) ((gt l_ t_1).B))⟩]) (L' := [⟨0, .grow, 1, cat (nI .u8) ([] : List Int)⟩, ⟨0, .grow, 1, cat (nI .u8) (cpyL l_2 (((gt l_ t_1).At : Int).toNat) (l_2.length - ((gt l_ t_1).At : Int).toNat) ((gt l_ t_1).B))⟩, ⟨0, .mem, 1, [.s (.int .u16 (gt l_ t_1).At), .sl false ((gt l_ t_1).B).length (cat (nI .u8) ((gt l_ t_1).B))]⟩]) (by kernel_rfl) fun f9 hf9 => ?_
      refine ⟨trivial, ?_⟩
      refine lw_end (by kernel_rfl) ?_
      refine k_b ?_
      refine k_c ?_
      refine k_reg ?_
      refine mops_en hf9 (by kernel_rfl) fun f10 hf10 => ?_
      refine k_l' (vs_cut (l := [⟨2, [], .ref 0 0 0 0⟩, ⟨3, [], .ref 1 0 0 m_1⟩, ⟨7, [], .sl false l_.length (cat srec_Piece.v l_)⟩, ⟨8, [], .s (.int .i64 (ln l_))⟩, ⟨9, [], .s (.int .i64 (IntKind.wrap .i64 (t_1 + 1)))⟩]) 2 (by kernel_rfl) (by kernel_rfl) (L' := [⟨0, .grow, 1, cat (nI .u8) ([] : List Int)⟩, ⟨0, .grow, 1, cat (nI .u8) (cpyL l_2 (((gt l_ t_1).At : Int).toNat) (l_2.length - ((gt l_ t_1).At : Int).toNat) ((gt l_ t_1).B))⟩]) (by kernel_rfl) ⟨⟨rfl, rfl⟩, ⟨rfl, rfl⟩, ⟨rfl, (static_under _ _ (by simp [V.static, statics, cat_stat, dropcat_stat]))⟩, ⟨rfl, rfl⟩, ⟨rfl, rfl⟩, trivial⟩ ⟨.inr (.inr (statics_unders _ _ (cat_stat _))), .inr (.inr (statics_unders _ _ (cat_stat _))), trivial⟩ (FOk_of [2, 3, 7, 8, 9] hf10 (by kernel_rfl)) fun f hf => ?_)
      exact ih _ _ ⟨(cpyL l_2 (((gt l_ t_1).At : Int).toNat) (l_2.length - ((gt l_ t_1).At : Int).toNat) ((gt l_ t_1).B)), (IntKind.wrap .i64 (t_1 + 1)), m_1, (cpyL_len.trans hn_1), h, hf, rfl⟩
    · have h := if_f h hc2
      refine k_exit ?_
      refine x_c nofun ?_
      refine x_l nofun ?_
      refine x_b ?_
      refine k_hp (L' := [⟨0, .grow, 1, cat (nI .u8) ([] : List Int)⟩, ⟨0, .grow, 1, cat (nI .u8) l_2⟩]) (by kernel_rfl) ?_
      exact hgo0 l_2 m_1 hn_1 (Option.some.inj h) _ (FOk_of [2, 3] hf1 (by kernel_rfl))
def spinetref02_Pairs_i0 : List Op1 := [(oM 2 (.k (.string ⟨#[]⟩)) [])]
def spinetref02_Pairs_i1 : List Op1 := [(oM 3 (.k (.string ⟨#[]⟩)) [])]
def spinetref02_Pairs_i2 : List Op1 := [(oM 4 (.k (.int .i64 0)) [])]
def spinetref02_Pairs_i3 : List Op1 := [(oM 5 (.t 4) []), (oM 6 (.t 0) []), (oE 7 (.len (.t 6)) [1]), (oE 8 (.bin .lss (.t 5) (.t 7)) [0, 2])]
def spinetref02_Pairs_i4 : IR := (.cond (.t 8) .skip (.exit 0))
def spinetref02_Pairs_i5 : List Op1 := [(oM 11 (.t 3) []), (oM 12 (.t 0) []), (oM 13 (.t 4) []), (oE 14 (.ias 1 (.t 12) (.t 13)) [1, 2]), (oE 15 (.load false 1 (.t 14)) [3]), (oE 16 (.cint .u64 (.t 15)) [4]), (oC 17 11 [(.t 16), (.k (.int .u64 16)), (.k (.int .i64 2))] [5]), (oE 18 (.bin .add (.t 11) (.t 17)) [0, 6]), (oM 3 (.t 18) [7, 6, 0, 1, 2, 3, 4, 5, 6, 7])]
def spinetref02_Pairs_i6 : List Op1 := [(oM 9 (.t 4) []), (oE 10 (.bin .add (.t 9) (.k (.int .i64 1))) [0]), (oM 4 (.t 10) [1, 0, 1])]
def spinetref02_Pairs_i7 : IR := (.reg false spinetref02_Pairs_i6)
def spinetref02_Pairs_i8 : IR := (.seq (.block 1 (.reg false spinetref02_Pairs_i5)) spinetref02_Pairs_i7)
def spinetref02_Pairs_i9 : IR := (.seq (.seq (.reg false spinetref02_Pairs_i3) spinetref02_Pairs_i4) spinetref02_Pairs_i8)
def spinetref02_Pairs_i10 : IR := (.block 0 (.loop spinetref02_Pairs_i9))
def spinetref02_Pairs_i11 : List Op1 := [(oM 19 (.t 3) []), (oM 2 (.t 19) [0, 0])]
def spinetref02_Pairs_i12 : IR := .ret
def spinetref02_Pairs_i13 : IR := (.seq (.reg false spinetref02_Pairs_i11) spinetref02_Pairs_i12)
def spinetref02_Pairs_i14 : IR := (.seq (.seq (.reg false spinetref02_Pairs_i2) spinetref02_Pairs_i10) spinetref02_Pairs_i13)
def spinetref02_Pairs_i15 : IR := (.seq (.reg false spinetref02_Pairs_i1) spinetref02_Pairs_i14)
def spinetref02_Pairs_ir : IR := (.seq (.reg false spinetref02_Pairs_i0) spinetref02_Pairs_i15)
theorem spinetref02_Pairs_cfn : cFn Tryd.prog 12 = some (spinetref02_Pairs_ir, [(.t 2)], 20) := by kernel_rfl
def spinetref02_Pairs_V (r : (ByteArray)) : V := .s (.string r)
def spinetref02_Pairs_C (r : (ByteArray)) : X → Fr → Hp → Prop := FinL [(.t 2)] [] (spinetref02_Pairs_V r) []
theorem spinetref02_Pairs_ok (b_ : (List Int)) (r : (ByteArray)) (h : spinetref02_Pairs b_ = some r) : Pure Tryd.prog 12 [.sl false b_.length (cat (nI .u8) b_)] (spinetref02_Pairs_V r) := by
  refine ConL.of spinetref02_Pairs_cfn (Nat.le_of_ble_eq_true (by kernel_rfl)) (Nat.le_of_ble_eq_true (by kernel_rfl)) ?_
  refine k_start ?_
  show dwv Tryd.prog [] spinetref02_Pairs_ir (kont Tryd.prog [] (spinetref02_Pairs_C r) []) (fr0 [.sl false b_.length (cat (nI .u8) b_)]) []
  have hf : FOk (fr0 [.sl false b_.length (cat (nI .u8) b_)]) [⟨0, [], .sl false b_.length (cat (nI .u8) b_)⟩] := ⟨⟨fun _ => rfl, fun h => (h trivial).elim⟩, trivial⟩
  generalize fr0 [.sl false b_.length (cat (nI .u8) b_)] = f at hf ⊢
  unfold spinetref02_Pairs at h
  refine k_seq ?_
  refine k_reg ?_
  refine mops_en hf (by kernel_rfl) fun f1 hf1 => ?_
  refine k_c ?_
  refine k_seq ?_
  refine k_reg ?_
  refine mops_en hf1 (by kernel_rfl) fun f2 hf2 => ?_
  refine k_c ?_
  refine k_seq ?_
  refine k_seq ?_
  refine k_reg ?_
  refine mops_en hf2 (by kernel_rfl) fun f3 hf3 => ?_
  refine k_c ?_
  refine k_block ?_
  obtain ⟨o0, hx0, h⟩ := Option.bind_eq_some_iff.1 h
  have hgo0 : ∀ (s_2 : ByteArray), s_2 = o0 → ∀ f, FOk f [⟨2, [], .s (.string (⟨#[]⟩ : ByteArray))⟩, ⟨3, [], .s (.string s_2)⟩] → kont Tryd.prog [] (spinetref02_Pairs_C r) ((.c spinetref02_Pairs_i13) :: []) .normal f [] := by
    intro s_2 e f hf
    subst e
    refine k_c ?_
    refine k_seq ?_
    refine k_reg ?_
    refine mops_en hf (by kernel_rfl) fun f1 hf1 => ?_
    refine k_c ?_
    refine k_ret ?_
    obtain rfl := Option.some.inj h
    exact k_fin (fin_ret (.inl rfl) hf1 (vs := [.s (.string s_2)]) (by kernel_rfl) (SettL.pure (FzL.stat rfl)))
  refine k_loop BIG ?_
  refine loop_ind (fun n f L => ∃ (s_1 : ByteArray) (i_1 : Int), spinetref02_Pairs_l0 b_ n s_1 i_1 = some o0 ∧ FOk f [⟨0, [], .sl false b_.length (cat (nI .u8) b_)⟩, ⟨2, [], .s (.string (⟨#[]⟩ : ByteArray))⟩, ⟨3, [], .s (.string s_1)⟩, ⟨4, [], .s (.int .i64 i_1)⟩] ∧ L = []) ?_ ?_ BIG _ _ ⟨(⟨#[]⟩ : ByteArray), (0), hx0, FOk_of [0, 2, 3, 4] hf3 (by kernel_rfl), (by kernel_rfl)⟩
  · rintro f L ⟨s_1, i_1, h, _⟩
    cases (show (none : Option _) = some _ from h)
  · rintro n0 R0 ih f L ⟨s_1, i_1, h, hf, rfl⟩
    rw [spinetref02_Pairs_l0] at h
    refine k_seq ?_
    refine k_seq ?_
    refine k_reg ?_
    refine mops_en hf (by kernel_rfl) fun f1 hf1 => ?_
    refine k_c ?_
    refine k_cond hf1 (t := (decide (i_1 < (ln b_)))) (by kernel_rfl) (fun hc1 => ?_) (fun hc1 => ?_)
    · have h := if_t h hc1
      refine k_skip ?_
      refine k_c ?_
      refine k_seq ?_
      refine k_block ?_
      refine k_reg ?_
      refine mops_sg 3 hf1 (by kernel_rfl) fun f2 hf2 => ?_
      obtain ⟨c2, h⟩ := as_ok h
      refine mops_adv rfl (v := .ip ((cat (nI .u8) b_).drop ((i_1 : Int).toNat * 1))) hf2 (by kernel_rfl) (e_ias (n := b_.length) (xv := .sl false b_.length (cat (nI .u8) b_)) (k := .i64) (iv := i_1) (p := .ip ((cat (nI .u8) b_).drop ((i_1 : Int).toNat * 1))) (by kernel_rfl) (by kernel_rfl) (by kernel_rfl) (by kernel_rfl) c2) fun f3 hf3 => ?_
      refine mops_adv rfl (v := .s (.int .u8 (gt b_ i_1))) hf3 (by kernel_rfl) (e_load_ip (g := (nI .u8)) (l := b_) (iv := i_1) [] (by kernel_rfl) c2 (by kernel_rfl) (by kernel_rfl)) fun f4 hf4 => ?_
      refine mops_sg 1 hf4 (by kernel_rfl) fun f5 hf5 => ?_
      obtain ⟨r_2, hx_r_2, h⟩ := Option.bind_eq_some_iff.1 h
      refine mops_call rfl hf5 (av := [.s (.int .u64 (IntKind.wrap .u64 (gt b_ i_1))), .s (.int .u64 16), .s (.int .i64 2)]) (by kernel_rfl) (v := .s (.string r_2)) (CalL.pure (spinetref02_Digits_ok (IntKind.wrap .u64 (gt b_ i_1)) (16) (2) r_2 hx_r_2) rfl rfl (Nat.le_of_ble_eq_true (by kernel_rfl))) (fun _ => rfl) fun f6 hf6 => ?_
      obtain ⟨c3, h⟩ := as_ok h
      refine mops_adv rfl (v := .s (.string (s_1 ++ r_2))) hf6 (by kernel_rfl) (e_sadd (t := s_1) (t' := r_2) (by kernel_rfl) (by kernel_rfl) c3) fun f7 hf7 => ?_
      refine mops_en hf7 (by kernel_rfl) fun f8 hf8 => ?_
      refine k_b ?_
      refine k_c ?_
      refine k_reg ?_
      refine mops_en hf8 (by kernel_rfl) fun f9 hf9 => ?_
      refine k_l ?_
      exact ih _ _ ⟨(s_1 ++ r_2), (IntKind.wrap .i64 (i_1 + 1)), h, FOk_of [0, 2, 3, 4] hf9 (by kernel_rfl), (by kernel_rfl)⟩
    · have h := if_f h hc1
      refine k_exit ?_
      refine x_c nofun ?_
      refine x_l nofun ?_
      refine x_b ?_
      refine k_hp (L' := []) (by kernel_rfl) ?_
      exact hgo0 s_1 (Option.some.inj h) _ (FOk_of [2, 3] hf1 (by kernel_rfl))
def digit_Dec_i0 : List Op1 := [(oM 2 (.k (.string ⟨#[]⟩)) [])]
def digit_Dec_i1 : List Op1 := [(oE 3 (.zero [(.int .u8 0), (.int .u8 0), (.int .u8 0), (.int .u8 0), (.int .u8 0), (.int .u8 0), (.int .u8 0), (.int .u8 0), (.int .u8 0), (.int .u8 0), (.int .u8 0), (.int .u8 0), (.int .u8 0), (.int .u8 0), (.int .u8 0), (.int .u8 0), (.int .u8 0), (.int .u8 0), (.int .u8 0), (.int .u8 0)]) [])]
def digit_Dec_i2 : List Op1 := [(oM 4 (.k (.int .i64 20)) [])]
def digit_Dec_i3 : List Op1 := [(oM 5 (.t 0) []), (oE 6 (.bin .gtr (.t 5) (.k (.int .u64 0))) [0]), (oM 7 (.t 6) [1]), (oG 8 (.mv (.t 4)) 7 false [2]), (oG 9 (.bin .eql (.t 8) (.k (.int .i64 20))) 7 false [3, 2]), (oE 10 (.pick (.t 7) (.k (.bool true)) (.t 9)) [2, 4])]
def digit_Dec_i4 : IR := (.cond (.t 10) .skip (.exit 0))
def digit_Dec_i5 : List Op1 := [(oM 11 (.t 4) []), (oE 12 (.bin .sub (.t 11) (.k (.int .i64 1))) [0]), (oM 4 (.t 12) [1, 0, 1])]
def digit_Dec_i6 : List Op1 := [(oM 13 (.t 4) []), (oM 14 (.t 0) []), (oE 15 (.bin .rem (.t 14) (.k (.int .u64 10))) [1]), (oE 16 (.cint .u8 (.t 15)) [2]), (oC 17 29 [(.t 16)] [3]), (oE 18 (.iaa 20 1 (.t 3) (.t 13)) [0, 0, 1, 2, 3, 4]), (oN (.store 1 (.t 18) (.t 17)) [5, 4, 4, 0, 1, 2, 3, 4])]
def digit_Dec_i7 : List Op1 := [(oM 19 (.t 0) []), (oE 20 (.bin .quo (.t 19) (.k (.int .u64 10))) [0]), (oM 0 (.t 20) [1, 0, 1])]
def digit_Dec_i8 : IR := (.reg false digit_Dec_i7)
def digit_Dec_i9 : IR := (.seq (.reg false digit_Dec_i6) digit_Dec_i8)
def digit_Dec_i10 : IR := (.block 1 (.seq (.reg false digit_Dec_i5) digit_Dec_i9))
def digit_Dec_i11 : IR := (.seq (.seq (.reg false digit_Dec_i3) digit_Dec_i4) digit_Dec_i10)
def digit_Dec_i12 : List Op1 := [(oM 21 (.t 4) []), (oE 22 (.sarr 20 1 (.t 3) (some (.t 21)) none) [0]), (oE 23 (.bstr (.t 22)) [1]), (oM 2 (.t 23) [2, 0, 1, 2])]
def digit_Dec_i13 : IR := .ret
def digit_Dec_i14 : IR := (.seq (.reg false digit_Dec_i12) digit_Dec_i13)
def digit_Dec_i15 : IR := (.seq (.block 0 (.loop digit_Dec_i11)) digit_Dec_i14)
def digit_Dec_i16 : IR := (.seq (.reg false digit_Dec_i2) digit_Dec_i15)
def digit_Dec_i17 : IR := (.seq (.reg false digit_Dec_i1) digit_Dec_i16)
def digit_Dec_ir : IR := (.seq (.reg false digit_Dec_i0) digit_Dec_i17)
theorem digit_Dec_cfn : cFn Tryd.prog 21 = some (digit_Dec_ir, [(.t 2)], 24) := by kernel_rfl
def digit_Dec_V (r : (ByteArray)) : V := .s (.string r)
def digit_Dec_C (r : (ByteArray)) : X → Fr → Hp → Prop := FinL [(.t 2)] [] (digit_Dec_V r) []
theorem digit_Dec_ok (n_ : Int) (r : (ByteArray)) (h : digit_Dec n_ = some r) : Pure Tryd.prog 21 [.s (.int .u64 n_)] (digit_Dec_V r) := by
  refine ConL.of digit_Dec_cfn (Nat.le_of_ble_eq_true (by kernel_rfl)) (Nat.le_of_ble_eq_true (by kernel_rfl)) ?_
  refine k_start ?_
  show dwv Tryd.prog [] digit_Dec_ir (kont Tryd.prog [] (digit_Dec_C r) []) (fr0 [.s (.int .u64 n_)]) []
  have hf : FOk (fr0 [.s (.int .u64 n_)]) [⟨0, [], .s (.int .u64 n_)⟩] := ⟨⟨fun _ => rfl, fun h => (h trivial).elim⟩, trivial⟩
  generalize fr0 [.s (.int .u64 n_)] = f at hf ⊢
  unfold digit_Dec at h
  refine k_seq ?_
  refine k_reg ?_
  refine mops_en hf (by kernel_rfl) fun f1 hf1 => ?_
  refine k_c ?_
  refine k_seq ?_
  refine k_reg ?_
  refine mops_en hf1 (by kernel_rfl) fun f2 hf2 => ?_
  refine k_c ?_
  refine k_seq ?_
  refine k_reg ?_
  refine mops_en hf2 (by kernel_rfl) fun f3 hf3 => ?_
  refine k_c ?_
  refine k_seq ?_
  refine k_block ?_
  obtain ⟨o0, hx0, h⟩ := Option.bind_eq_some_iff.1 h
  have hgo0 : ∀ (l_2 : (List Int)) (i_2 : Int) (hn_2 : l_2.length = 20), (l_2, i_2) = o0 → ∀ f, FOk f [⟨2, [], .s (.string (⟨#[]⟩ : ByteArray))⟩, ⟨3, [], .ptr 0 0 0⟩, ⟨4, [], .s (.int .i64 i_2)⟩] → kont Tryd.prog [] (digit_Dec_C r) ((.c digit_Dec_i14) :: []) .normal f [⟨0, .mem, 1, cat (nI .u8) l_2⟩] := by
    intro l_2 i_2 hn_2 e f hf
    subst e
    refine k_c ?_
    refine k_seq ?_
    refine k_reg ?_
    refine mops_sg 1 hf (by kernel_rfl) fun f1 hf1 => ?_
    obtain ⟨c3, h⟩ := as_ok h
    refine mops_adv rfl (v := .ref 0 0 (0 + (i_2 : Int).toNat * 1) (20 - (i_2 : Int).toNat)) hf1 (by kernel_rfl) (e_sarr (g := (nI .u8)) (l := l_2) (q := 0) (ver := 0) (n := 20) (kd := .mem) (by kernel_rfl) (live_mem (by kernel_rfl)) hn_2 (b_sn (k := .i64) (iv := i_2) (by kernel_rfl) c3)) fun f2 hf2 => ?_
    refine mops_adv rfl (v := .s (.string (bs ((l_2.drop (i_2 : Int).toNat).take (20 - (i_2 : Int).toNat))))) hf2 (by kernel_rfl) (e_bstr (q := ((l_2.drop (i_2 : Int).toNat).take (20 - (i_2 : Int).toNat))) (slc_ev (v := .ref 0 0 (0 + (i_2 : Int).toNat * 1) (20 - (i_2 : Int).toNat)) (by kernel_rfl) (slc_refp (g := (nI .u8)) (l := l_2) (q := 0) (n := 20) (a := (i_2 : Int).toNat) (b := 20) (kd := .mem) (z := 1) (cut_sn (n := 20) c3) hn_2 (live_mem (by kernel_rfl))))) fun f3 hf3 => ?_
    refine mops_en hf3 (by kernel_rfl) fun f4 hf4 => ?_
    refine k_c ?_
    refine k_ret ?_
    obtain rfl := Option.some.inj h
    exact k_fin (fin_ret (.inl rfl) hf4 (vs := [.s (.string (bs ((l_2.drop (i_2 : Int).toNat).take (20 - (i_2 : Int).toNat))))]) (by kernel_rfl) (SettL.pure (FzL.stat rfl)))
  refine k_loop BIG ?_
  refine loop_ind (fun n f L => ∃ (l_1 : (List Int)) (t_1 : Int) (i_1 : Int) (hn_1 : l_1.length = 20), digit_Dec_l0 n l_1 t_1 i_1 = some o0 ∧ FOk f [⟨0, [], .s (.int .u64 t_1)⟩, ⟨2, [], .s (.string (⟨#[]⟩ : ByteArray))⟩, ⟨3, [], .ptr 0 0 0⟩, ⟨4, [], .s (.int .i64 i_1)⟩] ∧ L = [⟨0, .mem, 1, cat (nI .u8) l_1⟩]) ?_ ?_ BIG _ _ ⟨[0, 0, 0, 0, 0, 0, 0, 0, 0, 0, 0, 0, 0, 0, 0, 0, 0, 0, 0, 0], n_, (20), (by kernel_rfl), hx0, FOk_of [0, 2, 3, 4] hf3 (by kernel_rfl), (by kernel_rfl)⟩
  · rintro f L ⟨l_1, t_1, i_1, hn_1, h, _⟩
    cases (show (none : Option _) = some _ from h)
  · rintro n0 R0 ih f L ⟨l_1, t_1, i_1, hn_1, h, hf, rfl⟩
    rw [digit_Dec_l0] at h
    refine k_seq ?_
    refine k_seq ?_
    refine k_reg ?_
    refine mops_en hf (by kernel_rfl) fun f1 hf1 => ?_
    refine k_c ?_
    refine k_cond hf1 (t := ((decide (0 < t_1)) || (i_1 == 20))) (by kernel_rfl) (fun hc1 => ?_) (fun hc1 => ?_)
    · have h := if_t h hc1
      refine k_skip ?_
      refine k_c ?_
      refine k_block ?_
      refine k_seq ?_
      refine k_reg ?_
      refine mops_en hf1 (by kernel_rfl) fun f2 hf2 => ?_
      refine k_c ?_
      refine k_seq ?_
      refine k_reg ?_
      refine mops_sg 4 hf2 (by kernel_rfl) fun f3 hf3 => ?_
      obtain ⟨r_2, hx_r_2, h⟩ := Option.bind_eq_some_iff.1 h
      refine mops_call rfl hf3 (av := [.s (.int .u8 (IntKind.wrap .u8 (Int.tmod t_1 10)))]) (by kernel_rfl) (v := .s (.int .u8 r_2)) (CalL.pure (digit_sign_ok (IntKind.wrap .u8 (Int.tmod t_1 10)) r_2 hx_r_2) rfl rfl (Nat.le_of_ble_eq_true (by kernel_rfl))) (fun _ => rfl) fun f4 hf4 => ?_
      obtain ⟨c2, h⟩ := as_ok h
      refine mops_adv rfl (v := .ptr 0 0 (0 + ((IntKind.wrap .i64 (i_1 - 1)) : Int).toNat * 1)) hf4 (by kernel_rfl) (e_iaa (n := 20) (xv := .ptr 0 0 0) (k := .i64) (iv := (IntKind.wrap .i64 (i_1 - 1))) (p := .ptr 0 0 (0 + ((IntKind.wrap .i64 (i_1 - 1)) : Int).toNat * 1)) (by kernel_rfl) (by kernel_rfl) (by kernel_rfl) (by kernel_rfl) c2) fun f5 hf5 => ?_
      refine mops_adv rfl (v := .s undef) hf5 (by kernel_rfl) (e_store_pe (g := (nI .u8)) (l := l_1) (iv := (IntKind.wrap .i64 (i_1 - 1))) (kd := .mem) (q := 1) (b := 0) (ver := 0) (ys := [.s (.int .u8 r_2)]) (a := r_2) [] (by kernel_rfl) (live_mem (by kernel_rfl)) (by kernel_rfl) (by kernel_rfl) (by kernel_rfl) (arr_h (l := l_1) c2 hn_1) (by kernel_rfl) (by kernel_rfl)) fun f6 hf6 => ?_
      refine mops_en hf6 (by kernel_rfl) fun f7 hf7 => ?_
      refine k_c ?_
      refine k_reg ?_
      refine mops_en hf7 (by kernel_rfl) fun f8 hf8 => ?_
      refine k_b ?_
      refine k_l ?_
      exact ih _ _ ⟨(st l_1 (IntKind.wrap .i64 (i_1 - 1)) r_2), (IntKind.wrap .u64 (Int.tdiv t_1 10)), (IntKind.wrap .i64 (i_1 - 1)), (st_len.trans hn_1), h, FOk_of [0, 2, 3, 4] hf8 (by kernel_rfl), (by kernel_rfl)⟩
    · have h := if_f h hc1
      refine k_exit ?_
      refine x_c nofun ?_
      refine x_l nofun ?_
      refine x_b ?_
      refine k_hp (L' := [⟨0, .mem, 1, cat (nI .u8) l_1⟩]) (by kernel_rfl) ?_
      exact hgo0 l_1 i_1 hn_1 (Option.some.inj h) _ (FOk_of [2, 3, 4] hf1 (by kernel_rfl))
def digit_Pairs_i0 : List Op1 := [(oM 2 (.k (.string ⟨#[]⟩)) [])]
def digit_Pairs_i1 : List Op1 := [(oM 6 (.t 0) []), (oE 7 (.len (.t 6)) [0]), (oE 8 (.bin .mul (.k (.int .i64 2)) (.t 7)) [1]), (oE 9 (.mks [(.int .u8 0)] 1 (.k (.int .i64 0)) (.t 8)) [2]), (oM 3 (.t 9) [3, 0, 1, 2, 3])]
def digit_Pairs_i2 : List Op1 := [(oM 10 (.t 0) []), (oE 11 (.len (.t 10)) [0]), (oM 12 (.k (.int .i64 0)) [])]
def digit_Pairs_i3 : List Op1 := [(oE 13 (.bin .lss (.t 12) (.t 11)) [])]
def digit_Pairs_i4 : List Op1 := [(oE 14 (.ias 1 (.t 10) (.t 12)) []), (oE 15 (.load false 1 (.t 14)) [0]), (oM 5 (.t 15) [1, 0, 1])]
def digit_Pairs_i5 : List Op1 := [(oM 16 (.t 3) []), (oM 17 (.t 5) []), (oE 18 (.bin .shr (.t 17) (.k (.int .u64 4))) [1]), (oC 19 29 [(.t 18)] [2]), (oM 20 (.t 5) []), (oE 21 (.bin .and (.t 20) (.k (.int .u8 15))) [4]), (oC 22 29 [(.t 21)] [5, 3]), (oE 23 (.bslo 1 2 [(.int .u8 0), (.int .u8 0)] [(0, (1, (.t 19))), (1, (1, (.t 22)))]) [3, 6]), (oE 24 (.app 5 1 1 (.t 16) (.t 23)) [0, 7, 6]), (oM 3 (.t 24) [8, 8, 0, 1, 2, 3, 4, 5, 6, 7, 8])]
def digit_Pairs_i6 : IR := (.reg false digit_Pairs_i5)
def digit_Pairs_i7 : List Op1 := [(oE 25 (.bin .add (.t 12) (.k (.int .i64 1))) []), (oM 12 (.t 25) [0])]
def digit_Pairs_i8 : IR := (.reg false digit_Pairs_i7)
def digit_Pairs_i9 : IR := (.seq (.block 1 (.seq (.reg false digit_Pairs_i4) digit_Pairs_i6)) digit_Pairs_i8)
def digit_Pairs_i10 : IR := (.seq (.cond (.t 13) .skip (.exit 0)) digit_Pairs_i9)
def digit_Pairs_i11 : IR := (.seq (.reg false digit_Pairs_i3) digit_Pairs_i10)
def digit_Pairs_i12 : IR := (.block 0 (.loop digit_Pairs_i11))
def digit_Pairs_i13 : List Op1 := [(oM 26 (.t 3) []), (oE 27 (.bstr (.t 26)) [0]), (oM 2 (.t 27) [1, 0, 1])]
def digit_Pairs_i14 : IR := .ret
def digit_Pairs_i15 : IR := (.seq (.reg false digit_Pairs_i13) digit_Pairs_i14)
def digit_Pairs_i16 : IR := (.seq (.seq (.reg false digit_Pairs_i2) digit_Pairs_i12) digit_Pairs_i15)
def digit_Pairs_i17 : IR := (.seq (.reg false digit_Pairs_i1) digit_Pairs_i16)
def digit_Pairs_ir : IR := (.seq (.reg false digit_Pairs_i0) digit_Pairs_i17)
theorem digit_Pairs_cfn : cFn Tryd.prog 22 = some (digit_Pairs_ir, [(.t 2)], 28) := by kernel_rfl
def digit_Pairs_V (r : (ByteArray)) : V := .s (.string r)
def digit_Pairs_C (r : (ByteArray)) : X → Fr → Hp → Prop := FinL [(.t 2)] [] (digit_Pairs_V r) []
theorem digit_Pairs_ok (b_ : (List Int)) (r : (ByteArray)) (h : digit_Pairs b_ = some r) : Pure Tryd.prog 22 [.sl false b_.length (cat (nI .u8) b_)] (digit_Pairs_V r) := by
  refine ConL.of digit_Pairs_cfn (Nat.le_of_ble_eq_true (by kernel_rfl)) (Nat.le_of_ble_eq_true (by kernel_rfl)) ?_
  refine k_start ?_
  show dwv Tryd.prog [] digit_Pairs_ir (kont Tryd.prog [] (digit_Pairs_C r) []) (fr0 [.sl false b_.length (cat (nI .u8) b_)]) []
  have hf : FOk (fr0 [.sl false b_.length (cat (nI .u8) b_)]) [⟨0, [], .sl false b_.length (cat (nI .u8) b_)⟩] := ⟨⟨fun _ => rfl, fun h => (h trivial).elim⟩, trivial⟩
  generalize fr0 [.sl false b_.length (cat (nI .u8) b_)] = f at hf ⊢
  unfold digit_Pairs at h
  refine k_seq ?_
  refine k_reg ?_
  refine mops_en hf (by kernel_rfl) fun f1 hf1 => ?_
  refine k_c ?_
  refine k_seq ?_
  refine k_reg ?_
  refine mops_sg 3 hf1 (by kernel_rfl) fun f2 hf2 => ?_
  obtain ⟨c1, h⟩ := as_ok h
  refine mops_adv rfl (v := .ref 0 0 0 (rp (0) (0 : Int)).length) hf2 (by kernel_rfl) (e_mks (g := (nI .u8)) (a := 0) (k := .i64) (k' := .i64) (iv := 0) (jv := (IntKind.wrap .i64 (2 * (ln b_)))) (by kernel_rfl) (by kernel_rfl) (by kernel_rfl) c1 (by kernel_rfl)) fun f3 hf3 => ?_
  refine mops_en hf3 (by kernel_rfl) fun f4 hf4 => ?_
  refine k_c ?_
  refine k_seq ?_
  refine k_seq ?_
  refine k_reg ?_
  refine mops_en hf4 (by kernel_rfl) fun f5 hf5 => ?_
  refine k_c ?_
  refine k_block ?_
  obtain ⟨o0, hx0, h⟩ := Option.bind_eq_some_iff.1 h
  have hgo0 : ∀ (l_2 : (List Int)) (v_2 : Nat), l_2 = o0 → ∀ f, FOk f [⟨2, [], .s (.string (⟨#[]⟩ : ByteArray))⟩, ⟨3, [], .ref 0 v_2 0 l_2.length⟩] → kont Tryd.prog [] (digit_Pairs_C r) ((.c digit_Pairs_i15) :: []) .normal f [⟨v_2, .grow, 1, cat (nI .u8) l_2⟩] := by
    intro l_2 v_2 e f hf
    subst e
    refine k_c ?_
    refine k_seq ?_
    refine k_reg ?_
    refine mops_sg 1 hf (by kernel_rfl) fun f1 hf1 => ?_
    refine mops_adv rfl (v := .s (.string (bs l_2))) hf1 (by kernel_rfl) (e_bstr (q := l_2) (slc_ev (v := .ref 0 v_2 0 l_2.length) (by kernel_rfl) (slc_ref (g := (nI .u8)) (l := l_2) (kd := .grow) (q := 1) rfl (live_grow (by kernel_rfl))))) fun f2 hf2 => ?_
    refine mops_en hf2 (by kernel_rfl) fun f3 hf3 => ?_
    refine k_c ?_
    refine k_ret ?_
    obtain rfl := Option.some.inj h
    exact k_fin (fin_ret (.inl rfl) hf3 (vs := [.s (.string (bs l_2))]) (by kernel_rfl) (SettL.pure (FzL.stat rfl)))
  refine k_loop BIG ?_
  refine loop_ind (fun n f L => ∃ (l_1 : (List Int)) (t_1 : Int) (v_1 : Nat), digit_Pairs_l0 b_ n l_1 t_1 = some o0 ∧ FOk f [⟨2, [], .s (.string (⟨#[]⟩ : ByteArray))⟩, ⟨3, [], .ref 0 v_1 0 l_1.length⟩, ⟨10, [], .sl false b_.length (cat (nI .u8) b_)⟩, ⟨11, [], .s (.int .i64 (ln b_))⟩, ⟨12, [], .s (.int .i64 t_1)⟩] ∧ L = [⟨v_1, .grow, 1, cat (nI .u8) l_1⟩]) ?_ ?_ BIG _ _ ⟨(rp (0) (0 : Int)), (0), (0), hx0, FOk_of [2, 3, 10, 11, 12] hf5 (by kernel_rfl), (by kernel_rfl)⟩
  · rintro f L ⟨l_1, t_1, v_1, h, _⟩
    cases (show (none : Option _) = some _ from h)
  · rintro n0 R0 ih f L ⟨l_1, t_1, v_1, h, hf, rfl⟩
    rw [digit_Pairs_l0] at h
    refine k_seq ?_
    refine k_reg ?_
    refine mops_en hf (by kernel_rfl) fun f1 hf1 => ?_
    refine k_c ?_
    refine k_seq ?_
    refine k_cond hf1 (t := (decide (t_1 < (ln b_)))) (by kernel_rfl) (fun hc2 => ?_) (fun hc2 => ?_)
    · have h := if_t h hc2
      refine k_skip ?_
      refine k_c ?_
      refine k_seq ?_
      refine k_block ?_
      refine k_seq ?_
      refine k_reg ?_
      obtain ⟨c3, h⟩ := as_ok h
      refine mops_adv rfl (v := .ip ((cat (nI .u8) b_).drop ((t_1 : Int).toNat * 1))) hf1 (by kernel_rfl) (e_ias (n := b_.length) (xv := .sl false b_.length (cat (nI .u8) b_)) (k := .i64) (iv := t_1) (p := .ip ((cat (nI .u8) b_).drop ((t_1 : Int).toNat * 1))) (by kernel_rfl) (by kernel_rfl) (by kernel_rfl) (by kernel_rfl) c3) fun f2 hf2 => ?_
      refine mops_adv rfl (v := .s (.int .u8 (gt b_ t_1))) hf2 (by kernel_rfl) (e_load_ip (g := (nI .u8)) (l := b_) (iv := t_1) [] (by kernel_rfl) c3 (by kernel_rfl) (by kernel_rfl)) fun f3 hf3 => ?_
      refine mops_en hf3 (by kernel_rfl) fun f4 hf4 => ?_
      refine k_c ?_
      refine k_reg ?_
      refine mops_sg 3 hf4 (by kernel_rfl) fun f5 hf5 => ?_
      obtain ⟨r_4, hx_r_4, h⟩ := Option.bind_eq_some_iff.1 h
      refine mops_call rfl hf5 (av := [.s (.int .u8 (Int.fdiv (gt b_ t_1) (2 ^ (4))))]) (by kernel_rfl) (v := .s (.int .u8 r_4)) (CalL.pure (digit_sign_ok (Int.fdiv (gt b_ t_1) (2 ^ (4))) r_4 hx_r_4) rfl rfl (Nat.le_of_ble_eq_true (by kernel_rfl))) (fun _ => rfl) fun f6 hf6 => ?_
      refine mops_sg 2 hf6 (by kernel_rfl) fun f7 hf7 => ?_
      obtain ⟨r_5, hx_r_5, h⟩ := Option.bind_eq_some_iff.1 h
      refine mops_call rfl hf7 (av := [.s (.int .u8 (bits .and .u8 (gt b_ t_1) 15))]) (by kernel_rfl) (v := .s (.int .u8 r_5)) (CalL.pure (digit_sign_ok (bits .and .u8 (gt b_ t_1) 15) r_5 hx_r_5) rfl rfl (Nat.le_of_ble_eq_true (by kernel_rfl))) (fun _ => rfl) fun f8 hf8 => ?_
      refine mops_sg 1 hf8 (by kernel_rfl) fun f9 hf9 => ?_
      obtain ⟨c4, h⟩ := as_ok h
      refine mops_adv rfl (v := .ref 0 (v_1 + 1) 0 (l_1 ++ [r_4, r_5]).length) hf9 (by kernel_rfl) (e_app (g := (nI .u8)) (l := l_1) (l' := [r_4, r_5]) (b := 0) (ver := v_1) (n := l_1.length) rfl (by kernel_rfl) rfl (live_grow (by kernel_rfl)) (sll_ev (v := .ref 1 0 0 2) (by kernel_rfl) (sll_ref (B := ⟨0, .grow, 1, cat (nI .u8) [r_4, r_5]⟩) (by kernel_rfl) (live_grow (by kernel_rfl)))) (slc_ev (v := .ref 1 0 0 2) (by kernel_rfl) (slc_ref (g := (nI .u8)) (l := [r_4, r_5]) (kd := .grow) (q := 1) (by kernel_rfl) (live_grow (by kernel_rfl)))) c4) fun f10 hf10 => ?_
      refine mops_en hf10 (by kernel_rfl) fun f11 hf11 => ?_
      refine k_b ?_
      refine k_c ?_
      refine k_reg ?_
      refine mops_en hf11 (by kernel_rfl) fun f12 hf12 => ?_
      refine k_l' (vs_cut (l := [⟨2, [], .s (.string (⟨#[]⟩ : ByteArray))⟩, ⟨3, [], .ref 0 (v_1 + 1) 0 (l_1 ++ [r_4, r_5]).length⟩, ⟨10, [], .sl false b_.length (cat (nI .u8) b_)⟩, ⟨11, [], .s (.int .i64 (ln b_))⟩, ⟨12, [], .s (.int .i64 (IntKind.wrap .i64 (t_1 + 1)))⟩]) 1 (by kernel_rfl) (by kernel_rfl) (L' := [⟨(v_1 + 1), .grow, 1, cat (nI .u8) (l_1 ++ [r_4, r_5])⟩]) (by kernel_rfl) ⟨⟨rfl, rfl⟩, ⟨rfl, rfl⟩, ⟨rfl, (static_under _ _ (by simp [V.static, statics, cat_stat, dropcat_stat]))⟩, ⟨rfl, rfl⟩, ⟨rfl, rfl⟩, trivial⟩ ⟨.inr (.inr (statics_unders _ _ (cat_stat _))), trivial⟩ (FOk_of [2, 3, 10, 11, 12] hf12 (by kernel_rfl)) fun f hf => ?_)
      exact ih _ _ ⟨(l_1 ++ [r_4, r_5]), (IntKind.wrap .i64 (t_1 + 1)), (v_1 + 1), h, hf, rfl⟩
    · have h := if_f h hc2
      refine k_exit ?_
      refine x_c nofun ?_
      refine x_l nofun ?_
      refine x_b ?_
      refine k_hp (L' := [⟨v_1, .grow, 1, cat (nI .u8) l_1⟩]) (by kernel_rfl) ?_
      exact hgo0 l_1 v_1 (Option.some.inj h) _ (FOk_of [2, 3] hf1 (by kernel_rfl))
def unicode_utf8_DecodeRuneInString_i0 : List Op1 := [(oM 2 (.k (.int .i32 0)) []), (oM 3 (.k (.int .i64 0)) [0])]
def unicode_utf8_DecodeRuneInString_i1 : List Op1 := [(oM 4 (.t 0) []), (oE 5 (.bin .neq (.t 4) (.k (.string ⟨#[]⟩))) [0]), (oM 6 (.t 5) [1]), (oG 7 (.mv (.t 0)) 6 true [2]), (oG 8 (.ixs (.t 7) (.k (.int .i64 0))) 6 true [3, 2]), (oG 9 (.bin .lss (.t 8) (.k (.int .u8 128))) 6 true [4, 2]), (oE 10 (.pick (.t 6) (.t 9) (.k (.bool false))) [2, 5])]
def unicode_utf8_DecodeRuneInString_i2 : List Op1 := [(oM 11 (.t 0) []), (oE 12 (.ixs (.t 11) (.k (.int .i64 0))) [0]), (oE 13 (.cint .i32 (.t 12)) [1]), (oM 2 (.t 13) [2, 0, 1, 2]), (oM 3 (.k (.int .i64 1)) [3, 0, 1, 2, 3])]
def unicode_utf8_DecodeRuneInString_i3 : IR := .ret
def unicode_utf8_DecodeRuneInString_i4 : List Op1 := [(oM 15 (.t 0) []), (oC 16 38 [(.t 15)] [0]), (oM 14 (.t 16) [1]), (oE 17 (.ext 0 (.t 14)) [2]), (oE 18 (.ext 1 (.t 14)) [2]), (oM 2 (.t 17) [3, 1, 0, 1, 2, 3]), (oM 3 (.t 18) [4, 5, 0, 1, 2, 3, 4, 5])]
def unicode_utf8_DecodeRuneInString_i5 : IR := (.cond (.t 10) (.seq (.reg false unicode_utf8_DecodeRuneInString_i2) unicode_utf8_DecodeRuneInString_i3) (.reg false unicode_utf8_DecodeRuneInString_i4))
def unicode_utf8_DecodeRuneInString_i6 : IR := .ret
def unicode_utf8_DecodeRuneInString_i7 : IR := (.seq (.seq (.reg false unicode_utf8_DecodeRuneInString_i1) unicode_utf8_DecodeRuneInString_i5) unicode_utf8_DecodeRuneInString_i6)
def unicode_utf8_DecodeRuneInString_ir : IR := (.seq (.reg false unicode_utf8_DecodeRuneInString_i0) unicode_utf8_DecodeRuneInString_i7)
theorem unicode_utf8_DecodeRuneInString_cfn : cFn Tryd.prog 35 = some (unicode_utf8_DecodeRuneInString_ir, [(.t 2), (.t 3)], 19) := by kernel_rfl
def unicode_utf8_DecodeRuneInString_V (r : (Int × Int)) : V := .tup [.s (.int .i32 r.1), .s (.int .i64 r.2)]
def unicode_utf8_DecodeRuneInString_C (r : (Int × Int)) : X → Fr → Hp → Prop := FinL [(.t 2), (.t 3)] [] (unicode_utf8_DecodeRuneInString_V r) []
theorem unicode_utf8_DecodeRuneInString_ok (s_ : ByteArray) (r : (Int × Int)) (h : unicode_utf8_DecodeRuneInString s_ = some r) : Pure Tryd.prog 35 [.s (.string s_)] (unicode_utf8_DecodeRuneInString_V r) := by
  refine ConL.of unicode_utf8_DecodeRuneInString_cfn (Nat.le_of_ble_eq_true (by kernel_rfl)) (Nat.le_of_ble_eq_true (by kernel_rfl)) ?_
  refine k_start ?_
  show dwv Tryd.prog [] unicode_utf8_DecodeRuneInString_ir (kont Tryd.prog [] (unicode_utf8_DecodeRuneInString_C r) []) (fr0 [.s (.string s_)]) []
  have hf : FOk (fr0 [.s (.string s_)]) [⟨0, [], .s (.string s_)⟩] := ⟨⟨fun _ => rfl, fun h => (h trivial).elim⟩, trivial⟩
  generalize fr0 [.s (.string s_)] = f at hf ⊢
  unfold unicode_utf8_DecodeRuneInString at h
  refine k_seq ?_
  refine k_reg ?_
  refine mops_en hf (by kernel_rfl) fun f1 hf1 => ?_
  refine k_c ?_
  refine k_seq ?_
  refine k_seq ?_
  refine k_reg ?_
  refine mops_sg 4 hf1 (by kernel_rfl) fun f2 hf2 => ?_
  obtain ⟨c1, h⟩ := as_ok h
  refine mops_gadv (dst := (some 8)) (op := (.ixs (.t 7) (.k (.int .i64 0)))) (aft := [3, 2]) (t := 6) (w := true) (ch := [(6, true)]) (b := (!(s_.toList == (⟨#[]⟩ : ByteArray).toList))) (v := .s (.int .u8 (bt s_ (0)))) (by kernel_rfl) hf2 (by kernel_rfl) (by kernel_rfl) (by kernel_rfl) (fun hb2 => e_ixs (t := s_) (k := .i64) (iv := 0) (by kernel_rfl) (by kernel_rfl) (c1 hb2)) fun f3 hf3 => ?_
  refine mops_en hf3 (by kernel_rfl) fun f4 hf4 => ?_
  refine k_c ?_
  refine k_cond hf4 (t := ((!(s_.toList == (⟨#[]⟩ : ByteArray).toList)) && (decide ((bt s_ (0)) < 128)))) (by kernel_rfl) (fun hc3 => ?_) (fun hc3 => ?_)
  · have h := if_t h hc3
    refine k_seq ?_
    refine k_reg ?_
    refine mops_sg 1 hf4 (by kernel_rfl) fun f5 hf5 => ?_
    obtain ⟨c4, h⟩ := as_ok h
    refine mops_adv rfl (v := .s (.int .u8 (bt s_ (0)))) hf5 (by kernel_rfl) (e_ixs (t := s_) (k := .i64) (iv := 0) (by kernel_rfl) (by kernel_rfl) c4) fun f6 hf6 => ?_
    refine mops_en hf6 (by kernel_rfl) fun f7 hf7 => ?_
    refine k_c ?_
    refine k_ret ?_
    refine x_c nofun ?_
    obtain rfl := Option.some.inj h
    exact k_fin (fin_ret (.inl rfl) hf7 (vs := [.s (.int .i32 (IntKind.wrap .i32 (bt s_ (0)))), .s (.int .i64 1)]) (by kernel_rfl) (SettL.pure (FzL.tup (FzsL.cons (FzL.stat rfl) (FzsL.cons (FzL.stat rfl) FzsL.nil)))))
  · have h := if_f h hc3
    refine k_reg ?_
    refine mops_sg 1 hf4 (by kernel_rfl) fun f5 hf5 => ?_
    obtain ⟨r_, hx_r_, h⟩ := Option.bind_eq_some_iff.1 h
    refine mops_call rfl hf5 (av := [.s (.string s_)]) (by kernel_rfl) (v := .tup [.s (.int .i32 r_.1), .s (.int .i64 r_.2)]) (CalL.pure (unicode_utf8_decodeRuneInStringSlow_ok s_ r_ hx_r_) rfl rfl (Nat.le_of_ble_eq_true (by kernel_rfl))) (fun _ => rfl) fun f6 hf6 => ?_
    refine mops_en hf6 (by kernel_rfl) fun f7 hf7 => ?_
    refine k_c ?_
    refine k_ret ?_
    obtain rfl := Option.some.inj h
    exact k_fin (fin_ret (.inl rfl) hf7 (vs := [.s (.int .i32 r_.1), .s (.int .i64 r_.2)]) (by kernel_rfl) (SettL.pure (FzL.tup (FzsL.cons (FzL.stat rfl) (FzsL.cons (FzL.stat rfl) FzsL.nil)))))
def strings_genSplit_i0 : List Op1 := [(oE 8 (.nilg 1) [])]
def strings_genSplit_i1 : List Op1 := [(oM 12 (.t 3) []), (oE 13 (.bin .eql (.t 12) (.k (.int .i64 0))) [0])]
def strings_genSplit_i2 : List Op1 := [(oE 8 (.nilg 1) [])]
def strings_genSplit_i3 : IR := .ret
def strings_genSplit_i4 : IR := (.cond (.t 13) (.seq (.reg false strings_genSplit_i2) strings_genSplit_i3) .skip)
def strings_genSplit_i5 : List Op1 := [(oM 14 (.t 1) []), (oE 15 (.bin .eql (.t 14) (.k (.string ⟨#[]⟩))) [0])]
def strings_genSplit_i6 : List Op1 := [(oM 16 (.t 0) []), (oM 17 (.t 3) []), (oC 18 30 [(.t 16), (.t 17)] [0, 1]), (oM 8 (.t 18) [2, 2, 0, 1, 2])]
def strings_genSplit_i7 : IR := .ret
def strings_genSplit_i8 : IR := (.cond (.t 15) (.seq (.reg false strings_genSplit_i6) strings_genSplit_i7) .skip)
def strings_genSplit_i9 : List Op1 := [(oM 19 (.t 3) []), (oE 20 (.bin .lss (.t 19) (.k (.int .i64 0))) [0])]
def strings_genSplit_i10 : List Op1 := [(oM 21 (.t 0) []), (oM 22 (.t 1) []), (oC 23 31 [(.t 21), (.t 22)] [0, 1]), (oE 24 (.bin .add (.t 23) (.k (.int .i64 1))) [2]), (oM 3 (.t 24) [3, 2, 0, 1, 2, 3])]
def strings_genSplit_i11 : IR := (.cond (.t 20) (.reg false strings_genSplit_i10) .skip)
def strings_genSplit_i12 : List Op1 := [(oM 25 (.t 3) []), (oM 26 (.t 0) []), (oE 27 (.lens (.t 26)) [1]), (oE 28 (.bin .add (.t 27) (.k (.int .i64 1))) [2]), (oE 29 (.mnx false (.t 25) (.t 28)) [0, 3]), (oM 3 (.t 29) [4, 0, 1, 2, 3, 4])]
def strings_genSplit_i13 : List Op1 := [(oM 30 (.t 3) []), (oE 31 (.mks [(.string ⟨#[]⟩)] 16 (.t 30) (.t 30)) [0, 0]), (oM 9 (.t 31) [1, 0, 1])]
def strings_genSplit_i14 : List Op1 := [(oM 32 (.t 3) []), (oE 33 (.bin .sub (.t 32) (.k (.int .i64 1))) [0]), (oM 3 (.t 33) [1, 0, 1])]
def strings_genSplit_i15 : List Op1 := [(oM 10 (.k (.int .i64 0)) [])]
def strings_genSplit_i16 : List Op1 := [(oM 34 (.t 10) []), (oM 35 (.t 3) []), (oE 36 (.bin .lss (.t 34) (.t 35)) [0, 1])]
def strings_genSplit_i17 : IR := (.cond (.t 36) .skip (.exit 0))
def strings_genSplit_i18 : List Op1 := [(oM 37 (.t 0) []), (oM 38 (.t 1) []), (oC 39 32 [(.t 37), (.t 38)] [0, 1]), (oM 11 (.t 39) [2, 2, 0, 1, 2])]
def strings_genSplit_i19 : List Op1 := [(oM 40 (.t 11) []), (oE 41 (.bin .lss (.t 40) (.k (.int .i64 0))) [0])]
def strings_genSplit_i20 : IR := (.cond (.t 41) (.exit 0) .skip)
def strings_genSplit_i21 : List Op1 := [(oM 42 (.t 9) []), (oM 43 (.t 10) []), (oM 44 (.t 0) []), (oM 45 (.t 11) []), (oM 46 (.t 2) []), (oE 47 (.bin .add (.t 45) (.t 46)) [3, 4]), (oE 48 (.sstr (.t 44) none (some (.t 47))) [2, 5]), (oE 49 (.ias 1 (.t 42) (.t 43)) [0, 1, 0, 1, 2, 3, 4, 5, 6]), (oN (.store 1 (.t 49) (.t 48)) [7, 6, 0, 1, 2, 3, 4, 5, 6])]
def strings_genSplit_i22 : List Op1 := [(oM 50 (.t 0) []), (oM 51 (.t 11) []), (oM 52 (.t 1) []), (oE 53 (.lens (.t 52)) [2]), (oE 54 (.bin .add (.t 51) (.t 53)) [1, 3]), (oE 55 (.sstr (.t 50) (some (.t 54)) none) [0, 4]), (oM 0 (.t 55) [5, 0, 1, 2, 3, 4, 5])]
def strings_genSplit_i23 : List Op1 := [(oM 56 (.t 10) []), (oE 57 (.bin .add (.t 56) (.k (.int .i64 1))) [0]), (oM 10 (.t 57) [1, 0, 1])]
def strings_genSplit_i24 : IR := (.reg false strings_genSplit_i23)
def strings_genSplit_i25 : IR := (.seq (.reg false strings_genSplit_i22) strings_genSplit_i24)
def strings_genSplit_i26 : IR := (.seq (.reg false strings_genSplit_i21) strings_genSplit_i25)
def strings_genSplit_i27 : IR := (.seq (.seq (.reg false strings_genSplit_i19) strings_genSplit_i20) strings_genSplit_i26)
def strings_genSplit_i28 : IR := (.block 1 (.seq (.reg false strings_genSplit_i18) strings_genSplit_i27))
def strings_genSplit_i29 : IR := (.seq (.seq (.reg false strings_genSplit_i16) strings_genSplit_i17) strings_genSplit_i28)
def strings_genSplit_i30 : List Op1 := [(oM 58 (.t 9) []), (oM 59 (.t 10) []), (oM 60 (.t 0) []), (oE 61 (.ias 1 (.t 58) (.t 59)) [0, 1, 0, 1, 2]), (oN (.store 1 (.t 61) (.t 60)) [3, 2, 0, 1, 2])]
def strings_genSplit_i31 : List Op1 := [(oM 62 (.t 9) []), (oM 63 (.t 10) []), (oE 64 (.bin .add (.t 63) (.k (.int .i64 1))) [1]), (oE 65 (.slice 1 (.t 62) none (some (.t 64))) [0, 2]), (oM 8 (.t 65) [3, 0, 1, 2, 3])]
def strings_genSplit_i32 : IR := .ret
def strings_genSplit_i33 : IR := (.seq (.reg false strings_genSplit_i31) strings_genSplit_i32)
def strings_genSplit_i34 : IR := (.seq (.reg false strings_genSplit_i30) strings_genSplit_i33)
def strings_genSplit_i35 : IR := (.seq (.block 0 (.loop strings_genSplit_i29)) strings_genSplit_i34)
def strings_genSplit_i36 : IR := (.seq (.reg false strings_genSplit_i15) strings_genSplit_i35)
def strings_genSplit_i37 : IR := (.seq (.reg false strings_genSplit_i14) strings_genSplit_i36)
def strings_genSplit_i38 : IR := (.seq (.reg false strings_genSplit_i13) strings_genSplit_i37)
def strings_genSplit_i39 : IR := (.seq (.reg false strings_genSplit_i12) strings_genSplit_i38)
def strings_genSplit_i40 : IR := (.seq (.seq (.reg false strings_genSplit_i9) strings_genSplit_i11) strings_genSplit_i39)
def strings_genSplit_i41 : IR := (.seq (.seq (.reg false strings_genSplit_i5) strings_genSplit_i8) strings_genSplit_i40)
def strings_genSplit_i42 : IR := (.seq (.seq (.reg false strings_genSplit_i1) strings_genSplit_i4) strings_genSplit_i41)
def strings_genSplit_ir : IR := (.seq (.reg false strings_genSplit_i0) strings_genSplit_i42)
theorem strings_genSplit_cfn : cFn Tryd.prog 24 = some (strings_genSplit_ir, [(.t 8)], 66) := by kernel_rfl
def strings_genSplit_V (r : ((List ByteArray))) : V := .sl false r.length (cat nS r)
def strings_genSplit_C (r : ((List ByteArray))) : X → Fr → Hp → Prop := FinL [(.t 8)] [] (strings_genSplit_V r) []
theorem strings_genSplit_ok (s_ : ByteArray) (sep_ : ByteArray) (sepSave_ : Int) (n_ : Int) (r : ((List ByteArray))) (h : strings_genSplit s_ sep_ sepSave_ n_ = some r) : Pure Tryd.prog 24 [.s (.string s_), .s (.string sep_), .s (.int .i64 sepSave_), .s (.int .i64 n_)] (strings_genSplit_V r) := by
  refine ConL.of strings_genSplit_cfn (Nat.le_of_ble_eq_true (by kernel_rfl)) (Nat.le_of_ble_eq_true (by kernel_rfl)) ?_
  refine k_start ?_
  show dwv Tryd.prog [] strings_genSplit_ir (kont Tryd.prog [] (strings_genSplit_C r) []) (fr0 [.s (.string s_), .s (.string sep_), .s (.int .i64 sepSave_), .s (.int .i64 n_)]) []
  have hf : FOk (fr0 [.s (.string s_), .s (.string sep_), .s (.int .i64 sepSave_), .s (.int .i64 n_)]) [⟨0, [], .s (.string s_)⟩, ⟨1, [], .s (.string sep_)⟩, ⟨2, [], .s (.int .i64 sepSave_)⟩, ⟨3, [], .s (.int .i64 n_)⟩] := ⟨⟨fun _ => rfl, fun h => (h trivial).elim⟩, ⟨fun _ => rfl, fun h => (h trivial).elim⟩, ⟨fun _ => rfl, fun h => (h trivial).elim⟩, ⟨fun _ => rfl, fun h => (h trivial).elim⟩, trivial⟩
  generalize fr0 [.s (.string s_), .s (.string sep_), .s (.int .i64 sepSave_), .s (.int .i64 n_)] = f at hf ⊢
  unfold strings_genSplit at h
  refine k_seq ?_
  refine k_reg ?_
  refine mops_en hf (by kernel_rfl) fun f1 hf1 => ?_
  refine k_c ?_
  refine k_seq ?_
  refine k_seq ?_
  refine k_reg ?_
  refine mops_en hf1 (by kernel_rfl) fun f2 hf2 => ?_
  refine k_c ?_
  refine k_cond hf2 (t := (n_ == 0)) (by kernel_rfl) (fun hc1 => ?_) (fun hc1 => ?_)
  · have h := if_t h hc1
    refine k_seq ?_
    refine k_reg ?_
    refine mops_en hf2 (by kernel_rfl) fun f3 hf3 => ?_
    refine k_c ?_
    refine k_ret ?_
    refine x_c nofun ?_
    obtain rfl := Option.some.inj h
    exact k_fin (fin_ret (.inl rfl) hf3 (vs := [.ref 1 0 0 0]) (by kernel_rfl) (SettL.pure (FzL.whole (g := nS) (kd := .grow) (l := ([] : List ByteArray)) (by kernel_rfl) rfl (live_grow (by kernel_rfl)))))
  · have h := if_f h hc1
    refine k_skip ?_
    refine k_c ?_
    refine k_seq ?_
    refine k_seq ?_
    refine k_reg ?_
    refine mops_en hf2 (by kernel_rfl) fun f3 hf3 => ?_
    refine k_c ?_
    refine k_cond hf3 (t := (sep_.toList == (⟨#[]⟩ : ByteArray).toList)) (by kernel_rfl) (fun hc2 => ?_) (fun hc2 => ?_)
    · have h := if_t h hc2
      cases h
    · have h := if_f h hc2
      refine k_skip ?_
      refine k_c ?_
      refine k_seq ?_
      refine k_seq ?_
      refine k_reg ?_
      refine mops_en hf3 (by kernel_rfl) fun f4 hf4 => ?_
      refine k_c ?_
      have hj1 : ∀ (t_ : Int), strings_genSplit_j0 s_ sep_ sepSave_ t_ = some r → ∀ f, FOk f [⟨0, [], .s (.string s_)⟩, ⟨1, [], .s (.string sep_)⟩, ⟨2, [], .s (.int .i64 sepSave_)⟩, ⟨3, [], .s (.int .i64 t_)⟩, ⟨8, [], .ref 0 0 0 0⟩] → kont Tryd.prog [] (strings_genSplit_C r) ((.c strings_genSplit_i39) :: []) .normal f [⟨0, .grow, 1, cat nS ([] : List ByteArray)⟩] := by
        intro t_ h f hf
        unfold strings_genSplit_j0 at h
        refine k_c ?_
        refine k_seq ?_
        refine k_reg ?_
        refine mops_en hf (by kernel_rfl) fun f1 hf1 => ?_
        refine k_c ?_
        refine k_seq ?_
        refine k_reg ?_
        refine mops_sg 1 hf1 (by kernel_rfl) fun f2 hf2 => ?_
        obtain ⟨c4, h⟩ := as_ok h
        refine mops_adv rfl (v := .ref 1 0 0 (rp (if (IntKind.wrap .i64 ((sln s_) + 1)) < t_ then (IntKind.wrap .i64 ((sln s_) + 1)) else t_) ((⟨#[]⟩ : ByteArray) : ByteArray)).length) hf2 (by kernel_rfl) (e_mks (g := nS) (a := (⟨#[]⟩ : ByteArray)) (k := .i64) (k' := .i64) (iv := (if (IntKind.wrap .i64 ((sln s_) + 1)) < t_ then (IntKind.wrap .i64 ((sln s_) + 1)) else t_)) (jv := (if (IntKind.wrap .i64 ((sln s_) + 1)) < t_ then (IntKind.wrap .i64 ((sln s_) + 1)) else t_)) (by kernel_rfl) (by kernel_rfl) (by kernel_rfl) c4 (by kernel_rfl)) fun f3 hf3 => ?_
        refine mops_en hf3 (by kernel_rfl) fun f4 hf4 => ?_
        refine k_c ?_
        refine k_seq ?_
        refine k_reg ?_
        refine mops_en hf4 (by kernel_rfl) fun f5 hf5 => ?_
        refine k_c ?_
        refine k_seq ?_
        refine k_reg ?_
        refine mops_en hf5 (by kernel_rfl) fun f6 hf6 => ?_
        refine k_c ?_
        refine k_seq ?_
        refine k_block ?_
        obtain ⟨o0, hx0, h⟩ := Option.bind_eq_some_iff.1 h
        have hgo0 : ∀ (l_2 : (List ByteArray)) (t_3 : ByteArray) (i_2 : Int) (m_2 : Nat) (hn_2 : l_2.length = m_2), (l_2, t_3, i_2) = o0 → ∀ f, FOk f [⟨0, [], .s (.string t_3)⟩, ⟨8, [], .ref 0 0 0 0⟩, ⟨9, [], .ref 1 0 0 m_2⟩, ⟨10, [], .s (.int .i64 i_2)⟩] → kont Tryd.prog [] (strings_genSplit_C r) ((.c strings_genSplit_i34) :: []) .normal f [⟨0, .grow, 1, cat nS ([] : List ByteArray)⟩, ⟨0, .grow, 1, cat nS l_2⟩] := by
          intro l_2 t_3 i_2 m_2 hn_2 e f hf
          subst e
          refine k_c ?_
          refine k_seq ?_
          refine k_reg ?_
          refine mops_sg 3 hf (by kernel_rfl) fun f1 hf1 => ?_
          obtain ⟨c10, h⟩ := as_ok h
          refine mops_adv rfl (v := .ptr 1 0 (0 + (i_2 : Int).toNat * 1)) hf1 (by kernel_rfl) (e_ias_ref (l := l_2) (B := ⟨0, .grow, 1, cat nS l_2⟩) (b := 1) (ver := 0) (n := m_2) (k := .i64) (iv := i_2) (by kernel_rfl) (by kernel_rfl) hn_2 (live_grow (by kernel_rfl)) c10) fun f2 hf2 => ?_
          refine mops_adv rfl (v := .s undef) hf2 (by kernel_rfl) (e_store_pe (g := nS) (l := l_2) (iv := i_2) (kd := .grow) (q := 1) (b := 1) (ver := 0) (ys := [.s (.string t_3)]) (a := t_3) [] (by kernel_rfl) (live_grow (by kernel_rfl)) (by kernel_rfl) (by kernel_rfl) (by kernel_rfl) c10 (by kernel_rfl) (by kernel_rfl)) fun f3 hf3 => ?_
          refine mops_en hf3 (by kernel_rfl) fun f4 hf4 => ?_
          refine k_c ?_
          refine k_seq ?_
          refine k_reg ?_
          refine mops_sg 3 hf4 (by kernel_rfl) fun f5 hf5 => ?_
          obtain ⟨c11, h⟩ := as_ok h
          refine mops_adv rfl (v := .ref 1 0 (0 + 0 * 1) (((IntKind.wrap .i64 (i_2 + 1)) : Int).toNat - 0)) hf5 (by kernel_rfl) (e_slice_ref (B := ⟨0, .grow, 1, cat nS (st l_2 i_2 t_3)⟩) (n := m_2) (o := 0) (by kernel_rfl) (live_grow (by kernel_rfl)) rfl (b_ns (k := .i64) (iv := (IntKind.wrap .i64 (i_2 + 1))) (by kernel_rfl) (ln_ns (st_len.trans hn_2) c11))) fun f6 hf6 => ?_
          refine mops_en hf6 (by kernel_rfl) fun f7 hf7 => ?_
          refine k_c ?_
          refine k_ret ?_
          obtain rfl := Option.some.inj h
          exact k_fin (fin_ret (.inl rfl) hf7 (vs := [.ref 1 0 (0 + 0 * 1) (((IntKind.wrap .i64 (i_2 + 1)) : Int).toNat - 0)]) (by kernel_rfl) (SettL.pure (FzL.partr (g := nS) (kd := .grow) (l := (st l_2 i_2 t_3)) (n := m_2) (a := 0) (b := ((IntKind.wrap .i64 (i_2 + 1)) : Int).toNat) (by kernel_rfl) (cut_ns (n := m_2) (ln_ns (st_len.trans hn_2) c11)) (st_len.trans hn_2) (live_grow (by kernel_rfl)))))
        refine k_loop BIG ?_
        refine loop_ind (fun n f L => ∃ (l_1 : (List ByteArray)) (t_2 : ByteArray) (i_1 : Int) (m_1 : Nat) (hn_1 : l_1.length = m_1), strings_genSplit_l0 s_ sep_ sepSave_ t_ n l_1 t_2 i_1 = some o0 ∧ FOk f [⟨0, [], .s (.string t_2)⟩, ⟨1, [], .s (.string sep_)⟩, ⟨2, [], .s (.int .i64 sepSave_)⟩, ⟨3, [], .s (.int .i64 (IntKind.wrap .i64 ((if (IntKind.wrap .i64 ((sln s_) + 1)) < t_ then (IntKind.wrap .i64 ((sln s_) + 1)) else t_) - 1)))⟩, ⟨8, [], .ref 0 0 0 0⟩, ⟨9, [], .ref 1 0 0 m_1⟩, ⟨10, [], .s (.int .i64 i_1)⟩] ∧ L = [⟨0, .grow, 1, cat nS ([] : List ByteArray)⟩, ⟨0, .grow, 1, cat nS l_1⟩]) ?_ ?_ BIG _ _ ⟨(rp (if (IntKind.wrap .i64 ((sln s_) + 1)) < t_ then (IntKind.wrap .i64 ((sln s_) + 1)) else t_) ((⟨#[]⟩ : ByteArray) : ByteArray)), s_, (0), ((rp (if (IntKind.wrap .i64 ((sln s_) + 1)) < t_ then (IntKind.wrap .i64 ((sln s_) + 1)) else t_) ((⟨#[]⟩ : ByteArray) : ByteArray)).length), rfl, hx0, FOk_of [0, 1, 2, 3, 8, 9, 10] hf6 (by kernel_rfl), (by kernel_rfl)⟩
        · rintro f L ⟨l_1, t_2, i_1, m_1, hn_1, h, _⟩
          cases (show (none : Option _) = some _ from h)
        · rintro n0 R0 ih f L ⟨l_1, t_2, i_1, m_1, hn_1, h, hf, rfl⟩
          rw [strings_genSplit_l0] at h
          refine k_seq ?_
          refine k_seq ?_
          refine k_reg ?_
          refine mops_en hf (by kernel_rfl) fun f1 hf1 => ?_
          refine k_c ?_
          refine k_cond hf1 (t := (decide (i_1 < (IntKind.wrap .i64 ((if (IntKind.wrap .i64 ((sln s_) + 1)) < t_ then (IntKind.wrap .i64 ((sln s_) + 1)) else t_) - 1))))) (by kernel_rfl) (fun hc5 => ?_) (fun hc5 => ?_)
          · have h := if_t h hc5
            refine k_skip ?_
            refine k_c ?_
            refine k_block ?_
            refine k_seq ?_
            refine k_reg ?_
            refine mops_sg 2 hf1 (by kernel_rfl) fun f2 hf2 => ?_
            obtain ⟨r_3, hx_r_3, h⟩ := Option.bind_eq_some_iff.1 h
            refine mops_call rfl hf2 (av := [.s (.string t_2), .s (.string sep_)]) (by kernel_rfl) (v := .s (.int .i64 r_3)) (CalL.pure (strings_Index_ok t_2 sep_ r_3 hx_r_3) rfl rfl (Nat.le_of_ble_eq_true (by kernel_rfl))) (fun _ => rfl) fun f3 hf3 => ?_
            refine mops_en hf3 (by kernel_rfl) fun f4 hf4 => ?_
            refine k_c ?_
            refine k_seq ?_
            refine k_seq ?_
            refine k_reg ?_
            refine mops_en hf4 (by kernel_rfl) fun f5 hf5 => ?_
            refine k_c ?_
            refine k_cond hf5 (t := (decide (r_3 < 0))) (by kernel_rfl) (fun hc6 => ?_) (fun hc6 => ?_)
            · have h := if_t h hc6
              refine k_exit ?_
              refine x_c nofun ?_
              refine x_b' (by kernel_rfl) ?_
              refine x_l nofun ?_
              refine x_b ?_
              refine k_hp (L' := [⟨0, .grow, 1, cat nS ([] : List ByteArray)⟩, ⟨0, .grow, 1, cat nS l_1⟩]) (by kernel_rfl) ?_
              exact hgo0 l_1 t_2 i_1 m_1 hn_1 (Option.some.inj h) _ (FOk_of [0, 8, 9, 10] hf5 (by kernel_rfl))
            · have h := if_f h hc6
              refine k_skip ?_
              refine k_c ?_
              refine k_seq ?_
              refine k_reg ?_
              refine mops_sg 6 hf5 (by kernel_rfl) fun f6 hf6 => ?_
              obtain ⟨c7, h⟩ := as_ok h
              refine mops_adv rfl (v := .s (.string (t_2.extract 0 ((IntKind.wrap .i64 (r_3 + sepSave_)) : Int).toNat))) hf6 (by kernel_rfl) (e_sstr (t := t_2) (by kernel_rfl) (b_ns (k := .i64) (iv := (IntKind.wrap .i64 (r_3 + sepSave_))) (by kernel_rfl) c7)) fun f7 hf7 => ?_
              obtain ⟨c8, h⟩ := as_ok h
              refine mops_adv rfl (v := .ptr 1 0 (0 + (i_1 : Int).toNat * 1)) hf7 (by kernel_rfl) (e_ias_ref (l := l_1) (B := ⟨0, .grow, 1, cat nS l_1⟩) (b := 1) (ver := 0) (n := m_1) (k := .i64) (iv := i_1) (by kernel_rfl) (by kernel_rfl) hn_1 (live_grow (by kernel_rfl)) c8) fun f8 hf8 => ?_
              refine mops_adv rfl (v := .s undef) hf8 (by kernel_rfl) (e_store_pe (g := nS) (l := l_1) (iv := i_1) (kd := .grow) (q := 1) (b := 1) (ver := 0) (ys := [.s (.string (t_2.extract 0 ((IntKind.wrap .i64 (r_3 + sepSave_)) : Int).toNat))]) (a := (t_2.extract 0 ((IntKind.wrap .i64 (r_3 + sepSave_)) : Int).toNat)) [] (by kernel_rfl) (live_grow (by kernel_rfl)) (by kernel_rfl) (by kernel_rfl) (by kernel_rfl) c8 (by kernel_rfl) (by kernel_rfl)) fun f9 hf9 => ?_
              refine mops_en hf9 (by kernel_rfl) fun f10 hf10 => ?_
              refine k_c ?_
              refine k_seq ?_
              refine k_reg ?_
              refine mops_sg 5 hf10 (by kernel_rfl) fun f11 hf11 => ?_
              obtain ⟨c9, h⟩ := as_ok h
              refine mops_adv rfl (v := .s (.string (t_2.extract ((IntKind.wrap .i64 (r_3 + (sln sep_))) : Int).toNat t_2.size))) hf11 (by kernel_rfl) (e_sstr (t := t_2) (by kernel_rfl) (b_sn (k := .i64) (iv := (IntKind.wrap .i64 (r_3 + (sln sep_)))) (by kernel_rfl) c9)) fun f12 hf12 => ?_
              refine mops_en hf12 (by kernel_rfl) fun f13 hf13 => ?_
              refine k_c ?_
              refine k_reg ?_
              refine mops_en hf13 (by kernel_rfl) fun f14 hf14 => ?_
              refine k_b ?_
              refine k_l ?_
              exact ih _ _ ⟨(st l_1 i_1 (t_2.extract 0 ((IntKind.wrap .i64 (r_3 + sepSave_)) : Int).toNat)), (t_2.extract ((IntKind.wrap .i64 (r_3 + (sln sep_))) : Int).toNat t_2.size), (IntKind.wrap .i64 (i_1 + 1)), m_1, (st_len.trans hn_1), h, FOk_of [0, 1, 2, 3, 8, 9, 10] hf14 (by kernel_rfl), (by kernel_rfl)⟩
          · have h := if_f h hc5
            refine k_exit ?_
            refine x_c nofun ?_
            refine x_l nofun ?_
            refine x_b ?_
            refine k_hp (L' := [⟨0, .grow, 1, cat nS ([] : List ByteArray)⟩, ⟨0, .grow, 1, cat nS l_1⟩]) (by kernel_rfl) ?_
            exact hgo0 l_1 t_2 i_1 m_1 hn_1 (Option.some.inj h) _ (FOk_of [0, 8, 9, 10] hf1 (by kernel_rfl))
      refine k_cond hf4 (t := (decide (n_ < 0))) (by kernel_rfl) (fun hc3 => ?_) (fun hc3 => ?_)
      · have h := if_t h hc3
        refine k_reg ?_
        refine mops_sg 2 hf4 (by kernel_rfl) fun f5 hf5 => ?_
        obtain ⟨r_, hx_r_, h⟩ := Option.bind_eq_some_iff.1 h
        refine mops_call rfl hf5 (av := [.s (.string s_), .s (.string sep_)]) (by kernel_rfl) (v := .s (.int .i64 r_)) (CalL.pure (strings_Count_ok s_ sep_ r_ hx_r_) rfl rfl (Nat.le_of_ble_eq_true (by kernel_rfl))) (fun _ => rfl) fun f6 hf6 => ?_
        refine mops_en hf6 (by kernel_rfl) fun f7 hf7 => ?_
        refine k_hp (L' := [⟨0, .grow, 1, cat nS ([] : List ByteArray)⟩]) (by kernel_rfl) ?_
        exact hj1 (IntKind.wrap .i64 (r_ + 1)) h _ (FOk_of [0, 1, 2, 3, 8] hf7 (by kernel_rfl))
      · have h := if_f h hc3
        refine k_skip ?_
        refine k_hp (L' := [⟨0, .grow, 1, cat nS ([] : List ByteArray)⟩]) (by kernel_rfl) ?_
        exact hj1 n_ h _ (FOk_of [0, 1, 2, 3, 8] hf4 (by kernel_rfl))
end Go.Proofs.YtphfmfbebcconaaDoorK
