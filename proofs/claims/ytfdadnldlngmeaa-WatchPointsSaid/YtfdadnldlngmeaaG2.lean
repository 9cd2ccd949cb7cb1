/- The Go functions come to the functions over typed data. Printed by a program of this work. -/
import Derived.Test.YtfdadnldlngmeaaF
import Derived.Test.YtfdadnldlngmeaaProg
import Derived.Test.YtfdadnldlngmeaaRq
import Derived.Test.YtfdadnldlngmeaaG0
import Derived.Test.YtfdadnldlngmeaaG1
namespace Go.Proofs.YtfdadnldlngmeaaK
set_option linter.unusedVariables false
set_option linter.unusedSimpArgs false
set_option maxHeartbeats 4000000
open Go.RowKit
attribute [local irreducible] dwv mops lops lqops lwops kont iter run runK rk okK ex E1 vals val chain chB sel resF
def slices_DeleteFunc_sl_watch_Point_watch_Point_i0 : List Op1 := [(oE 4 (.nilg 4) [])]
def slices_DeleteFunc_sl_watch_Point_watch_Point_i1 : List Op1 := [(oM 8 (.t 0) []), (oM 9 (.t 1) []), (oC 10 55 [(.t 8), (.t 9)] [0, 1]), (oM 5 (.t 10) [2, 2, 0, 1, 2])]
def slices_DeleteFunc_sl_watch_Point_watch_Point_i2 : List Op1 := [(oM 11 (.t 5) []), (oE 12 (.bin .eql (.t 11) (.k (.int .i64 (-1)))) [0])]
def slices_DeleteFunc_sl_watch_Point_watch_Point_i3 : List Op1 := [(oM 13 (.t 0) []), (oM 4 (.t 13) [0, 0])]
def slices_DeleteFunc_sl_watch_Point_watch_Point_i4 : IR := .ret
def slices_DeleteFunc_sl_watch_Point_watch_Point_i5 : IR := (.cond (.t 12) (.seq (.reg false slices_DeleteFunc_sl_watch_Point_watch_Point_i3) slices_DeleteFunc_sl_watch_Point_watch_Point_i4) .skip)
def slices_DeleteFunc_sl_watch_Point_watch_Point_i6 : List Op1 := [(oM 14 (.t 5) []), (oE 15 (.bin .add (.t 14) (.k (.int .i64 1))) [0]), (oM 6 (.t 15) [1, 0, 1])]
def slices_DeleteFunc_sl_watch_Point_watch_Point_i7 : List Op1 := [(oM 16 (.t 6) []), (oM 17 (.t 0) []), (oE 18 (.len (.t 17)) [1]), (oE 19 (.bin .lss (.t 16) (.t 18)) [0, 2])]
def slices_DeleteFunc_sl_watch_Point_watch_Point_i8 : IR := (.cond (.t 19) .skip (.exit 0))
def slices_DeleteFunc_sl_watch_Point_watch_Point_i9 : List Op1 := [(oM 22 (.t 0) []), (oM 23 (.t 6) []), (oE 24 (.ias 4 (.t 22) (.t 23)) [0, 1]), (oE 25 (.load true 4 (.t 24)) [2]), (oE 7 (.zero [(.int .i64 0), (.int .i64 0), (.int .u16 0), (.int .u16 0)]) []), (oN (.store 4 (.t 7) (.t 25)) [4, 3, 0, 1, 2, 3, 4])]
def slices_DeleteFunc_sl_watch_Point_watch_Point_i10 : List Op1 := [(oM 26 (.t 1) []), (oE 27 (.load true 4 (.t 7)) []), (oC 28 4294967296 [(.t 26), (.t 27)] [0, 1]), (oE 29 (.un .not (.t 28)) [2])]
def slices_DeleteFunc_sl_watch_Point_watch_Point_i11 : List Op1 := [(oM 30 (.t 0) []), (oM 31 (.t 5) []), (oE 32 (.load true 4 (.t 7)) []), (oE 33 (.ias 4 (.t 30) (.t 31)) [0, 1, 0, 1, 2]), (oN (.store 4 (.t 33) (.t 32)) [3, 2, 0, 1, 2])]
def slices_DeleteFunc_sl_watch_Point_watch_Point_i12 : List Op1 := [(oM 34 (.t 5) []), (oE 35 (.bin .add (.t 34) (.k (.int .i64 1))) [0]), (oM 5 (.t 35) [1, 0, 1])]
def slices_DeleteFunc_sl_watch_Point_watch_Point_i13 : IR := (.reg false slices_DeleteFunc_sl_watch_Point_watch_Point_i12)
def slices_DeleteFunc_sl_watch_Point_watch_Point_i14 : IR := (.cond (.t 29) (.seq (.reg false slices_DeleteFunc_sl_watch_Point_watch_Point_i11) slices_DeleteFunc_sl_watch_Point_watch_Point_i13) .skip)
def slices_DeleteFunc_sl_watch_Point_watch_Point_i15 : IR := (.seq (.reg false slices_DeleteFunc_sl_watch_Point_watch_Point_i10) slices_DeleteFunc_sl_watch_Point_watch_Point_i14)
def slices_DeleteFunc_sl_watch_Point_watch_Point_i16 : List Op1 := [(oM 20 (.t 6) []), (oE 21 (.bin .add (.t 20) (.k (.int .i64 1))) [0]), (oM 6 (.t 21) [1, 0, 1])]
def slices_DeleteFunc_sl_watch_Point_watch_Point_i17 : IR := (.reg false slices_DeleteFunc_sl_watch_Point_watch_Point_i16)
def slices_DeleteFunc_sl_watch_Point_watch_Point_i18 : IR := (.seq (.block 1 (.seq (.reg false slices_DeleteFunc_sl_watch_Point_watch_Point_i9) slices_DeleteFunc_sl_watch_Point_watch_Point_i15)) slices_DeleteFunc_sl_watch_Point_watch_Point_i17)
def slices_DeleteFunc_sl_watch_Point_watch_Point_i19 : IR := (.seq (.seq (.reg false slices_DeleteFunc_sl_watch_Point_watch_Point_i7) slices_DeleteFunc_sl_watch_Point_watch_Point_i8) slices_DeleteFunc_sl_watch_Point_watch_Point_i18)
def slices_DeleteFunc_sl_watch_Point_watch_Point_i20 : IR := (.block 0 (.loop slices_DeleteFunc_sl_watch_Point_watch_Point_i19))
def slices_DeleteFunc_sl_watch_Point_watch_Point_i21 : List Op1 := [(oM 36 (.t 0) []), (oM 37 (.t 5) []), (oE 38 (.slice 4 (.t 36) (some (.t 37)) none) [0, 1]), (oN (.clr [(.int .i64 0), (.int .i64 0), (.int .u16 0), (.int .u16 0)] (.t 38)) [2])]
def slices_DeleteFunc_sl_watch_Point_watch_Point_i22 : List Op1 := [(oM 39 (.t 0) []), (oM 40 (.t 5) []), (oE 41 (.slice 4 (.t 39) none (some (.t 40))) [0, 1]), (oM 4 (.t 41) [2, 0, 1, 2])]
def slices_DeleteFunc_sl_watch_Point_watch_Point_i23 : IR := .ret
def slices_DeleteFunc_sl_watch_Point_watch_Point_i24 : IR := (.seq (.reg false slices_DeleteFunc_sl_watch_Point_watch_Point_i22) slices_DeleteFunc_sl_watch_Point_watch_Point_i23)
def slices_DeleteFunc_sl_watch_Point_watch_Point_i25 : IR := (.seq (.reg false slices_DeleteFunc_sl_watch_Point_watch_Point_i21) slices_DeleteFunc_sl_watch_Point_watch_Point_i24)
def slices_DeleteFunc_sl_watch_Point_watch_Point_i26 : IR := (.seq (.seq (.reg false slices_DeleteFunc_sl_watch_Point_watch_Point_i6) slices_DeleteFunc_sl_watch_Point_watch_Point_i20) slices_DeleteFunc_sl_watch_Point_watch_Point_i25)
def slices_DeleteFunc_sl_watch_Point_watch_Point_i27 : IR := (.seq (.seq (.reg false slices_DeleteFunc_sl_watch_Point_watch_Point_i2) slices_DeleteFunc_sl_watch_Point_watch_Point_i5) slices_DeleteFunc_sl_watch_Point_watch_Point_i26)
def slices_DeleteFunc_sl_watch_Point_watch_Point_i28 : IR := (.seq (.reg false slices_DeleteFunc_sl_watch_Point_watch_Point_i1) slices_DeleteFunc_sl_watch_Point_watch_Point_i27)
def slices_DeleteFunc_sl_watch_Point_watch_Point_ir : IR := (.seq (.reg false slices_DeleteFunc_sl_watch_Point_watch_Point_i0) slices_DeleteFunc_sl_watch_Point_watch_Point_i28)
theorem slices_DeleteFunc_sl_watch_Point_watch_Point_cfn : cFn Try.prog 45 = some (slices_DeleteFunc_sl_watch_Point_watch_Point_ir, [(.t 4)], 42) := by kernel_rfl
def slices_DeleteFunc_sl_watch_Point_watch_Point_V (ver_ : Nat) (r : ((List watch_Point))) : V := .ref 0 ver_ 0 r.length
def slices_DeleteFunc_sl_watch_Point_watch_Point_L (s_ : (List watch_Point)) (ver_ : Nat) : Hp := [⟨ver_, .grow, 4, cat watch_Point.v s_⟩]
def slices_DeleteFunc_sl_watch_Point_watch_Point_C (s_ : (List watch_Point)) (ver_ : Nat) (r : ((List watch_Point))) : X → Fr → Hp → Prop := FinL [(.t 4)] (slices_DeleteFunc_sl_watch_Point_watch_Point_L s_ ver_) (slices_DeleteFunc_sl_watch_Point_watch_Point_V ver_ r) [⟨ver_, .grow, 4, cat watch_Point.v r⟩]
theorem slices_DeleteFunc_sl_watch_Point_watch_Point_ok (s_ : (List watch_Point)) (del_ : Int) (ver_ : Nat) (r : ((List watch_Point))) (h : slices_DeleteFunc_sl_watch_Point_watch_Point s_ del_ = some r) : ConL Try.prog 45 [.ref 0 ver_ 0 s_.length, .clo 46 [.ip [.s (.int .i64 del_)]]] [⟨ver_, .grow, 4, cat watch_Point.v s_⟩] (slices_DeleteFunc_sl_watch_Point_watch_Point_V ver_ r) [⟨ver_, .grow, 4, cat watch_Point.v r⟩] := by
  refine ConL.of slices_DeleteFunc_sl_watch_Point_watch_Point_cfn (Nat.le_of_ble_eq_true (by kernel_rfl)) (Nat.le_of_ble_eq_true (by kernel_rfl)) ?_
  refine k_start ?_
  show dwv Try.prog (slices_DeleteFunc_sl_watch_Point_watch_Point_L s_ ver_) slices_DeleteFunc_sl_watch_Point_watch_Point_ir (kont Try.prog (slices_DeleteFunc_sl_watch_Point_watch_Point_L s_ ver_) (slices_DeleteFunc_sl_watch_Point_watch_Point_C s_ ver_ r) []) (fr0 [.ref 0 ver_ 0 s_.length, .clo 46 [.ip [.s (.int .i64 del_)]]]) [⟨ver_, .grow, 4, cat watch_Point.v s_⟩]
  have hf : FOk (fr0 [.ref 0 ver_ 0 s_.length, .clo 46 [.ip [.s (.int .i64 del_)]]]) [⟨0, [], .ref 0 ver_ 0 s_.length⟩, ⟨1, [], .clo 46 [.ip [.s (.int .i64 del_)]]⟩] := ⟨⟨fun _ => rfl, fun h => (h trivial).elim⟩, ⟨fun _ => rfl, fun h => (h trivial).elim⟩, trivial⟩
  generalize fr0 [.ref 0 ver_ 0 s_.length, .clo 46 [.ip [.s (.int .i64 del_)]]] = f at hf ⊢
  unfold slices_DeleteFunc_sl_watch_Point_watch_Point at h
  refine k_seq ?_
  refine k_reg ?_
  refine mops_en hf (by kernel_rfl) fun f1 hf1 => ?_
  refine k_c ?_
  refine k_seq ?_
  refine k_reg ?_
  refine mops_sg 2 hf1 (by kernel_rfl) fun f2 hf2 => ?_
  obtain ⟨r_, hx_r_, h⟩ := Option.bind_eq_some_iff.1 h
  refine mops_call rfl hf2 (av := [.ref 0 ver_ 0 s_.length, .clo 46 [.ip [.s (.int .i64 del_)]]]) (by kernel_rfl) (v := .s (.int .i64 r_)) (CalL.lend (slices_IndexFunc_sl_watch_Point_watch_Point_ok s_ del_ r_ hx_r_) rfl (Lends.cons (Lend.whole (g := watch_Point.v) (kd := .grow) (l := s_) rfl (live_grow (by kernel_rfl))) (Lends.cons (Lend.stat rfl) Lends.nil)) (by kernel_rfl)) (fun _ => rfl) fun f3 hf3 => ?_
  refine mops_en hf3 (by kernel_rfl) fun f4 hf4 => ?_
  refine k_c ?_
  refine k_seq ?_
  refine k_seq ?_
  refine k_reg ?_
  refine mops_en hf4 (by kernel_rfl) fun f5 hf5 => ?_
  refine k_c ?_
  refine k_cond hf5 (t := (r_ == (-1))) (by kernel_rfl) (fun hc1 => ?_) (fun hc1 => ?_)
  · have h := if_t h hc1
    refine k_seq ?_
    refine k_reg ?_
    refine mops_en hf5 (by kernel_rfl) fun f6 hf6 => ?_
    refine k_c ?_
    refine k_ret ?_
    refine x_c nofun ?_
    obtain rfl := Option.some.inj h
    exact k_fin (fin_ret (.inl rfl) hf6 (vs := [.ref 0 ver_ 0 s_.length]) (by kernel_rfl) (SettL.cutb (L' := [⟨ver_, .grow, 4, cat watch_Point.v s_⟩]) 1 (by kernel_rfl) (by kernel_rfl) (by kernel_rfl) ⟨.inr (.inr (statics_unders _ _ (cat_stat _))), trivial⟩ (FzL.und rfl (ref_len rfl))))
  · have h := if_f h hc1
    refine k_skip ?_
    refine k_c ?_
    refine k_seq ?_
    refine k_seq ?_
    refine k_reg ?_
    refine mops_en hf5 (by kernel_rfl) fun f6 hf6 => ?_
    refine k_c ?_
    refine k_block ?_
    obtain ⟨o0, hx0, h⟩ := Option.bind_eq_some_iff.1 h
    have hgo0 : ∀ (l_2 : (List watch_Point)) (i_2 : Int) (m_2 : Nat) (hn_2 : l_2.length = m_2), (l_2, i_2) = o0 → ∀ f, FOk f [⟨0, [], .ref 0 ver_ 0 m_2⟩, ⟨4, [], .ref 1 0 0 0⟩, ⟨5, [], .s (.int .i64 i_2)⟩] → kont Try.prog (slices_DeleteFunc_sl_watch_Point_watch_Point_L s_ ver_) (slices_DeleteFunc_sl_watch_Point_watch_Point_C s_ ver_ r) ((.c slices_DeleteFunc_sl_watch_Point_watch_Point_i25) :: []) .normal f [⟨ver_, .grow, 4, cat watch_Point.v l_2⟩, ⟨0, .grow, 4, cat watch_Point.v ([] : List watch_Point)⟩] := by
      intro l_2 i_2 m_2 hn_2 e f hf
      subst e
      refine k_c ?_
      refine k_seq ?_
      refine k_reg ?_
      refine mops_sg 2 hf (by kernel_rfl) fun f1 hf1 => ?_
      obtain ⟨c6, h⟩ := as_ok h
      refine mops_adv rfl (v := .ref 0 ver_ (0 + (i_2 : Int).toNat * 4) (m_2 - (i_2 : Int).toNat)) hf1 (by kernel_rfl) (e_slice_ref (B := ⟨ver_, .grow, 4, cat watch_Point.v l_2⟩) (n := m_2) (o := 0) (by kernel_rfl) (live_grow (by kernel_rfl)) rfl (b_sn (k := .i64) (iv := i_2) (by kernel_rfl) (ln_ns hn_2 c6))) fun f2 hf2 => ?_
      refine mops_adv rfl (v := .tup []) hf2 (by kernel_rfl) (e_clr (g := watch_Point.v) (l := l_2) (q := 0) (ver := ver_) (n := (m_2 - (i_2 : Int).toNat)) (a := (i_2 : Int).toNat) (kd := .grow) (by kernel_rfl) (live_grow (by kernel_rfl)) (by kernel_rfl)) fun f3 hf3 => ?_
      refine mops_en hf3 (by kernel_rfl) fun f4 hf4 => ?_
      refine k_c ?_
      refine k_seq ?_
      refine k_reg ?_
      refine mops_sg 2 hf4 (by kernel_rfl) fun f5 hf5 => ?_
      obtain ⟨c7, h⟩ := as_ok h
      refine mops_adv rfl (v := .ref 0 ver_ (0 + 0 * 4) ((i_2 : Int).toNat - 0)) hf5 (by kernel_rfl) (e_slice_ref (B := ⟨ver_, .grow, 4, cat watch_Point.v (l_2.take ((i_2 : Int).toNat))⟩) (n := m_2) (o := 0) (by kernel_rfl) (live_grow (by kernel_rfl)) rfl (b_ns (k := .i64) (iv := i_2) (by kernel_rfl) (ln_ns hn_2 c7))) fun f6 hf6 => ?_
      refine mops_en hf6 (by kernel_rfl) fun f7 hf7 => ?_
      have hf8 := FOk_re (t0 := 4) (v := .ref 0 ver_ (0 + 0 * 4) ((i_2 : Int).toNat - 0)) (v' := .ref 0 ver_ 0 (l_2.take ((i_2 : Int).toNat)).length) hf7 (ref_cut (s := 4) (cut_ns (n := m_2) (ln_ns hn_2 c7)) hn_2)
      refine k_c ?_
      refine k_ret ?_
      obtain rfl := Option.some.inj h
      exact k_fin (fin_ret (.inl rfl) hf8 (vs := [.ref 0 ver_ 0 (l_2.take ((i_2 : Int).toNat)).length]) (by kernel_rfl) (SettL.cutb (L' := [⟨ver_, .grow, 4, cat watch_Point.v (l_2.take ((i_2 : Int).toNat))⟩]) 1 (by kernel_rfl) (by kernel_rfl) (by kernel_rfl) ⟨.inr (.inr (statics_unders _ _ (cat_stat _))), trivial⟩ (FzL.und rfl (ref_len rfl))))
    refine k_loop BIG ?_
    refine loop_ind (fun n f L => ∃ (l_1 : (List watch_Point)) (i_1 : Int) (j_1 : Int) (m_1 : Nat) (hn_1 : l_1.length = m_1), slices_DeleteFunc_sl_watch_Point_watch_Point_l0 del_ n l_1 i_1 j_1 = some o0 ∧ FOk f [⟨0, [], .ref 0 ver_ 0 m_1⟩, ⟨1, [], .clo 46 [.ip [.s (.int .i64 del_)]]⟩, ⟨4, [], .ref 1 0 0 0⟩, ⟨5, [], .s (.int .i64 i_1)⟩, ⟨6, [], .s (.int .i64 j_1)⟩] ∧ L = [⟨ver_, .grow, 4, cat watch_Point.v l_1⟩, ⟨0, .grow, 4, cat watch_Point.v ([] : List watch_Point)⟩]) ?_ ?_ BIG _ _ ⟨s_, r_, (IntKind.wrap .i64 (r_ + 1)), s_.length, rfl, hx0, FOk_of [0, 1, 4, 5, 6] hf6 (by kernel_rfl), (by kernel_rfl)⟩
    · rintro f L ⟨l_1, i_1, j_1, m_1, hn_1, h, _⟩
      cases (show (none : Option _) = some _ from h)
    · rintro n0 R0 ih f L ⟨l_1, i_1, j_1, m_1, hn_1, h, hf, rfl⟩
      rw [slices_DeleteFunc_sl_watch_Point_watch_Point_l0] at h
      refine k_seq ?_
      refine k_seq ?_
      refine k_reg ?_
      refine mops_sg 2 hf (by kernel_rfl) fun f1 hf1 => ?_
      refine mops_adv rfl (v := .s (.int .i64 (ln l_1))) hf1 (by kernel_rfl) (e_len_ref (l := l_1) (B := ⟨ver_, .grow, 4, cat watch_Point.v l_1⟩) (b := 0) (ver := ver_) (n := m_1) (by kernel_rfl) hn_1 (live_grow (by kernel_rfl))) fun f2 hf2 => ?_
      refine mops_en hf2 (by kernel_rfl) fun f3 hf3 => ?_
      refine k_c ?_
      refine k_cond hf3 (t := (decide (j_1 < (ln l_1)))) (by kernel_rfl) (fun hc2 => ?_) (fun hc2 => ?_)
      · have h := if_t h hc2
        refine k_skip ?_
        refine k_c ?_
        refine k_seq ?_
        refine k_block ?_
        refine k_seq ?_
        refine k_reg ?_
        refine mops_sg 2 hf3 (by kernel_rfl) fun f4 hf4 => ?_
        obtain ⟨c3, h⟩ := as_ok h
        refine mops_adv rfl (v := .ptr 0 ver_ (0 + (j_1 : Int).toNat * 4)) hf4 (by kernel_rfl) (e_ias_ref (l := l_1) (B := ⟨ver_, .grow, 4, cat watch_Point.v l_1⟩) (b := 0) (ver := ver_) (n := m_1) (k := .i64) (iv := j_1) (by kernel_rfl) (by kernel_rfl) hn_1 (live_grow (by kernel_rfl)) c3) fun f5 hf5 => ?_
        refine mops_adv rfl (v := .agg [.s (.int .i64 (gt l_1 j_1).Id), .s (.int .i64 (gt l_1 j_1).Kind), .s (.int .u16 (gt l_1 j_1).From), .s (.int .u16 (gt l_1 j_1).To)]) hf5 (by kernel_rfl) (e_load_pe (g := watch_Point.v) (l := l_1) (iv := j_1) (kd := .grow) (q := 4) (b := 0) (ver := ver_) [] (by kernel_rfl) (live_grow (by kernel_rfl)) c3 (by kernel_rfl) (by kernel_rfl)) fun f6 hf6 => ?_
        refine mops_en hf6 (by kernel_rfl) fun f7 hf7 => ?_
        refine k_c ?_
        refine k_seq ?_
        refine k_reg ?_
        refine mops_sg 2 hf7 (by kernel_rfl) fun f8 hf8 => ?_
        obtain ⟨r_3, hx_r_3, h⟩ := Option.bind_eq_some_iff.1 h
        refine mops_call rfl hf8 (av := [.clo 46 [.ip [.s (.int .i64 del_)]], .agg [.s (.int .i64 (gt l_1 j_1).Id), .s (.int .i64 (gt l_1 j_1).Kind), .s (.int .u16 (gt l_1 j_1).From), .s (.int .u16 (gt l_1 j_1).To)]]) (by kernel_rfl) (v := .s (.bool r_3)) (CalL.clo (args := [.agg [.s (.int .i64 (gt l_1 j_1).Id), .s (.int .i64 (gt l_1 j_1).Kind), .s (.int .u16 (gt l_1 j_1).From), .s (.int .u16 (gt l_1 j_1).To)]]) (caps := [.ip [.s (.int .i64 del_)]]) (CalL.pure (watch_Watch_Drop_1_ok (gt l_1 j_1) del_ r_3 hx_r_3) rfl rfl (Nat.le_of_ble_eq_true (by kernel_rfl)))) (fun _ => rfl) fun f9 hf9 => ?_
        refine mops_en hf9 (by kernel_rfl) fun f10 hf10 => ?_
        refine k_c ?_
        refine k_cond hf10 (t := (!r_3)) (by kernel_rfl) (fun hc4 => ?_) (fun hc4 => ?_)
        · have h := if_t h hc4
          refine k_seq ?_
          refine k_reg ?_
          refine mops_sg 3 hf10 (by kernel_rfl) fun f11 hf11 => ?_
          obtain ⟨c5, h⟩ := as_ok h
          refine mops_adv rfl (v := .ptr 0 ver_ (0 + (i_1 : Int).toNat * 4)) hf11 (by kernel_rfl) (e_ias_ref (l := l_1) (B := ⟨ver_, .grow, 4, cat watch_Point.v l_1⟩) (b := 0) (ver := ver_) (n := m_1) (k := .i64) (iv := i_1) (by kernel_rfl) (by kernel_rfl) hn_1 (live_grow (by kernel_rfl)) c5) fun f12 hf12 => ?_
          refine mops_adv rfl (v := .s undef) hf12 (by kernel_rfl) (e_store_pe (g := watch_Point.v) (l := l_1) (iv := i_1) (kd := .grow) (q := 4) (b := 0) (ver := ver_) (ys := [.s (.int .i64 (gt l_1 j_1).Id), .s (.int .i64 (gt l_1 j_1).Kind), .s (.int .u16 (gt l_1 j_1).From), .s (.int .u16 (gt l_1 j_1).To)]) (a := (gt l_1 j_1)) [] (by kernel_rfl) (live_grow (by kernel_rfl)) (by kernel_rfl) (by kernel_rfl) (by kernel_rfl) c5 (by kernel_rfl) (by kernel_rfl)) fun f13 hf13 => ?_
          refine mops_en hf13 (by kernel_rfl) fun f14 hf14 => ?_
          refine k_c ?_
          refine k_reg ?_
          refine mops_en hf14 (by kernel_rfl) fun f15 hf15 => ?_
          refine k_b ?_
          refine k_c ?_
          refine k_reg ?_
          refine mops_en hf15 (by kernel_rfl) fun f16 hf16 => ?_
          refine k_l' (vs_cut (l := [⟨0, [], .ref 0 ver_ 0 m_1⟩, ⟨1, [], .clo 46 [.ip [.s (.int .i64 del_)]]⟩, ⟨4, [], .ref 1 0 0 0⟩, ⟨5, [], .s (.int .i64 (IntKind.wrap .i64 (i_1 + 1)))⟩, ⟨6, [], .s (.int .i64 (IntKind.wrap .i64 (j_1 + 1)))⟩]) 2 (by kernel_rfl) (by kernel_rfl) (L' := [⟨ver_, .grow, 4, cat watch_Point.v (st l_1 i_1 (gt l_1 j_1))⟩, ⟨0, .grow, 4, cat watch_Point.v ([] : List watch_Point)⟩]) (by kernel_rfl) ⟨⟨rfl, rfl⟩, ⟨rfl, rfl⟩, ⟨rfl, rfl⟩, ⟨rfl, rfl⟩, ⟨rfl, rfl⟩, trivial⟩ ⟨.inr (.inr (statics_unders _ _ (cat_stat _))), .inr (.inr (statics_unders _ _ (cat_stat _))), trivial⟩ (FOk_of [0, 1, 4, 5, 6] hf16 (by kernel_rfl)) fun f hf => ?_)
          exact ih _ _ ⟨(st l_1 i_1 (gt l_1 j_1)), (IntKind.wrap .i64 (i_1 + 1)), (IntKind.wrap .i64 (j_1 + 1)), m_1, (st_len.trans hn_1), h, hf, rfl⟩
        · have h := if_f h hc4
          refine k_skip ?_
          refine k_b ?_
          refine k_c ?_
          refine k_reg ?_
          refine mops_en hf10 (by kernel_rfl) fun f11 hf11 => ?_
          refine k_l' (vs_cut (l := [⟨0, [], .ref 0 ver_ 0 m_1⟩, ⟨1, [], .clo 46 [.ip [.s (.int .i64 del_)]]⟩, ⟨4, [], .ref 1 0 0 0⟩, ⟨5, [], .s (.int .i64 i_1)⟩, ⟨6, [], .s (.int .i64 (IntKind.wrap .i64 (j_1 + 1)))⟩]) 2 (by kernel_rfl) (by kernel_rfl) (L' := [⟨ver_, .grow, 4, cat watch_Point.v l_1⟩, ⟨0, .grow, 4, cat watch_Point.v ([] : List watch_Point)⟩]) (by kernel_rfl) ⟨⟨rfl, rfl⟩, ⟨rfl, rfl⟩, ⟨rfl, rfl⟩, ⟨rfl, rfl⟩, ⟨rfl, rfl⟩, trivial⟩ ⟨.inr (.inr (statics_unders _ _ (cat_stat _))), .inr (.inr (statics_unders _ _ (cat_stat _))), trivial⟩ (FOk_of [0, 1, 4, 5, 6] hf11 (by kernel_rfl)) fun f hf => ?_)
          exact ih _ _ ⟨l_1, i_1, (IntKind.wrap .i64 (j_1 + 1)), m_1, hn_1, h, hf, rfl⟩
      · have h := if_f h hc2
        refine k_exit ?_
        refine x_c nofun ?_
        refine x_l nofun ?_
        refine x_b ?_
        refine k_hp (L' := [⟨ver_, .grow, 4, cat watch_Point.v l_1⟩, ⟨0, .grow, 4, cat watch_Point.v ([] : List watch_Point)⟩]) (by kernel_rfl) ?_
        exact hgo0 l_1 i_1 m_1 hn_1 (Option.some.inj h) _ (FOk_of [0, 4, 5] hf3 (by kernel_rfl))
def spinetlaw49_alive_i0 : List Op1 := [(oM 0 (.k (.bool false)) [])]
def spinetlaw49_alive_i1 : List Op1 := [(oE 4 (.build [(.slice none 0 0), (.int .i64 0)] []) []), (oE 5 (.box (.t 4)) [0]), (oM 1 (.t 5) [1, 0, 1])]
def spinetlaw49_alive_i2 : List Op1 := [(oM 7 (.t 1) []), (oC 8 23 [(.t 7), (.k (.int .i64 1)), (.k (.int .u16 5)), (.k (.int .u16 6))] [0]), (oM 6 (.t 8) [1]), (oE 9 (.ext 0 (.t 6)) [2]), (oE 10 (.ext 1 (.t 6)) [2]), (oM 2 (.t 9) [3, 1, 0, 1, 2, 3]), (oM 3 (.t 10) [4, 5, 0, 1, 2, 3, 4, 5])]
def spinetlaw49_alive_i3 : List Op1 := [(oM 11 (.t 2) []), (oE 12 (.bin .eql (.t 11) (.k (.int .i64 1))) [0]), (oM 13 (.t 12) [1]), (oG 14 (.mv (.t 3)) 13 true [2]), (oG 15 (.bin .eql (.t 14) (.k (.int .i64 0))) 13 true [3, 2]), (oE 16 (.pick (.t 13) (.t 15) (.k (.bool false))) [2, 4]), (oM 17 (.t 16) [5, 2]), (oG 18 (.mv (.t 1)) 17 true [6]), (oG 19 (.build [(.int .u16 0), (.int .u8 0), (.bool false), (.bool false), (.bool false), (.bool false), (.bool false), (.bool false), (.bool false)] [(0, (1, (.k (.int .u16 6)))), (8, (1, (.k (.bool true))))]) 17 true [6]), ⟨(some 20), (.call 9 [(.t 18), (.t 19)]), (some (17, true)), [7, 8, 6, 6]⟩, (oG 21 (.bsl 1 [(.int .i64 0)] [(0, (1, (.k (.int .i64 1))))]) 17 true [6]), ⟨(some 22), (.call 8 [(.t 20), (.t 21)]), (some (17, true)), [9, 10, 9, 6]⟩, (oE 23 (.pick (.t 17) (.t 22) (.k (.bool false))) [6, 11]), (oM 0 (.t 23) [12, 11, 0, 1, 2, 3, 4, 5, 6, 7, 8, 9, 10, 11, 12])]
def spinetlaw49_alive_i4 : IR := .ret
def spinetlaw49_alive_i5 : IR := (.seq (.reg false spinetlaw49_alive_i3) spinetlaw49_alive_i4)
def spinetlaw49_alive_i6 : IR := (.seq (.reg false spinetlaw49_alive_i2) spinetlaw49_alive_i5)
def spinetlaw49_alive_i7 : IR := (.seq (.reg false spinetlaw49_alive_i1) spinetlaw49_alive_i6)
def spinetlaw49_alive_ir : IR := (.seq (.reg false spinetlaw49_alive_i0) spinetlaw49_alive_i7)
theorem spinetlaw49_alive_cfn : cFn Try.prog 11 = some (spinetlaw49_alive_ir, [(.t 0)], 24) := by kernel_rfl
def spinetlaw49_alive_V (r : (Bool)) : V := .s (.bool r)
def spinetlaw49_alive_C (r : (Bool)) : X → Fr → Hp → Prop := FinL [(.t 0)] [] (spinetlaw49_alive_V r) []
theorem spinetlaw49_alive_ok (r : (Bool)) (h : spinetlaw49_alive = some r) : Pure Try.prog 11 [] (spinetlaw49_alive_V r) := by
  refine ConL.of spinetlaw49_alive_cfn (Nat.le_of_ble_eq_true (by kernel_rfl)) (Nat.le_of_ble_eq_true (by kernel_rfl)) ?_
  refine k_start ?_
  show dwv Try.prog [] spinetlaw49_alive_ir (kont Try.prog [] (spinetlaw49_alive_C r) []) (fr0 []) []
  have hf : FOk (fr0 []) [] := trivial
  generalize fr0 [] = f at hf ⊢
  unfold spinetlaw49_alive at h
  refine k_seq ?_
  refine k_reg ?_
  refine mops_en hf (by kernel_rfl) fun f1 hf1 => ?_
  refine k_c ?_
  refine k_seq ?_
  refine k_reg ?_
  refine mops_en hf1 (by kernel_rfl) fun f2 hf2 => ?_
  refine k_row (ver := 0) (q := 1) (kd := .mem) (cs := [.s (.slice none 0 0), .s (.int .i64 0)]) 0 0 4 (L' := [⟨0, .mem, 1, [.ref 1 0 0 0, .s (.int .i64 0)]⟩, ⟨0, .grow, 4, cat watch_Point.v ([] : List watch_Point)⟩]) ?_
  refine k_c ?_
  refine k_seq ?_
  refine k_reg ?_
  refine mops_sg 1 hf2 (by kernel_rfl) fun f3 hf3 => ?_
  obtain ⟨r_, hx_r_, h⟩ := Option.bind_eq_some_iff.1 h
  refine mops_call rfl hf3 (av := [.ptr 0 0 0, .s (.int .i64 1), .s (.int .u16 5), .s (.int .u16 6)]) (by kernel_rfl) (v := .tup [.s (.int .i64 r_.1), .s (.int .i64 r_.2.1)]) (L' := [⟨0, .mem, 1, [.ref 1 1 0 r_.2.2.l.length, .s (.int .i64 r_.2.2.last)]⟩, ⟨1, .grow, 4, cat watch_Point.v r_.2.2.l⟩]) (CalL.borrow (M := [⟨0, .grow, 4, cat watch_Point.v ([] : List watch_Point)⟩, ⟨0, .mem, 1, [.ref 1 0 0 0, .s (.int .i64 0)]⟩]) (M' := [⟨1, .grow, 4, cat watch_Point.v r_.2.2.l⟩, ⟨0, .mem, 1, [.ref 1 1 0 r_.2.2.l.length, .s (.int .i64 r_.2.2.last)]⟩]) [1, 0] (watch_Watch_Add_ok (watch_Watch.mk ([] : List watch_Point) (0)) (1) (5) (6) 0 r_ hx_r_) (by kernel_rfl) (RNs.cons (RN.ptr (by kernel_rfl)) (RNs.cons (RN.stat rfl) (RNs.cons (RN.stat rfl) (RNs.cons (RN.stat rfl) RNs.nil)))) (RN.tup (RNs.cons (RN.stat rfl) (RNs.cons (RN.stat rfl) RNs.nil))) (RBs.cons (RNs.stat (cat_stat _)) (RBs.cons (RNs.cons (RN.ref (by kernel_rfl)) (RNs.stat rfl)) RBs.nil)) (RBs.cons (RNs.stat (cat_stat _)) (RBs.cons (RNs.cons (RN.ref (by kernel_rfl)) (RNs.stat rfl)) RBs.nil)) (by kernel_rfl) (by kernel_rfl)) (by intro h; cases h) fun f4 hf4 => ?_
  refine mops_en hf4 (by kernel_rfl) fun f5 hf5 => ?_
  refine k_c ?_
  refine k_seq ?_
  refine k_reg ?_
  refine mops_sg 9 hf5 (by kernel_rfl) fun f6 hf6 => ?_
  obtain ⟨r_1, hx_r_1, h⟩ := Option.bind_eq_some_iff.1 h
  refine mops_gcall (dst := (some 20)) (m := 9) (args := [(.t 18), (.t 19)]) (aft := [7, 8, 6, 6]) (t := 17) (w := true) (ch := [(17, true)]) (b := ((r_.1 == 1) && (r_.2.1 == 0))) (by kernel_rfl) hf6 (by kernel_rfl) (by kernel_rfl) (av := [.ptr 0 0 0, .agg [.s (.int .u16 6), .s (.int .u8 0), .s (.bool false), .s (.bool false), .s (.bool false), .s (.bool false), .s (.bool false), .s (.bool false), .s (.bool true)]]) (by kernel_rfl) (v := .sl false r_1.length (cat (nI .i64) r_1)) (by kernel_rfl) (fun hb1 => (CalL.borrow (M := [⟨1, .grow, 4, cat watch_Point.v r_.2.2.l⟩, ⟨0, .mem, 1, [.ref 1 1 0 r_.2.2.l.length, .s (.int .i64 r_.2.2.last)]⟩]) (M' := [⟨1, .grow, 4, cat watch_Point.v r_.2.2.l⟩, ⟨0, .mem, 1, [.ref 1 1 0 r_.2.2.l.length, .s (.int .i64 r_.2.2.last)]⟩]) [1, 0] (watch_Watch_Cycle_ok r_.2.2 (api_Rec.mk (6) (0) false false false false false false true) 1 r_1 (if_t hx_r_1 hb1)) (by kernel_rfl) (RNs.cons (RN.ptr (by kernel_rfl)) (RNs.cons (RN.stat rfl) RNs.nil)) (RN.stat (by simp [V.static, statics, cat_stat, watch_Watch_Cycle_V])) (RBs.cons (RNs.stat (cat_stat _)) (RBs.cons (RNs.cons (RN.ref (by kernel_rfl)) (RNs.stat rfl)) RBs.nil)) (RBs.cons (RNs.stat (cat_stat _)) (RBs.cons (RNs.cons (RN.ref (by kernel_rfl)) (RNs.stat rfl)) RBs.nil)) (by kernel_rfl) (by kernel_rfl))) fun f7 hf7 => ?_
  refine mops_sg 1 hf7 (by kernel_rfl) fun f8 hf8 => ?_
  obtain ⟨r_2, hx_r_2, h⟩ := Option.bind_eq_some_iff.1 h
  refine mops_gcall (dst := (some 22)) (m := 8) (args := [(.t 20), (.t 21)]) (aft := [9, 10, 9, 6]) (t := 17) (w := true) (ch := [(17, true)]) (b := ((r_.1 == 1) && (r_.2.1 == 0))) (by kernel_rfl) hf8 (by kernel_rfl) (by kernel_rfl) (av := [.sl false r_1.length (cat (nI .i64) r_1), .sl true [1].length (cat (nI .i64) [1])]) (by kernel_rfl) (v := .s (.bool r_2)) (by kernel_rfl) (fun hb2 => (CalL.purew (slices_Equal_sl_int_int_ok r_1 [1] r_2 (if_t hx_r_2 hb2)) (Wks.cons Wk.refl (Wks.cons Wk.slf Wks.nil)) (by simp [V.static, statics, cat_stat]) rfl (by kernel_rfl))) fun f9 hf9 => ?_
  refine mops_en hf9 (by kernel_rfl) fun f10 hf10 => ?_
  refine k_c ?_
  refine k_ret ?_
  obtain rfl := Option.some.inj h
  exact k_fin (fin_ret (.inl rfl) hf10 (vs := [.s (.bool (((r_.1 == 1) && (r_.2.1 == 0)) && r_2))]) (by kernel_rfl) (SettL.pure (FzL.stat rfl)))
end Go.Proofs.YtfdadnldlngmeaaK
