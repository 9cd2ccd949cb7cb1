/- The Go functions come to the functions over typed data. Printed by a program of this work. -/
import Derived.Test.YtfdadnldlngmeaaF
import Derived.Test.YtfdadnldlngmeaaProg
import Derived.Test.YtfdadnldlngmeaaRq
import Derived.Test.YtfdadnldlngmeaaG0
namespace Go.Proofs.YtfdadnldlngmeaaK
set_option linter.unusedVariables false
set_option linter.unusedSimpArgs false
set_option maxHeartbeats 4000000
open Go.RowKit
attribute [local irreducible] dwv mops lops lqops lwops kont iter run runK rk okK ex E1 vals val chain chB sel resF
def slices_IndexFunc_sl_watch_Point_watch_Point_i0 : List Op1 := [(oM 4 (.k (.int .i64 0)) [])]
def slices_IndexFunc_sl_watch_Point_watch_Point_i1 : List Op1 := [(oM 6 (.t 0) []), (oE 7 (.len (.t 6)) [0]), (oM 8 (.k (.int .i64 0)) [])]
def slices_IndexFunc_sl_watch_Point_watch_Point_i2 : List Op1 := [(oE 9 (.bin .lss (.t 8) (.t 7)) [])]
def slices_IndexFunc_sl_watch_Point_watch_Point_i3 : List Op1 := [(oM 10 (.t 8) []), (oM 5 (.t 10) [0, 0])]
def slices_IndexFunc_sl_watch_Point_watch_Point_i4 : List Op1 := [(oM 11 (.t 1) []), (oM 12 (.t 0) []), (oM 13 (.t 5) []), (oE 14 (.ias 4 (.t 12) (.t 13)) [1, 2]), (oE 15 (.load true 4 (.t 14)) [3]), (oC 16 4294967296 [(.t 11), (.t 15)] [0, 4])]
def slices_IndexFunc_sl_watch_Point_watch_Point_i5 : List Op1 := [(oM 17 (.t 5) []), (oM 4 (.t 17) [0, 0])]
def slices_IndexFunc_sl_watch_Point_watch_Point_i6 : IR := .ret
def slices_IndexFunc_sl_watch_Point_watch_Point_i7 : IR := (.cond (.t 16) (.seq (.reg false slices_IndexFunc_sl_watch_Point_watch_Point_i5) slices_IndexFunc_sl_watch_Point_watch_Point_i6) .skip)
def slices_IndexFunc_sl_watch_Point_watch_Point_i8 : IR := (.seq (.reg false slices_IndexFunc_sl_watch_Point_watch_Point_i4) slices_IndexFunc_sl_watch_Point_watch_Point_i7)
def slices_IndexFunc_sl_watch_Point_watch_Point_i9 : List Op1 := [(oE 18 (.bin .add (.t 8) (.k (.int .i64 1))) []), (oM 8 (.t 18) [0])]
def slices_IndexFunc_sl_watch_Point_watch_Point_i10 : IR := (.reg false slices_IndexFunc_sl_watch_Point_watch_Point_i9)
def slices_IndexFunc_sl_watch_Point_watch_Point_i11 : IR := (.seq (.block 1 (.seq (.reg false slices_IndexFunc_sl_watch_Point_watch_Point_i3) slices_IndexFunc_sl_watch_Point_watch_Point_i8)) slices_IndexFunc_sl_watch_Point_watch_Point_i10)
def slices_IndexFunc_sl_watch_Point_watch_Point_i12 : IR := (.seq (.cond (.t 9) .skip (.exit 0)) slices_IndexFunc_sl_watch_Point_watch_Point_i11)
def slices_IndexFunc_sl_watch_Point_watch_Point_i13 : IR := (.seq (.reg false slices_IndexFunc_sl_watch_Point_watch_Point_i2) slices_IndexFunc_sl_watch_Point_watch_Point_i12)
def slices_IndexFunc_sl_watch_Point_watch_Point_i14 : IR := (.block 0 (.loop slices_IndexFunc_sl_watch_Point_watch_Point_i13))
def slices_IndexFunc_sl_watch_Point_watch_Point_i15 : List Op1 := [(oM 4 (.k (.int .i64 (-1))) [])]
def slices_IndexFunc_sl_watch_Point_watch_Point_i16 : IR := .ret
def slices_IndexFunc_sl_watch_Point_watch_Point_i17 : IR := (.seq (.reg false slices_IndexFunc_sl_watch_Point_watch_Point_i15) slices_IndexFunc_sl_watch_Point_watch_Point_i16)
def slices_IndexFunc_sl_watch_Point_watch_Point_i18 : IR := (.seq (.seq (.reg false slices_IndexFunc_sl_watch_Point_watch_Point_i1) slices_IndexFunc_sl_watch_Point_watch_Point_i14) slices_IndexFunc_sl_watch_Point_watch_Point_i17)
def slices_IndexFunc_sl_watch_Point_watch_Point_ir : IR := (.seq (.reg false slices_IndexFunc_sl_watch_Point_watch_Point_i0) slices_IndexFunc_sl_watch_Point_watch_Point_i18)
theorem slices_IndexFunc_sl_watch_Point_watch_Point_cfn : cFn Try.prog 55 = some (slices_IndexFunc_sl_watch_Point_watch_Point_ir, [(.t 4)], 19) := by kernel_rfl
def slices_IndexFunc_sl_watch_Point_watch_Point_V (r : (Int)) : V := .s (.int .i64 r)
def slices_IndexFunc_sl_watch_Point_watch_Point_C (r : (Int)) : X → Fr → Hp → Prop := FinL [(.t 4)] [] (slices_IndexFunc_sl_watch_Point_watch_Point_V r) []
theorem slices_IndexFunc_sl_watch_Point_watch_Point_ok (s_ : (List watch_Point)) (f_ : Int) (r : (Int)) (h : slices_IndexFunc_sl_watch_Point_watch_Point s_ f_ = some r) : Pure Try.prog 55 [.sl false s_.length (cat watch_Point.v s_), .clo 46 [.ip [.s (.int .i64 f_)]]] (slices_IndexFunc_sl_watch_Point_watch_Point_V r) := by
  refine ConL.of slices_IndexFunc_sl_watch_Point_watch_Point_cfn (Nat.le_of_ble_eq_true (by kernel_rfl)) (Nat.le_of_ble_eq_true (by kernel_rfl)) ?_
  refine k_start ?_
  show dwv Try.prog [] slices_IndexFunc_sl_watch_Point_watch_Point_ir (kont Try.prog [] (slices_IndexFunc_sl_watch_Point_watch_Point_C r) []) (fr0 [.sl false s_.length (cat watch_Point.v s_), .clo 46 [.ip [.s (.int .i64 f_)]]]) []
  have hf : FOk (fr0 [.sl false s_.length (cat watch_Point.v s_), .clo 46 [.ip [.s (.int .i64 f_)]]]) [⟨0, [], .sl false s_.length (cat watch_Point.v s_)⟩, ⟨1, [], .clo 46 [.ip [.s (.int .i64 f_)]]⟩] := ⟨⟨fun _ => rfl, fun h => (h trivial).elim⟩, ⟨fun _ => rfl, fun h => (h trivial).elim⟩, trivial⟩
  generalize fr0 [.sl false s_.length (cat watch_Point.v s_), .clo 46 [.ip [.s (.int .i64 f_)]]] = f at hf ⊢
  unfold slices_IndexFunc_sl_watch_Point_watch_Point at h
  refine k_seq ?_
  refine k_reg ?_
  refine mops_en hf (by kernel_rfl) fun f1 hf1 => ?_
  refine k_c ?_
  refine k_seq ?_
  refine k_seq ?_
  refine k_reg ?_
  refine mops_en hf1 (by kernel_rfl) fun f2 hf2 => ?_
  refine k_c ?_
  refine k_block ?_
  obtain ⟨o0, hx0, h⟩ := Option.bind_eq_some_iff.1 h
  have hret0 : ∀ r0, .ret r0 = o0 → r0 = r := fun r0 e => by subst e; exact Option.some.inj h
  have hgo0 : .go () = o0 → ∀ f, FOk f [⟨4, [], .s (.int .i64 0)⟩] → kont Try.prog [] (slices_IndexFunc_sl_watch_Point_watch_Point_C r) ((.c slices_IndexFunc_sl_watch_Point_watch_Point_i17) :: []) .normal f [] := by
    intro  e f hf
    subst e
    refine k_c ?_
    refine k_seq ?_
    refine k_reg ?_
    refine mops_en hf (by kernel_rfl) fun f1 hf1 => ?_
    refine k_c ?_
    refine k_ret ?_
    obtain rfl := Option.some.inj h
    exact k_fin (fin_ret (.inl rfl) hf1 (vs := [.s (.int .i64 (-1))]) (by kernel_rfl) (SettL.pure (FzL.stat rfl)))
  refine k_loop BIG ?_
  refine loop_ind (fun n f L => ∃ (t_1 : Int), slices_IndexFunc_sl_watch_Point_watch_Point_l0 s_ f_ n t_1 = some o0 ∧ FOk f [⟨0, [], .sl false s_.length (cat watch_Point.v s_)⟩, ⟨1, [], .clo 46 [.ip [.s (.int .i64 f_)]]⟩, ⟨4, [], .s (.int .i64 0)⟩, ⟨7, [], .s (.int .i64 (ln s_))⟩, ⟨8, [], .s (.int .i64 t_1)⟩] ∧ L = []) ?_ ?_ BIG _ _ ⟨(0), hx0, FOk_of [0, 1, 4, 7, 8] hf2 (by kernel_rfl), (by kernel_rfl)⟩
  · rintro f L ⟨t_1, h, _⟩
    cases (show (none : Option _) = some _ from h)
  · rintro n0 R0 ih f L ⟨t_1, h, hf, rfl⟩
    rw [slices_IndexFunc_sl_watch_Point_watch_Point_l0] at h
    refine k_seq ?_
    refine k_reg ?_
    refine mops_en hf (by kernel_rfl) fun f1 hf1 => ?_
    refine k_c ?_
    refine k_seq ?_
    refine k_cond hf1 (t := (decide (t_1 < (ln s_)))) (by kernel_rfl) (fun hc1 => ?_) (fun hc1 => ?_)
    · have h := if_t h hc1
      refine k_skip ?_
      refine k_c ?_
      refine k_seq ?_
      refine k_block ?_
      refine k_seq ?_
      refine k_reg ?_
      refine mops_en hf1 (by kernel_rfl) fun f2 hf2 => ?_
      refine k_c ?_
      refine k_seq ?_
      refine k_reg ?_
      refine mops_sg 3 hf2 (by kernel_rfl) fun f3 hf3 => ?_
      obtain ⟨c2, h⟩ := as_ok h
      refine mops_adv rfl (v := .ip ((cat watch_Point.v s_).drop ((t_1 : Int).toNat * 4))) hf3 (by kernel_rfl) (e_ias (n := s_.length) (xv := .sl false s_.length (cat watch_Point.v s_)) (k := .i64) (iv := t_1) (p := .ip ((cat watch_Point.v s_).drop ((t_1 : Int).toNat * 4))) (by kernel_rfl) (by kernel_rfl) (by kernel_rfl) (by kernel_rfl) c2) fun f4 hf4 => ?_
      refine mops_adv rfl (v := .agg [.s (.int .i64 (gt s_ t_1).Id), .s (.int .i64 (gt s_ t_1).Kind), .s (.int .u16 (gt s_ t_1).From), .s (.int .u16 (gt s_ t_1).To)]) hf4 (by kernel_rfl) (e_load_ip (g := watch_Point.v) (l := s_) (iv := t_1) [] (by kernel_rfl) c2 (by kernel_rfl) (by kernel_rfl)) fun f5 hf5 => ?_
      obtain ⟨r_2, hx_r_2, h⟩ := Option.bind_eq_some_iff.1 h
      refine mops_call rfl hf5 (av := [.clo 46 [.ip [.s (.int .i64 f_)]], .agg [.s (.int .i64 (gt s_ t_1).Id), .s (.int .i64 (gt s_ t_1).Kind), .s (.int .u16 (gt s_ t_1).From), .s (.int .u16 (gt s_ t_1).To)]]) (by kernel_rfl) (v := .s (.bool r_2)) (CalL.clo (args := [.agg [.s (.int .i64 (gt s_ t_1).Id), .s (.int .i64 (gt s_ t_1).Kind), .s (.int .u16 (gt s_ t_1).From), .s (.int .u16 (gt s_ t_1).To)]]) (caps := [.ip [.s (.int .i64 f_)]]) (CalL.pure (watch_Watch_Drop_1_ok (gt s_ t_1) f_ r_2 hx_r_2) rfl rfl (Nat.le_of_ble_eq_true (by kernel_rfl)))) (fun _ => rfl) fun f6 hf6 => ?_
      refine mops_en hf6 (by kernel_rfl) fun f7 hf7 => ?_
      refine k_c ?_
      refine k_cond hf7 (t := r_2) (by kernel_rfl) (fun hc3 => ?_) (fun hc3 => ?_)
      · have h := if_t h hc3
        refine k_seq ?_
        refine k_reg ?_
        refine mops_en hf7 (by kernel_rfl) fun f8 hf8 => ?_
        refine k_c ?_
        refine k_ret ?_
        refine x_br ?_
        refine x_c nofun ?_
        refine x_l nofun ?_
        refine x_br ?_
        refine x_c nofun ?_
        obtain rfl := hret0 _ (Option.some.inj h)
        exact k_fin (fin_ret (.inl rfl) hf8 (vs := [.s (.int .i64 t_1)]) (by kernel_rfl) (SettL.pure (FzL.stat rfl)))
      · have h := if_f h hc3
        refine k_skip ?_
        refine k_b ?_
        refine k_c ?_
        refine k_reg ?_
        refine mops_en hf7 (by kernel_rfl) fun f8 hf8 => ?_
        refine k_l ?_
        exact ih _ _ ⟨(IntKind.wrap .i64 (t_1 + 1)), h, FOk_of [0, 1, 4, 7, 8] hf8 (by kernel_rfl), (by kernel_rfl)⟩
    · have h := if_f h hc1
      refine k_exit ?_
      refine x_c nofun ?_
      refine x_l nofun ?_
      refine x_b ?_
      refine k_hp (L' := []) (by kernel_rfl) ?_
      exact hgo0  (Option.some.inj h) _ (FOk_of [4] hf1 (by kernel_rfl))
def watch_Watch_Cycle_i0 : List Op1 := [(oE 3 (.box (.t 1)) []), (oE 4 (.nilg 1) [])]
def watch_Watch_Cycle_i1 : List Op1 := [(oE 6 (.fld 8 (.t 3)) []), (oE 7 (.load false 1 (.t 6)) [0]), (oE 8 (.un .not (.t 7)) [1]), (oM 5 (.t 8) [2])]
def watch_Watch_Cycle_i2 : List Op1 := [(oE 4 (.nilg 1) [])]
def watch_Watch_Cycle_i3 : IR := .ret
def watch_Watch_Cycle_i4 : List Op1 := [(oE 10 (.fld 2 (.t 3)) []), (oE 11 (.load false 1 (.t 10)) [0]), (oM 9 (.t 11) [1])]
def watch_Watch_Cycle_i5 : List Op1 := [(oM 12 (.t 0) []), (oE 13 (.fld 0 (.t 3)) []), (oE 14 (.load false 1 (.t 13)) [1]), (oC 15 26 [(.t 12), (.k (.int .i64 0)), (.t 14)] [0, 2]), (oM 4 (.t 15) [3, 3, 0, 1, 2, 3])]
def watch_Watch_Cycle_i6 : IR := .ret
def watch_Watch_Cycle_i7 : IR := (.cond (.t 9) (.seq (.reg false watch_Watch_Cycle_i5) watch_Watch_Cycle_i6) .skip)
def watch_Watch_Cycle_i8 : IR := (.cond (.t 5) (.seq (.reg false watch_Watch_Cycle_i2) watch_Watch_Cycle_i3) (.seq (.reg false watch_Watch_Cycle_i4) watch_Watch_Cycle_i7))
def watch_Watch_Cycle_i9 : List Op1 := [(oM 16 (.t 0) []), (oE 17 (.fld 0 (.t 3)) []), (oE 18 (.load false 1 (.t 17)) [1]), (oC 19 26 [(.t 16), (.k (.int .i64 1)), (.t 18)] [0, 2]), (oM 4 (.t 19) [3, 3, 0, 1, 2, 3])]
def watch_Watch_Cycle_i10 : IR := .ret
def watch_Watch_Cycle_i11 : IR := (.seq (.reg false watch_Watch_Cycle_i9) watch_Watch_Cycle_i10)
def watch_Watch_Cycle_i12 : IR := (.seq (.block 0 (.seq (.reg false watch_Watch_Cycle_i1) watch_Watch_Cycle_i8)) watch_Watch_Cycle_i11)
def watch_Watch_Cycle_ir : IR := (.seq (.reg false watch_Watch_Cycle_i0) watch_Watch_Cycle_i12)
theorem watch_Watch_Cycle_cfn : cFn Try.prog 9 = some (watch_Watch_Cycle_ir, [(.t 4)], 20) := by kernel_rfl
def watch_Watch_Cycle_V (ver_ : Nat) (r : ((List Int))) : V := .sl false r.length (cat (nI .i64) r)
def watch_Watch_Cycle_L (w_ : watch_Watch) (ver_ : Nat) : Hp := [⟨ver_, .grow, 4, cat watch_Point.v w_.l⟩, ⟨0, .mem, 1, [.ref 0 ver_ 0 w_.l.length, .s (.int .i64 w_.last)]⟩]
def watch_Watch_Cycle_C (w_ : watch_Watch) (ver_ : Nat) (r : ((List Int))) : X → Fr → Hp → Prop := FinL [(.t 4)] (watch_Watch_Cycle_L w_ ver_) (watch_Watch_Cycle_V ver_ r) [⟨ver_, .grow, 4, cat watch_Point.v w_.l⟩, ⟨0, .mem, 1, [.ref 0 ver_ 0 w_.l.length, .s (.int .i64 w_.last)]⟩]
theorem watch_Watch_Cycle_ok (w_ : watch_Watch) (r_ : api_Rec) (ver_ : Nat) (r : ((List Int))) (h : watch_Watch_Cycle w_ r_ = some r) : ConL Try.prog 9 [.ptr 1 0 0, .agg [.s (.int .u16 r_.Addr), .s (.int .u8 r_.Data), .s (.bool r_.Read), .s (.bool r_.BA), .s (.bool r_.BS), .s (.bool r_.LIC), .s (.bool r_.AVMA), .s (.bool r_.BUSY), .s (.bool r_.Mine)]] [⟨ver_, .grow, 4, cat watch_Point.v w_.l⟩, ⟨0, .mem, 1, [.ref 0 ver_ 0 w_.l.length, .s (.int .i64 w_.last)]⟩] (watch_Watch_Cycle_V ver_ r) [⟨ver_, .grow, 4, cat watch_Point.v w_.l⟩, ⟨0, .mem, 1, [.ref 0 ver_ 0 w_.l.length, .s (.int .i64 w_.last)]⟩] := by
  refine ConL.of watch_Watch_Cycle_cfn (Nat.le_of_ble_eq_true (by kernel_rfl)) (Nat.le_of_ble_eq_true (by kernel_rfl)) ?_
  refine k_start ?_
  show dwv Try.prog (watch_Watch_Cycle_L w_ ver_) watch_Watch_Cycle_ir (kont Try.prog (watch_Watch_Cycle_L w_ ver_) (watch_Watch_Cycle_C w_ ver_ r) []) (fr0 [.ptr 1 0 0, .agg [.s (.int .u16 r_.Addr), .s (.int .u8 r_.Data), .s (.bool r_.Read), .s (.bool r_.BA), .s (.bool r_.BS), .s (.bool r_.LIC), .s (.bool r_.AVMA), .s (.bool r_.BUSY), .s (.bool r_.Mine)]]) [⟨ver_, .grow, 4, cat watch_Point.v w_.l⟩, ⟨0, .mem, 1, [.ref 0 ver_ 0 w_.l.length, .s (.int .i64 w_.last)]⟩]
  have hf : FOk (fr0 [.ptr 1 0 0, .agg [.s (.int .u16 r_.Addr), .s (.int .u8 r_.Data), .s (.bool r_.Read), .s (.bool r_.BA), .s (.bool r_.BS), .s (.bool r_.LIC), .s (.bool r_.AVMA), .s (.bool r_.BUSY), .s (.bool r_.Mine)]]) [⟨0, [], .ptr 1 0 0⟩, ⟨1, [], .agg [.s (.int .u16 r_.Addr), .s (.int .u8 r_.Data), .s (.bool r_.Read), .s (.bool r_.BA), .s (.bool r_.BS), .s (.bool r_.LIC), .s (.bool r_.AVMA), .s (.bool r_.BUSY), .s (.bool r_.Mine)]⟩] := ⟨⟨fun _ => rfl, fun h => (h trivial).elim⟩, ⟨fun _ => rfl, fun h => (h trivial).elim⟩, trivial⟩
  generalize fr0 [.ptr 1 0 0, .agg [.s (.int .u16 r_.Addr), .s (.int .u8 r_.Data), .s (.bool r_.Read), .s (.bool r_.BA), .s (.bool r_.BS), .s (.bool r_.LIC), .s (.bool r_.AVMA), .s (.bool r_.BUSY), .s (.bool r_.Mine)]] = f at hf ⊢
  unfold watch_Watch_Cycle at h
  refine k_seq ?_
  refine k_reg ?_
  refine mops_en hf (by kernel_rfl) fun f1 hf1 => ?_
  refine k_c ?_
  refine k_seq ?_
  refine k_block ?_
  refine k_seq ?_
  refine k_reg ?_
  refine mops_en hf1 (by kernel_rfl) fun f2 hf2 => ?_
  refine k_c ?_
  refine k_cond hf2 (t := (!r_.Mine)) (by kernel_rfl) (fun hc1 => ?_) (fun hc1 => ?_)
  · have h := if_t h hc1
    refine k_seq ?_
    refine k_reg ?_
    refine mops_en hf2 (by kernel_rfl) fun f3 hf3 => ?_
    refine k_c ?_
    refine k_ret ?_
    refine x_br ?_
    refine x_c nofun ?_
    obtain rfl := Option.some.inj h
    exact k_fin (fin_ret (.inl rfl) hf3 (vs := [.ref 4 0 0 0]) (by kernel_rfl) (SettL.cutb (L' := [⟨ver_, .grow, 4, cat watch_Point.v w_.l⟩, ⟨0, .mem, 1, [.ref 0 ver_ 0 w_.l.length, .s (.int .i64 w_.last)]⟩]) 2 (by kernel_rfl) (by kernel_rfl) (by kernel_rfl) ⟨.inr (.inr (statics_unders _ _ (cat_stat _))), .inr (.inr rfl), trivial⟩ (FzL.whole (g := (nI .i64)) (kd := .grow) (l := ([] : List Int)) (by kernel_rfl) rfl (live_grow (by kernel_rfl)))))
  · have h := if_f h hc1
    refine k_seq ?_
    refine k_reg ?_
    refine mops_en hf2 (by kernel_rfl) fun f3 hf3 => ?_
    refine k_c ?_
    refine k_cond hf3 (t := r_.Read) (by kernel_rfl) (fun hc2 => ?_) (fun hc2 => ?_)
    · have h := if_t h hc2
      refine k_seq ?_
      refine k_reg ?_
      refine mops_sg 3 hf3 (by kernel_rfl) fun f4 hf4 => ?_
      obtain ⟨r_1, hx_r_1, h⟩ := Option.bind_eq_some_iff.1 h
      refine mops_call rfl hf4 (av := [.ptr 1 0 0, .s (.int .i64 0), .s (.int .u16 r_.Addr)]) (by kernel_rfl) (v := .sl false r_1.length (cat (nI .i64) r_1)) (L' := [⟨ver_, .grow, 4, cat watch_Point.v w_.l⟩, ⟨0, .mem, 1, [.ref 0 ver_ 0 w_.l.length, .s (.int .i64 w_.last)]⟩, ⟨0, .mem, 1, [.s (.int .u16 r_.Addr), .s (.int .u8 r_.Data), .s (.bool r_.Read), .s (.bool r_.BA), .s (.bool r_.BS), .s (.bool r_.LIC), .s (.bool r_.AVMA), .s (.bool r_.BUSY), .s (.bool r_.Mine)]⟩, ⟨0, .grow, 1, cat (nI .i64) ([] : List Int)⟩]) (CalL.borrow (M := [⟨ver_, .grow, 4, cat watch_Point.v w_.l⟩, ⟨0, .mem, 1, [.ref 0 ver_ 0 w_.l.length, .s (.int .i64 w_.last)]⟩]) (M' := [⟨ver_, .grow, 4, cat watch_Point.v w_.l⟩, ⟨0, .mem, 1, [.ref 0 ver_ 0 w_.l.length, .s (.int .i64 w_.last)]⟩]) [0, 1] (watch_Watch_hits_ok w_ (0) r_.Addr ver_ r_1 hx_r_1) (by kernel_rfl) (RNs.cons (RN.ptr (by kernel_rfl)) (RNs.cons (RN.stat rfl) (RNs.cons (RN.stat rfl) RNs.nil))) (RN.stat (by simp [V.static, statics, cat_stat, watch_Watch_hits_V])) (RBs.cons (RNs.stat (cat_stat _)) (RBs.cons (RNs.cons (RN.ref (by kernel_rfl)) (RNs.stat rfl)) RBs.nil)) (RBs.cons (RNs.stat (cat_stat _)) (RBs.cons (RNs.cons (RN.ref (by kernel_rfl)) (RNs.stat rfl)) RBs.nil)) (by kernel_rfl) (by kernel_rfl)) (by intro h; cases h) fun f5 hf5 => ?_
      refine mops_en hf5 (by kernel_rfl) fun f6 hf6 => ?_
      refine k_c ?_
      refine k_ret ?_
      refine x_br ?_
      refine x_c nofun ?_
      obtain rfl := Option.some.inj h
      exact k_fin (fin_ret (.inl rfl) hf6 (vs := [.sl false r_1.length (cat (nI .i64) r_1)]) (by kernel_rfl) (SettL.cutb (L' := [⟨ver_, .grow, 4, cat watch_Point.v w_.l⟩, ⟨0, .mem, 1, [.ref 0 ver_ 0 w_.l.length, .s (.int .i64 w_.last)]⟩]) 2 (by kernel_rfl) (by kernel_rfl) (by kernel_rfl) ⟨.inr (.inr (statics_unders _ _ (cat_stat _))), .inr (.inr rfl), trivial⟩ (FzL.slf (g := (nI .i64)))))
    · have h := if_f h hc2
      refine k_skip ?_
      refine k_b ?_
      refine k_c ?_
      refine k_seq ?_
      refine k_reg ?_
      refine mops_sg 3 hf3 (by kernel_rfl) fun f4 hf4 => ?_
      obtain ⟨r_2, hx_r_2, h⟩ := Option.bind_eq_some_iff.1 h
      refine mops_call rfl hf4 (av := [.ptr 1 0 0, .s (.int .i64 1), .s (.int .u16 r_.Addr)]) (by kernel_rfl) (v := .sl false r_2.length (cat (nI .i64) r_2)) (L' := [⟨ver_, .grow, 4, cat watch_Point.v w_.l⟩, ⟨0, .mem, 1, [.ref 0 ver_ 0 w_.l.length, .s (.int .i64 w_.last)]⟩, ⟨0, .mem, 1, [.s (.int .u16 r_.Addr), .s (.int .u8 r_.Data), .s (.bool r_.Read), .s (.bool r_.BA), .s (.bool r_.BS), .s (.bool r_.LIC), .s (.bool r_.AVMA), .s (.bool r_.BUSY), .s (.bool r_.Mine)]⟩, ⟨0, .grow, 1, cat (nI .i64) ([] : List Int)⟩]) (CalL.borrow (M := [⟨ver_, .grow, 4, cat watch_Point.v w_.l⟩, ⟨0, .mem, 1, [.ref 0 ver_ 0 w_.l.length, .s (.int .i64 w_.last)]⟩]) (M' := [⟨ver_, .grow, 4, cat watch_Point.v w_.l⟩, ⟨0, .mem, 1, [.ref 0 ver_ 0 w_.l.length, .s (.int .i64 w_.last)]⟩]) [0, 1] (watch_Watch_hits_ok w_ (1) r_.Addr ver_ r_2 hx_r_2) (by kernel_rfl) (RNs.cons (RN.ptr (by kernel_rfl)) (RNs.cons (RN.stat rfl) (RNs.cons (RN.stat rfl) RNs.nil))) (RN.stat (by simp [V.static, statics, cat_stat, watch_Watch_hits_V])) (RBs.cons (RNs.stat (cat_stat _)) (RBs.cons (RNs.cons (RN.ref (by kernel_rfl)) (RNs.stat rfl)) RBs.nil)) (RBs.cons (RNs.stat (cat_stat _)) (RBs.cons (RNs.cons (RN.ref (by kernel_rfl)) (RNs.stat rfl)) RBs.nil)) (by kernel_rfl) (by kernel_rfl)) (by intro h; cases h) fun f5 hf5 => ?_
      refine mops_en hf5 (by kernel_rfl) fun f6 hf6 => ?_
      refine k_c ?_
      refine k_ret ?_
      obtain rfl := Option.some.inj h
      exact k_fin (fin_ret (.inl rfl) hf6 (vs := [.sl false r_2.length (cat (nI .i64) r_2)]) (by kernel_rfl) (SettL.cutb (L' := [⟨ver_, .grow, 4, cat watch_Point.v w_.l⟩, ⟨0, .mem, 1, [.ref 0 ver_ 0 w_.l.length, .s (.int .i64 w_.last)]⟩]) 2 (by kernel_rfl) (by kernel_rfl) (by kernel_rfl) ⟨.inr (.inr (statics_unders _ _ (cat_stat _))), .inr (.inr rfl), trivial⟩ (FzL.slf (g := (nI .i64)))))
def watch_Watch_Boundary_i0 : List Op1 := [(oE 4 (.nilg 1) [])]
def watch_Watch_Boundary_i1 : List Op1 := [(oM 5 (.t 0) []), (oM 6 (.t 1) []), (oC 7 26 [(.t 5), (.k (.int .i64 2)), (.t 6)] [0, 1]), (oM 4 (.t 7) [2, 2, 0, 1, 2])]
def watch_Watch_Boundary_i2 : IR := .ret
def watch_Watch_Boundary_i3 : IR := (.seq (.reg false watch_Watch_Boundary_i1) watch_Watch_Boundary_i2)
def watch_Watch_Boundary_ir : IR := (.seq (.reg false watch_Watch_Boundary_i0) watch_Watch_Boundary_i3)
theorem watch_Watch_Boundary_cfn : cFn Try.prog 10 = some (watch_Watch_Boundary_ir, [(.t 4)], 8) := by kernel_rfl
def watch_Watch_Boundary_V (ver_ : Nat) (r : ((List Int))) : V := .sl false r.length (cat (nI .i64) r)
def watch_Watch_Boundary_L (w_ : watch_Watch) (ver_ : Nat) : Hp := [⟨ver_, .grow, 4, cat watch_Point.v w_.l⟩, ⟨0, .mem, 1, [.ref 0 ver_ 0 w_.l.length, .s (.int .i64 w_.last)]⟩]
def watch_Watch_Boundary_C (w_ : watch_Watch) (ver_ : Nat) (r : ((List Int))) : X → Fr → Hp → Prop := FinL [(.t 4)] (watch_Watch_Boundary_L w_ ver_) (watch_Watch_Boundary_V ver_ r) [⟨ver_, .grow, 4, cat watch_Point.v w_.l⟩, ⟨0, .mem, 1, [.ref 0 ver_ 0 w_.l.length, .s (.int .i64 w_.last)]⟩]
theorem watch_Watch_Boundary_ok (w_ : watch_Watch) (pc_ : Int) (ver_ : Nat) (r : ((List Int))) (h : watch_Watch_Boundary w_ pc_ = some r) : ConL Try.prog 10 [.ptr 1 0 0, .s (.int .u16 pc_)] [⟨ver_, .grow, 4, cat watch_Point.v w_.l⟩, ⟨0, .mem, 1, [.ref 0 ver_ 0 w_.l.length, .s (.int .i64 w_.last)]⟩] (watch_Watch_Boundary_V ver_ r) [⟨ver_, .grow, 4, cat watch_Point.v w_.l⟩, ⟨0, .mem, 1, [.ref 0 ver_ 0 w_.l.length, .s (.int .i64 w_.last)]⟩] := by
  refine ConL.of watch_Watch_Boundary_cfn (Nat.le_of_ble_eq_true (by kernel_rfl)) (Nat.le_of_ble_eq_true (by kernel_rfl)) ?_
  refine k_start ?_
  show dwv Try.prog (watch_Watch_Boundary_L w_ ver_) watch_Watch_Boundary_ir (kont Try.prog (watch_Watch_Boundary_L w_ ver_) (watch_Watch_Boundary_C w_ ver_ r) []) (fr0 [.ptr 1 0 0, .s (.int .u16 pc_)]) [⟨ver_, .grow, 4, cat watch_Point.v w_.l⟩, ⟨0, .mem, 1, [.ref 0 ver_ 0 w_.l.length, .s (.int .i64 w_.last)]⟩]
  have hf : FOk (fr0 [.ptr 1 0 0, .s (.int .u16 pc_)]) [⟨0, [], .ptr 1 0 0⟩, ⟨1, [], .s (.int .u16 pc_)⟩] := ⟨⟨fun _ => rfl, fun h => (h trivial).elim⟩, ⟨fun _ => rfl, fun h => (h trivial).elim⟩, trivial⟩
  generalize fr0 [.ptr 1 0 0, .s (.int .u16 pc_)] = f at hf ⊢
  unfold watch_Watch_Boundary at h
  refine k_seq ?_
  refine k_reg ?_
  refine mops_en hf (by kernel_rfl) fun f1 hf1 => ?_
  refine k_c ?_
  refine k_seq ?_
  refine k_reg ?_
  refine mops_sg 2 hf1 (by kernel_rfl) fun f2 hf2 => ?_
  obtain ⟨r_, hx_r_, h⟩ := Option.bind_eq_some_iff.1 h
  refine mops_call rfl hf2 (av := [.ptr 1 0 0, .s (.int .i64 2), .s (.int .u16 pc_)]) (by kernel_rfl) (v := .sl false r_.length (cat (nI .i64) r_)) (L' := [⟨ver_, .grow, 4, cat watch_Point.v w_.l⟩, ⟨0, .mem, 1, [.ref 0 ver_ 0 w_.l.length, .s (.int .i64 w_.last)]⟩, ⟨0, .grow, 1, cat (nI .i64) ([] : List Int)⟩]) (CalL.borrow (M := [⟨ver_, .grow, 4, cat watch_Point.v w_.l⟩, ⟨0, .mem, 1, [.ref 0 ver_ 0 w_.l.length, .s (.int .i64 w_.last)]⟩]) (M' := [⟨ver_, .grow, 4, cat watch_Point.v w_.l⟩, ⟨0, .mem, 1, [.ref 0 ver_ 0 w_.l.length, .s (.int .i64 w_.last)]⟩]) [0, 1] (watch_Watch_hits_ok w_ (2) pc_ ver_ r_ hx_r_) (by kernel_rfl) (RNs.cons (RN.ptr (by kernel_rfl)) (RNs.cons (RN.stat rfl) (RNs.cons (RN.stat rfl) RNs.nil))) (RN.stat (by simp [V.static, statics, cat_stat, watch_Watch_hits_V])) (RBs.cons (RNs.stat (cat_stat _)) (RBs.cons (RNs.cons (RN.ref (by kernel_rfl)) (RNs.stat rfl)) RBs.nil)) (RBs.cons (RNs.stat (cat_stat _)) (RBs.cons (RNs.cons (RN.ref (by kernel_rfl)) (RNs.stat rfl)) RBs.nil)) (by kernel_rfl) (by kernel_rfl)) (by intro h; cases h) fun f3 hf3 => ?_
  refine mops_en hf3 (by kernel_rfl) fun f4 hf4 => ?_
  refine k_c ?_
  refine k_ret ?_
  obtain rfl := Option.some.inj h
  exact k_fin (fin_ret (.inl rfl) hf4 (vs := [.sl false r_.length (cat (nI .i64) r_)]) (by kernel_rfl) (SettL.cutb (L' := [⟨ver_, .grow, 4, cat watch_Point.v w_.l⟩, ⟨0, .mem, 1, [.ref 0 ver_ 0 w_.l.length, .s (.int .i64 w_.last)]⟩]) 2 (by kernel_rfl) (by kernel_rfl) (by kernel_rfl) ⟨.inr (.inr (statics_unders _ _ (cat_stat _))), .inr (.inr rfl), trivial⟩ (FzL.slf (g := (nI .i64)))))
end Go.Proofs.YtfdadnldlngmeaaK
