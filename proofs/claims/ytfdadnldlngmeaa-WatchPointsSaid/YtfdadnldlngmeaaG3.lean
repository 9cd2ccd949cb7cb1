/- The Go functions come to the functions over typed data. Printed by a program of this work. -/
import Derived.Test.YtfdadnldlngmeaaF
import Derived.Test.YtfdadnldlngmeaaProg
import Derived.Test.YtfdadnldlngmeaaRq
import Derived.Test.YtfdadnldlngmeaaG0
import Derived.Test.YtfdadnldlngmeaaG2
namespace Go.Proofs.YtfdadnldlngmeaaK
set_option linter.unusedVariables false
set_option linter.unusedSimpArgs false
set_option maxHeartbeats 4000000
open Go.RowKit
attribute [local irreducible] dwv mops lops lqops lwops kont iter run runK rk okK ex E1 vals val chain chB sel resF
def watch_Watch_Drop_i0 : List Op1 := [(oE 3 (.box (.t 1)) []), (oM 4 (.k (.bool false)) [])]
def watch_Watch_Drop_i1 : List Op1 := [(oM 6 (.t 0) []), (oE 7 (.nilc (.t 6)) [0]), (oE 8 (.fld 0 (.t 7)) [1]), (oE 9 (.load false 1 (.t 8)) [2]), (oE 10 (.len (.t 9)) [3]), (oM 5 (.t 10) [4, 0, 1, 2, 3, 4])]
def watch_Watch_Drop_i2 : List Op1 := [(oM 11 (.t 0) []), (oM 12 (.t 0) []), (oE 13 (.nilc (.t 12)) [1]), (oE 14 (.fld 0 (.t 13)) [2]), (oE 15 (.load false 1 (.t 14)) [3]), (oE 16 (.mkf 46 [(.t 3)]) []), (oC 17 45 [(.t 15), (.t 16)] [4, 5]), (oE 18 (.nilc (.t 11)) [0, 0, 1, 2, 3, 4, 5, 6]), (oE 19 (.fld 0 (.t 18)) [7, 0, 1, 2, 3, 4, 5, 6]), (oN (.store 1 (.t 19) (.t 17)) [8, 6, 6, 0, 1, 2, 3, 4, 5, 6])]
def watch_Watch_Drop_i3 : List Op1 := [(oM 20 (.t 0) []), (oE 21 (.nilc (.t 20)) [0]), (oE 22 (.fld 0 (.t 21)) [1]), (oE 23 (.load false 1 (.t 22)) [2]), (oE 24 (.len (.t 23)) [3]), (oM 25 (.t 5) []), (oE 26 (.bin .lss (.t 24) (.t 25)) [4, 5]), (oM 4 (.t 26) [6, 0, 1, 2, 3, 4, 5, 6])]
def watch_Watch_Drop_i4 : IR := .ret
def watch_Watch_Drop_i5 : IR := (.seq (.reg false watch_Watch_Drop_i3) watch_Watch_Drop_i4)
def watch_Watch_Drop_i6 : IR := (.seq (.reg false watch_Watch_Drop_i2) watch_Watch_Drop_i5)
def watch_Watch_Drop_i7 : IR := (.seq (.reg false watch_Watch_Drop_i1) watch_Watch_Drop_i6)
def watch_Watch_Drop_ir : IR := (.seq (.reg false watch_Watch_Drop_i0) watch_Watch_Drop_i7)
theorem watch_Watch_Drop_cfn : cFn Try.prog 22 = some (watch_Watch_Drop_ir, [(.t 4)], 27) := by kernel_rfl
def watch_Watch_Drop_V (ver_ : Nat) (r : (Bool × watch_Watch)) : V := .s (.bool r.1)
def watch_Watch_Drop_L (w_ : watch_Watch) (ver_ : Nat) : Hp := [⟨ver_, .grow, 4, cat watch_Point.v w_.l⟩, ⟨0, .mem, 1, [.ref 0 ver_ 0 w_.l.length, .s (.int .i64 w_.last)]⟩]
def watch_Watch_Drop_C (w_ : watch_Watch) (ver_ : Nat) (r : (Bool × watch_Watch)) : X → Fr → Hp → Prop := FinL [(.t 4)] (watch_Watch_Drop_L w_ ver_) (watch_Watch_Drop_V ver_ r) [⟨(ver_ + 1), .grow, 4, cat watch_Point.v r.2.l⟩, ⟨0, .mem, 1, [.ref 0 (ver_ + 1) 0 r.2.l.length, .s (.int .i64 r.2.last)]⟩]
theorem watch_Watch_Drop_ok (w_ : watch_Watch) (id_ : Int) (ver_ : Nat) (r : (Bool × watch_Watch)) (h : watch_Watch_Drop w_ id_ = some r) : ConL Try.prog 22 [.ptr 1 0 0, .s (.int .i64 id_)] [⟨ver_, .grow, 4, cat watch_Point.v w_.l⟩, ⟨0, .mem, 1, [.ref 0 ver_ 0 w_.l.length, .s (.int .i64 w_.last)]⟩] (watch_Watch_Drop_V ver_ r) [⟨(ver_ + 1), .grow, 4, cat watch_Point.v r.2.l⟩, ⟨0, .mem, 1, [.ref 0 (ver_ + 1) 0 r.2.l.length, .s (.int .i64 r.2.last)]⟩] := by
  refine ConL.of watch_Watch_Drop_cfn (Nat.le_of_ble_eq_true (by kernel_rfl)) (Nat.le_of_ble_eq_true (by kernel_rfl)) ?_
  refine k_start ?_
  show dwv Try.prog (watch_Watch_Drop_L w_ ver_) watch_Watch_Drop_ir (kont Try.prog (watch_Watch_Drop_L w_ ver_) (watch_Watch_Drop_C w_ ver_ r) []) (fr0 [.ptr 1 0 0, .s (.int .i64 id_)]) [⟨ver_, .grow, 4, cat watch_Point.v w_.l⟩, ⟨0, .mem, 1, [.ref 0 ver_ 0 w_.l.length, .s (.int .i64 w_.last)]⟩]
  have hf : FOk (fr0 [.ptr 1 0 0, .s (.int .i64 id_)]) [⟨0, [], .ptr 1 0 0⟩, ⟨1, [], .s (.int .i64 id_)⟩] := ⟨⟨fun _ => rfl, fun h => (h trivial).elim⟩, ⟨fun _ => rfl, fun h => (h trivial).elim⟩, trivial⟩
  generalize fr0 [.ptr 1 0 0, .s (.int .i64 id_)] = f at hf ⊢
  unfold watch_Watch_Drop at h
  refine k_seq ?_
  refine k_reg ?_
  refine mops_en hf (by kernel_rfl) fun f1 hf1 => ?_
  refine k_c ?_
  refine k_seq ?_
  refine k_reg ?_
  refine mops_sg 4 hf1 (by kernel_rfl) fun f2 hf2 => ?_
  refine mops_adv rfl (v := .s (.int .i64 (ln w_.l))) hf2 (by kernel_rfl) (e_len_ref (l := w_.l) (B := ⟨ver_, .grow, 4, cat watch_Point.v w_.l⟩) (b := 0) (ver := ver_) (n := w_.l.length) (by kernel_rfl) rfl (live_grow (by kernel_rfl))) fun f3 hf3 => ?_
  refine mops_en hf3 (by kernel_rfl) fun f4 hf4 => ?_
  refine k_fp (ver := 0) (q := 1) (cs := [.s (.int .i64 id_)]) 3 2 hf4 (by simp [V.static, statics, cat_stat]) (L' := [⟨ver_, .grow, 4, cat watch_Point.v w_.l⟩, ⟨0, .mem, 1, [.ref 0 ver_ 0 w_.l.length, .s (.int .i64 w_.last)]⟩, ⟨1, .dead, 1, []⟩]) fun f5 hf5 => ?_
  refine k_c ?_
  refine k_seq ?_
  refine k_reg ?_
  refine mops_sg 6 hf5 (by kernel_rfl) fun f6 hf6 => ?_
  obtain ⟨r_, hx_r_, h⟩ := Option.bind_eq_some_iff.1 h
  refine mops_call rfl hf6 (av := [.ref 0 ver_ 0 w_.l.length, .clo 46 [.ip [.s (.int .i64 id_)]]]) (by kernel_rfl) (v := .ref 0 ver_ 0 r_.length) (L' := [⟨ver_, .grow, 4, cat watch_Point.v r_⟩, ⟨0, .mem, 1, [.ref 0 ver_ 0 w_.l.length, .s (.int .i64 w_.last)]⟩, ⟨1, .dead, 1, []⟩]) (CalL.borrow (M := [⟨ver_, .grow, 4, cat watch_Point.v w_.l⟩]) (M' := [⟨ver_, .grow, 4, cat watch_Point.v r_⟩]) [0] (slices_DeleteFunc_sl_watch_Point_watch_Point_ok w_.l id_ ver_ r_ hx_r_) (by kernel_rfl) (RNs.cons (RN.ref (by kernel_rfl)) (RNs.cons (RN.stat rfl) RNs.nil)) (RN.ref (by kernel_rfl)) (RBs.cons (RNs.stat (cat_stat _)) RBs.nil) (RBs.cons (RNs.stat (cat_stat _)) RBs.nil) (by kernel_rfl) (by kernel_rfl)) (by intro h; cases h) fun f7 hf7 => ?_
  refine mops_en hf7 (by kernel_rfl) fun f8 hf8 => ?_
  refine k_c ?_
  refine k_seq ?_
  refine k_reg ?_
  refine mops_sg 4 hf8 (by kernel_rfl) fun f9 hf9 => ?_
  refine mops_adv rfl (v := .s (.int .i64 (ln r_))) hf9 (by kernel_rfl) (e_len_ref (l := r_) (B := ⟨ver_, .grow, 4, cat watch_Point.v r_⟩) (b := 0) (ver := ver_) (n := r_.length) (by kernel_rfl) rfl (live_grow (by kernel_rfl))) fun f10 hf10 => ?_
  refine mops_en hf10 (by kernel_rfl) fun f11 hf11 => ?_
  refine k_c ?_
  refine k_ret ?_
  obtain rfl := Option.some.inj h
  exact k_fin (fin_ret (.inl rfl) hf11 (vs := [.s (.bool (decide ((ln r_) < (ln w_.l))))]) (by kernel_rfl) (SettL.resetw (SettL.cutb (L' := [⟨ver_, .grow, 4, cat watch_Point.v r_⟩, ⟨0, .mem, 1, [.ref 0 ver_ 0 r_.length, .s (.int .i64 w_.last)]⟩]) 2 (by kernel_rfl) (by kernel_rfl) (by kernel_rfl) ⟨.inr (.inr (statics_unders _ _ (cat_stat _))), .inr (.inr rfl), trivial⟩ (FzL.stat rfl)) rfl rfl rfl (cat_stat _) rfl))
def spinetlaw49_made_i0 : List Op1 := [(oE 4 (.nilg 4) []), (oM 5 (.k (.bool false)) [0])]
def spinetlaw49_made_i1 : List Op1 := [(oE 6 (.nilg 4) [])]
def spinetlaw49_made_i2 : List Op1 := [(oM 7 (.k (.int .i64 0)) [])]
def spinetlaw49_made_i3 : List Op1 := [(oM 8 (.k (.int .i64 0)) [])]
def spinetlaw49_made_i4 : List Op1 := [(oM 15 (.t 8) []), (oM 16 (.t 1) []), (oE 17 (.len (.t 16)) [1]), (oE 18 (.bin .lss (.t 15) (.t 17)) [0, 2])]
def spinetlaw49_made_i5 : IR := (.cond (.t 18) .skip (.exit 0))
def spinetlaw49_made_i6 : List Op1 := [(oM 21 (.t 1) []), (oM 22 (.t 8) []), (oE 23 (.ias 5 (.t 21) (.t 22)) [0, 1]), (oE 24 (.fld 1 (.t 23)) [2]), (oE 25 (.load true 4 (.t 24)) [3]), (oE 9 (.zero [(.int .i64 0), (.int .i64 0), (.int .u16 0), (.int .u16 0)]) []), (oN (.store 4 (.t 9) (.t 25)) [5, 4, 0, 1, 2, 3, 4, 5])]
def spinetlaw49_made_i7 : List Op1 := [(oM 26 (.t 1) []), (oM 27 (.t 8) []), (oE 28 (.ias 5 (.t 26) (.t 27)) [0, 1]), (oE 29 (.fld 0 (.t 28)) [2]), (oE 30 (.load false 1 (.t 29)) [3])]
def spinetlaw49_made_i8 : List Op1 := [(oE 10 (.nilg 4) [])]
def spinetlaw49_made_i9 : List Op1 := [(oM 11 (.k (.int .i64 0)) [])]
def spinetlaw49_made_i10 : List Op1 := [(oM 31 (.t 11) []), (oM 32 (.t 6) []), (oE 33 (.len (.t 32)) [1]), (oE 34 (.bin .lss (.t 31) (.t 33)) [0, 2])]
def spinetlaw49_made_i11 : IR := (.cond (.t 34) .skip (.exit 2))
def spinetlaw49_made_i12 : List Op1 := [(oM 37 (.t 6) []), (oM 38 (.t 11) []), (oE 39 (.ias 4 (.t 37) (.t 38)) [0, 1]), (oE 40 (.fld 0 (.t 39)) [2]), (oE 41 (.load false 1 (.t 40)) [3]), (oE 42 (.fld 0 (.t 9)) []), (oE 43 (.load false 1 (.t 42)) [5]), (oE 44 (.bin .neq (.t 41) (.t 43)) [4, 6])]
def spinetlaw49_made_i13 : List Op1 := [(oM 45 (.t 10) []), (oM 46 (.t 6) []), (oM 47 (.t 11) []), (oE 48 (.ias 4 (.t 46) (.t 47)) [1, 2]), (oE 49 (.load true 4 (.t 48)) [3]), (oE 50 (.bslo 4 1 [(.int .i64 0), (.int .i64 0), (.int .u16 0), (.int .u16 0)] [(0, (4, (.t 49)))]) [4]), (oE 51 (.app 61 4 24 (.t 45) (.t 50)) [0, 5]), (oM 10 (.t 51) [6, 6, 0, 1, 2, 3, 4, 5, 6])]
def spinetlaw49_made_i14 : IR := (.cond (.t 44) (.reg false spinetlaw49_made_i13) .skip)
def spinetlaw49_made_i15 : List Op1 := [(oM 35 (.t 11) []), (oE 36 (.bin .add (.t 35) (.k (.int .i64 1))) [0]), (oM 11 (.t 36) [1, 0, 1])]
def spinetlaw49_made_i16 : IR := (.reg false spinetlaw49_made_i15)
def spinetlaw49_made_i17 : IR := (.seq (.block 3 (.seq (.reg true spinetlaw49_made_i12) spinetlaw49_made_i14)) spinetlaw49_made_i16)
def spinetlaw49_made_i18 : IR := (.seq (.seq (.reg false spinetlaw49_made_i10) spinetlaw49_made_i11) spinetlaw49_made_i17)
def spinetlaw49_made_i19 : IR := (.block 2 (.loop spinetlaw49_made_i18))
def spinetlaw49_made_i20 : List Op1 := [(oM 52 (.t 0) []), (oE 53 (.fld 0 (.t 9)) []), (oE 54 (.load false 1 (.t 53)) [1]), (oC 55 22 [(.t 52), (.t 54)] [0, 2]), (oM 56 (.t 10) []), (oE 57 (.len (.t 56)) [4]), (oM 58 (.t 6) []), (oE 59 (.len (.t 58)) [6]), (oE 60 (.bin .lss (.t 57) (.t 59)) [5, 7]), (oE 61 (.bbin true (.t 55) (.t 60)) [3, 8])]
def spinetlaw49_made_i21 : List Op1 := [(oE 4 (.nilg 4) []), (oM 5 (.k (.bool false)) [0, 0])]
def spinetlaw49_made_i22 : IR := .ret
def spinetlaw49_made_i23 : IR := (.cond (.t 61) (.seq (.reg false spinetlaw49_made_i21) spinetlaw49_made_i22) .skip)
def spinetlaw49_made_i24 : List Op1 := [(oM 62 (.t 10) []), (oM 6 (.t 62) [0, 0])]
def spinetlaw49_made_i25 : IR := (.reg false spinetlaw49_made_i24)
def spinetlaw49_made_i26 : IR := (.seq (.seq (.reg false spinetlaw49_made_i20) spinetlaw49_made_i23) spinetlaw49_made_i25)
def spinetlaw49_made_i27 : IR := (.seq (.seq (.reg false spinetlaw49_made_i9) spinetlaw49_made_i19) spinetlaw49_made_i26)
def spinetlaw49_made_i28 : List Op1 := [(oM 64 (.t 0) []), (oE 65 (.fld 1 (.t 9)) []), (oE 66 (.load false 1 (.t 65)) [1]), (oE 67 (.fld 2 (.t 9)) []), (oE 68 (.load false 1 (.t 67)) [3]), (oE 69 (.fld 3 (.t 9)) []), (oE 70 (.load false 1 (.t 69)) [5]), (oC 71 23 [(.t 64), (.t 66), (.t 68), (.t 70)] [0, 2, 4, 6]), (oM 63 (.t 71) [7]), (oE 72 (.ext 0 (.t 63)) [8]), (oE 73 (.ext 1 (.t 63)) [8]), (oM 12 (.t 72) [9, 7, 0, 1, 2, 3, 4, 5, 6, 7, 8, 9]), (oM 13 (.t 73) [10, 11, 0, 1, 2, 3, 4, 5, 6, 7, 8, 9, 10, 11])]
def spinetlaw49_made_i29 : List Op1 := [(oM 14 (.k (.int .i64 0)) [])]
def spinetlaw49_made_i30 : List Op1 := [(oE 74 (.fld 3 (.t 9)) []), (oE 75 (.load false 1 (.t 74)) [0]), (oE 76 (.fld 2 (.t 9)) []), (oE 77 (.load false 1 (.t 76)) [2]), (oE 78 (.bin .lss (.t 75) (.t 77)) [1, 3])]
def spinetlaw49_made_i31 : List Op1 := [(oM 14 (.k (.int .i64 11)) [])]
def spinetlaw49_made_i32 : IR := (.cond (.t 78) (.reg false spinetlaw49_made_i31) .skip)
def spinetlaw49_made_i33 : List Op1 := [(oE 79 (.fld 1 (.t 9)) []), (oE 80 (.load false 1 (.t 79)) [0]), (oE 81 (.bin .lss (.t 80) (.k (.int .i64 0))) [1]), (oM 82 (.t 81) [2]), (oG 83 (.fld 1 (.t 9)) 82 false [3]), (oG 84 (.load false 1 (.t 83)) 82 false [4, 3]), (oG 85 (.bin .gtr (.t 84) (.k (.int .i64 2))) 82 false [5, 3]), (oE 86 (.pick (.t 82) (.k (.bool true)) (.t 85)) [3, 6])]
def spinetlaw49_made_i34 : List Op1 := [(oM 14 (.k (.int .i64 10)) [])]
def spinetlaw49_made_i35 : IR := (.cond (.t 86) (.reg false spinetlaw49_made_i34) .skip)
def spinetlaw49_made_i36 : List Op1 := [(oM 87 (.t 14) []), (oE 88 (.bin .eql (.t 87) (.k (.int .i64 0))) [0])]
def spinetlaw49_made_i37 : List Op1 := [(oM 89 (.t 7) []), (oE 90 (.bin .add (.t 89) (.k (.int .i64 1))) [0]), (oM 7 (.t 90) [1, 0, 1])]
def spinetlaw49_made_i38 : List Op1 := [(oM 91 (.t 6) []), (oM 92 (.t 7) []), (oE 93 (.fld 1 (.t 9)) []), (oE 94 (.load false 1 (.t 93)) [2]), (oE 95 (.fld 2 (.t 9)) []), (oE 96 (.load false 1 (.t 95)) [4]), (oE 97 (.fld 3 (.t 9)) []), (oE 98 (.load false 1 (.t 97)) [6]), (oE 99 (.build [(.int .i64 0), (.int .i64 0), (.int .u16 0), (.int .u16 0)] [(0, (1, (.t 92))), (1, (1, (.t 94))), (2, (1, (.t 96))), (3, (1, (.t 98)))]) [1, 3, 5, 7]), (oE 100 (.bslo 4 1 [(.int .i64 0), (.int .i64 0), (.int .u16 0), (.int .u16 0)] [(0, (4, (.t 99)))]) [8]), (oE 101 (.app 61 4 24 (.t 91) (.t 100)) [0, 9]), (oM 6 (.t 101) [10, 10, 0, 1, 2, 3, 4, 5, 6, 7, 8, 9, 10])]
def spinetlaw49_made_i39 : IR := (.reg false spinetlaw49_made_i38)
def spinetlaw49_made_i40 : IR := (.cond (.t 88) (.seq (.reg false spinetlaw49_made_i37) spinetlaw49_made_i39) .skip)
def spinetlaw49_made_i41 : List Op1 := [(oM 102 (.t 13) []), (oM 103 (.t 14) []), (oE 104 (.bin .neq (.t 102) (.t 103)) [0, 1]), (oM 105 (.t 104) [2]), (oG 106 (.mv (.t 14)) 105 false [3]), (oG 107 (.bin .eql (.t 106) (.k (.int .i64 0))) 105 false [4, 3]), (oG 108 (.mv (.t 107)) 105 false [5, 3, 3]), (oG 109 (.mv (.t 12)) 108 true [6]), (oG 110 (.mv (.t 7)) 108 true [6]), (oG 111 (.bin .neq (.t 109) (.t 110)) 108 true [7, 8, 6]), (oG 112 (.pick (.t 108) (.t 111) (.k (.bool false))) 105 false [6, 9, 3]), (oE 113 (.pick (.t 105) (.k (.bool true)) (.t 112)) [3, 10]), (oM 114 (.t 113) [11, 6]), (oG 115 (.mv (.t 14)) 114 false [12]), (oG 116 (.bin .neq (.t 115) (.k (.int .i64 0))) 114 false [13, 12]), (oG 117 (.mv (.t 116)) 114 false [14, 12, 12]), (oG 118 (.mv (.t 12)) 117 true [15]), (oG 119 (.bin .neq (.t 118) (.k (.int .i64 0))) 117 true [16, 15]), (oG 120 (.pick (.t 117) (.t 119) (.k (.bool false))) 114 false [15, 17, 12]), (oE 121 (.pick (.t 114) (.k (.bool true)) (.t 120)) [12, 18])]
def spinetlaw49_made_i42 : List Op1 := [(oE 4 (.nilg 4) []), (oM 5 (.k (.bool false)) [0, 0])]
def spinetlaw49_made_i43 : IR := .ret
def spinetlaw49_made_i44 : IR := (.cond (.t 121) (.seq (.reg false spinetlaw49_made_i42) spinetlaw49_made_i43) .skip)
def spinetlaw49_made_i45 : IR := (.seq (.reg false spinetlaw49_made_i41) spinetlaw49_made_i44)
def spinetlaw49_made_i46 : IR := (.seq (.seq (.reg false spinetlaw49_made_i36) spinetlaw49_made_i40) spinetlaw49_made_i45)
def spinetlaw49_made_i47 : IR := (.seq (.seq (.reg false spinetlaw49_made_i33) spinetlaw49_made_i35) spinetlaw49_made_i46)
def spinetlaw49_made_i48 : IR := (.seq (.seq (.reg false spinetlaw49_made_i30) spinetlaw49_made_i32) spinetlaw49_made_i47)
def spinetlaw49_made_i49 : IR := (.seq (.reg false spinetlaw49_made_i29) spinetlaw49_made_i48)
def spinetlaw49_made_i50 : IR := (.cond (.t 30) (.seq (.reg false spinetlaw49_made_i8) spinetlaw49_made_i27) (.seq (.reg false spinetlaw49_made_i28) spinetlaw49_made_i49))
def spinetlaw49_made_i51 : List Op1 := [(oM 122 (.t 0) []), (oC 123 25 [(.t 122)] [0]), (oM 124 (.t 6) []), (oC 125 24 [(.t 123), (.t 124)] [1, 2, 1]), (oE 126 (.un .not (.t 125)) [3])]
def spinetlaw49_made_i52 : List Op1 := [(oE 4 (.nilg 4) []), (oM 5 (.k (.bool false)) [0, 0])]
def spinetlaw49_made_i53 : IR := .ret
def spinetlaw49_made_i54 : IR := (.cond (.t 126) (.seq (.reg false spinetlaw49_made_i52) spinetlaw49_made_i53) .skip)
def spinetlaw49_made_i55 : IR := (.seq (.reg false spinetlaw49_made_i51) spinetlaw49_made_i54)
def spinetlaw49_made_i56 : IR := (.seq (.seq (.reg false spinetlaw49_made_i7) spinetlaw49_made_i50) spinetlaw49_made_i55)
def spinetlaw49_made_i57 : List Op1 := [(oM 19 (.t 8) []), (oE 20 (.bin .add (.t 19) (.k (.int .i64 1))) [0]), (oM 8 (.t 20) [1, 0, 1])]
def spinetlaw49_made_i58 : IR := (.reg false spinetlaw49_made_i57)
def spinetlaw49_made_i59 : IR := (.seq (.block 1 (.seq (.reg false spinetlaw49_made_i6) spinetlaw49_made_i56)) spinetlaw49_made_i58)
def spinetlaw49_made_i60 : IR := (.seq (.seq (.reg false spinetlaw49_made_i4) spinetlaw49_made_i5) spinetlaw49_made_i59)
def spinetlaw49_made_i61 : IR := (.block 0 (.loop spinetlaw49_made_i60))
def spinetlaw49_made_i62 : List Op1 := [(oM 127 (.t 6) []), (oM 4 (.t 127) [0, 0]), (oM 5 (.k (.bool true)) [1, 0, 1])]
def spinetlaw49_made_i63 : IR := .ret
def spinetlaw49_made_i64 : IR := (.seq (.reg false spinetlaw49_made_i62) spinetlaw49_made_i63)
def spinetlaw49_made_i65 : IR := (.seq (.seq (.reg false spinetlaw49_made_i3) spinetlaw49_made_i61) spinetlaw49_made_i64)
def spinetlaw49_made_i66 : IR := (.seq (.reg false spinetlaw49_made_i2) spinetlaw49_made_i65)
def spinetlaw49_made_i67 : IR := (.seq (.reg false spinetlaw49_made_i1) spinetlaw49_made_i66)
def spinetlaw49_made_ir : IR := (.seq (.reg false spinetlaw49_made_i0) spinetlaw49_made_i67)
theorem spinetlaw49_made_cfn : cFn Try.prog 6 = some (spinetlaw49_made_ir, [(.t 4), (.t 5)], 128) := by kernel_rfl
def spinetlaw49_made_V (ver_ : Nat) (r : ((List watch_Point) × Bool × watch_Watch)) : V := .tup [.sl false r.1.length (cat watch_Point.v r.1), .s (.bool r.2.1)]
def spinetlaw49_made_L (w_ : watch_Watch) (ver_ : Nat) : Hp := [⟨ver_, .grow, 4, cat watch_Point.v w_.l⟩, ⟨0, .mem, 1, [.ref 0 ver_ 0 w_.l.length, .s (.int .i64 w_.last)]⟩]
def spinetlaw49_made_C (w_ : watch_Watch) (ver_ : Nat) (r : ((List watch_Point) × Bool × watch_Watch)) : X → Fr → Hp → Prop := FinL [(.t 4), (.t 5)] (spinetlaw49_made_L w_ ver_) (spinetlaw49_made_V ver_ r) [⟨(ver_ + 1), .grow, 4, cat watch_Point.v r.2.2.l⟩, ⟨0, .mem, 1, [.ref 0 (ver_ + 1) 0 r.2.2.l.length, .s (.int .i64 r.2.2.last)]⟩]
theorem spinetlaw49_made_ok (w_ : watch_Watch) (calls_ : (List spinetlaw49_Op)) (ver_ : Nat) (r : ((List watch_Point) × Bool × watch_Watch)) (h : spinetlaw49_made w_ calls_ = some r) : ConL Try.prog 6 [.ptr 1 0 0, .sl false calls_.length (cat spinetlaw49_Op.v calls_)] [⟨ver_, .grow, 4, cat watch_Point.v w_.l⟩, ⟨0, .mem, 1, [.ref 0 ver_ 0 w_.l.length, .s (.int .i64 w_.last)]⟩] (spinetlaw49_made_V ver_ r) [⟨(ver_ + 1), .grow, 4, cat watch_Point.v r.2.2.l⟩, ⟨0, .mem, 1, [.ref 0 (ver_ + 1) 0 r.2.2.l.length, .s (.int .i64 r.2.2.last)]⟩] := by
  refine ConL.of spinetlaw49_made_cfn (Nat.le_of_ble_eq_true (by kernel_rfl)) (Nat.le_of_ble_eq_true (by kernel_rfl)) ?_
  refine k_start ?_
  show dwv Try.prog (spinetlaw49_made_L w_ ver_) spinetlaw49_made_ir (kont Try.prog (spinetlaw49_made_L w_ ver_) (spinetlaw49_made_C w_ ver_ r) []) (fr0 [.ptr 1 0 0, .sl false calls_.length (cat spinetlaw49_Op.v calls_)]) [⟨ver_, .grow, 4, cat watch_Point.v w_.l⟩, ⟨0, .mem, 1, [.ref 0 ver_ 0 w_.l.length, .s (.int .i64 w_.last)]⟩]
  have hf : FOk (fr0 [.ptr 1 0 0, .sl false calls_.length (cat spinetlaw49_Op.v calls_)]) [⟨0, [], .ptr 1 0 0⟩, ⟨1, [], .sl false calls_.length (cat spinetlaw49_Op.v calls_)⟩] := ⟨⟨fun _ => rfl, fun h => (h trivial).elim⟩, ⟨fun _ => rfl, fun h => (h trivial).elim⟩, trivial⟩
  generalize fr0 [.ptr 1 0 0, .sl false calls_.length (cat spinetlaw49_Op.v calls_)] = f at hf ⊢
  unfold spinetlaw49_made at h
  refine k_seq ?_
  refine k_reg ?_
  refine mops_en hf (by kernel_rfl) fun f1 hf1 => ?_
  refine k_c ?_
  refine k_seq ?_
  refine k_reg ?_
  refine mops_en hf1 (by kernel_rfl) fun f2 hf2 => ?_
  refine k_c ?_
  refine k_seq ?_
  refine k_reg ?_
  refine mops_en hf2 (by kernel_rfl) fun f3 hf3 => ?_
  refine k_c ?_
  refine k_seq ?_
  refine k_seq ?_
  refine k_reg ?_
  refine mops_en hf3 (by kernel_rfl) fun f4 hf4 => ?_
  refine k_c ?_
  refine k_block ?_
  obtain ⟨o0, hx0, h⟩ := Option.bind_eq_some_iff.1 h
  have hret0 : ∀ r0, .ret r0 = o0 → r0 = r := fun r0 e => by subst e; exact Option.some.inj h
  have hgo0 : ∀ (l_16 : (List watch_Point)) (m_4 : Int) (l_17 : (List watch_Point)) (v_14 : Nat) (v_15 : Nat), .go (l_16, m_4, l_17) = o0 → ∀ f, FOk f [⟨4, [], .ref 2 0 0 0⟩, ⟨5, [], .s (.bool false)⟩, ⟨6, [], .ref 3 v_15 0 l_17.length⟩] → kont Try.prog (spinetlaw49_made_L w_ ver_) (spinetlaw49_made_C w_ ver_ r) ((.c spinetlaw49_made_i64) :: []) .normal f [⟨v_14, .grow, 4, cat watch_Point.v l_16⟩, ⟨0, .mem, 1, [.ref 0 v_14 0 l_16.length, .s (.int .i64 m_4)]⟩, ⟨0, .grow, 4, cat watch_Point.v ([] : List watch_Point)⟩, ⟨v_15, .grow, 4, cat watch_Point.v l_17⟩] := by
    intro l_16 m_4 l_17 v_14 v_15 e f hf
    subst e
    refine k_c ?_
    refine k_seq ?_
    refine k_reg ?_
    refine mops_en hf (by kernel_rfl) fun f1 hf1 => ?_
    refine k_c ?_
    refine k_ret ?_
    obtain rfl := Option.some.inj h
    exact k_fin (fin_ret (.inl rfl) hf1 (vs := [.ref 3 v_15 0 l_17.length, .s (.bool true)]) (by kernel_rfl) (SettL.resetw (SettL.cutb (L' := [⟨v_14, .grow, 4, cat watch_Point.v l_16⟩, ⟨0, .mem, 1, [.ref 0 v_14 0 l_16.length, .s (.int .i64 m_4)]⟩]) 2 (by kernel_rfl) (by kernel_rfl) (by kernel_rfl) ⟨.inr (.inr (statics_unders _ _ (cat_stat _))), .inr (.inr rfl), trivial⟩ (FzL.tup (FzsL.cons (FzL.whole (g := watch_Point.v) (kd := .grow) (l := l_17) (by kernel_rfl) rfl (live_grow (by kernel_rfl))) (FzsL.cons (FzL.stat rfl) FzsL.nil)))) (by simp [V.static, statics, cat_stat, spinetlaw49_made_V]) rfl rfl (cat_stat _) rfl))
  refine k_loop BIG ?_
  refine loop_ind (fun n f L => ∃ (l_14 : (List watch_Point)) (m_3 : Int) (l_15 : (List watch_Point)) (last_5 : Int) (i_1 : Int) (v_12 : Nat) (v_13 : Nat), spinetlaw49_made_l2 calls_ n l_14 m_3 l_15 last_5 i_1 = some o0 ∧ FOk f [⟨0, [], .ptr 1 0 0⟩, ⟨1, [], .sl false calls_.length (cat spinetlaw49_Op.v calls_)⟩, ⟨4, [], .ref 2 0 0 0⟩, ⟨5, [], .s (.bool false)⟩, ⟨6, [], .ref 3 v_13 0 l_15.length⟩, ⟨7, [], .s (.int .i64 last_5)⟩, ⟨8, [], .s (.int .i64 i_1)⟩] ∧ L = [⟨v_12, .grow, 4, cat watch_Point.v l_14⟩, ⟨0, .mem, 1, [.ref 0 v_12 0 l_14.length, .s (.int .i64 m_3)]⟩, ⟨0, .grow, 4, cat watch_Point.v ([] : List watch_Point)⟩, ⟨v_13, .grow, 4, cat watch_Point.v l_15⟩]) ?_ ?_ BIG _ _ ⟨w_.l, w_.last, ([] : List watch_Point), (0), (0), ver_, (0), hx0, FOk_of [0, 1, 4, 5, 6, 7, 8] hf4 (by kernel_rfl), (by kernel_rfl)⟩
  · rintro f L ⟨l_14, m_3, l_15, last_5, i_1, v_12, v_13, h, _⟩
    cases (show (none : Option _) = some _ from h)
  · rintro n0 R0 ih f L ⟨l_14, m_3, l_15, last_5, i_1, v_12, v_13, h, hf, rfl⟩
    rw [spinetlaw49_made_l2] at h
    refine k_seq ?_
    refine k_seq ?_
    refine k_reg ?_
    refine mops_en hf (by kernel_rfl) fun f1 hf1 => ?_
    refine k_c ?_
    refine k_cond hf1 (t := (decide (i_1 < (ln calls_)))) (by kernel_rfl) (fun hc1 => ?_) (fun hc1 => ?_)
    · have h := if_t h hc1
      refine k_skip ?_
      refine k_c ?_
      refine k_seq ?_
      refine k_block ?_
      refine k_seq ?_
      refine k_reg ?_
      refine mops_sg 2 hf1 (by kernel_rfl) fun f2 hf2 => ?_
      obtain ⟨c2, h⟩ := as_ok h
      refine mops_adv rfl (v := .ip ((cat spinetlaw49_Op.v calls_).drop ((i_1 : Int).toNat * 5))) hf2 (by kernel_rfl) (e_ias (n := calls_.length) (xv := .sl false calls_.length (cat spinetlaw49_Op.v calls_)) (k := .i64) (iv := i_1) (p := .ip ((cat spinetlaw49_Op.v calls_).drop ((i_1 : Int).toNat * 5))) (by kernel_rfl) (by kernel_rfl) (by kernel_rfl) (by kernel_rfl) c2) fun f3 hf3 => ?_
      refine mops_sg 1 hf3 (by kernel_rfl) fun f4 hf4 => ?_
      refine mops_adv rfl (v := .agg [.s (.int .i64 ((gt calls_ i_1).P).Id), .s (.int .i64 ((gt calls_ i_1).P).Kind), .s (.int .u16 ((gt calls_ i_1).P).From), .s (.int .u16 ((gt calls_ i_1).P).To)]) hf4 (by kernel_rfl) (e_load_ip (g := spinetlaw49_Op.v) (l := calls_) (iv := i_1) [1] (by kernel_rfl) c2 (by kernel_rfl) (by kernel_rfl)) fun f5 hf5 => ?_
      refine mops_en hf5 (by kernel_rfl) fun f6 hf6 => ?_
      refine k_c ?_
      refine k_seq ?_
      refine k_seq ?_
      refine k_reg ?_
      refine mops_sg 2 hf6 (by kernel_rfl) fun f7 hf7 => ?_
      obtain ⟨c3, h⟩ := as_ok h
      refine mops_adv rfl (v := .ip ((cat spinetlaw49_Op.v calls_).drop ((i_1 : Int).toNat * 5))) hf7 (by kernel_rfl) (e_ias (n := calls_.length) (xv := .sl false calls_.length (cat spinetlaw49_Op.v calls_)) (k := .i64) (iv := i_1) (p := .ip ((cat spinetlaw49_Op.v calls_).drop ((i_1 : Int).toNat * 5))) (by kernel_rfl) (by kernel_rfl) (by kernel_rfl) (by kernel_rfl) c3) fun f8 hf8 => ?_
      refine mops_sg 1 hf8 (by kernel_rfl) fun f9 hf9 => ?_
      refine mops_adv rfl (v := .s (.bool (gt calls_ i_1).Drop)) hf9 (by kernel_rfl) (e_load_ip (g := spinetlaw49_Op.v) (l := calls_) (iv := i_1) [0] (by kernel_rfl) c3 (by kernel_rfl) (by kernel_rfl)) fun f10 hf10 => ?_
      refine mops_en hf10 (by kernel_rfl) fun f11 hf11 => ?_
      refine k_c ?_
      have hj1 : ∀ (l_22 : (List watch_Point)) (m_5 : Int) (l_23 : (List watch_Point)) (last_7 : Int) (v_20 : Nat), spinetlaw49_made_j3 ((spinetlaw49_made_l2 calls_ n0)) i_1 l_22 m_5 l_23 last_7 = some o0 → ∀ f, FOk f [⟨0, [], .ptr 1 0 0⟩, ⟨1, [], .sl false calls_.length (cat spinetlaw49_Op.v calls_)⟩, ⟨4, [], .ref 2 0 0 0⟩, ⟨5, [], .s (.bool false)⟩, ⟨6, [], .ref 3 v_20 0 l_23.length⟩, ⟨7, [], .s (.int .i64 last_7)⟩, ⟨8, [], .s (.int .i64 i_1)⟩, ⟨9, [], .ptr 4 0 0⟩, ⟨15, [], .s (.int .i64 i_1)⟩, ⟨16, [], .sl false calls_.length (cat spinetlaw49_Op.v calls_)⟩, ⟨17, [], .s (.int .i64 (ln calls_))⟩, ⟨18, [], .s (.bool (decide (i_1 < (ln calls_))))⟩, ⟨21, [], .sl false calls_.length (cat spinetlaw49_Op.v calls_)⟩, ⟨22, [], .s (.int .i64 i_1)⟩, ⟨23, [], .ip ((cat spinetlaw49_Op.v calls_).drop ((i_1 : Int).toNat * 5))⟩, ⟨24, [], .ip (((cat spinetlaw49_Op.v calls_).drop ((i_1 : Int).toNat * 5)).drop 1)⟩, ⟨25, [], .agg [.s (.int .i64 ((gt calls_ i_1).P).Id), .s (.int .i64 ((gt calls_ i_1).P).Kind), .s (.int .u16 ((gt calls_ i_1).P).From), .s (.int .u16 ((gt calls_ i_1).P).To)]⟩, ⟨26, [], .sl false calls_.length (cat spinetlaw49_Op.v calls_)⟩, ⟨27, [], .s (.int .i64 i_1)⟩, ⟨28, [], .ip ((cat spinetlaw49_Op.v calls_).drop ((i_1 : Int).toNat * 5))⟩, ⟨29, [], .ip (((cat spinetlaw49_Op.v calls_).drop ((i_1 : Int).toNat * 5)).drop 0)⟩, ⟨30, [], .s (.bool (gt calls_ i_1).Drop)⟩] → kont Try.prog (spinetlaw49_made_L w_ ver_) (spinetlaw49_made_C w_ ver_ r) ((.c spinetlaw49_made_i55) :: (.b 1) :: (.c spinetlaw49_made_i58) :: (.l R0) :: (.b 0) :: (.c spinetlaw49_made_i64) :: []) .normal f [⟨(v_12 + 1), .grow, 4, cat watch_Point.v l_22⟩, ⟨0, .mem, 1, [.ref 0 (v_12 + 1) 0 l_22.length, .s (.int .i64 m_5)]⟩, ⟨0, .grow, 4, cat watch_Point.v ([] : List watch_Point)⟩, ⟨v_20, .grow, 4, cat watch_Point.v l_23⟩, ⟨0, .mem, 1, [.s (.int .i64 ((gt calls_ i_1).P).Id), .s (.int .i64 ((gt calls_ i_1).P).Kind), .s (.int .u16 ((gt calls_ i_1).P).From), .s (.int .u16 ((gt calls_ i_1).P).To)]⟩] := by
        intro l_22 m_5 l_23 last_7 v_20 h f hf
        unfold spinetlaw49_made_j3 at h
        refine k_c ?_
        refine k_seq ?_
        refine k_reg ?_
        refine mops_sg 1 hf (by kernel_rfl) fun f1 hf1 => ?_
        obtain ⟨r_10, hx_r_10, h⟩ := Option.bind_eq_some_iff.1 h
        refine mops_call rfl hf1 (av := [.ptr 1 0 0]) (by kernel_rfl) (v := .sl false r_10.length (cat watch_Point.v r_10)) (L' := [⟨(v_12 + 1), .grow, 4, cat watch_Point.v l_22⟩, ⟨0, .mem, 1, [.ref 0 (v_12 + 1) 0 l_22.length, .s (.int .i64 m_5)]⟩, ⟨0, .grow, 4, cat watch_Point.v ([] : List watch_Point)⟩, ⟨v_20, .grow, 4, cat watch_Point.v l_23⟩, ⟨0, .mem, 1, [.s (.int .i64 ((gt calls_ i_1).P).Id), .s (.int .i64 ((gt calls_ i_1).P).Kind), .s (.int .u16 ((gt calls_ i_1).P).From), .s (.int .u16 ((gt calls_ i_1).P).To)]⟩]) (CalL.borrow (M := [⟨(v_12 + 1), .grow, 4, cat watch_Point.v l_22⟩, ⟨0, .mem, 1, [.ref 0 (v_12 + 1) 0 l_22.length, .s (.int .i64 m_5)]⟩]) (M' := [⟨(v_12 + 1), .grow, 4, cat watch_Point.v l_22⟩, ⟨0, .mem, 1, [.ref 0 (v_12 + 1) 0 l_22.length, .s (.int .i64 m_5)]⟩]) [0, 1] (watch_Watch_All_ok (watch_Watch.mk l_22 m_5) ((v_12 + 1)) r_10 hx_r_10) (by kernel_rfl) (RNs.cons (RN.ptr (by kernel_rfl)) RNs.nil) (RN.stat (by simp [V.static, statics, cat_stat, watch_Watch_All_V])) (RBs.cons (RNs.stat (cat_stat _)) (RBs.cons (RNs.cons (RN.ref (by kernel_rfl)) (RNs.stat rfl)) RBs.nil)) (RBs.cons (RNs.stat (cat_stat _)) (RBs.cons (RNs.cons (RN.ref (by kernel_rfl)) (RNs.stat rfl)) RBs.nil)) (by kernel_rfl) (by kernel_rfl)) (by intro h; cases h) fun f2 hf2 => ?_
        refine mops_sg 1 hf2 (by kernel_rfl) fun f3 hf3 => ?_
        obtain ⟨r_11, hx_r_11, h⟩ := Option.bind_eq_some_iff.1 h
        refine mops_call rfl hf3 (av := [.sl false r_10.length (cat watch_Point.v r_10), .ref 3 v_20 0 l_23.length]) (by kernel_rfl) (v := .s (.bool r_11)) (CalL.lend (slices_Equal_sl_watch_Point_watch_Point_ok r_10 l_23 r_11 hx_r_11) rfl (Lends.cons (Lend.stat (by simp [V.static, cat_stat])) (Lends.cons (Lend.whole (g := watch_Point.v) (kd := .grow) (l := l_23) rfl (live_grow (by kernel_rfl))) Lends.nil)) (by kernel_rfl)) (fun _ => rfl) fun f4 hf4 => ?_
        refine mops_en hf4 (by kernel_rfl) fun f5 hf5 => ?_
        refine k_c ?_
        refine k_cond hf5 (t := (!r_11)) (by kernel_rfl) (fun hc16 => ?_) (fun hc16 => ?_)
        · have h := if_t h hc16
          refine k_seq ?_
          refine k_reg ?_
          refine mops_en hf5 (by kernel_rfl) fun f6 hf6 => ?_
          refine k_c ?_
          refine k_ret ?_
          refine x_br ?_
          refine x_c nofun ?_
          refine x_l nofun ?_
          refine x_br ?_
          refine x_c nofun ?_
          obtain rfl := hret0 _ (Option.some.inj h)
          exact k_fin (fin_ret (.inl rfl) hf6 (vs := [.ref 5 0 0 0, .s (.bool false)]) (by kernel_rfl) (SettL.resetw (SettL.cutb (L' := [⟨(v_12 + 1), .grow, 4, cat watch_Point.v l_22⟩, ⟨0, .mem, 1, [.ref 0 (v_12 + 1) 0 l_22.length, .s (.int .i64 m_5)]⟩]) 2 (by kernel_rfl) (by kernel_rfl) (by kernel_rfl) ⟨.inr (.inr (statics_unders _ _ (cat_stat _))), .inr (.inr rfl), trivial⟩ (FzL.tup (FzsL.cons (FzL.whole (g := watch_Point.v) (kd := .grow) (l := ([] : List watch_Point)) (by kernel_rfl) rfl (live_grow (by kernel_rfl))) (FzsL.cons (FzL.stat rfl) FzsL.nil)))) (by simp [V.static, statics, cat_stat, spinetlaw49_made_V]) rfl rfl (cat_stat _) rfl))
        · have h := if_f h hc16
          refine k_skip ?_
          refine k_b ?_
          refine k_c ?_
          refine k_reg ?_
          refine mops_en hf5 (by kernel_rfl) fun f6 hf6 => ?_
          refine k_l' (vs_cut (l := [⟨0, [], .ptr 1 0 0⟩, ⟨1, [], .sl false calls_.length (cat spinetlaw49_Op.v calls_)⟩, ⟨4, [], .ref 2 0 0 0⟩, ⟨5, [], .s (.bool false)⟩, ⟨6, [], .ref 3 v_20 0 l_23.length⟩, ⟨7, [], .s (.int .i64 last_7)⟩, ⟨8, [], .s (.int .i64 (IntKind.wrap .i64 (i_1 + 1)))⟩]) 4 (by kernel_rfl) (by kernel_rfl) (L' := [⟨(v_12 + 1), .grow, 4, cat watch_Point.v l_22⟩, ⟨0, .mem, 1, [.ref 0 (v_12 + 1) 0 l_22.length, .s (.int .i64 m_5)]⟩, ⟨0, .grow, 4, cat watch_Point.v ([] : List watch_Point)⟩, ⟨v_20, .grow, 4, cat watch_Point.v l_23⟩]) (by kernel_rfl) ⟨⟨rfl, rfl⟩, ⟨rfl, (static_under _ _ (by simp [V.static, statics, cat_stat, dropcat_stat]))⟩, ⟨rfl, rfl⟩, ⟨rfl, rfl⟩, ⟨rfl, rfl⟩, ⟨rfl, rfl⟩, ⟨rfl, rfl⟩, trivial⟩ ⟨.inr (.inr (statics_unders _ _ (cat_stat _))), .inr (.inr rfl), .inr (.inr (statics_unders _ _ (cat_stat _))), .inr (.inr (statics_unders _ _ (cat_stat _))), trivial⟩ (FOk_of [0, 1, 4, 5, 6, 7, 8] hf6 (by kernel_rfl)) fun f hf => ?_)
          exact ih _ _ ⟨l_22, m_5, l_23, last_7, (IntKind.wrap .i64 (i_1 + 1)), (v_12 + 1), v_20, h, hf, rfl⟩
      refine k_cond hf11 (t := (gt calls_ i_1).Drop) (by kernel_rfl) (fun hc4 => ?_) (fun hc4 => ?_)
      · have h := if_t h hc4
        refine k_seq ?_
        refine k_reg ?_
        refine mops_en hf11 (by kernel_rfl) fun f12 hf12 => ?_
        refine k_c ?_
        refine k_seq ?_
        refine k_seq ?_
        refine k_reg ?_
        refine mops_en hf12 (by kernel_rfl) fun f13 hf13 => ?_
        refine k_c ?_
        refine k_block ?_
        obtain ⟨o1, hx1, h⟩ := Option.bind_eq_some_iff.1 h
        have hgo1 : ∀ (l_20 : (List watch_Point)) (k_8 : Int) (t_4 : Int) (t_5 : Bool) (v_18 : Nat), (l_20, k_8, t_4, t_5) = o1 → ∀ f, FOk f [⟨0, [], .ptr 1 0 0⟩, ⟨1, [], .sl false calls_.length (cat spinetlaw49_Op.v calls_)⟩, ⟨4, [], .ref 2 0 0 0⟩, ⟨5, [], .s (.bool false)⟩, ⟨6, [], .ref 3 v_13 0 l_15.length⟩, ⟨7, [], .s (.int .i64 last_5)⟩, ⟨8, [], .s (.int .i64 i_1)⟩, ⟨9, [], .ptr 4 0 0⟩, ⟨10, [], .ref 5 v_18 0 l_20.length⟩, ⟨11, [], .s (.int .i64 k_8)⟩, ⟨15, [], .s (.int .i64 i_1)⟩, ⟨16, [], .sl false calls_.length (cat spinetlaw49_Op.v calls_)⟩, ⟨17, [], .s (.int .i64 (ln calls_))⟩, ⟨18, [], .s (.bool (decide (i_1 < (ln calls_))))⟩, ⟨21, [], .sl false calls_.length (cat spinetlaw49_Op.v calls_)⟩, ⟨22, [], .s (.int .i64 i_1)⟩, ⟨23, [], .ip ((cat spinetlaw49_Op.v calls_).drop ((i_1 : Int).toNat * 5))⟩, ⟨24, [], .ip (((cat spinetlaw49_Op.v calls_).drop ((i_1 : Int).toNat * 5)).drop 1)⟩, ⟨25, [], .agg [.s (.int .i64 ((gt calls_ i_1).P).Id), .s (.int .i64 ((gt calls_ i_1).P).Kind), .s (.int .u16 ((gt calls_ i_1).P).From), .s (.int .u16 ((gt calls_ i_1).P).To)]⟩, ⟨26, [], .sl false calls_.length (cat spinetlaw49_Op.v calls_)⟩, ⟨27, [], .s (.int .i64 i_1)⟩, ⟨28, [], .ip ((cat spinetlaw49_Op.v calls_).drop ((i_1 : Int).toNat * 5))⟩, ⟨29, [], .ip (((cat spinetlaw49_Op.v calls_).drop ((i_1 : Int).toNat * 5)).drop 0)⟩, ⟨30, [], .s (.bool (gt calls_ i_1).Drop)⟩, ⟨31, [], .s (.int .i64 t_4)⟩, ⟨32, [], .ref 3 v_13 0 l_15.length⟩, ⟨33, [], .s (.int .i64 (ln l_15))⟩, ⟨34, [], .s (.bool t_5)⟩] → kont Try.prog (spinetlaw49_made_L w_ ver_) (spinetlaw49_made_C w_ ver_ r) ((.c spinetlaw49_made_i26) :: ((.c spinetlaw49_made_i55) :: (.b 1) :: (.c spinetlaw49_made_i58) :: (.l R0) :: (.b 0) :: (.c spinetlaw49_made_i64) :: [])) .normal f [⟨v_12, .grow, 4, cat watch_Point.v l_14⟩, ⟨0, .mem, 1, [.ref 0 v_12 0 l_14.length, .s (.int .i64 m_3)]⟩, ⟨0, .grow, 4, cat watch_Point.v ([] : List watch_Point)⟩, ⟨v_13, .grow, 4, cat watch_Point.v l_15⟩, ⟨0, .mem, 1, [.s (.int .i64 ((gt calls_ i_1).P).Id), .s (.int .i64 ((gt calls_ i_1).P).Kind), .s (.int .u16 ((gt calls_ i_1).P).From), .s (.int .u16 ((gt calls_ i_1).P).To)]⟩, ⟨v_18, .grow, 4, cat watch_Point.v l_20⟩] := by
          intro l_20 k_8 t_4 t_5 v_18 e f hf
          subst e
          refine k_c ?_
          refine k_seq ?_
          refine k_seq ?_
          refine k_reg ?_
          refine mops_sg 3 hf (by kernel_rfl) fun f1 hf1 => ?_
          obtain ⟨r_8, hx_r_8, h⟩ := Option.bind_eq_some_iff.1 h
          refine mops_call rfl hf1 (av := [.ptr 1 0 0, .s (.int .i64 ((gt calls_ i_1).P).Id)]) (by kernel_rfl) (v := .s (.bool r_8.1)) (L' := [⟨(v_12 + 1), .grow, 4, cat watch_Point.v r_8.2.l⟩, ⟨0, .mem, 1, [.ref 0 (v_12 + 1) 0 r_8.2.l.length, .s (.int .i64 r_8.2.last)]⟩, ⟨0, .grow, 4, cat watch_Point.v ([] : List watch_Point)⟩, ⟨v_13, .grow, 4, cat watch_Point.v l_15⟩, ⟨0, .mem, 1, [.s (.int .i64 ((gt calls_ i_1).P).Id), .s (.int .i64 ((gt calls_ i_1).P).Kind), .s (.int .u16 ((gt calls_ i_1).P).From), .s (.int .u16 ((gt calls_ i_1).P).To)]⟩, ⟨v_18, .grow, 4, cat watch_Point.v l_20⟩]) (CalL.borrow (M := [⟨v_12, .grow, 4, cat watch_Point.v l_14⟩, ⟨0, .mem, 1, [.ref 0 v_12 0 l_14.length, .s (.int .i64 m_3)]⟩]) (M' := [⟨(v_12 + 1), .grow, 4, cat watch_Point.v r_8.2.l⟩, ⟨0, .mem, 1, [.ref 0 (v_12 + 1) 0 r_8.2.l.length, .s (.int .i64 r_8.2.last)]⟩]) [0, 1] (watch_Watch_Drop_ok (watch_Watch.mk l_14 m_3) (((gt calls_ i_1).P).Id) v_12 r_8 hx_r_8) (by kernel_rfl) (RNs.cons (RN.ptr (by kernel_rfl)) (RNs.cons (RN.stat rfl) RNs.nil)) (RN.stat rfl) (RBs.cons (RNs.stat (cat_stat _)) (RBs.cons (RNs.cons (RN.ref (by kernel_rfl)) (RNs.stat rfl)) RBs.nil)) (RBs.cons (RNs.stat (cat_stat _)) (RBs.cons (RNs.cons (RN.ref (by kernel_rfl)) (RNs.stat rfl)) RBs.nil)) (by kernel_rfl) (by kernel_rfl)) (by intro h; cases h) fun f2 hf2 => ?_
          refine mops_sg 1 hf2 (by kernel_rfl) fun f3 hf3 => ?_
          refine mops_adv rfl (v := .s (.int .i64 (ln l_20))) hf3 (by kernel_rfl) (e_len_ref (l := l_20) (B := ⟨v_18, .grow, 4, cat watch_Point.v l_20⟩) (b := 5) (ver := v_18) (n := l_20.length) (by kernel_rfl) rfl (live_grow (by kernel_rfl))) fun f4 hf4 => ?_
          refine mops_sg 1 hf4 (by kernel_rfl) fun f5 hf5 => ?_
          refine mops_adv rfl (v := .s (.int .i64 (ln l_15))) hf5 (by kernel_rfl) (e_len_ref (l := l_15) (B := ⟨v_13, .grow, 4, cat watch_Point.v l_15⟩) (b := 3) (ver := v_13) (n := l_15.length) (by kernel_rfl) rfl (live_grow (by kernel_rfl))) fun f6 hf6 => ?_
          refine mops_en hf6 (by kernel_rfl) fun f7 hf7 => ?_
          refine k_c ?_
          refine k_cond hf7 (t := (!(r_8.1 == (decide ((ln l_20) < (ln l_15)))))) (by kernel_rfl) (fun hc10 => ?_) (fun hc10 => ?_)
          · have h := if_t h hc10
            refine k_seq ?_
            refine k_reg ?_
            refine mops_en hf7 (by kernel_rfl) fun f8 hf8 => ?_
            refine k_c ?_
            refine k_ret ?_
            refine x_c nofun ?_
            refine x_c nofun ?_
            refine x_br ?_
            refine x_c nofun ?_
            refine x_l nofun ?_
            refine x_br ?_
            refine x_c nofun ?_
            obtain rfl := hret0 _ (Option.some.inj h)
            exact k_fin (fin_ret (.inl rfl) hf8 (vs := [.ref 6 0 0 0, .s (.bool false)]) (by kernel_rfl) (SettL.resetw (SettL.cutb (L' := [⟨(v_12 + 1), .grow, 4, cat watch_Point.v r_8.2.l⟩, ⟨0, .mem, 1, [.ref 0 (v_12 + 1) 0 r_8.2.l.length, .s (.int .i64 r_8.2.last)]⟩]) 2 (by kernel_rfl) (by kernel_rfl) (by kernel_rfl) ⟨.inr (.inr (statics_unders _ _ (cat_stat _))), .inr (.inr rfl), trivial⟩ (FzL.tup (FzsL.cons (FzL.whole (g := watch_Point.v) (kd := .grow) (l := ([] : List watch_Point)) (by kernel_rfl) rfl (live_grow (by kernel_rfl))) (FzsL.cons (FzL.stat rfl) FzsL.nil)))) (by simp [V.static, statics, cat_stat, spinetlaw49_made_V]) rfl rfl (cat_stat _) rfl))
          · have h := if_f h hc10
            refine k_skip ?_
            refine k_c ?_
            refine k_reg ?_
            refine mops_en hf7 (by kernel_rfl) fun f8 hf8 => ?_
            refine k_mv (ver := v_13) (v2 := v_18) (q := 4) (n := l_20.length) (kd := .grow) (cs0 := cat watch_Point.v l_15) (cs := cat watch_Point.v l_20) 6 3 5 hf8 (L' := [⟨(v_12 + 1), .grow, 4, cat watch_Point.v r_8.2.l⟩, ⟨0, .mem, 1, [.ref 0 (v_12 + 1) 0 r_8.2.l.length, .s (.int .i64 r_8.2.last)]⟩, ⟨0, .grow, 4, cat watch_Point.v ([] : List watch_Point)⟩, ⟨(v_13 + 1), .grow, 4, cat watch_Point.v l_20⟩, ⟨0, .mem, 1, [.s (.int .i64 ((gt calls_ i_1).P).Id), .s (.int .i64 ((gt calls_ i_1).P).Kind), .s (.int .u16 ((gt calls_ i_1).P).From), .s (.int .u16 ((gt calls_ i_1).P).To)]⟩, ⟨(v_18 + 1), .grow, 4, cat watch_Point.v ([] : List watch_Point)⟩]) fun f9 hf9 => ?_
            refine k_c' (vs_vs (vs_cut (l := [⟨0, [], .ptr 1 0 0⟩, ⟨1, [], .sl false calls_.length (cat spinetlaw49_Op.v calls_)⟩, ⟨4, [], .ref 2 0 0 0⟩, ⟨5, [], .s (.bool false)⟩, ⟨6, [], .ref 3 (v_13 + 1) 0 l_20.length⟩, ⟨7, [], .s (.int .i64 last_5)⟩, ⟨8, [], .s (.int .i64 i_1)⟩, ⟨9, [], .ptr 4 0 0⟩, ⟨15, [], .s (.int .i64 i_1)⟩, ⟨16, [], .sl false calls_.length (cat spinetlaw49_Op.v calls_)⟩, ⟨17, [], .s (.int .i64 (ln calls_))⟩, ⟨18, [], .s (.bool (decide (i_1 < (ln calls_))))⟩, ⟨21, [], .sl false calls_.length (cat spinetlaw49_Op.v calls_)⟩, ⟨22, [], .s (.int .i64 i_1)⟩, ⟨23, [], .ip ((cat spinetlaw49_Op.v calls_).drop ((i_1 : Int).toNat * 5))⟩, ⟨24, [], .ip (((cat spinetlaw49_Op.v calls_).drop ((i_1 : Int).toNat * 5)).drop 1)⟩, ⟨25, [], .agg [.s (.int .i64 ((gt calls_ i_1).P).Id), .s (.int .i64 ((gt calls_ i_1).P).Kind), .s (.int .u16 ((gt calls_ i_1).P).From), .s (.int .u16 ((gt calls_ i_1).P).To)]⟩, ⟨26, [], .sl false calls_.length (cat spinetlaw49_Op.v calls_)⟩, ⟨27, [], .s (.int .i64 i_1)⟩, ⟨28, [], .ip ((cat spinetlaw49_Op.v calls_).drop ((i_1 : Int).toNat * 5))⟩, ⟨29, [], .ip (((cat spinetlaw49_Op.v calls_).drop ((i_1 : Int).toNat * 5)).drop 0)⟩, ⟨30, [], .s (.bool (gt calls_ i_1).Drop)⟩]) 5 (by kernel_rfl) (by kernel_rfl) (L' := [⟨(v_12 + 1), .grow, 4, cat watch_Point.v r_8.2.l⟩, ⟨0, .mem, 1, [.ref 0 (v_12 + 1) 0 r_8.2.l.length, .s (.int .i64 r_8.2.last)]⟩, ⟨0, .grow, 4, cat watch_Point.v ([] : List watch_Point)⟩, ⟨(v_13 + 1), .grow, 4, cat watch_Point.v l_20⟩, ⟨0, .mem, 1, [.s (.int .i64 ((gt calls_ i_1).P).Id), .s (.int .i64 ((gt calls_ i_1).P).Kind), .s (.int .u16 ((gt calls_ i_1).P).From), .s (.int .u16 ((gt calls_ i_1).P).To)]⟩]) (by kernel_rfl) ⟨⟨rfl, rfl⟩, ⟨rfl, (static_under _ _ (by simp [V.static, statics, cat_stat, dropcat_stat]))⟩, ⟨rfl, rfl⟩, ⟨rfl, rfl⟩, ⟨rfl, rfl⟩, ⟨rfl, rfl⟩, ⟨rfl, rfl⟩, ⟨rfl, rfl⟩, ⟨rfl, rfl⟩, ⟨rfl, (static_under _ _ (by simp [V.static, statics, cat_stat, dropcat_stat]))⟩, ⟨rfl, rfl⟩, ⟨rfl, rfl⟩, ⟨rfl, (static_under _ _ (by simp [V.static, statics, cat_stat, dropcat_stat]))⟩, ⟨rfl, rfl⟩, ⟨rfl, (static_under _ _ (by simp [V.static, statics, cat_stat, dropcat_stat]))⟩, ⟨rfl, (static_under _ _ (by simp [V.static, statics, cat_stat, dropcat_stat]))⟩, ⟨rfl, rfl⟩, ⟨rfl, (static_under _ _ (by simp [V.static, statics, cat_stat, dropcat_stat]))⟩, ⟨rfl, rfl⟩, ⟨rfl, (static_under _ _ (by simp [V.static, statics, cat_stat, dropcat_stat]))⟩, ⟨rfl, (static_under _ _ (by simp [V.static, statics, cat_stat, dropcat_stat]))⟩, ⟨rfl, rfl⟩, trivial⟩ ⟨.inr (.inr (statics_unders _ _ (cat_stat _))), .inr (.inr rfl), .inr (.inr (statics_unders _ _ (cat_stat _))), .inr (.inr (statics_unders _ _ (cat_stat _))), .inr (.inr rfl), trivial⟩ (FOk_of [0, 1, 4, 5, 6, 7, 8, 9, 15, 16, 17, 18, 21, 22, 23, 24, 25, 26, 27, 28, 29, 30] hf9 (by kernel_rfl)) fun f hf => ?_))
            exact k_un (hj1 r_8.2.l r_8.2.last l_20 last_5 (v_13 + 1) h _ hf)
        refine k_loop BIG ?_
        refine loop_ind (fun n f L => ∃ (l_19 : (List watch_Point)) (k_7 : Int) (v_17 : Nat), spinetlaw49_made_l3 calls_ l_15 i_1 n l_19 k_7 = some o1 ∧ FOk f [⟨0, [], .ptr 1 0 0⟩, ⟨1, [], .sl false calls_.length (cat spinetlaw49_Op.v calls_)⟩, ⟨4, [], .ref 2 0 0 0⟩, ⟨5, [], .s (.bool false)⟩, ⟨6, [], .ref 3 v_13 0 l_15.length⟩, ⟨7, [], .s (.int .i64 last_5)⟩, ⟨8, [], .s (.int .i64 i_1)⟩, ⟨9, [], .ptr 4 0 0⟩, ⟨10, [], .ref 5 v_17 0 l_19.length⟩, ⟨11, [], .s (.int .i64 k_7)⟩, ⟨15, [], .s (.int .i64 i_1)⟩, ⟨16, [], .sl false calls_.length (cat spinetlaw49_Op.v calls_)⟩, ⟨17, [], .s (.int .i64 (ln calls_))⟩, ⟨18, [], .s (.bool (decide (i_1 < (ln calls_))))⟩, ⟨21, [], .sl false calls_.length (cat spinetlaw49_Op.v calls_)⟩, ⟨22, [], .s (.int .i64 i_1)⟩, ⟨23, [], .ip ((cat spinetlaw49_Op.v calls_).drop ((i_1 : Int).toNat * 5))⟩, ⟨24, [], .ip (((cat spinetlaw49_Op.v calls_).drop ((i_1 : Int).toNat * 5)).drop 1)⟩, ⟨25, [], .agg [.s (.int .i64 ((gt calls_ i_1).P).Id), .s (.int .i64 ((gt calls_ i_1).P).Kind), .s (.int .u16 ((gt calls_ i_1).P).From), .s (.int .u16 ((gt calls_ i_1).P).To)]⟩, ⟨26, [], .sl false calls_.length (cat spinetlaw49_Op.v calls_)⟩, ⟨27, [], .s (.int .i64 i_1)⟩, ⟨28, [], .ip ((cat spinetlaw49_Op.v calls_).drop ((i_1 : Int).toNat * 5))⟩, ⟨29, [], .ip (((cat spinetlaw49_Op.v calls_).drop ((i_1 : Int).toNat * 5)).drop 0)⟩, ⟨30, [], .s (.bool (gt calls_ i_1).Drop)⟩] ∧ L = [⟨v_12, .grow, 4, cat watch_Point.v l_14⟩, ⟨0, .mem, 1, [.ref 0 v_12 0 l_14.length, .s (.int .i64 m_3)]⟩, ⟨0, .grow, 4, cat watch_Point.v ([] : List watch_Point)⟩, ⟨v_13, .grow, 4, cat watch_Point.v l_15⟩, ⟨0, .mem, 1, [.s (.int .i64 ((gt calls_ i_1).P).Id), .s (.int .i64 ((gt calls_ i_1).P).Kind), .s (.int .u16 ((gt calls_ i_1).P).From), .s (.int .u16 ((gt calls_ i_1).P).To)]⟩, ⟨v_17, .grow, 4, cat watch_Point.v l_19⟩]) ?_ ?_ BIG _ _ ⟨([] : List watch_Point), (0), (0), hx1, FOk_of [0, 1, 4, 5, 6, 7, 8, 9, 10, 11, 15, 16, 17, 18, 21, 22, 23, 24, 25, 26, 27, 28, 29, 30] hf13 (by kernel_rfl), (by kernel_rfl)⟩
        · rintro f L ⟨l_19, k_7, v_17, h, _⟩
          cases (show (none : Option _) = some _ from h)
        · rintro n1 R1 ih f L ⟨l_19, k_7, v_17, h, hf, rfl⟩
          rw [spinetlaw49_made_l3] at h
          refine k_seq ?_
          refine k_seq ?_
          refine k_reg ?_
          refine mops_sg 2 hf (by kernel_rfl) fun f1 hf1 => ?_
          refine mops_adv rfl (v := .s (.int .i64 (ln l_15))) hf1 (by kernel_rfl) (e_len_ref (l := l_15) (B := ⟨v_13, .grow, 4, cat watch_Point.v l_15⟩) (b := 3) (ver := v_13) (n := l_15.length) (by kernel_rfl) rfl (live_grow (by kernel_rfl))) fun f2 hf2 => ?_
          refine mops_en hf2 (by kernel_rfl) fun f3 hf3 => ?_
          refine k_c ?_
          refine k_cond hf3 (t := (decide (k_7 < (ln l_15)))) (by kernel_rfl) (fun hc5 => ?_) (fun hc5 => ?_)
          · have h := if_t h hc5
            refine k_skip ?_
            refine k_c ?_
            refine k_seq ?_
            refine k_block ?_
            refine k_seq ?_
            refine k_regq ?_
            refine mops_sg 2 hf3 (by kernel_rfl) fun f4 hf4 => ?_
            obtain ⟨c6, h⟩ := as_ok h
            refine mops_adv rfl (v := .ptr 3 v_13 (0 + (k_7 : Int).toNat * 4)) hf4 (by kernel_rfl) (e_ias_ref (l := l_15) (B := ⟨v_13, .grow, 4, cat watch_Point.v l_15⟩) (b := 3) (ver := v_13) (n := l_15.length) (k := .i64) (iv := k_7) (by kernel_rfl) (by kernel_rfl) rfl (live_grow (by kernel_rfl)) c6) fun f5 hf5 => ?_
            refine mops_adv rfl (v := .ptr 3 v_13 (0 + (k_7 : Int).toNat * 4 + 0)) hf5 (by kernel_rfl) (e_fld_own (B := ⟨v_13, .grow, 4, cat watch_Point.v l_15⟩) (b := 3) (ver := v_13) (o := (0 + (k_7 : Int).toNat * 4)) (by kernel_rfl) (live_grow (by kernel_rfl))) fun f6 hf6 => ?_
            refine mops_adv rfl (v := .s (.int .i64 (gt l_15 k_7).Id)) hf6 (by kernel_rfl) (e_load_pe (g := watch_Point.v) (l := l_15) (iv := k_7) (kd := .grow) (q := 4) (b := 3) (ver := v_13) [0] (by kernel_rfl) (live_grow (by kernel_rfl)) c6 (by kernel_rfl) (by kernel_rfl)) fun f7 hf7 => ?_
            refine mops_en hf7 (by kernel_rfl) fun f8 hf8 => ?_
            refine k_c ?_
            refine k_cond hf8 (t := ((gt l_15 k_7).Id != ((gt calls_ i_1).P).Id)) (by kernel_rfl) (fun hc7 => ?_) (fun hc7 => ?_)
            · have h := if_t h hc7
              refine k_reg ?_
              refine mops_sg 3 hf8 (by kernel_rfl) fun f9 hf9 => ?_
              obtain ⟨c8, h⟩ := as_ok h
              refine mops_adv rfl (v := .ptr 3 v_13 (0 + (k_7 : Int).toNat * 4)) hf9 (by kernel_rfl) (e_ias_ref (l := l_15) (B := ⟨v_13, .grow, 4, cat watch_Point.v l_15⟩) (b := 3) (ver := v_13) (n := l_15.length) (k := .i64) (iv := k_7) (by kernel_rfl) (by kernel_rfl) rfl (live_grow (by kernel_rfl)) c8) fun f10 hf10 => ?_
              refine mops_adv rfl (v := .agg [.s (.int .i64 (gt l_15 k_7).Id), .s (.int .i64 (gt l_15 k_7).Kind), .s (.int .u16 (gt l_15 k_7).From), .s (.int .u16 (gt l_15 k_7).To)]) hf10 (by kernel_rfl) (e_load_pe (g := watch_Point.v) (l := l_15) (iv := k_7) (kd := .grow) (q := 4) (b := 3) (ver := v_13) [] (by kernel_rfl) (live_grow (by kernel_rfl)) c8 (by kernel_rfl) (by kernel_rfl)) fun f11 hf11 => ?_
              refine mops_sg 1 hf11 (by kernel_rfl) fun f12 hf12 => ?_
              obtain ⟨c9, h⟩ := as_ok h
              refine mops_adv rfl (v := .ref 5 (v_17 + 1) 0 (l_19 ++ [(gt l_15 k_7)]).length) hf12 (by kernel_rfl) (e_app (g := watch_Point.v) (l := l_19) (l' := [(gt l_15 k_7)]) (b := 5) (ver := v_17) (n := l_19.length) rfl (by kernel_rfl) rfl (live_grow (by kernel_rfl)) (sll_ev (v := .ref 6 0 0 1) (by kernel_rfl) (sll_ref (B := ⟨0, .grow, 4, cat watch_Point.v [(gt l_15 k_7)]⟩) (by kernel_rfl) (live_grow (by kernel_rfl)))) (slc_ev (v := .ref 6 0 0 1) (by kernel_rfl) (slc_ref (g := watch_Point.v) (l := [(gt l_15 k_7)]) (kd := .grow) (q := 4) (by kernel_rfl) (live_grow (by kernel_rfl)))) c9) fun f13 hf13 => ?_
              refine mops_en hf13 (by kernel_rfl) fun f14 hf14 => ?_
              refine k_b ?_
              refine k_c ?_
              refine k_reg ?_
              refine mops_en hf14 (by kernel_rfl) fun f15 hf15 => ?_
              refine k_l' (vs_cut (l := [⟨0, [], .ptr 1 0 0⟩, ⟨1, [], .sl false calls_.length (cat spinetlaw49_Op.v calls_)⟩, ⟨4, [], .ref 2 0 0 0⟩, ⟨5, [], .s (.bool false)⟩, ⟨6, [], .ref 3 v_13 0 l_15.length⟩, ⟨7, [], .s (.int .i64 last_5)⟩, ⟨8, [], .s (.int .i64 i_1)⟩, ⟨9, [], .ptr 4 0 0⟩, ⟨10, [], .ref 5 (v_17 + 1) 0 (l_19 ++ [(gt l_15 k_7)]).length⟩, ⟨11, [], .s (.int .i64 (IntKind.wrap .i64 (k_7 + 1)))⟩, ⟨15, [], .s (.int .i64 i_1)⟩, ⟨16, [], .sl false calls_.length (cat spinetlaw49_Op.v calls_)⟩, ⟨17, [], .s (.int .i64 (ln calls_))⟩, ⟨18, [], .s (.bool (decide (i_1 < (ln calls_))))⟩, ⟨21, [], .sl false calls_.length (cat spinetlaw49_Op.v calls_)⟩, ⟨22, [], .s (.int .i64 i_1)⟩, ⟨23, [], .ip ((cat spinetlaw49_Op.v calls_).drop ((i_1 : Int).toNat * 5))⟩, ⟨24, [], .ip (((cat spinetlaw49_Op.v calls_).drop ((i_1 : Int).toNat * 5)).drop 1)⟩, ⟨25, [], .agg [.s (.int .i64 ((gt calls_ i_1).P).Id), .s (.int .i64 ((gt calls_ i_1).P).Kind), .s (.int .u16 ((gt calls_ i_1).P).From), .s (.int .u16 ((gt calls_ i_1).P).To)]⟩, ⟨26, [], .sl false calls_.length (cat spinetlaw49_Op.v calls_)⟩, ⟨27, [], .s (.int .i64 i_1)⟩, ⟨28, [], .ip ((cat spinetlaw49_Op.v calls_).drop ((i_1 : Int).toNat * 5))⟩, ⟨29, [], .ip (((cat spinetlaw49_Op.v calls_).drop ((i_1 : Int).toNat * 5)).drop 0)⟩, ⟨30, [], .s (.bool (gt calls_ i_1).Drop)⟩]) 6 (by kernel_rfl) (by kernel_rfl) (L' := [⟨v_12, .grow, 4, cat watch_Point.v l_14⟩, ⟨0, .mem, 1, [.ref 0 v_12 0 l_14.length, .s (.int .i64 m_3)]⟩, ⟨0, .grow, 4, cat watch_Point.v ([] : List watch_Point)⟩, ⟨v_13, .grow, 4, cat watch_Point.v l_15⟩, ⟨0, .mem, 1, [.s (.int .i64 ((gt calls_ i_1).P).Id), .s (.int .i64 ((gt calls_ i_1).P).Kind), .s (.int .u16 ((gt calls_ i_1).P).From), .s (.int .u16 ((gt calls_ i_1).P).To)]⟩, ⟨(v_17 + 1), .grow, 4, cat watch_Point.v (l_19 ++ [(gt l_15 k_7)])⟩]) (by kernel_rfl) ⟨⟨rfl, rfl⟩, ⟨rfl, (static_under _ _ (by simp [V.static, statics, cat_stat, dropcat_stat]))⟩, ⟨rfl, rfl⟩, ⟨rfl, rfl⟩, ⟨rfl, rfl⟩, ⟨rfl, rfl⟩, ⟨rfl, rfl⟩, ⟨rfl, rfl⟩, ⟨rfl, rfl⟩, ⟨rfl, rfl⟩, ⟨rfl, rfl⟩, ⟨rfl, (static_under _ _ (by simp [V.static, statics, cat_stat, dropcat_stat]))⟩, ⟨rfl, rfl⟩, ⟨rfl, rfl⟩, ⟨rfl, (static_under _ _ (by simp [V.static, statics, cat_stat, dropcat_stat]))⟩, ⟨rfl, rfl⟩, ⟨rfl, (static_under _ _ (by simp [V.static, statics, cat_stat, dropcat_stat]))⟩, ⟨rfl, (static_under _ _ (by simp [V.static, statics, cat_stat, dropcat_stat]))⟩, ⟨rfl, rfl⟩, ⟨rfl, (static_under _ _ (by simp [V.static, statics, cat_stat, dropcat_stat]))⟩, ⟨rfl, rfl⟩, ⟨rfl, (static_under _ _ (by simp [V.static, statics, cat_stat, dropcat_stat]))⟩, ⟨rfl, (static_under _ _ (by simp [V.static, statics, cat_stat, dropcat_stat]))⟩, ⟨rfl, rfl⟩, trivial⟩ ⟨.inr (.inr (statics_unders _ _ (cat_stat _))), .inr (.inr rfl), .inr (.inr (statics_unders _ _ (cat_stat _))), .inr (.inr (statics_unders _ _ (cat_stat _))), .inr (.inr rfl), .inr (.inr (statics_unders _ _ (cat_stat _))), trivial⟩ (FOk_of [0, 1, 4, 5, 6, 7, 8, 9, 10, 11, 15, 16, 17, 18, 21, 22, 23, 24, 25, 26, 27, 28, 29, 30] hf15 (by kernel_rfl)) fun f hf => ?_)
              exact ih _ _ ⟨(l_19 ++ [(gt l_15 k_7)]), (IntKind.wrap .i64 (k_7 + 1)), (v_17 + 1), h, hf, rfl⟩
            · have h := if_f h hc7
              refine k_skip ?_
              refine k_b ?_
              refine k_c ?_
              refine k_reg ?_
              refine mops_en hf8 (by kernel_rfl) fun f9 hf9 => ?_
              refine k_l ?_
              exact ih _ _ ⟨l_19, (IntKind.wrap .i64 (k_7 + 1)), v_17, h, FOk_of [0, 1, 4, 5, 6, 7, 8, 9, 10, 11, 15, 16, 17, 18, 21, 22, 23, 24, 25, 26, 27, 28, 29, 30] hf9 (by kernel_rfl), (by kernel_rfl)⟩
          · have h := if_f h hc5
            refine k_exit ?_
            refine x_c nofun ?_
            refine x_l nofun ?_
            refine x_b ?_
            refine k_hp (L' := [⟨v_12, .grow, 4, cat watch_Point.v l_14⟩, ⟨0, .mem, 1, [.ref 0 v_12 0 l_14.length, .s (.int .i64 m_3)]⟩, ⟨0, .grow, 4, cat watch_Point.v ([] : List watch_Point)⟩, ⟨v_13, .grow, 4, cat watch_Point.v l_15⟩, ⟨0, .mem, 1, [.s (.int .i64 ((gt calls_ i_1).P).Id), .s (.int .i64 ((gt calls_ i_1).P).Kind), .s (.int .u16 ((gt calls_ i_1).P).From), .s (.int .u16 ((gt calls_ i_1).P).To)]⟩, ⟨v_17, .grow, 4, cat watch_Point.v l_19⟩]) (by kernel_rfl) ?_
            exact hgo1 l_19 k_7 k_7 (decide (k_7 < (ln l_15))) v_17 (Option.some.inj h) _ (FOk_of [0, 1, 4, 5, 6, 7, 8, 9, 10, 11, 15, 16, 17, 18, 21, 22, 23, 24, 25, 26, 27, 28, 29, 30, 31, 32, 33, 34] hf3 (by kernel_rfl))
      · have h := if_f h hc4
        refine k_seq ?_
        refine k_reg ?_
        refine mops_sg 7 hf11 (by kernel_rfl) fun f12 hf12 => ?_
        obtain ⟨r_9, hx_r_9, h⟩ := Option.bind_eq_some_iff.1 h
        refine mops_call rfl hf12 (av := [.ptr 1 0 0, .s (.int .i64 ((gt calls_ i_1).P).Kind), .s (.int .u16 ((gt calls_ i_1).P).From), .s (.int .u16 ((gt calls_ i_1).P).To)]) (by kernel_rfl) (v := .tup [.s (.int .i64 r_9.1), .s (.int .i64 r_9.2.1)]) (L' := [⟨(v_12 + 1), .grow, 4, cat watch_Point.v r_9.2.2.l⟩, ⟨0, .mem, 1, [.ref 0 (v_12 + 1) 0 r_9.2.2.l.length, .s (.int .i64 r_9.2.2.last)]⟩, ⟨0, .grow, 4, cat watch_Point.v ([] : List watch_Point)⟩, ⟨v_13, .grow, 4, cat watch_Point.v l_15⟩, ⟨0, .mem, 1, [.s (.int .i64 ((gt calls_ i_1).P).Id), .s (.int .i64 ((gt calls_ i_1).P).Kind), .s (.int .u16 ((gt calls_ i_1).P).From), .s (.int .u16 ((gt calls_ i_1).P).To)]⟩]) (CalL.borrow (M := [⟨v_12, .grow, 4, cat watch_Point.v l_14⟩, ⟨0, .mem, 1, [.ref 0 v_12 0 l_14.length, .s (.int .i64 m_3)]⟩]) (M' := [⟨(v_12 + 1), .grow, 4, cat watch_Point.v r_9.2.2.l⟩, ⟨0, .mem, 1, [.ref 0 (v_12 + 1) 0 r_9.2.2.l.length, .s (.int .i64 r_9.2.2.last)]⟩]) [0, 1] (watch_Watch_Add_ok (watch_Watch.mk l_14 m_3) (((gt calls_ i_1).P).Kind) (((gt calls_ i_1).P).From) (((gt calls_ i_1).P).To) v_12 r_9 hx_r_9) (by kernel_rfl) (RNs.cons (RN.ptr (by kernel_rfl)) (RNs.cons (RN.stat rfl) (RNs.cons (RN.stat rfl) (RNs.cons (RN.stat rfl) RNs.nil)))) (RN.tup (RNs.cons (RN.stat rfl) (RNs.cons (RN.stat rfl) RNs.nil))) (RBs.cons (RNs.stat (cat_stat _)) (RBs.cons (RNs.cons (RN.ref (by kernel_rfl)) (RNs.stat rfl)) RBs.nil)) (RBs.cons (RNs.stat (cat_stat _)) (RBs.cons (RNs.cons (RN.ref (by kernel_rfl)) (RNs.stat rfl)) RBs.nil)) (by kernel_rfl) (by kernel_rfl)) (by intro h; cases h) fun f13 hf13 => ?_
        refine mops_en hf13 (by kernel_rfl) fun f14 hf14 => ?_
        refine k_c ?_
        refine k_seq ?_
        refine k_reg ?_
        refine mops_en hf14 (by kernel_rfl) fun f15 hf15 => ?_
        refine k_c ?_
        refine k_seq ?_
        refine k_seq ?_
        refine k_reg ?_
        refine mops_end [0, 1, 4, 5, 6, 7, 8, 9, 12, 13, 14, 15, 16, 17, 18, 21, 22, 23, 24, 25, 26, 27, 28, 29, 30, 63, 64, 65, 66, 67, 68, 69, 70, 71, 72, 73, 74, 75, 76, 77, 78] hf15 (l' := [⟨0, [], .ptr 1 0 0⟩, ⟨1, [], .sl false calls_.length (cat spinetlaw49_Op.v calls_)⟩, ⟨4, [], .ref 2 0 0 0⟩, ⟨5, [], .s (.bool false)⟩, ⟨6, [], .ref 3 v_13 0 l_15.length⟩, ⟨7, [], .s (.int .i64 last_5)⟩, ⟨8, [], .s (.int .i64 i_1)⟩, ⟨9, [], .ptr 4 0 0⟩, ⟨12, [], .s (.int .i64 r_9.1)⟩, ⟨13, [], .s (.int .i64 r_9.2.1)⟩, ⟨14, [], .s (.int .i64 0)⟩, ⟨15, [], .s (.int .i64 i_1)⟩, ⟨16, [], .sl false calls_.length (cat spinetlaw49_Op.v calls_)⟩, ⟨17, [], .s (.int .i64 (ln calls_))⟩, ⟨18, [], .s (.bool (decide (i_1 < (ln calls_))))⟩, ⟨21, [], .sl false calls_.length (cat spinetlaw49_Op.v calls_)⟩, ⟨22, [], .s (.int .i64 i_1)⟩, ⟨23, [], .ip ((cat spinetlaw49_Op.v calls_).drop ((i_1 : Int).toNat * 5))⟩, ⟨24, [], .ip (((cat spinetlaw49_Op.v calls_).drop ((i_1 : Int).toNat * 5)).drop 1)⟩, ⟨25, [], .agg [.s (.int .i64 ((gt calls_ i_1).P).Id), .s (.int .i64 ((gt calls_ i_1).P).Kind), .s (.int .u16 ((gt calls_ i_1).P).From), .s (.int .u16 ((gt calls_ i_1).P).To)]⟩, ⟨26, [], .sl false calls_.length (cat spinetlaw49_Op.v calls_)⟩, ⟨27, [], .s (.int .i64 i_1)⟩, ⟨28, [], .ip ((cat spinetlaw49_Op.v calls_).drop ((i_1 : Int).toNat * 5))⟩, ⟨29, [], .ip (((cat spinetlaw49_Op.v calls_).drop ((i_1 : Int).toNat * 5)).drop 0)⟩, ⟨30, [], .s (.bool (gt calls_ i_1).Drop)⟩, ⟨63, [], .tup [.s (.int .i64 r_9.1), .s (.int .i64 r_9.2.1)]⟩, ⟨64, [], .ptr 1 0 0⟩, ⟨65, [], .ptr 4 0 1⟩, ⟨66, [], .s (.int .i64 ((gt calls_ i_1).P).Kind)⟩, ⟨67, [], .ptr 4 0 2⟩, ⟨68, [], .s (.int .u16 ((gt calls_ i_1).P).From)⟩, ⟨69, [], .ptr 4 0 3⟩, ⟨70, [], .s (.int .u16 ((gt calls_ i_1).P).To)⟩, ⟨71, [], .tup [.s (.int .i64 r_9.1), .s (.int .i64 r_9.2.1)]⟩, ⟨72, [], .s (.int .i64 r_9.1)⟩, ⟨73, [], .s (.int .i64 r_9.2.1)⟩, ⟨74, [], .ptr 4 0 3⟩, ⟨75, [], .s (.int .u16 ((gt calls_ i_1).P).To)⟩, ⟨76, [], .ptr 4 0 2⟩, ⟨77, [], .s (.int .u16 ((gt calls_ i_1).P).From)⟩, ⟨78, [], .s (.bool (decide (((gt calls_ i_1).P).To < ((gt calls_ i_1).P).From)))⟩]) (L' := [⟨(v_12 + 1), .grow, 4, cat watch_Point.v r_9.2.2.l⟩, ⟨0, .mem, 1, [.ref 0 (v_12 + 1) 0 r_9.2.2.l.length, .s (.int .i64 r_9.2.2.last)]⟩, ⟨0, .grow, 4, cat watch_Point.v ([] : List watch_Point)⟩, ⟨v_13, .grow, 4, cat watch_Point.v l_15⟩, ⟨0, .mem, 1, [.s (.int .i64 ((gt calls_ i_1).P).Id), .s (.int .i64 ((gt calls_ i_1).P).Kind), .s (.int .u16 ((gt calls_ i_1).P).From), .s (.int .u16 ((gt calls_ i_1).P).To)]⟩]) (by kernel_rfl) fun f16 hf16 => ?_
        refine k_c ?_
        have hj2 : ∀ (want_4 : Int), spinetlaw49_made_j2 ((spinetlaw49_made_l2 calls_ n0)) calls_ l_15 last_5 i_1 r_9 want_4 = some o0 → ∀ f, FOk f [⟨0, [], .ptr 1 0 0⟩, ⟨1, [], .sl false calls_.length (cat spinetlaw49_Op.v calls_)⟩, ⟨4, [], .ref 2 0 0 0⟩, ⟨5, [], .s (.bool false)⟩, ⟨6, [], .ref 3 v_13 0 l_15.length⟩, ⟨7, [], .s (.int .i64 last_5)⟩, ⟨8, [], .s (.int .i64 i_1)⟩, ⟨9, [], .ptr 4 0 0⟩, ⟨12, [], .s (.int .i64 r_9.1)⟩, ⟨13, [], .s (.int .i64 r_9.2.1)⟩, ⟨14, [], .s (.int .i64 want_4)⟩, ⟨15, [], .s (.int .i64 i_1)⟩, ⟨16, [], .sl false calls_.length (cat spinetlaw49_Op.v calls_)⟩, ⟨17, [], .s (.int .i64 (ln calls_))⟩, ⟨18, [], .s (.bool (decide (i_1 < (ln calls_))))⟩, ⟨21, [], .sl false calls_.length (cat spinetlaw49_Op.v calls_)⟩, ⟨22, [], .s (.int .i64 i_1)⟩, ⟨23, [], .ip ((cat spinetlaw49_Op.v calls_).drop ((i_1 : Int).toNat * 5))⟩, ⟨24, [], .ip (((cat spinetlaw49_Op.v calls_).drop ((i_1 : Int).toNat * 5)).drop 1)⟩, ⟨25, [], .agg [.s (.int .i64 ((gt calls_ i_1).P).Id), .s (.int .i64 ((gt calls_ i_1).P).Kind), .s (.int .u16 ((gt calls_ i_1).P).From), .s (.int .u16 ((gt calls_ i_1).P).To)]⟩, ⟨26, [], .sl false calls_.length (cat spinetlaw49_Op.v calls_)⟩, ⟨27, [], .s (.int .i64 i_1)⟩, ⟨28, [], .ip ((cat spinetlaw49_Op.v calls_).drop ((i_1 : Int).toNat * 5))⟩, ⟨29, [], .ip (((cat spinetlaw49_Op.v calls_).drop ((i_1 : Int).toNat * 5)).drop 0)⟩, ⟨30, [], .s (.bool (gt calls_ i_1).Drop)⟩, ⟨63, [], .tup [.s (.int .i64 r_9.1), .s (.int .i64 r_9.2.1)]⟩, ⟨64, [], .ptr 1 0 0⟩, ⟨65, [], .ptr 4 0 1⟩, ⟨66, [], .s (.int .i64 ((gt calls_ i_1).P).Kind)⟩, ⟨67, [], .ptr 4 0 2⟩, ⟨68, [], .s (.int .u16 ((gt calls_ i_1).P).From)⟩, ⟨69, [], .ptr 4 0 3⟩, ⟨70, [], .s (.int .u16 ((gt calls_ i_1).P).To)⟩, ⟨71, [], .tup [.s (.int .i64 r_9.1), .s (.int .i64 r_9.2.1)]⟩, ⟨72, [], .s (.int .i64 r_9.1)⟩, ⟨73, [], .s (.int .i64 r_9.2.1)⟩, ⟨74, [], .ptr 4 0 3⟩, ⟨75, [], .s (.int .u16 ((gt calls_ i_1).P).To)⟩, ⟨76, [], .ptr 4 0 2⟩, ⟨77, [], .s (.int .u16 ((gt calls_ i_1).P).From)⟩, ⟨78, [], .s (.bool (decide (((gt calls_ i_1).P).To < ((gt calls_ i_1).P).From)))⟩] → kont Try.prog (spinetlaw49_made_L w_ ver_) (spinetlaw49_made_C w_ ver_ r) ((.c spinetlaw49_made_i47) :: ((.c spinetlaw49_made_i55) :: (.b 1) :: (.c spinetlaw49_made_i58) :: (.l R0) :: (.b 0) :: (.c spinetlaw49_made_i64) :: [])) .normal f [⟨(v_12 + 1), .grow, 4, cat watch_Point.v r_9.2.2.l⟩, ⟨0, .mem, 1, [.ref 0 (v_12 + 1) 0 r_9.2.2.l.length, .s (.int .i64 r_9.2.2.last)]⟩, ⟨0, .grow, 4, cat watch_Point.v ([] : List watch_Point)⟩, ⟨v_13, .grow, 4, cat watch_Point.v l_15⟩, ⟨0, .mem, 1, [.s (.int .i64 ((gt calls_ i_1).P).Id), .s (.int .i64 ((gt calls_ i_1).P).Kind), .s (.int .u16 ((gt calls_ i_1).P).From), .s (.int .u16 ((gt calls_ i_1).P).To)]⟩] := by
          intro want_4 h f hf
          unfold spinetlaw49_made_j2 at h
          refine k_c ?_
          refine k_seq ?_
          refine k_seq ?_
          refine k_reg ?_
          refine mops_en hf (by kernel_rfl) fun f1 hf1 => ?_
          refine k_c ?_
          have hj3 : ∀ (want_5 : Int), spinetlaw49_made_j1 ((spinetlaw49_made_l2 calls_ n0)) calls_ l_15 last_5 i_1 r_9 want_5 = some o0 → ∀ f, FOk f [⟨0, [], .ptr 1 0 0⟩, ⟨1, [], .sl false calls_.length (cat spinetlaw49_Op.v calls_)⟩, ⟨4, [], .ref 2 0 0 0⟩, ⟨5, [], .s (.bool false)⟩, ⟨6, [], .ref 3 v_13 0 l_15.length⟩, ⟨7, [], .s (.int .i64 last_5)⟩, ⟨8, [], .s (.int .i64 i_1)⟩, ⟨9, [], .ptr 4 0 0⟩, ⟨12, [], .s (.int .i64 r_9.1)⟩, ⟨13, [], .s (.int .i64 r_9.2.1)⟩, ⟨14, [], .s (.int .i64 want_5)⟩, ⟨15, [], .s (.int .i64 i_1)⟩, ⟨16, [], .sl false calls_.length (cat spinetlaw49_Op.v calls_)⟩, ⟨17, [], .s (.int .i64 (ln calls_))⟩, ⟨18, [], .s (.bool (decide (i_1 < (ln calls_))))⟩, ⟨21, [], .sl false calls_.length (cat spinetlaw49_Op.v calls_)⟩, ⟨22, [], .s (.int .i64 i_1)⟩, ⟨23, [], .ip ((cat spinetlaw49_Op.v calls_).drop ((i_1 : Int).toNat * 5))⟩, ⟨24, [], .ip (((cat spinetlaw49_Op.v calls_).drop ((i_1 : Int).toNat * 5)).drop 1)⟩, ⟨25, [], .agg [.s (.int .i64 ((gt calls_ i_1).P).Id), .s (.int .i64 ((gt calls_ i_1).P).Kind), .s (.int .u16 ((gt calls_ i_1).P).From), .s (.int .u16 ((gt calls_ i_1).P).To)]⟩, ⟨26, [], .sl false calls_.length (cat spinetlaw49_Op.v calls_)⟩, ⟨27, [], .s (.int .i64 i_1)⟩, ⟨28, [], .ip ((cat spinetlaw49_Op.v calls_).drop ((i_1 : Int).toNat * 5))⟩, ⟨29, [], .ip (((cat spinetlaw49_Op.v calls_).drop ((i_1 : Int).toNat * 5)).drop 0)⟩, ⟨30, [], .s (.bool (gt calls_ i_1).Drop)⟩, ⟨63, [], .tup [.s (.int .i64 r_9.1), .s (.int .i64 r_9.2.1)]⟩, ⟨64, [], .ptr 1 0 0⟩, ⟨65, [], .ptr 4 0 1⟩, ⟨66, [], .s (.int .i64 ((gt calls_ i_1).P).Kind)⟩, ⟨67, [], .ptr 4 0 2⟩, ⟨68, [], .s (.int .u16 ((gt calls_ i_1).P).From)⟩, ⟨69, [], .ptr 4 0 3⟩, ⟨70, [], .s (.int .u16 ((gt calls_ i_1).P).To)⟩, ⟨71, [], .tup [.s (.int .i64 r_9.1), .s (.int .i64 r_9.2.1)]⟩, ⟨72, [], .s (.int .i64 r_9.1)⟩, ⟨73, [], .s (.int .i64 r_9.2.1)⟩, ⟨74, [], .ptr 4 0 3⟩, ⟨75, [], .s (.int .u16 ((gt calls_ i_1).P).To)⟩, ⟨76, [], .ptr 4 0 2⟩, ⟨77, [], .s (.int .u16 ((gt calls_ i_1).P).From)⟩, ⟨78, [], .s (.bool (decide (((gt calls_ i_1).P).To < ((gt calls_ i_1).P).From)))⟩, ⟨79, [], .ptr 4 0 1⟩, ⟨80, [], .s (.int .i64 ((gt calls_ i_1).P).Kind)⟩, ⟨81, [], .s (.bool (decide (((gt calls_ i_1).P).Kind < 0)))⟩, ⟨82, [], .s (.bool (decide (((gt calls_ i_1).P).Kind < 0)))⟩, ⟨86, [], .s (.bool ((decide (((gt calls_ i_1).P).Kind < 0)) || (decide (2 < ((gt calls_ i_1).P).Kind))))⟩] → kont Try.prog (spinetlaw49_made_L w_ ver_) (spinetlaw49_made_C w_ ver_ r) ((.c spinetlaw49_made_i46) :: ((.c spinetlaw49_made_i55) :: (.b 1) :: (.c spinetlaw49_made_i58) :: (.l R0) :: (.b 0) :: (.c spinetlaw49_made_i64) :: [])) .normal f [⟨(v_12 + 1), .grow, 4, cat watch_Point.v r_9.2.2.l⟩, ⟨0, .mem, 1, [.ref 0 (v_12 + 1) 0 r_9.2.2.l.length, .s (.int .i64 r_9.2.2.last)]⟩, ⟨0, .grow, 4, cat watch_Point.v ([] : List watch_Point)⟩, ⟨v_13, .grow, 4, cat watch_Point.v l_15⟩, ⟨0, .mem, 1, [.s (.int .i64 ((gt calls_ i_1).P).Id), .s (.int .i64 ((gt calls_ i_1).P).Kind), .s (.int .u16 ((gt calls_ i_1).P).From), .s (.int .u16 ((gt calls_ i_1).P).To)]⟩] := by
            intro want_5 h f hf
            unfold spinetlaw49_made_j1 at h
            refine k_c ?_
            refine k_seq ?_
            refine k_seq ?_
            refine k_reg ?_
            refine mops_en hf (by kernel_rfl) fun f1 hf1 => ?_
            refine k_c ?_
            have hj4 : ∀ (l_21 : (List watch_Point)) (last_6 : Int) (v_19 : Nat), spinetlaw49_made_j0 ((spinetlaw49_made_l2 calls_ n0)) calls_ i_1 r_9 want_5 l_21 last_6 = some o0 → ∀ f, FOk f [⟨0, [], .ptr 1 0 0⟩, ⟨1, [], .sl false calls_.length (cat spinetlaw49_Op.v calls_)⟩, ⟨4, [], .ref 2 0 0 0⟩, ⟨5, [], .s (.bool false)⟩, ⟨6, [], .ref 3 v_19 0 l_21.length⟩, ⟨7, [], .s (.int .i64 last_6)⟩, ⟨8, [], .s (.int .i64 i_1)⟩, ⟨9, [], .ptr 4 0 0⟩, ⟨12, [], .s (.int .i64 r_9.1)⟩, ⟨13, [], .s (.int .i64 r_9.2.1)⟩, ⟨14, [], .s (.int .i64 want_5)⟩, ⟨15, [], .s (.int .i64 i_1)⟩, ⟨16, [], .sl false calls_.length (cat spinetlaw49_Op.v calls_)⟩, ⟨17, [], .s (.int .i64 (ln calls_))⟩, ⟨18, [], .s (.bool (decide (i_1 < (ln calls_))))⟩, ⟨21, [], .sl false calls_.length (cat spinetlaw49_Op.v calls_)⟩, ⟨22, [], .s (.int .i64 i_1)⟩, ⟨23, [], .ip ((cat spinetlaw49_Op.v calls_).drop ((i_1 : Int).toNat * 5))⟩, ⟨24, [], .ip (((cat spinetlaw49_Op.v calls_).drop ((i_1 : Int).toNat * 5)).drop 1)⟩, ⟨25, [], .agg [.s (.int .i64 ((gt calls_ i_1).P).Id), .s (.int .i64 ((gt calls_ i_1).P).Kind), .s (.int .u16 ((gt calls_ i_1).P).From), .s (.int .u16 ((gt calls_ i_1).P).To)]⟩, ⟨26, [], .sl false calls_.length (cat spinetlaw49_Op.v calls_)⟩, ⟨27, [], .s (.int .i64 i_1)⟩, ⟨28, [], .ip ((cat spinetlaw49_Op.v calls_).drop ((i_1 : Int).toNat * 5))⟩, ⟨29, [], .ip (((cat spinetlaw49_Op.v calls_).drop ((i_1 : Int).toNat * 5)).drop 0)⟩, ⟨30, [], .s (.bool (gt calls_ i_1).Drop)⟩, ⟨63, [], .tup [.s (.int .i64 r_9.1), .s (.int .i64 r_9.2.1)]⟩, ⟨64, [], .ptr 1 0 0⟩, ⟨65, [], .ptr 4 0 1⟩, ⟨66, [], .s (.int .i64 ((gt calls_ i_1).P).Kind)⟩, ⟨67, [], .ptr 4 0 2⟩, ⟨68, [], .s (.int .u16 ((gt calls_ i_1).P).From)⟩, ⟨69, [], .ptr 4 0 3⟩, ⟨70, [], .s (.int .u16 ((gt calls_ i_1).P).To)⟩, ⟨71, [], .tup [.s (.int .i64 r_9.1), .s (.int .i64 r_9.2.1)]⟩, ⟨72, [], .s (.int .i64 r_9.1)⟩, ⟨73, [], .s (.int .i64 r_9.2.1)⟩, ⟨74, [], .ptr 4 0 3⟩, ⟨75, [], .s (.int .u16 ((gt calls_ i_1).P).To)⟩, ⟨76, [], .ptr 4 0 2⟩, ⟨77, [], .s (.int .u16 ((gt calls_ i_1).P).From)⟩, ⟨78, [], .s (.bool (decide (((gt calls_ i_1).P).To < ((gt calls_ i_1).P).From)))⟩, ⟨79, [], .ptr 4 0 1⟩, ⟨80, [], .s (.int .i64 ((gt calls_ i_1).P).Kind)⟩, ⟨81, [], .s (.bool (decide (((gt calls_ i_1).P).Kind < 0)))⟩, ⟨82, [], .s (.bool (decide (((gt calls_ i_1).P).Kind < 0)))⟩, ⟨86, [], .s (.bool ((decide (((gt calls_ i_1).P).Kind < 0)) || (decide (2 < ((gt calls_ i_1).P).Kind))))⟩, ⟨87, [], .s (.int .i64 want_5)⟩, ⟨88, [], .s (.bool (want_5 == 0))⟩] → kont Try.prog (spinetlaw49_made_L w_ ver_) (spinetlaw49_made_C w_ ver_ r) ((.c spinetlaw49_made_i45) :: ((.c spinetlaw49_made_i55) :: (.b 1) :: (.c spinetlaw49_made_i58) :: (.l R0) :: (.b 0) :: (.c spinetlaw49_made_i64) :: [])) .normal f [⟨(v_12 + 1), .grow, 4, cat watch_Point.v r_9.2.2.l⟩, ⟨0, .mem, 1, [.ref 0 (v_12 + 1) 0 r_9.2.2.l.length, .s (.int .i64 r_9.2.2.last)]⟩, ⟨0, .grow, 4, cat watch_Point.v ([] : List watch_Point)⟩, ⟨v_19, .grow, 4, cat watch_Point.v l_21⟩, ⟨0, .mem, 1, [.s (.int .i64 ((gt calls_ i_1).P).Id), .s (.int .i64 ((gt calls_ i_1).P).Kind), .s (.int .u16 ((gt calls_ i_1).P).From), .s (.int .u16 ((gt calls_ i_1).P).To)]⟩] := by
              intro l_21 last_6 v_19 h f hf
              unfold spinetlaw49_made_j0 at h
              refine k_c ?_
              refine k_seq ?_
              refine k_reg ?_
              refine mops_en hf (by kernel_rfl) fun f1 hf1 => ?_
              refine k_c ?_
              refine k_cond hf1 (t := (((r_9.2.1 != want_5) || ((want_5 == 0) && (r_9.1 != last_6))) || ((want_5 != 0) && (r_9.1 != 0)))) (by kernel_rfl) (fun hc15 => ?_) (fun hc15 => ?_)
              · have h := if_t h hc15
                refine k_seq ?_
                refine k_reg ?_
                refine mops_en hf1 (by kernel_rfl) fun f2 hf2 => ?_
                refine k_c ?_
                refine k_ret ?_
                refine x_c nofun ?_
                refine x_br ?_
                refine x_c nofun ?_
                refine x_l nofun ?_
                refine x_br ?_
                refine x_c nofun ?_
                obtain rfl := hret0 _ (Option.some.inj h)
                exact k_fin (fin_ret (.inl rfl) hf2 (vs := [.ref 5 0 0 0, .s (.bool false)]) (by kernel_rfl) (SettL.resetw (SettL.cutb (L' := [⟨(v_12 + 1), .grow, 4, cat watch_Point.v r_9.2.2.l⟩, ⟨0, .mem, 1, [.ref 0 (v_12 + 1) 0 r_9.2.2.l.length, .s (.int .i64 r_9.2.2.last)]⟩]) 2 (by kernel_rfl) (by kernel_rfl) (by kernel_rfl) ⟨.inr (.inr (statics_unders _ _ (cat_stat _))), .inr (.inr rfl), trivial⟩ (FzL.tup (FzsL.cons (FzL.whole (g := watch_Point.v) (kd := .grow) (l := ([] : List watch_Point)) (by kernel_rfl) rfl (live_grow (by kernel_rfl))) (FzsL.cons (FzL.stat rfl) FzsL.nil)))) (by simp [V.static, statics, cat_stat, spinetlaw49_made_V]) rfl rfl (cat_stat _) rfl))
              · have h := if_f h hc15
                refine k_skip ?_
                refine k_hp (L' := [⟨(v_12 + 1), .grow, 4, cat watch_Point.v r_9.2.2.l⟩, ⟨0, .mem, 1, [.ref 0 (v_12 + 1) 0 r_9.2.2.l.length, .s (.int .i64 r_9.2.2.last)]⟩, ⟨0, .grow, 4, cat watch_Point.v ([] : List watch_Point)⟩, ⟨v_19, .grow, 4, cat watch_Point.v l_21⟩, ⟨0, .mem, 1, [.s (.int .i64 ((gt calls_ i_1).P).Id), .s (.int .i64 ((gt calls_ i_1).P).Kind), .s (.int .u16 ((gt calls_ i_1).P).From), .s (.int .u16 ((gt calls_ i_1).P).To)]⟩]) (by kernel_rfl) ?_
                exact hj1 r_9.2.2.l r_9.2.2.last l_21 last_6 v_19 h _ (FOk_of [0, 1, 4, 5, 6, 7, 8, 9, 15, 16, 17, 18, 21, 22, 23, 24, 25, 26, 27, 28, 29, 30] hf1 (by kernel_rfl))
            refine k_cond hf1 (t := (want_5 == 0)) (by kernel_rfl) (fun hc13 => ?_) (fun hc13 => ?_)
            · have h := if_t h hc13
              refine k_seq ?_
              refine k_reg ?_
              refine mops_en hf1 (by kernel_rfl) fun f2 hf2 => ?_
              refine k_c ?_
              refine k_reg ?_
              refine mops_sg 10 hf2 (by kernel_rfl) fun f3 hf3 => ?_
              obtain ⟨c14, h⟩ := as_ok h
              refine mops_adv rfl (v := .ref 3 (v_13 + 1) 0 (l_15 ++ [(watch_Point.mk (IntKind.wrap .i64 (last_5 + 1)) (((gt calls_ i_1).P).Kind) (((gt calls_ i_1).P).From) (((gt calls_ i_1).P).To))]).length) hf3 (by kernel_rfl) (e_app (g := watch_Point.v) (l := l_15) (l' := [(watch_Point.mk (IntKind.wrap .i64 (last_5 + 1)) (((gt calls_ i_1).P).Kind) (((gt calls_ i_1).P).From) (((gt calls_ i_1).P).To))]) (b := 3) (ver := v_13) (n := l_15.length) rfl (by kernel_rfl) rfl (live_grow (by kernel_rfl)) (sll_ev (v := .ref 5 0 0 1) (by kernel_rfl) (sll_ref (B := ⟨0, .grow, 4, cat watch_Point.v [(watch_Point.mk (IntKind.wrap .i64 (last_5 + 1)) (((gt calls_ i_1).P).Kind) (((gt calls_ i_1).P).From) (((gt calls_ i_1).P).To))]⟩) (by kernel_rfl) (live_grow (by kernel_rfl)))) (slc_ev (v := .ref 5 0 0 1) (by kernel_rfl) (slc_ref (g := watch_Point.v) (l := [(watch_Point.mk (IntKind.wrap .i64 (last_5 + 1)) (((gt calls_ i_1).P).Kind) (((gt calls_ i_1).P).From) (((gt calls_ i_1).P).To))]) (kd := .grow) (q := 4) (by kernel_rfl) (live_grow (by kernel_rfl)))) c14) fun f4 hf4 => ?_
              refine mops_en hf4 (by kernel_rfl) fun f5 hf5 => ?_
              refine k_c' (vs_vs (vs_cut (l := [⟨0, [], .ptr 1 0 0⟩, ⟨1, [], .sl false calls_.length (cat spinetlaw49_Op.v calls_)⟩, ⟨4, [], .ref 2 0 0 0⟩, ⟨5, [], .s (.bool false)⟩, ⟨6, [], .ref 3 (v_13 + 1) 0 (l_15 ++ [(watch_Point.mk (IntKind.wrap .i64 (last_5 + 1)) (((gt calls_ i_1).P).Kind) (((gt calls_ i_1).P).From) (((gt calls_ i_1).P).To))]).length⟩, ⟨7, [], .s (.int .i64 (IntKind.wrap .i64 (last_5 + 1)))⟩, ⟨8, [], .s (.int .i64 i_1)⟩, ⟨9, [], .ptr 4 0 0⟩, ⟨12, [], .s (.int .i64 r_9.1)⟩, ⟨13, [], .s (.int .i64 r_9.2.1)⟩, ⟨14, [], .s (.int .i64 want_5)⟩, ⟨15, [], .s (.int .i64 i_1)⟩, ⟨16, [], .sl false calls_.length (cat spinetlaw49_Op.v calls_)⟩, ⟨17, [], .s (.int .i64 (ln calls_))⟩, ⟨18, [], .s (.bool (decide (i_1 < (ln calls_))))⟩, ⟨21, [], .sl false calls_.length (cat spinetlaw49_Op.v calls_)⟩, ⟨22, [], .s (.int .i64 i_1)⟩, ⟨23, [], .ip ((cat spinetlaw49_Op.v calls_).drop ((i_1 : Int).toNat * 5))⟩, ⟨24, [], .ip (((cat spinetlaw49_Op.v calls_).drop ((i_1 : Int).toNat * 5)).drop 1)⟩, ⟨25, [], .agg [.s (.int .i64 ((gt calls_ i_1).P).Id), .s (.int .i64 ((gt calls_ i_1).P).Kind), .s (.int .u16 ((gt calls_ i_1).P).From), .s (.int .u16 ((gt calls_ i_1).P).To)]⟩, ⟨26, [], .sl false calls_.length (cat spinetlaw49_Op.v calls_)⟩, ⟨27, [], .s (.int .i64 i_1)⟩, ⟨28, [], .ip ((cat spinetlaw49_Op.v calls_).drop ((i_1 : Int).toNat * 5))⟩, ⟨29, [], .ip (((cat spinetlaw49_Op.v calls_).drop ((i_1 : Int).toNat * 5)).drop 0)⟩, ⟨30, [], .s (.bool (gt calls_ i_1).Drop)⟩, ⟨63, [], .tup [.s (.int .i64 r_9.1), .s (.int .i64 r_9.2.1)]⟩, ⟨64, [], .ptr 1 0 0⟩, ⟨65, [], .ptr 4 0 1⟩, ⟨66, [], .s (.int .i64 ((gt calls_ i_1).P).Kind)⟩, ⟨67, [], .ptr 4 0 2⟩, ⟨68, [], .s (.int .u16 ((gt calls_ i_1).P).From)⟩, ⟨69, [], .ptr 4 0 3⟩, ⟨70, [], .s (.int .u16 ((gt calls_ i_1).P).To)⟩, ⟨71, [], .tup [.s (.int .i64 r_9.1), .s (.int .i64 r_9.2.1)]⟩, ⟨72, [], .s (.int .i64 r_9.1)⟩, ⟨73, [], .s (.int .i64 r_9.2.1)⟩, ⟨74, [], .ptr 4 0 3⟩, ⟨75, [], .s (.int .u16 ((gt calls_ i_1).P).To)⟩, ⟨76, [], .ptr 4 0 2⟩, ⟨77, [], .s (.int .u16 ((gt calls_ i_1).P).From)⟩, ⟨78, [], .s (.bool (decide (((gt calls_ i_1).P).To < ((gt calls_ i_1).P).From)))⟩, ⟨79, [], .ptr 4 0 1⟩, ⟨80, [], .s (.int .i64 ((gt calls_ i_1).P).Kind)⟩, ⟨81, [], .s (.bool (decide (((gt calls_ i_1).P).Kind < 0)))⟩, ⟨82, [], .s (.bool (decide (((gt calls_ i_1).P).Kind < 0)))⟩, ⟨86, [], .s (.bool ((decide (((gt calls_ i_1).P).Kind < 0)) || (decide (2 < ((gt calls_ i_1).P).Kind))))⟩, ⟨87, [], .s (.int .i64 want_5)⟩, ⟨88, [], .s (.bool (want_5 == 0))⟩]) 5 (by kernel_rfl) (by kernel_rfl) (L' := [⟨(v_12 + 1), .grow, 4, cat watch_Point.v r_9.2.2.l⟩, ⟨0, .mem, 1, [.ref 0 (v_12 + 1) 0 r_9.2.2.l.length, .s (.int .i64 r_9.2.2.last)]⟩, ⟨0, .grow, 4, cat watch_Point.v ([] : List watch_Point)⟩, ⟨(v_13 + 1), .grow, 4, cat watch_Point.v (l_15 ++ [(watch_Point.mk (IntKind.wrap .i64 (last_5 + 1)) (((gt calls_ i_1).P).Kind) (((gt calls_ i_1).P).From) (((gt calls_ i_1).P).To))])⟩, ⟨0, .mem, 1, [.s (.int .i64 ((gt calls_ i_1).P).Id), .s (.int .i64 ((gt calls_ i_1).P).Kind), .s (.int .u16 ((gt calls_ i_1).P).From), .s (.int .u16 ((gt calls_ i_1).P).To)]⟩]) (by kernel_rfl) ⟨⟨rfl, rfl⟩, ⟨rfl, (static_under _ _ (by simp [V.static, statics, cat_stat, dropcat_stat]))⟩, ⟨rfl, rfl⟩, ⟨rfl, rfl⟩, ⟨rfl, rfl⟩, ⟨rfl, rfl⟩, ⟨rfl, rfl⟩, ⟨rfl, rfl⟩, ⟨rfl, rfl⟩, ⟨rfl, rfl⟩, ⟨rfl, rfl⟩, ⟨rfl, rfl⟩, ⟨rfl, (static_under _ _ (by simp [V.static, statics, cat_stat, dropcat_stat]))⟩, ⟨rfl, rfl⟩, ⟨rfl, rfl⟩, ⟨rfl, (static_under _ _ (by simp [V.static, statics, cat_stat, dropcat_stat]))⟩, ⟨rfl, rfl⟩, ⟨rfl, (static_under _ _ (by simp [V.static, statics, cat_stat, dropcat_stat]))⟩, ⟨rfl, (static_under _ _ (by simp [V.static, statics, cat_stat, dropcat_stat]))⟩, ⟨rfl, rfl⟩, ⟨rfl, (static_under _ _ (by simp [V.static, statics, cat_stat, dropcat_stat]))⟩, ⟨rfl, rfl⟩, ⟨rfl, (static_under _ _ (by simp [V.static, statics, cat_stat, dropcat_stat]))⟩, ⟨rfl, (static_under _ _ (by simp [V.static, statics, cat_stat, dropcat_stat]))⟩, ⟨rfl, rfl⟩, ⟨rfl, rfl⟩, ⟨rfl, rfl⟩, ⟨rfl, rfl⟩, ⟨rfl, rfl⟩, ⟨rfl, rfl⟩, ⟨rfl, rfl⟩, ⟨rfl, rfl⟩, ⟨rfl, rfl⟩, ⟨rfl, rfl⟩, ⟨rfl, rfl⟩, ⟨rfl, rfl⟩, ⟨rfl, rfl⟩, ⟨rfl, rfl⟩, ⟨rfl, rfl⟩, ⟨rfl, rfl⟩, ⟨rfl, rfl⟩, ⟨rfl, rfl⟩, ⟨rfl, rfl⟩, ⟨rfl, rfl⟩, ⟨rfl, rfl⟩, ⟨rfl, rfl⟩, ⟨rfl, rfl⟩, ⟨rfl, rfl⟩, trivial⟩ ⟨.inr (.inr (statics_unders _ _ (cat_stat _))), .inr (.inr rfl), .inr (.inr (statics_unders _ _ (cat_stat _))), .inr (.inr (statics_unders _ _ (cat_stat _))), .inr (.inr rfl), trivial⟩ (FOk_of [0, 1, 4, 5, 6, 7, 8, 9, 12, 13, 14, 15, 16, 17, 18, 21, 22, 23, 24, 25, 26, 27, 28, 29, 30, 63, 64, 65, 66, 67, 68, 69, 70, 71, 72, 73, 74, 75, 76, 77, 78, 79, 80, 81, 82, 86, 87, 88] hf5 (by kernel_rfl)) fun f hf => ?_))
              exact k_un (hj4 (l_15 ++ [(watch_Point.mk (IntKind.wrap .i64 (last_5 + 1)) (((gt calls_ i_1).P).Kind) (((gt calls_ i_1).P).From) (((gt calls_ i_1).P).To))]) (IntKind.wrap .i64 (last_5 + 1)) (v_13 + 1) h _ hf)
            · have h := if_f h hc13
              refine k_skip ?_
              refine k_hp (L' := [⟨(v_12 + 1), .grow, 4, cat watch_Point.v r_9.2.2.l⟩, ⟨0, .mem, 1, [.ref 0 (v_12 + 1) 0 r_9.2.2.l.length, .s (.int .i64 r_9.2.2.last)]⟩, ⟨0, .grow, 4, cat watch_Point.v ([] : List watch_Point)⟩, ⟨v_13, .grow, 4, cat watch_Point.v l_15⟩, ⟨0, .mem, 1, [.s (.int .i64 ((gt calls_ i_1).P).Id), .s (.int .i64 ((gt calls_ i_1).P).Kind), .s (.int .u16 ((gt calls_ i_1).P).From), .s (.int .u16 ((gt calls_ i_1).P).To)]⟩]) (by kernel_rfl) ?_
              exact hj4 l_15 last_5 v_13 h _ (FOk_of [0, 1, 4, 5, 6, 7, 8, 9, 12, 13, 14, 15, 16, 17, 18, 21, 22, 23, 24, 25, 26, 27, 28, 29, 30, 63, 64, 65, 66, 67, 68, 69, 70, 71, 72, 73, 74, 75, 76, 77, 78, 79, 80, 81, 82, 86, 87, 88] hf1 (by kernel_rfl))
          refine k_cond hf1 (t := ((decide (((gt calls_ i_1).P).Kind < 0)) || (decide (2 < ((gt calls_ i_1).P).Kind)))) (by kernel_rfl) (fun hc12 => ?_) (fun hc12 => ?_)
          · have h := if_t h hc12
            refine k_reg ?_
            refine mops_en hf1 (by kernel_rfl) fun f2 hf2 => ?_
            refine k_hp (L' := [⟨(v_12 + 1), .grow, 4, cat watch_Point.v r_9.2.2.l⟩, ⟨0, .mem, 1, [.ref 0 (v_12 + 1) 0 r_9.2.2.l.length, .s (.int .i64 r_9.2.2.last)]⟩, ⟨0, .grow, 4, cat watch_Point.v ([] : List watch_Point)⟩, ⟨v_13, .grow, 4, cat watch_Point.v l_15⟩, ⟨0, .mem, 1, [.s (.int .i64 ((gt calls_ i_1).P).Id), .s (.int .i64 ((gt calls_ i_1).P).Kind), .s (.int .u16 ((gt calls_ i_1).P).From), .s (.int .u16 ((gt calls_ i_1).P).To)]⟩]) (by kernel_rfl) ?_
            exact hj3 (10) h _ (FOk_of [0, 1, 4, 5, 6, 7, 8, 9, 12, 13, 14, 15, 16, 17, 18, 21, 22, 23, 24, 25, 26, 27, 28, 29, 30, 63, 64, 65, 66, 67, 68, 69, 70, 71, 72, 73, 74, 75, 76, 77, 78, 79, 80, 81, 82, 86] hf2 (by kernel_rfl))
          · have h := if_f h hc12
            refine k_skip ?_
            refine k_hp (L' := [⟨(v_12 + 1), .grow, 4, cat watch_Point.v r_9.2.2.l⟩, ⟨0, .mem, 1, [.ref 0 (v_12 + 1) 0 r_9.2.2.l.length, .s (.int .i64 r_9.2.2.last)]⟩, ⟨0, .grow, 4, cat watch_Point.v ([] : List watch_Point)⟩, ⟨v_13, .grow, 4, cat watch_Point.v l_15⟩, ⟨0, .mem, 1, [.s (.int .i64 ((gt calls_ i_1).P).Id), .s (.int .i64 ((gt calls_ i_1).P).Kind), .s (.int .u16 ((gt calls_ i_1).P).From), .s (.int .u16 ((gt calls_ i_1).P).To)]⟩]) (by kernel_rfl) ?_
            exact hj3 want_4 h _ (FOk_of [0, 1, 4, 5, 6, 7, 8, 9, 12, 13, 14, 15, 16, 17, 18, 21, 22, 23, 24, 25, 26, 27, 28, 29, 30, 63, 64, 65, 66, 67, 68, 69, 70, 71, 72, 73, 74, 75, 76, 77, 78, 79, 80, 81, 82, 86] hf1 (by kernel_rfl))
        refine k_cond hf16 (t := (decide (((gt calls_ i_1).P).To < ((gt calls_ i_1).P).From))) (by kernel_rfl) (fun hc11 => ?_) (fun hc11 => ?_)
        · have h := if_t h hc11
          refine k_reg ?_
          refine mops_en hf16 (by kernel_rfl) fun f17 hf17 => ?_
          refine k_hp (L' := [⟨(v_12 + 1), .grow, 4, cat watch_Point.v r_9.2.2.l⟩, ⟨0, .mem, 1, [.ref 0 (v_12 + 1) 0 r_9.2.2.l.length, .s (.int .i64 r_9.2.2.last)]⟩, ⟨0, .grow, 4, cat watch_Point.v ([] : List watch_Point)⟩, ⟨v_13, .grow, 4, cat watch_Point.v l_15⟩, ⟨0, .mem, 1, [.s (.int .i64 ((gt calls_ i_1).P).Id), .s (.int .i64 ((gt calls_ i_1).P).Kind), .s (.int .u16 ((gt calls_ i_1).P).From), .s (.int .u16 ((gt calls_ i_1).P).To)]⟩]) (by kernel_rfl) ?_
          exact hj2 (11) h _ (FOk_of [0, 1, 4, 5, 6, 7, 8, 9, 12, 13, 14, 15, 16, 17, 18, 21, 22, 23, 24, 25, 26, 27, 28, 29, 30, 63, 64, 65, 66, 67, 68, 69, 70, 71, 72, 73, 74, 75, 76, 77, 78] hf17 (by kernel_rfl))
        · have h := if_f h hc11
          refine k_skip ?_
          exact hj2 (0) h _ (FOk_of [0, 1, 4, 5, 6, 7, 8, 9, 12, 13, 14, 15, 16, 17, 18, 21, 22, 23, 24, 25, 26, 27, 28, 29, 30, 63, 64, 65, 66, 67, 68, 69, 70, 71, 72, 73, 74, 75, 76, 77, 78] hf16 (by kernel_rfl))
    · have h := if_f h hc1
      refine k_exit ?_
      refine x_c nofun ?_
      refine x_l nofun ?_
      refine x_b ?_
      refine k_hp (L' := [⟨v_12, .grow, 4, cat watch_Point.v l_14⟩, ⟨0, .mem, 1, [.ref 0 v_12 0 l_14.length, .s (.int .i64 m_3)]⟩, ⟨0, .grow, 4, cat watch_Point.v ([] : List watch_Point)⟩, ⟨v_13, .grow, 4, cat watch_Point.v l_15⟩]) (by kernel_rfl) ?_
      exact hgo0 l_14 m_3 l_15 v_12 v_13 (Option.some.inj h) _ (FOk_of [4, 5, 6] hf1 (by kernel_rfl))
end Go.Proofs.YtfdadnldlngmeaaK
