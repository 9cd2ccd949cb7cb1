/- The Go functions come to the functions over typed data. Printed by a program of this work. -/
import Derived.Test.YtfdadnldlngmeaaF
import Derived.Test.YtfdadnldlngmeaaProg
import Derived.Test.YtfdadnldlngmeaaRq
import Derived.Test.YtfdadnldlngmeaaSh
namespace Go.Proofs.YtfdadnldlngmeaaK
set_option linter.unusedVariables false
set_option linter.unusedSimpArgs false
set_option maxHeartbeats 4000000
open Go.RowKit
attribute [local irreducible] dwv mops lops lqops lwops kont iter run runK rk okK ex E1 vals val chain chB sel resF
def watch_Watch_Drop_1_i0 : List Op1 := [(oE 2 (.box (.t 0)) []), (oM 3 (.k (.bool false)) [])]
def watch_Watch_Drop_1_i1 : List Op1 := [(oE 4 (.fld 0 (.t 2)) []), (oE 5 (.load false 1 (.t 4)) [0]), (oE 6 (.load false 1 (.t 1)) []), (oE 7 (.bin .eql (.t 5) (.t 6)) [1, 2]), (oM 3 (.t 7) [3, 0, 1, 2, 3])]
def watch_Watch_Drop_1_i2 : IR := .ret
def watch_Watch_Drop_1_i3 : IR := (.seq (.reg false watch_Watch_Drop_1_i1) watch_Watch_Drop_1_i2)
def watch_Watch_Drop_1_ir : IR := (.seq (.reg false watch_Watch_Drop_1_i0) watch_Watch_Drop_1_i3)
theorem watch_Watch_Drop_1_cfn : cFn Try.prog 46 = some (watch_Watch_Drop_1_ir, [(.t 3)], 8) := by kernel_rfl
def watch_Watch_Drop_1_V (r : (Bool)) : V := .s (.bool r)
def watch_Watch_Drop_1_C (r : (Bool)) : X → Fr → Hp → Prop := FinL [(.t 3)] [] (watch_Watch_Drop_1_V r) []
theorem watch_Watch_Drop_1_ok (p_ : watch_Point) (caught_ : Int) (r : (Bool)) (h : watch_Watch_Drop_1 p_ caught_ = some r) : Pure Try.prog 46 [.agg [.s (.int .i64 p_.Id), .s (.int .i64 p_.Kind), .s (.int .u16 p_.From), .s (.int .u16 p_.To)], .ip [.s (.int .i64 caught_)]] (watch_Watch_Drop_1_V r) := by
  refine ConL.of watch_Watch_Drop_1_cfn (Nat.le_of_ble_eq_true (by kernel_rfl)) (Nat.le_of_ble_eq_true (by kernel_rfl)) ?_
  refine k_start ?_
  show dwv Try.prog [] watch_Watch_Drop_1_ir (kont Try.prog [] (watch_Watch_Drop_1_C r) []) (fr0 [.agg [.s (.int .i64 p_.Id), .s (.int .i64 p_.Kind), .s (.int .u16 p_.From), .s (.int .u16 p_.To)], .ip [.s (.int .i64 caught_)]]) []
  have hf : FOk (fr0 [.agg [.s (.int .i64 p_.Id), .s (.int .i64 p_.Kind), .s (.int .u16 p_.From), .s (.int .u16 p_.To)], .ip [.s (.int .i64 caught_)]]) [⟨0, [], .agg [.s (.int .i64 p_.Id), .s (.int .i64 p_.Kind), .s (.int .u16 p_.From), .s (.int .u16 p_.To)]⟩, ⟨1, [], .ip [.s (.int .i64 caught_)]⟩] := ⟨⟨fun _ => rfl, fun h => (h trivial).elim⟩, ⟨fun _ => rfl, fun h => (h trivial).elim⟩, trivial⟩
  generalize fr0 [.agg [.s (.int .i64 p_.Id), .s (.int .i64 p_.Kind), .s (.int .u16 p_.From), .s (.int .u16 p_.To)], .ip [.s (.int .i64 caught_)]] = f at hf ⊢
  unfold watch_Watch_Drop_1 at h
  refine k_seq ?_
  refine k_reg ?_
  refine mops_en hf (by kernel_rfl) fun f1 hf1 => ?_
  refine k_c ?_
  refine k_seq ?_
  refine k_reg ?_
  refine mops_en hf1 (by kernel_rfl) fun f2 hf2 => ?_
  refine k_c ?_
  refine k_ret ?_
  obtain rfl := Option.some.inj h
  exact k_fin (fin_ret (.inl rfl) hf2 (vs := [.s (.bool (p_.Id == caught_))]) (by kernel_rfl) (SettL.pure (FzL.stat rfl)))
def watch_Watch_Add_i0 : List Op1 := [(oM 8 (.k (.int .i64 0)) []), (oM 9 (.k (.int .i64 0)) [0])]
def watch_Watch_Add_i1 : List Op1 := [(oM 11 (.t 1) []), (oE 12 (.bin .lss (.t 11) (.k (.int .i64 0))) [0]), (oM 13 (.t 12) [1]), (oG 14 (.mv (.t 1)) 13 false [2]), (oG 15 (.bin .gtr (.t 14) (.k (.int .i64 2))) 13 false [3, 2]), (oE 16 (.pick (.t 13) (.k (.bool true)) (.t 15)) [2, 4]), (oM 10 (.t 16) [5, 2])]
def watch_Watch_Add_i2 : List Op1 := [(oM 8 (.k (.int .i64 0)) []), (oM 9 (.k (.int .i64 10)) [0, 0])]
def watch_Watch_Add_i3 : IR := .ret
def watch_Watch_Add_i4 : List Op1 := [(oM 18 (.t 3) []), (oM 19 (.t 2) []), (oE 20 (.bin .lss (.t 18) (.t 19)) [0, 1]), (oM 17 (.t 20) [2])]
def watch_Watch_Add_i5 : List Op1 := [(oM 8 (.k (.int .i64 0)) []), (oM 9 (.k (.int .i64 11)) [0, 0])]
def watch_Watch_Add_i6 : IR := .ret
def watch_Watch_Add_i7 : IR := (.cond (.t 17) (.seq (.reg false watch_Watch_Add_i5) watch_Watch_Add_i6) .skip)
def watch_Watch_Add_i8 : IR := (.cond (.t 10) (.seq (.reg false watch_Watch_Add_i2) watch_Watch_Add_i3) (.seq (.reg false watch_Watch_Add_i4) watch_Watch_Add_i7))
def watch_Watch_Add_i9 : List Op1 := [(oM 21 (.t 0) []), (oE 22 (.nilc (.t 21)) [0]), (oE 23 (.fld 1 (.t 22)) [1]), (oE 24 (.load false 1 (.t 23)) [2]), (oE 25 (.bin .add (.t 24) (.k (.int .i64 1))) [3]), (oE 26 (.nilc (.t 21)) [0, 0, 1, 2, 3, 4]), (oE 27 (.fld 1 (.t 26)) [5, 0, 1, 2, 3, 4]), (oN (.store 1 (.t 27) (.t 25)) [6, 4, 0, 1, 2, 3, 4])]
def watch_Watch_Add_i10 : List An := [(aO (oM 28 (.t 0) []) false 0 2), (aO (oM 29 (.t 0) []) false 0 1), (aO (oE 30 (.nilc (.t 29)) [1]) false 0 1), (aO (oE 31 (.fld 0 (.t 30)) [2]) false 0 1), (aO (oE 32 (.load false 1 (.t 31)) [3]) false 0 1), (aO (oM 33 (.t 0) []) false 0 0), (aO (oE 34 (.nilc (.t 33)) [5]) false 0 0), (aO (oE 35 (.fld 1 (.t 34)) [6]) false 0 0), (aO (oE 36 (.load false 1 (.t 35)) [7]) false 0 0), (aO (oM 37 (.t 1) []) false 0 0), (aO (oM 38 (.t 2) []) false 0 0), (aO (oM 39 (.t 3) []) false 0 0), (aO (oE 40 (.build [(.int .i64 0), (.int .i64 0), (.int .u16 0), (.int .u16 0)] [(0, (1, (.t 36))), (1, (1, (.t 37))), (2, (1, (.t 38))), (3, (1, (.t 39)))]) [8, 9, 10, 11]) false 0 0), (aO (oE 41 (.bslo 4 1 [(.int .i64 0), (.int .i64 0), (.int .u16 0), (.int .u16 0)] [(0, (4, (.t 40)))]) [12]) true 0 1), (aO (oE 42 (.app 61 4 24 (.t 32) (.t 41)) [4, 13]) true 1 2), (aO (oE 43 (.nilc (.t 28)) [0, 0, 1, 2, 3, 4, 5, 6, 7, 8, 9, 10, 11, 12, 13, 14]) false 2 2), (aO (oE 44 (.fld 0 (.t 43)) [15, 0, 1, 2, 3, 4, 5, 6, 7, 8, 9, 10, 11, 12, 13, 14]) false 2 2), (aO (oN (.store 1 (.t 44) (.t 42)) [16, 14, 14, 0, 1, 2, 3, 4, 5, 6, 7, 8, 9, 10, 11, 12, 13, 14]) true 2 3)]
def watch_Watch_Add_i11 : List Op1 := [(oM 45 (.t 0) []), (oE 46 (.nilc (.t 45)) [0]), (oE 47 (.fld 1 (.t 46)) [1]), (oE 48 (.load false 1 (.t 47)) [2]), (oM 8 (.t 48) [3, 0, 1, 2, 3]), (oM 9 (.k (.int .i64 0)) [4, 0, 1, 2, 3, 4])]
def watch_Watch_Add_i12 : IR := .ret
def watch_Watch_Add_i13 : IR := (.seq (.reg false watch_Watch_Add_i11) watch_Watch_Add_i12)
def watch_Watch_Add_i14 : IR := (.seq (.regw watch_Watch_Add_i10) watch_Watch_Add_i13)
def watch_Watch_Add_i15 : IR := (.seq (.reg false watch_Watch_Add_i9) watch_Watch_Add_i14)
def watch_Watch_Add_i16 : IR := (.seq (.block 0 (.seq (.reg false watch_Watch_Add_i1) watch_Watch_Add_i8)) watch_Watch_Add_i15)
def watch_Watch_Add_ir : IR := (.seq (.reg false watch_Watch_Add_i0) watch_Watch_Add_i16)
theorem watch_Watch_Add_cfn : cFn Try.prog 23 = some (watch_Watch_Add_ir, [(.t 8), (.t 9)], 49) := by kernel_rfl
def watch_Watch_Add_V (ver_ : Nat) (r : (Int × Int × watch_Watch)) : V := .tup [.s (.int .i64 r.1), .s (.int .i64 r.2.1)]
def watch_Watch_Add_L (w_ : watch_Watch) (ver_ : Nat) : Hp := [⟨ver_, .grow, 4, cat watch_Point.v w_.l⟩, ⟨0, .mem, 1, [.ref 0 ver_ 0 w_.l.length, .s (.int .i64 w_.last)]⟩]
def watch_Watch_Add_C (w_ : watch_Watch) (ver_ : Nat) (r : (Int × Int × watch_Watch)) : X → Fr → Hp → Prop := FinL [(.t 8), (.t 9)] (watch_Watch_Add_L w_ ver_) (watch_Watch_Add_V ver_ r) [⟨(ver_ + 1), .grow, 4, cat watch_Point.v r.2.2.l⟩, ⟨0, .mem, 1, [.ref 0 (ver_ + 1) 0 r.2.2.l.length, .s (.int .i64 r.2.2.last)]⟩]
theorem watch_Watch_Add_ok (w_ : watch_Watch) (kind_ : Int) (from_ : Int) (to_ : Int) (ver_ : Nat) (r : (Int × Int × watch_Watch)) (h : watch_Watch_Add w_ kind_ from_ to_ = some r) : ConL Try.prog 23 [.ptr 1 0 0, .s (.int .i64 kind_), .s (.int .u16 from_), .s (.int .u16 to_)] [⟨ver_, .grow, 4, cat watch_Point.v w_.l⟩, ⟨0, .mem, 1, [.ref 0 ver_ 0 w_.l.length, .s (.int .i64 w_.last)]⟩] (watch_Watch_Add_V ver_ r) [⟨(ver_ + 1), .grow, 4, cat watch_Point.v r.2.2.l⟩, ⟨0, .mem, 1, [.ref 0 (ver_ + 1) 0 r.2.2.l.length, .s (.int .i64 r.2.2.last)]⟩] := by
  refine ConL.of watch_Watch_Add_cfn (Nat.le_of_ble_eq_true (by kernel_rfl)) (Nat.le_of_ble_eq_true (by kernel_rfl)) ?_
  refine k_start ?_
  show dwv Try.prog (watch_Watch_Add_L w_ ver_) watch_Watch_Add_ir (kont Try.prog (watch_Watch_Add_L w_ ver_) (watch_Watch_Add_C w_ ver_ r) []) (fr0 [.ptr 1 0 0, .s (.int .i64 kind_), .s (.int .u16 from_), .s (.int .u16 to_)]) [⟨ver_, .grow, 4, cat watch_Point.v w_.l⟩, ⟨0, .mem, 1, [.ref 0 ver_ 0 w_.l.length, .s (.int .i64 w_.last)]⟩]
  have hf : FOk (fr0 [.ptr 1 0 0, .s (.int .i64 kind_), .s (.int .u16 from_), .s (.int .u16 to_)]) [⟨0, [], .ptr 1 0 0⟩, ⟨1, [], .s (.int .i64 kind_)⟩, ⟨2, [], .s (.int .u16 from_)⟩, ⟨3, [], .s (.int .u16 to_)⟩] := ⟨⟨fun _ => rfl, fun h => (h trivial).elim⟩, ⟨fun _ => rfl, fun h => (h trivial).elim⟩, ⟨fun _ => rfl, fun h => (h trivial).elim⟩, ⟨fun _ => rfl, fun h => (h trivial).elim⟩, trivial⟩
  generalize fr0 [.ptr 1 0 0, .s (.int .i64 kind_), .s (.int .u16 from_), .s (.int .u16 to_)] = f at hf ⊢
  unfold watch_Watch_Add at h
  refine k_seq ?_
  refine k_reg ?_
  refine mops_en hf (by kernel_rfl) fun f1 hf1 => ?_
  refine k_c ?_
  refine k_seq ?_
  refine k_block ?_
  refine k_seq ?_
  refine k_reg ?_
  refine mops_en hf1 (by kernel_rfl) fun f2 hf2 => ?_
  refine k_c ?_
  refine k_cond hf2 (t := ((decide (kind_ < 0)) || (decide (2 < kind_)))) (by kernel_rfl) (fun hc1 => ?_) (fun hc1 => ?_)
  · have h := if_t h hc1
    refine k_seq ?_
    refine k_reg ?_
    refine mops_en hf2 (by kernel_rfl) fun f3 hf3 => ?_
    refine k_c ?_
    refine k_ret ?_
    refine x_br ?_
    refine x_c nofun ?_
    obtain rfl := Option.some.inj h
    exact k_fin (fin_ret (.inl rfl) hf3 (vs := [.s (.int .i64 0), .s (.int .i64 10)]) (by kernel_rfl) (SettL.resetw (SettL.cutb (L' := [⟨ver_, .grow, 4, cat watch_Point.v w_.l⟩, ⟨0, .mem, 1, [.ref 0 ver_ 0 w_.l.length, .s (.int .i64 w_.last)]⟩]) 2 (by kernel_rfl) (by kernel_rfl) (by kernel_rfl) ⟨.inr (.inr (statics_unders _ _ (cat_stat _))), .inr (.inr rfl), trivial⟩ (FzL.tup (FzsL.cons (FzL.stat rfl) (FzsL.cons (FzL.stat rfl) FzsL.nil)))) rfl rfl rfl (cat_stat _) rfl))
  · have h := if_f h hc1
    refine k_seq ?_
    refine k_reg ?_
    refine mops_en hf2 (by kernel_rfl) fun f3 hf3 => ?_
    refine k_c ?_
    refine k_cond hf3 (t := (decide (to_ < from_))) (by kernel_rfl) (fun hc2 => ?_) (fun hc2 => ?_)
    · have h := if_t h hc2
      refine k_seq ?_
      refine k_reg ?_
      refine mops_en hf3 (by kernel_rfl) fun f4 hf4 => ?_
      refine k_c ?_
      refine k_ret ?_
      refine x_br ?_
      refine x_c nofun ?_
      obtain rfl := Option.some.inj h
      exact k_fin (fin_ret (.inl rfl) hf4 (vs := [.s (.int .i64 0), .s (.int .i64 11)]) (by kernel_rfl) (SettL.resetw (SettL.cutb (L' := [⟨ver_, .grow, 4, cat watch_Point.v w_.l⟩, ⟨0, .mem, 1, [.ref 0 ver_ 0 w_.l.length, .s (.int .i64 w_.last)]⟩]) 2 (by kernel_rfl) (by kernel_rfl) (by kernel_rfl) ⟨.inr (.inr (statics_unders _ _ (cat_stat _))), .inr (.inr rfl), trivial⟩ (FzL.tup (FzsL.cons (FzL.stat rfl) (FzsL.cons (FzL.stat rfl) FzsL.nil)))) rfl rfl rfl (cat_stat _) rfl))
    · have h := if_f h hc2
      refine k_skip ?_
      refine k_b ?_
      refine k_c ?_
      refine k_seq ?_
      refine k_reg ?_
      refine mops_en hf3 (by kernel_rfl) fun f4 hf4 => ?_
      refine k_c ?_
      refine k_seq ?_
      refine k_regw ?_
      refine lw_free' (dst := (some 28)) (op := (.mv (.t 0))) (aft := []) (lo := 0) (hi := 2) (v := .ptr 1 0 0) (by kernel_rfl) (by kernel_rfl) hf4 (by kernel_rfl) (by kernel_rfl) trivial fun f5 hf5 => ?_
      refine lw_free' (dst := (some 29)) (op := (.mv (.t 0))) (aft := []) (lo := 0) (hi := 1) (v := .ptr 1 0 0) (by kernel_rfl) (by kernel_rfl) hf5 (by kernel_rfl) (by kernel_rfl) trivial fun f6 hf6 => ?_
      refine lw_free' (dst := (some 30)) (op := (.nilc (.t 29))) (aft := [1]) (lo := 0) (hi := 1) (v := .ptr 1 0 0) (by kernel_rfl) (by kernel_rfl) hf6 (by kernel_rfl) (by kernel_rfl) trivial fun f7 hf7 => ?_
      refine lw_free' (dst := (some 31)) (op := (.fld 0 (.t 30))) (aft := [2]) (lo := 0) (hi := 1) (v := .ptr 1 0 0) (by kernel_rfl) (by kernel_rfl) hf7 (by kernel_rfl) (by kernel_rfl) trivial fun f8 hf8 => ?_
      refine lw_free' (dst := (some 32)) (op := (.load false 1 (.t 31))) (aft := [3]) (lo := 0) (hi := 1) (v := .ref 0 ver_ 0 w_.l.length) (by kernel_rfl) (by kernel_rfl) hf8 (by kernel_rfl) (by kernel_rfl) trivial fun f9 hf9 => ?_
      refine lw_tight 8 (by kernel_rfl) ?_
      refine mops_end [0, 8, 9, 28, 32, 40] hf9 (l' := [⟨0, [], .ptr 1 0 0⟩, ⟨8, [], .s (.int .i64 0)⟩, ⟨9, [], .s (.int .i64 0)⟩, ⟨28, [], .ptr 1 0 0⟩, ⟨32, [], .ref 0 ver_ 0 w_.l.length⟩, ⟨40, [], .agg [.s (.int .i64 (IntKind.wrap .i64 (w_.last + 1))), .s (.int .i64 kind_), .s (.int .u16 from_), .s (.int .u16 to_)]⟩]) (L' := [⟨ver_, .grow, 4, cat watch_Point.v w_.l⟩, ⟨0, .mem, 1, [.ref 0 ver_ 0 w_.l.length, .s (.int .i64 (IntKind.wrap .i64 (w_.last + 1)))]⟩]) (by kernel_rfl) fun f10 hf10 => ?_
      intro _
      refine lw_w (a := ⟨⟨(some 41), (.e (.bslo 4 1 [(.int .i64 0), (.int .i64 0), (.int .u16 0), (.int .u16 0)] [(0, (4, (.t 40)))])), none, [12]⟩, true, 0, 1⟩) (by kernel_rfl) rfl rfl ?_
      refine mops_end [0, 8, 9, 28, 32, 41] hf10 (l' := [⟨0, [], .ptr 1 0 0⟩, ⟨8, [], .s (.int .i64 0)⟩, ⟨9, [], .s (.int .i64 0)⟩, ⟨28, [], .ptr 1 0 0⟩, ⟨32, [], .ref 0 ver_ 0 w_.l.length⟩, ⟨41, [], .ref 2 0 0 1⟩]) (L' := [⟨ver_, .grow, 4, cat watch_Point.v w_.l⟩, ⟨0, .mem, 1, [.ref 0 ver_ 0 w_.l.length, .s (.int .i64 (IntKind.wrap .i64 (w_.last + 1)))]⟩, ⟨0, .grow, 4, [.s (.int .i64 (IntKind.wrap .i64 (w_.last + 1))), .s (.int .i64 kind_), .s (.int .u16 from_), .s (.int .u16 to_)]⟩]) (by kernel_rfl) fun f11 hf11 => ?_
      refine ⟨(pend_ok hf8 (by kernel_rfl) (by kernel_rfl) (pend_ok hf7 (by kernel_rfl) (by kernel_rfl) (pend_ok hf6 (by kernel_rfl) (by kernel_rfl) (pend_ok hf5 (by kernel_rfl) (by kernel_rfl) (pend_ok hf4 (by kernel_rfl) (by kernel_rfl) trivial))))), ?_⟩
      refine lw_w (a := ⟨⟨(some 42), (.e (.app 61 4 24 (.t 32) (.t 41))), none, [4, 13]⟩, true, 1, 2⟩) (by kernel_rfl) rfl rfl ?_
      obtain ⟨c3, h⟩ := as_ok h
      refine mops_adv rfl (v := .ref 0 (ver_ + 1) 0 (w_.l ++ [(watch_Point.mk (IntKind.wrap .i64 (w_.last + 1)) kind_ from_ to_)]).length) hf11 (by kernel_rfl) (e_app (g := watch_Point.v) (l := w_.l) (l' := [(watch_Point.mk (IntKind.wrap .i64 (w_.last + 1)) kind_ from_ to_)]) (b := 0) (ver := ver_) (n := w_.l.length) rfl (by kernel_rfl) rfl (live_grow (by kernel_rfl)) (sll_ev (v := .ref 2 0 0 1) (by kernel_rfl) (sll_ref (B := ⟨0, .grow, 4, cat watch_Point.v [(watch_Point.mk (IntKind.wrap .i64 (w_.last + 1)) kind_ from_ to_)]⟩) (by kernel_rfl) (live_grow (by kernel_rfl)))) (slc_ev (v := .ref 2 0 0 1) (by kernel_rfl) (slc_ref (g := watch_Point.v) (l := [(watch_Point.mk (IntKind.wrap .i64 (w_.last + 1)) kind_ from_ to_)]) (kd := .grow) (q := 4) (by kernel_rfl) (live_grow (by kernel_rfl)))) c3) fun f12 hf12 => ?_
      refine mops_end [0, 8, 9, 28, 42] hf12 (l' := [⟨0, [], .ptr 1 0 0⟩, ⟨8, [], .s (.int .i64 0)⟩, ⟨9, [], .s (.int .i64 0)⟩, ⟨28, [], .ptr 1 0 0⟩, ⟨42, [], .ref 0 (ver_ + 1) 0 (w_.l ++ [(watch_Point.mk (IntKind.wrap .i64 (w_.last + 1)) kind_ from_ to_)]).length⟩]) (L' := [⟨(ver_ + 1), .grow, 4, cat watch_Point.v (w_.l ++ [(watch_Point.mk (IntKind.wrap .i64 (w_.last + 1)) kind_ from_ to_)])⟩, ⟨0, .mem, 1, [.ref 0 ver_ 0 w_.l.length, .s (.int .i64 (IntKind.wrap .i64 (w_.last + 1)))]⟩, ⟨0, .grow, 4, cat watch_Point.v [(watch_Point.mk (IntKind.wrap .i64 (w_.last + 1)) kind_ from_ to_)]⟩]) (by kernel_rfl) fun f13 hf13 => ?_
      refine ⟨(pend_no (by kernel_rfl) (pend_no (by kernel_rfl) (pend_no (by kernel_rfl) (pend_no (by kernel_rfl) (pend_ok hf4 (by kernel_rfl) (by kernel_rfl) trivial))))), ?_⟩
      refine lw_tight 2 (by kernel_rfl) ?_
      refine mops_end [0, 8, 9, 42, 44] hf13 (l' := [⟨0, [], .ptr 1 0 0⟩, ⟨8, [], .s (.int .i64 0)⟩, ⟨9, [], .s (.int .i64 0)⟩, ⟨42, [], .ref 0 (ver_ + 1) 0 (w_.l ++ [(watch_Point.mk (IntKind.wrap .i64 (w_.last + 1)) kind_ from_ to_)]).length⟩, ⟨44, [], .ptr 1 0 0⟩]) (L' := [⟨(ver_ + 1), .grow, 4, cat watch_Point.v (w_.l ++ [(watch_Point.mk (IntKind.wrap .i64 (w_.last + 1)) kind_ from_ to_)])⟩, ⟨0, .mem, 1, [.ref 0 ver_ 0 w_.l.length, .s (.int .i64 (IntKind.wrap .i64 (w_.last + 1)))]⟩, ⟨0, .grow, 4, cat watch_Point.v [(watch_Point.mk (IntKind.wrap .i64 (w_.last + 1)) kind_ from_ to_)]⟩]) (by kernel_rfl) fun f14 hf14 => ?_
      intro _
      refine lw_w (a := ⟨⟨none, (.e (.store 1 (.t 44) (.t 42))), none, [16, 14, 14, 0, 1, 2, 3, 4, 5, 6, 7, 8, 9, 10, 11, 12, 13, 14]⟩, true, 2, 3⟩) (by kernel_rfl) rfl rfl ?_
      refine mops_end [0, 8, 9] hf14 (l' := [⟨0, [], .ptr 1 0 0⟩, ⟨8, [], .s (.int .i64 0)⟩, ⟨9, [], .s (.int .i64 0)⟩]) (L' := [⟨(ver_ + 1), .grow, 4, cat watch_Point.v (w_.l ++ [(watch_Point.mk (IntKind.wrap .i64 (w_.last + 1)) kind_ from_ to_)])⟩, ⟨0, .mem, 1, [.ref 0 (ver_ + 1) 0 (w_.l ++ [(watch_Point.mk (IntKind.wrap .i64 (w_.last + 1)) kind_ from_ to_)]).length, .s (.int .i64 (IntKind.wrap .i64 (w_.last + 1)))]⟩, ⟨0, .grow, 4, cat watch_Point.v [(watch_Point.mk (IntKind.wrap .i64 (w_.last + 1)) kind_ from_ to_)]⟩]) (by kernel_rfl) fun f15 hf15 => ?_
      refine ⟨(pend_no (by kernel_rfl) (pend_no (by kernel_rfl) (pend_no (by kernel_rfl) (pend_no (by kernel_rfl) (pend_no (by kernel_rfl) trivial))))), ?_⟩
      refine lw_end (by kernel_rfl) ?_
      refine k_c ?_
      refine k_seq ?_
      refine k_reg ?_
      refine mops_en hf15 (by kernel_rfl) fun f16 hf16 => ?_
      refine k_c ?_
      refine k_ret ?_
      obtain rfl := Option.some.inj h
      exact k_fin (fin_ret (.inl rfl) hf16 (vs := [.s (.int .i64 (IntKind.wrap .i64 (w_.last + 1))), .s (.int .i64 0)]) (by kernel_rfl) (SettL.cutb (L' := [⟨(ver_ + 1), .grow, 4, cat watch_Point.v (w_.l ++ [(watch_Point.mk (IntKind.wrap .i64 (w_.last + 1)) kind_ from_ to_)])⟩, ⟨0, .mem, 1, [.ref 0 (ver_ + 1) 0 (w_.l ++ [(watch_Point.mk (IntKind.wrap .i64 (w_.last + 1)) kind_ from_ to_)]).length, .s (.int .i64 (IntKind.wrap .i64 (w_.last + 1)))]⟩]) 2 (by kernel_rfl) (by kernel_rfl) (by kernel_rfl) ⟨.inr (.inr (statics_unders _ _ (cat_stat _))), .inr (.inr rfl), trivial⟩ (FzL.tup (FzsL.cons (FzL.stat rfl) (FzsL.cons (FzL.stat rfl) FzsL.nil)))))
def slices_Equal_sl_watch_Point_watch_Point_i0 : List Op1 := [(oM 4 (.k (.bool false)) [])]
def slices_Equal_sl_watch_Point_watch_Point_i1 : List Op1 := [(oM 6 (.t 0) []), (oE 7 (.len (.t 6)) [0]), (oM 8 (.t 1) []), (oE 9 (.len (.t 8)) [2]), (oE 10 (.bin .neq (.t 7) (.t 9)) [1, 3])]
def slices_Equal_sl_watch_Point_watch_Point_i2 : List Op1 := [(oM 4 (.k (.bool false)) [])]
def slices_Equal_sl_watch_Point_watch_Point_i3 : IR := .ret
def slices_Equal_sl_watch_Point_watch_Point_i4 : IR := (.cond (.t 10) (.seq (.reg false slices_Equal_sl_watch_Point_watch_Point_i2) slices_Equal_sl_watch_Point_watch_Point_i3) .skip)
def slices_Equal_sl_watch_Point_watch_Point_i5 : List Op1 := [(oM 11 (.t 0) []), (oE 12 (.len (.t 11)) [0]), (oM 13 (.k (.int .i64 0)) [])]
def slices_Equal_sl_watch_Point_watch_Point_i6 : List Op1 := [(oE 14 (.bin .lss (.t 13) (.t 12)) [])]
def slices_Equal_sl_watch_Point_watch_Point_i7 : List Op1 := [(oM 15 (.t 13) []), (oM 5 (.t 15) [0, 0])]
def slices_Equal_sl_watch_Point_watch_Point_i8 : List Op1 := [(oM 16 (.t 0) []), (oM 17 (.t 5) []), (oE 18 (.ias 4 (.t 16) (.t 17)) [0, 1]), (oE 19 (.load true 4 (.t 18)) [2]), (oM 20 (.t 1) []), (oM 21 (.t 5) []), (oE 22 (.ias 4 (.t 20) (.t 21)) [4, 5]), (oE 23 (.load true 4 (.t 22)) [6]), (oE 24 (.eqa true [.int, .int, .int, .int] (.t 19) (.t 23)) [3, 7])]
def slices_Equal_sl_watch_Point_watch_Point_i9 : List Op1 := [(oM 4 (.k (.bool false)) [])]
def slices_Equal_sl_watch_Point_watch_Point_i10 : IR := .ret
def slices_Equal_sl_watch_Point_watch_Point_i11 : IR := (.cond (.t 24) (.seq (.reg false slices_Equal_sl_watch_Point_watch_Point_i9) slices_Equal_sl_watch_Point_watch_Point_i10) .skip)
def slices_Equal_sl_watch_Point_watch_Point_i12 : IR := (.seq (.reg true slices_Equal_sl_watch_Point_watch_Point_i8) slices_Equal_sl_watch_Point_watch_Point_i11)
def slices_Equal_sl_watch_Point_watch_Point_i13 : List Op1 := [(oE 25 (.bin .add (.t 13) (.k (.int .i64 1))) []), (oM 13 (.t 25) [0])]
def slices_Equal_sl_watch_Point_watch_Point_i14 : IR := (.reg false slices_Equal_sl_watch_Point_watch_Point_i13)
def slices_Equal_sl_watch_Point_watch_Point_i15 : IR := (.seq (.block 1 (.seq (.reg false slices_Equal_sl_watch_Point_watch_Point_i7) slices_Equal_sl_watch_Point_watch_Point_i12)) slices_Equal_sl_watch_Point_watch_Point_i14)
def slices_Equal_sl_watch_Point_watch_Point_i16 : IR := (.seq (.cond (.t 14) .skip (.exit 0)) slices_Equal_sl_watch_Point_watch_Point_i15)
def slices_Equal_sl_watch_Point_watch_Point_i17 : IR := (.seq (.reg false slices_Equal_sl_watch_Point_watch_Point_i6) slices_Equal_sl_watch_Point_watch_Point_i16)
def slices_Equal_sl_watch_Point_watch_Point_i18 : IR := (.block 0 (.loop slices_Equal_sl_watch_Point_watch_Point_i17))
def slices_Equal_sl_watch_Point_watch_Point_i19 : List Op1 := [(oM 4 (.k (.bool true)) [])]
def slices_Equal_sl_watch_Point_watch_Point_i20 : IR := .ret
def slices_Equal_sl_watch_Point_watch_Point_i21 : IR := (.seq (.reg false slices_Equal_sl_watch_Point_watch_Point_i19) slices_Equal_sl_watch_Point_watch_Point_i20)
def slices_Equal_sl_watch_Point_watch_Point_i22 : IR := (.seq (.seq (.reg false slices_Equal_sl_watch_Point_watch_Point_i5) slices_Equal_sl_watch_Point_watch_Point_i18) slices_Equal_sl_watch_Point_watch_Point_i21)
def slices_Equal_sl_watch_Point_watch_Point_i23 : IR := (.seq (.seq (.reg false slices_Equal_sl_watch_Point_watch_Point_i1) slices_Equal_sl_watch_Point_watch_Point_i4) slices_Equal_sl_watch_Point_watch_Point_i22)
def slices_Equal_sl_watch_Point_watch_Point_ir : IR := (.seq (.reg false slices_Equal_sl_watch_Point_watch_Point_i0) slices_Equal_sl_watch_Point_watch_Point_i23)
theorem slices_Equal_sl_watch_Point_watch_Point_cfn : cFn Try.prog 24 = some (slices_Equal_sl_watch_Point_watch_Point_ir, [(.t 4)], 26) := by kernel_rfl
def slices_Equal_sl_watch_Point_watch_Point_V (r : (Bool)) : V := .s (.bool r)
def slices_Equal_sl_watch_Point_watch_Point_C (r : (Bool)) : X → Fr → Hp → Prop := FinL [(.t 4)] [] (slices_Equal_sl_watch_Point_watch_Point_V r) []
theorem slices_Equal_sl_watch_Point_watch_Point_ok (s1_ : (List watch_Point)) (s2_ : (List watch_Point)) (r : (Bool)) (h : slices_Equal_sl_watch_Point_watch_Point s1_ s2_ = some r) : Pure Try.prog 24 [.sl false s1_.length (cat watch_Point.v s1_), .sl false s2_.length (cat watch_Point.v s2_)] (slices_Equal_sl_watch_Point_watch_Point_V r) := by
  refine ConL.of slices_Equal_sl_watch_Point_watch_Point_cfn (Nat.le_of_ble_eq_true (by kernel_rfl)) (Nat.le_of_ble_eq_true (by kernel_rfl)) ?_
  refine k_start ?_
  show dwv Try.prog [] slices_Equal_sl_watch_Point_watch_Point_ir (kont Try.prog [] (slices_Equal_sl_watch_Point_watch_Point_C r) []) (fr0 [.sl false s1_.length (cat watch_Point.v s1_), .sl false s2_.length (cat watch_Point.v s2_)]) []
  have hf : FOk (fr0 [.sl false s1_.length (cat watch_Point.v s1_), .sl false s2_.length (cat watch_Point.v s2_)]) [⟨0, [], .sl false s1_.length (cat watch_Point.v s1_)⟩, ⟨1, [], .sl false s2_.length (cat watch_Point.v s2_)⟩] := ⟨⟨fun _ => rfl, fun h => (h trivial).elim⟩, ⟨fun _ => rfl, fun h => (h trivial).elim⟩, trivial⟩
  generalize fr0 [.sl false s1_.length (cat watch_Point.v s1_), .sl false s2_.length (cat watch_Point.v s2_)] = f at hf ⊢
  unfold slices_Equal_sl_watch_Point_watch_Point at h
  refine k_seq ?_
  refine k_reg ?_
  refine mops_en hf (by kernel_rfl) fun f1 hf1 => ?_
  refine k_c ?_
  refine k_seq ?_
  refine k_seq ?_
  refine k_reg ?_
  refine mops_en hf1 (by kernel_rfl) fun f2 hf2 => ?_
  refine k_c ?_
  refine k_cond hf2 (t := ((ln s1_) != (ln s2_))) (by kernel_rfl) (fun hc1 => ?_) (fun hc1 => ?_)
  · have h := if_t h hc1
    refine k_seq ?_
    refine k_reg ?_
    refine mops_en hf2 (by kernel_rfl) fun f3 hf3 => ?_
    refine k_c ?_
    refine k_ret ?_
    refine x_c nofun ?_
    obtain rfl := Option.some.inj h
    exact k_fin (fin_ret (.inl rfl) hf3 (vs := [.s (.bool false)]) (by kernel_rfl) (SettL.pure (FzL.stat rfl)))
  · have h := if_f h hc1
    refine k_skip ?_
    refine k_c ?_
    refine k_seq ?_
    refine k_seq ?_
    refine k_reg ?_
    refine mops_en hf2 (by kernel_rfl) fun f3 hf3 => ?_
    refine k_c ?_
    refine k_block ?_
    obtain ⟨o0, hx0, h⟩ := Option.bind_eq_some_iff.1 h
    have hret0 : ∀ r0, .ret r0 = o0 → r0 = r := fun r0 e => by subst e; exact Option.some.inj h
    have hgo0 : .go () = o0 → ∀ f, FOk f [⟨4, [], .s (.bool false)⟩] → kont Try.prog [] (slices_Equal_sl_watch_Point_watch_Point_C r) ((.c slices_Equal_sl_watch_Point_watch_Point_i21) :: []) .normal f [] := by
      intro  e f hf
      subst e
      refine k_c ?_
      refine k_seq ?_
      refine k_reg ?_
      refine mops_en hf (by kernel_rfl) fun f1 hf1 => ?_
      refine k_c ?_
      refine k_ret ?_
      obtain rfl := Option.some.inj h
      exact k_fin (fin_ret (.inl rfl) hf1 (vs := [.s (.bool true)]) (by kernel_rfl) (SettL.pure (FzL.stat rfl)))
    refine k_loop BIG ?_
    refine loop_ind (fun n f L => ∃ (t_1 : Int), slices_Equal_sl_watch_Point_watch_Point_l0 s1_ s2_ n t_1 = some o0 ∧ FOk f [⟨0, [], .sl false s1_.length (cat watch_Point.v s1_)⟩, ⟨1, [], .sl false s2_.length (cat watch_Point.v s2_)⟩, ⟨4, [], .s (.bool false)⟩, ⟨12, [], .s (.int .i64 (ln s1_))⟩, ⟨13, [], .s (.int .i64 t_1)⟩] ∧ L = []) ?_ ?_ BIG _ _ ⟨(0), hx0, FOk_of [0, 1, 4, 12, 13] hf3 (by kernel_rfl), (by kernel_rfl)⟩
    · rintro f L ⟨t_1, h, _⟩
      cases (show (none : Option _) = some _ from h)
    · rintro n0 R0 ih f L ⟨t_1, h, hf, rfl⟩
      rw [slices_Equal_sl_watch_Point_watch_Point_l0] at h
      refine k_seq ?_
      refine k_reg ?_
      refine mops_en hf (by kernel_rfl) fun f1 hf1 => ?_
      refine k_c ?_
      refine k_seq ?_
      refine k_cond hf1 (t := (decide (t_1 < (ln s1_)))) (by kernel_rfl) (fun hc2 => ?_) (fun hc2 => ?_)
      · have h := if_t h hc2
        refine k_skip ?_
        refine k_c ?_
        refine k_seq ?_
        refine k_block ?_
        refine k_seq ?_
        refine k_reg ?_
        refine mops_en hf1 (by kernel_rfl) fun f2 hf2 => ?_
        refine k_c ?_
        refine k_seq ?_
        refine k_regq ?_
        refine mops_sg 2 hf2 (by kernel_rfl) fun f3 hf3 => ?_
        obtain ⟨c3, h⟩ := as_ok h
        refine mops_adv rfl (v := .ip ((cat watch_Point.v s1_).drop ((t_1 : Int).toNat * 4))) hf3 (by kernel_rfl) (e_ias (n := s1_.length) (xv := .sl false s1_.length (cat watch_Point.v s1_)) (k := .i64) (iv := t_1) (p := .ip ((cat watch_Point.v s1_).drop ((t_1 : Int).toNat * 4))) (by kernel_rfl) (by kernel_rfl) (by kernel_rfl) (by kernel_rfl) c3) fun f4 hf4 => ?_
        refine mops_adv rfl (v := .agg [.s (.int .i64 (gt s1_ t_1).Id), .s (.int .i64 (gt s1_ t_1).Kind), .s (.int .u16 (gt s1_ t_1).From), .s (.int .u16 (gt s1_ t_1).To)]) hf4 (by kernel_rfl) (e_load_ip (g := watch_Point.v) (l := s1_) (iv := t_1) [] (by kernel_rfl) c3 (by kernel_rfl) (by kernel_rfl)) fun f5 hf5 => ?_
        refine mops_sg 2 hf5 (by kernel_rfl) fun f6 hf6 => ?_
        obtain ⟨c4, h⟩ := as_ok h
        refine mops_adv rfl (v := .ip ((cat watch_Point.v s2_).drop ((t_1 : Int).toNat * 4))) hf6 (by kernel_rfl) (e_ias (n := s2_.length) (xv := .sl false s2_.length (cat watch_Point.v s2_)) (k := .i64) (iv := t_1) (p := .ip ((cat watch_Point.v s2_).drop ((t_1 : Int).toNat * 4))) (by kernel_rfl) (by kernel_rfl) (by kernel_rfl) (by kernel_rfl) c4) fun f7 hf7 => ?_
        refine mops_adv rfl (v := .agg [.s (.int .i64 (gt s2_ t_1).Id), .s (.int .i64 (gt s2_ t_1).Kind), .s (.int .u16 (gt s2_ t_1).From), .s (.int .u16 (gt s2_ t_1).To)]) hf7 (by kernel_rfl) (e_load_ip (g := watch_Point.v) (l := s2_) (iv := t_1) [] (by kernel_rfl) c4 (by kernel_rfl) (by kernel_rfl)) fun f8 hf8 => ?_
        refine mops_en hf8 (by kernel_rfl) fun f9 hf9 => ?_
        refine k_c ?_
        refine k_cond hf9 (t := (!(((gt s1_ t_1).Id == (gt s2_ t_1).Id) && (((gt s1_ t_1).Kind == (gt s2_ t_1).Kind) && (((gt s1_ t_1).From == (gt s2_ t_1).From) && (((gt s1_ t_1).To == (gt s2_ t_1).To) && true)))))) (by kernel_rfl) (fun hc5 => ?_) (fun hc5 => ?_)
        · have h := if_t h hc5
          refine k_seq ?_
          refine k_reg ?_
          refine mops_en hf9 (by kernel_rfl) fun f10 hf10 => ?_
          refine k_c ?_
          refine k_ret ?_
          refine x_br ?_
          refine x_c nofun ?_
          refine x_l nofun ?_
          refine x_br ?_
          refine x_c nofun ?_
          obtain rfl := hret0 _ (Option.some.inj h)
          exact k_fin (fin_ret (.inl rfl) hf10 (vs := [.s (.bool false)]) (by kernel_rfl) (SettL.pure (FzL.stat rfl)))
        · have h := if_f h hc5
          refine k_skip ?_
          refine k_b ?_
          refine k_c ?_
          refine k_reg ?_
          refine mops_en hf9 (by kernel_rfl) fun f10 hf10 => ?_
          refine k_l ?_
          exact ih _ _ ⟨(IntKind.wrap .i64 (t_1 + 1)), h, FOk_of [0, 1, 4, 12, 13] hf10 (by kernel_rfl), (by kernel_rfl)⟩
      · have h := if_f h hc2
        refine k_exit ?_
        refine x_c nofun ?_
        refine x_l nofun ?_
        refine x_b ?_
        refine k_hp (L' := []) (by kernel_rfl) ?_
        exact hgo0  (Option.some.inj h) _ (FOk_of [4] hf1 (by kernel_rfl))
def watch_Watch_All_i0 : List Op1 := [(oE 2 (.nilg 4) [])]
def watch_Watch_All_i1 : List Op1 := [(oM 3 (.t 0) []), (oE 4 (.nilc (.t 3)) [0]), (oE 5 (.fld 0 (.t 4)) [1]), (oE 6 (.load false 1 (.t 5)) [2]), (oC 7 47 [(.t 6)] [3]), (oM 2 (.t 7) [4, 4, 0, 1, 2, 3, 4])]
def watch_Watch_All_i2 : IR := .ret
def watch_Watch_All_i3 : IR := (.seq (.reg false watch_Watch_All_i1) watch_Watch_All_i2)
def watch_Watch_All_ir : IR := (.seq (.reg false watch_Watch_All_i0) watch_Watch_All_i3)
theorem watch_Watch_All_cfn : cFn Try.prog 25 = some (watch_Watch_All_ir, [(.t 2)], 8) := by kernel_rfl
def watch_Watch_All_V (ver_ : Nat) (r : ((List watch_Point))) : V := .sl false r.length (cat watch_Point.v r)
def watch_Watch_All_L (w_ : watch_Watch) (ver_ : Nat) : Hp := [⟨ver_, .grow, 4, cat watch_Point.v w_.l⟩, ⟨0, .mem, 1, [.ref 0 ver_ 0 w_.l.length, .s (.int .i64 w_.last)]⟩]
def watch_Watch_All_C (w_ : watch_Watch) (ver_ : Nat) (r : ((List watch_Point))) : X → Fr → Hp → Prop := FinL [(.t 2)] (watch_Watch_All_L w_ ver_) (watch_Watch_All_V ver_ r) [⟨ver_, .grow, 4, cat watch_Point.v w_.l⟩, ⟨0, .mem, 1, [.ref 0 ver_ 0 w_.l.length, .s (.int .i64 w_.last)]⟩]
theorem watch_Watch_All_ok (w_ : watch_Watch) (ver_ : Nat) (r : ((List watch_Point))) (h : watch_Watch_All w_ = some r) : ConL Try.prog 25 [.ptr 1 0 0] [⟨ver_, .grow, 4, cat watch_Point.v w_.l⟩, ⟨0, .mem, 1, [.ref 0 ver_ 0 w_.l.length, .s (.int .i64 w_.last)]⟩] (watch_Watch_All_V ver_ r) [⟨ver_, .grow, 4, cat watch_Point.v w_.l⟩, ⟨0, .mem, 1, [.ref 0 ver_ 0 w_.l.length, .s (.int .i64 w_.last)]⟩] := by
  refine ConL.of watch_Watch_All_cfn (Nat.le_of_ble_eq_true (by kernel_rfl)) (Nat.le_of_ble_eq_true (by kernel_rfl)) ?_
  refine k_start ?_
  show dwv Try.prog (watch_Watch_All_L w_ ver_) watch_Watch_All_ir (kont Try.prog (watch_Watch_All_L w_ ver_) (watch_Watch_All_C w_ ver_ r) []) (fr0 [.ptr 1 0 0]) [⟨ver_, .grow, 4, cat watch_Point.v w_.l⟩, ⟨0, .mem, 1, [.ref 0 ver_ 0 w_.l.length, .s (.int .i64 w_.last)]⟩]
  have hf : FOk (fr0 [.ptr 1 0 0]) [⟨0, [], .ptr 1 0 0⟩] := ⟨⟨fun _ => rfl, fun h => (h trivial).elim⟩, trivial⟩
  generalize fr0 [.ptr 1 0 0] = f at hf ⊢
  unfold watch_Watch_All at h
  refine k_seq ?_
  refine k_reg ?_
  refine mops_en hf (by kernel_rfl) fun f1 hf1 => ?_
  refine k_c ?_
  refine k_seq ?_
  refine k_reg ?_
  refine mops_sg 4 hf1 (by kernel_rfl) fun f2 hf2 => ?_
  obtain ⟨r_, hx_r_, h⟩ := Option.bind_eq_some_iff.1 h
  refine mops_call rfl hf2 (av := [.ref 0 ver_ 0 w_.l.length]) (by kernel_rfl) (v := .sl false r_.length (cat watch_Point.v r_)) (L' := [⟨ver_, .grow, 4, cat watch_Point.v w_.l⟩, ⟨0, .mem, 1, [.ref 0 ver_ 0 w_.l.length, .s (.int .i64 w_.last)]⟩, ⟨0, .grow, 4, cat watch_Point.v ([] : List watch_Point)⟩]) (CalL.borrow (M := [⟨ver_, .grow, 4, cat watch_Point.v w_.l⟩]) (M' := [⟨ver_, .grow, 4, cat watch_Point.v w_.l⟩]) [0] (sl_clone_ok w_.l ver_ r_ hx_r_) (by kernel_rfl) (RNs.cons (RN.ref (by kernel_rfl)) RNs.nil) (RN.stat (by simp [V.static, statics, cat_stat])) (RBs.cons (RNs.stat (cat_stat _)) RBs.nil) (RBs.cons (RNs.stat (cat_stat _)) RBs.nil) (by kernel_rfl) (by kernel_rfl)) (by intro h; cases h) fun f3 hf3 => ?_
  refine mops_en hf3 (by kernel_rfl) fun f4 hf4 => ?_
  refine k_c ?_
  refine k_ret ?_
  obtain rfl := Option.some.inj h
  exact k_fin (fin_ret (.inl rfl) hf4 (vs := [.sl false r_.length (cat watch_Point.v r_)]) (by kernel_rfl) (SettL.cutb (L' := [⟨ver_, .grow, 4, cat watch_Point.v w_.l⟩, ⟨0, .mem, 1, [.ref 0 ver_ 0 w_.l.length, .s (.int .i64 w_.last)]⟩]) 2 (by kernel_rfl) (by kernel_rfl) (by kernel_rfl) ⟨.inr (.inr (statics_unders _ _ (cat_stat _))), .inr (.inr rfl), trivial⟩ (FzL.slf (g := watch_Point.v))))
def spinetlaw49_hits_i0 : List Op1 := [(oE 6 (.nilg 1) [])]
def spinetlaw49_hits_i1 : List Op1 := [(oE 7 (.nilg 1) [])]
def spinetlaw49_hits_i2 : List Op1 := [(oM 8 (.k (.int .i64 0)) [])]
def spinetlaw49_hits_i3 : List Op1 := [(oM 9 (.t 8) []), (oM 10 (.t 0) []), (oE 11 (.len (.t 10)) [1]), (oE 12 (.bin .lss (.t 9) (.t 11)) [0, 2])]
def spinetlaw49_hits_i4 : IR := (.cond (.t 12) .skip (.exit 0))
def spinetlaw49_hits_i5 : List Op1 := [(oM 15 (.t 0) []), (oM 16 (.t 8) []), (oE 17 (.ias 4 (.t 15) (.t 16)) [0, 1]), (oE 18 (.fld 1 (.t 17)) [2]), (oE 19 (.load false 1 (.t 18)) [3]), (oM 20 (.t 1) []), (oE 21 (.bin .eql (.t 19) (.t 20)) [4, 5]), (oM 22 (.t 21) [6]), (oG 23 (.mv (.t 0)) 22 true [7]), (oG 24 (.mv (.t 8)) 22 true [7]), (oG 25 (.ias 4 (.t 23) (.t 24)) 22 true [8, 9, 7]), (oG 26 (.fld 2 (.t 25)) 22 true [10, 7]), (oG 27 (.load false 1 (.t 26)) 22 true [11, 7]), (oG 28 (.mv (.t 2)) 22 true [7]), (oG 29 (.bin .leq (.t 27) (.t 28)) 22 true [12, 13, 7]), (oE 30 (.pick (.t 22) (.t 29) (.k (.bool false))) [7, 14]), (oM 31 (.t 30) [15, 7]), (oG 32 (.mv (.t 2)) 31 true [16]), (oG 33 (.mv (.t 0)) 31 true [16]), (oG 34 (.mv (.t 8)) 31 true [16]), (oG 35 (.ias 4 (.t 33) (.t 34)) 31 true [18, 19, 16]), (oG 36 (.fld 3 (.t 35)) 31 true [20, 16]), (oG 37 (.load false 1 (.t 36)) 31 true [21, 16]), (oG 38 (.bin .leq (.t 32) (.t 37)) 31 true [17, 22, 16]), (oE 39 (.pick (.t 31) (.t 38) (.k (.bool false))) [16, 23])]
def spinetlaw49_hits_i6 : List Op1 := [(oM 40 (.t 7) []), (oM 41 (.t 0) []), (oM 42 (.t 8) []), (oE 43 (.ias 4 (.t 41) (.t 42)) [1, 2]), (oE 44 (.fld 0 (.t 43)) [3]), (oE 45 (.load false 1 (.t 44)) [4]), (oE 46 (.bslo 1 1 [(.int .i64 0)] [(0, (1, (.t 45)))]) [5]), (oE 47 (.app 3 1 8 (.t 40) (.t 46)) [0, 6]), (oM 7 (.t 47) [7, 7, 0, 1, 2, 3, 4, 5, 6, 7])]
def spinetlaw49_hits_i7 : IR := (.cond (.t 39) (.reg false spinetlaw49_hits_i6) .skip)
def spinetlaw49_hits_i8 : List Op1 := [(oM 13 (.t 8) []), (oE 14 (.bin .add (.t 13) (.k (.int .i64 1))) [0]), (oM 8 (.t 14) [1, 0, 1])]
def spinetlaw49_hits_i9 : IR := (.reg false spinetlaw49_hits_i8)
def spinetlaw49_hits_i10 : IR := (.seq (.block 1 (.seq (.reg false spinetlaw49_hits_i5) spinetlaw49_hits_i7)) spinetlaw49_hits_i9)
def spinetlaw49_hits_i11 : IR := (.seq (.seq (.reg false spinetlaw49_hits_i3) spinetlaw49_hits_i4) spinetlaw49_hits_i10)
def spinetlaw49_hits_i12 : IR := (.block 0 (.loop spinetlaw49_hits_i11))
def spinetlaw49_hits_i13 : List Op1 := [(oM 48 (.t 7) []), (oM 6 (.t 48) [0, 0])]
def spinetlaw49_hits_i14 : IR := .ret
def spinetlaw49_hits_i15 : IR := (.seq (.reg false spinetlaw49_hits_i13) spinetlaw49_hits_i14)
def spinetlaw49_hits_i16 : IR := (.seq (.seq (.reg false spinetlaw49_hits_i2) spinetlaw49_hits_i12) spinetlaw49_hits_i15)
def spinetlaw49_hits_i17 : IR := (.seq (.reg false spinetlaw49_hits_i1) spinetlaw49_hits_i16)
def spinetlaw49_hits_ir : IR := (.seq (.reg false spinetlaw49_hits_i0) spinetlaw49_hits_i17)
theorem spinetlaw49_hits_cfn : cFn Try.prog 7 = some (spinetlaw49_hits_ir, [(.t 6)], 49) := by kernel_rfl
def spinetlaw49_hits_V (r : ((List Int))) : V := .sl false r.length (cat (nI .i64) r)
def spinetlaw49_hits_C (r : ((List Int))) : X → Fr → Hp → Prop := FinL [(.t 6)] [] (spinetlaw49_hits_V r) []
theorem spinetlaw49_hits_ok (l_ : (List watch_Point)) (kind_ : Int) (at_ : Int) (r : ((List Int))) (h : spinetlaw49_hits l_ kind_ at_ = some r) : Pure Try.prog 7 [.sl false l_.length (cat watch_Point.v l_), .s (.int .i64 kind_), .s (.int .u16 at_)] (spinetlaw49_hits_V r) := by
  refine ConL.of spinetlaw49_hits_cfn (Nat.le_of_ble_eq_true (by kernel_rfl)) (Nat.le_of_ble_eq_true (by kernel_rfl)) ?_
  refine k_start ?_
  show dwv Try.prog [] spinetlaw49_hits_ir (kont Try.prog [] (spinetlaw49_hits_C r) []) (fr0 [.sl false l_.length (cat watch_Point.v l_), .s (.int .i64 kind_), .s (.int .u16 at_)]) []
  have hf : FOk (fr0 [.sl false l_.length (cat watch_Point.v l_), .s (.int .i64 kind_), .s (.int .u16 at_)]) [⟨0, [], .sl false l_.length (cat watch_Point.v l_)⟩, ⟨1, [], .s (.int .i64 kind_)⟩, ⟨2, [], .s (.int .u16 at_)⟩] := ⟨⟨fun _ => rfl, fun h => (h trivial).elim⟩, ⟨fun _ => rfl, fun h => (h trivial).elim⟩, ⟨fun _ => rfl, fun h => (h trivial).elim⟩, trivial⟩
  generalize fr0 [.sl false l_.length (cat watch_Point.v l_), .s (.int .i64 kind_), .s (.int .u16 at_)] = f at hf ⊢
  unfold spinetlaw49_hits at h
  refine k_seq ?_
  refine k_reg ?_
  refine mops_en hf (by kernel_rfl) fun f1 hf1 => ?_
  refine k_c ?_
  refine k_seq ?_
  refine k_reg ?_
  refine mops_en hf1 (by kernel_rfl) fun f2 hf2 => ?_
  refine k_c ?_
  refine k_seq ?_
  refine k_seq ?_
  refine k_reg ?_
  refine mops_en hf2 (by kernel_rfl) fun f3 hf3 => ?_
  refine k_c ?_
  refine k_block ?_
  obtain ⟨o0, hx0, h⟩ := Option.bind_eq_some_iff.1 h
  have hgo0 : ∀ (l_3 : (List Int)) (v_2 : Nat), l_3 = o0 → ∀ f, FOk f [⟨6, [], .ref 0 0 0 0⟩, ⟨7, [], .ref 1 v_2 0 l_3.length⟩] → kont Try.prog [] (spinetlaw49_hits_C r) ((.c spinetlaw49_hits_i15) :: []) .normal f [⟨0, .grow, 1, cat (nI .i64) ([] : List Int)⟩, ⟨v_2, .grow, 1, cat (nI .i64) l_3⟩] := by
    intro l_3 v_2 e f hf
    subst e
    refine k_c ?_
    refine k_seq ?_
    refine k_reg ?_
    refine mops_en hf (by kernel_rfl) fun f1 hf1 => ?_
    refine k_c ?_
    refine k_ret ?_
    obtain rfl := Option.some.inj h
    exact k_fin (fin_ret (.inl rfl) hf1 (vs := [.ref 1 v_2 0 l_3.length]) (by kernel_rfl) (SettL.pure (FzL.whole (g := (nI .i64)) (kd := .grow) (l := l_3) (by kernel_rfl) rfl (live_grow (by kernel_rfl)))))
  refine k_loop BIG ?_
  refine loop_ind (fun n f L => ∃ (l_2 : (List Int)) (i_1 : Int) (v_1 : Nat), spinetlaw49_hits_l0 l_ kind_ at_ n l_2 i_1 = some o0 ∧ FOk f [⟨0, [], .sl false l_.length (cat watch_Point.v l_)⟩, ⟨1, [], .s (.int .i64 kind_)⟩, ⟨2, [], .s (.int .u16 at_)⟩, ⟨6, [], .ref 0 0 0 0⟩, ⟨7, [], .ref 1 v_1 0 l_2.length⟩, ⟨8, [], .s (.int .i64 i_1)⟩] ∧ L = [⟨0, .grow, 1, cat (nI .i64) ([] : List Int)⟩, ⟨v_1, .grow, 1, cat (nI .i64) l_2⟩]) ?_ ?_ BIG _ _ ⟨([] : List Int), (0), (0), hx0, FOk_of [0, 1, 2, 6, 7, 8] hf3 (by kernel_rfl), (by kernel_rfl)⟩
  · rintro f L ⟨l_2, i_1, v_1, h, _⟩
    cases (show (none : Option _) = some _ from h)
  · rintro n0 R0 ih f L ⟨l_2, i_1, v_1, h, hf, rfl⟩
    rw [spinetlaw49_hits_l0] at h
    refine k_seq ?_
    refine k_seq ?_
    refine k_reg ?_
    refine mops_en hf (by kernel_rfl) fun f1 hf1 => ?_
    refine k_c ?_
    refine k_cond hf1 (t := (decide (i_1 < (ln l_)))) (by kernel_rfl) (fun hc1 => ?_) (fun hc1 => ?_)
    · have h := if_t h hc1
      refine k_skip ?_
      refine k_c ?_
      refine k_seq ?_
      refine k_block ?_
      refine k_seq ?_
      refine k_reg ?_
      refine mops_sg 2 hf1 (by kernel_rfl) fun f2 hf2 => ?_
      obtain ⟨c2, h⟩ := as_ok h
      refine mops_adv rfl (v := .ip ((cat watch_Point.v l_).drop ((i_1 : Int).toNat * 4))) hf2 (by kernel_rfl) (e_ias (n := l_.length) (xv := .sl false l_.length (cat watch_Point.v l_)) (k := .i64) (iv := i_1) (p := .ip ((cat watch_Point.v l_).drop ((i_1 : Int).toNat * 4))) (by kernel_rfl) (by kernel_rfl) (by kernel_rfl) (by kernel_rfl) c2) fun f3 hf3 => ?_
      refine mops_sg 1 hf3 (by kernel_rfl) fun f4 hf4 => ?_
      refine mops_adv rfl (v := .s (.int .i64 (gt l_ i_1).Kind)) hf4 (by kernel_rfl) (e_load_ip (g := watch_Point.v) (l := l_) (iv := i_1) [1] (by kernel_rfl) c2 (by kernel_rfl) (by kernel_rfl)) fun f5 hf5 => ?_
      refine mops_sg 5 hf5 (by kernel_rfl) fun f6 hf6 => ?_
      obtain ⟨c3, h⟩ := as_ok h
      refine mops_gadv (dst := (some 25)) (op := (.ias 4 (.t 23) (.t 24))) (aft := [8, 9, 7]) (t := 22) (w := true) (ch := [(22, true)]) (b := ((gt l_ i_1).Kind == kind_)) (v := .ip ((cat watch_Point.v l_).drop ((i_1 : Int).toNat * 4))) (by kernel_rfl) hf6 (by kernel_rfl) (by kernel_rfl) (by kernel_rfl) (fun hb4 => e_ias (n := l_.length) (xv := .sl false l_.length (cat watch_Point.v l_)) (k := .i64) (iv := i_1) (p := .ip ((cat watch_Point.v l_).drop ((i_1 : Int).toNat * 4))) (by kernel_rfl) (by kernel_rfl) (by kernel_rfl) (by kernel_rfl) (c3 hb4)) fun f7 hf7 => ?_
      refine mops_sg 1 hf7 (by kernel_rfl) fun f8 hf8 => ?_
      refine mops_gadv (dst := (some 27)) (op := (.load false 1 (.t 26))) (aft := [11, 7]) (t := 22) (w := true) (ch := [(22, true)]) (b := ((gt l_ i_1).Kind == kind_)) (v := .s (.int .u16 (gt l_ i_1).From)) (by kernel_rfl) hf8 (by kernel_rfl) (by kernel_rfl) (by kernel_rfl) (fun hb5 => e_load_ip (g := watch_Point.v) (l := l_) (iv := i_1) [2] (by kernel_rfl) (c3 hb5) (by kernel_rfl) (by kernel_rfl)) fun f9 hf9 => ?_
      refine mops_sg 7 hf9 (by kernel_rfl) fun f10 hf10 => ?_
      obtain ⟨c6, h⟩ := as_ok h
      refine mops_gadv (dst := (some 35)) (op := (.ias 4 (.t 33) (.t 34))) (aft := [18, 19, 16]) (t := 31) (w := true) (ch := [(31, true)]) (b := (((gt l_ i_1).Kind == kind_) && (decide ((gt l_ i_1).From ≤ at_)))) (v := .ip ((cat watch_Point.v l_).drop ((i_1 : Int).toNat * 4))) (by kernel_rfl) hf10 (by kernel_rfl) (by kernel_rfl) (by kernel_rfl) (fun hb7 => e_ias (n := l_.length) (xv := .sl false l_.length (cat watch_Point.v l_)) (k := .i64) (iv := i_1) (p := .ip ((cat watch_Point.v l_).drop ((i_1 : Int).toNat * 4))) (by kernel_rfl) (by kernel_rfl) (by kernel_rfl) (by kernel_rfl) (c6 hb7)) fun f11 hf11 => ?_
      refine mops_sg 1 hf11 (by kernel_rfl) fun f12 hf12 => ?_
      refine mops_gadv (dst := (some 37)) (op := (.load false 1 (.t 36))) (aft := [21, 16]) (t := 31) (w := true) (ch := [(31, true)]) (b := (((gt l_ i_1).Kind == kind_) && (decide ((gt l_ i_1).From ≤ at_)))) (v := .s (.int .u16 (gt l_ i_1).To)) (by kernel_rfl) hf12 (by kernel_rfl) (by kernel_rfl) (by kernel_rfl) (fun hb8 => e_load_ip (g := watch_Point.v) (l := l_) (iv := i_1) [3] (by kernel_rfl) (c6 hb8) (by kernel_rfl) (by kernel_rfl)) fun f13 hf13 => ?_
      refine mops_en hf13 (by kernel_rfl) fun f14 hf14 => ?_
      refine k_c ?_
      refine k_cond hf14 (t := ((((gt l_ i_1).Kind == kind_) && (decide ((gt l_ i_1).From ≤ at_))) && (decide (at_ ≤ (gt l_ i_1).To)))) (by kernel_rfl) (fun hc9 => ?_) (fun hc9 => ?_)
      · have h := if_t h hc9
        refine k_reg ?_
        refine mops_sg 3 hf14 (by kernel_rfl) fun f15 hf15 => ?_
        obtain ⟨c10, h⟩ := as_ok h
        refine mops_adv rfl (v := .ip ((cat watch_Point.v l_).drop ((i_1 : Int).toNat * 4))) hf15 (by kernel_rfl) (e_ias (n := l_.length) (xv := .sl false l_.length (cat watch_Point.v l_)) (k := .i64) (iv := i_1) (p := .ip ((cat watch_Point.v l_).drop ((i_1 : Int).toNat * 4))) (by kernel_rfl) (by kernel_rfl) (by kernel_rfl) (by kernel_rfl) c10) fun f16 hf16 => ?_
        refine mops_seg [0, 1, 2, 6, 7, 8, 9, 10, 11, 12, 15, 16, 17, 18, 19, 20, 21, 22, 23, 24, 25, 26, 27, 28, 29, 30, 31, 32, 33, 34, 35, 36, 37, 38, 39, 40, 41, 42, 43, 44] 1 hf16 (l' := [⟨0, [], .sl false l_.length (cat watch_Point.v l_)⟩, ⟨1, [], .s (.int .i64 kind_)⟩, ⟨2, [], .s (.int .u16 at_)⟩, ⟨6, [], .ref 0 0 0 0⟩, ⟨7, [], .ref 1 v_1 0 l_2.length⟩, ⟨8, [], .s (.int .i64 i_1)⟩, ⟨9, [], .s (.int .i64 i_1)⟩, ⟨10, [], .sl false l_.length (cat watch_Point.v l_)⟩, ⟨11, [], .s (.int .i64 (ln l_))⟩, ⟨12, [], .s (.bool (decide (i_1 < (ln l_))))⟩, ⟨15, [], .sl false l_.length (cat watch_Point.v l_)⟩, ⟨16, [], .s (.int .i64 i_1)⟩, ⟨17, [], .ip ((cat watch_Point.v l_).drop ((i_1 : Int).toNat * 4))⟩, ⟨18, [], .ip (((cat watch_Point.v l_).drop ((i_1 : Int).toNat * 4)).drop 1)⟩, ⟨19, [], .s (.int .i64 (gt l_ i_1).Kind)⟩, ⟨20, [], .s (.int .i64 kind_)⟩, ⟨21, [], .s (.bool ((gt l_ i_1).Kind == kind_))⟩, ⟨22, [], .s (.bool ((gt l_ i_1).Kind == kind_))⟩, ⟨23, [(22, true)], .sl false l_.length (cat watch_Point.v l_)⟩, ⟨24, [(22, true)], .s (.int .i64 i_1)⟩, ⟨25, [(22, true)], .ip ((cat watch_Point.v l_).drop ((i_1 : Int).toNat * 4))⟩, ⟨26, [(22, true)], .ip (((cat watch_Point.v l_).drop ((i_1 : Int).toNat * 4)).drop 2)⟩, ⟨27, [(22, true)], .s (.int .u16 (gt l_ i_1).From)⟩, ⟨28, [(22, true)], .s (.int .u16 at_)⟩, ⟨29, [(22, true)], .s (.bool (decide ((gt l_ i_1).From ≤ at_)))⟩, ⟨30, [], .s (.bool (((gt l_ i_1).Kind == kind_) && (decide ((gt l_ i_1).From ≤ at_))))⟩, ⟨31, [], .s (.bool (((gt l_ i_1).Kind == kind_) && (decide ((gt l_ i_1).From ≤ at_))))⟩, ⟨32, [(31, true)], .s (.int .u16 at_)⟩, ⟨33, [(31, true)], .sl false l_.length (cat watch_Point.v l_)⟩, ⟨34, [(31, true)], .s (.int .i64 i_1)⟩, ⟨35, [(31, true)], .ip ((cat watch_Point.v l_).drop ((i_1 : Int).toNat * 4))⟩, ⟨36, [(31, true)], .ip (((cat watch_Point.v l_).drop ((i_1 : Int).toNat * 4)).drop 3)⟩, ⟨37, [(31, true)], .s (.int .u16 (gt l_ i_1).To)⟩, ⟨38, [(31, true)], .s (.bool (decide (at_ ≤ (gt l_ i_1).To)))⟩, ⟨39, [], .s (.bool ((((gt l_ i_1).Kind == kind_) && (decide ((gt l_ i_1).From ≤ at_))) && (decide (at_ ≤ (gt l_ i_1).To))))⟩, ⟨40, [], .ref 1 v_1 0 l_2.length⟩, ⟨41, [], .sl false l_.length (cat watch_Point.v l_)⟩, ⟨42, [], .s (.int .i64 i_1)⟩, ⟨43, [], .ip ((cat watch_Point.v l_).drop ((i_1 : Int).toNat * 4))⟩, ⟨44, [], .ip (((cat watch_Point.v l_).drop ((i_1 : Int).toNat * 4)).drop 0)⟩]) (L' := [⟨0, .grow, 1, cat (nI .i64) ([] : List Int)⟩, ⟨v_1, .grow, 1, cat (nI .i64) l_2⟩]) (by kernel_rfl) fun f17 hf17 => ?_
        refine mops_adv rfl (v := .s (.int .i64 (gt l_ i_1).Id)) hf17 (by kernel_rfl) (e_load_ip (g := watch_Point.v) (l := l_) (iv := i_1) [0] (by kernel_rfl) c10 (by kernel_rfl) (by kernel_rfl)) fun f18 hf18 => ?_
        refine mops_sg 1 hf18 (by kernel_rfl) fun f19 hf19 => ?_
        obtain ⟨c11, h⟩ := as_ok h
        refine mops_adv rfl (v := .ref 1 (v_1 + 1) 0 (l_2 ++ [(gt l_ i_1).Id]).length) hf19 (by kernel_rfl) (e_app (g := (nI .i64)) (l := l_2) (l' := [(gt l_ i_1).Id]) (b := 1) (ver := v_1) (n := l_2.length) rfl (by kernel_rfl) rfl (live_grow (by kernel_rfl)) (sll_ev (v := .ref 2 0 0 1) (by kernel_rfl) (sll_ref (B := ⟨0, .grow, 1, cat (nI .i64) [(gt l_ i_1).Id]⟩) (by kernel_rfl) (live_grow (by kernel_rfl)))) (slc_ev (v := .ref 2 0 0 1) (by kernel_rfl) (slc_ref (g := (nI .i64)) (l := [(gt l_ i_1).Id]) (kd := .grow) (q := 1) (by kernel_rfl) (live_grow (by kernel_rfl)))) c11) fun f20 hf20 => ?_
        refine mops_en hf20 (by kernel_rfl) fun f21 hf21 => ?_
        refine k_b ?_
        refine k_c ?_
        refine k_reg ?_
        refine mops_en hf21 (by kernel_rfl) fun f22 hf22 => ?_
        refine k_l' (vs_cut (l := [⟨0, [], .sl false l_.length (cat watch_Point.v l_)⟩, ⟨1, [], .s (.int .i64 kind_)⟩, ⟨2, [], .s (.int .u16 at_)⟩, ⟨6, [], .ref 0 0 0 0⟩, ⟨7, [], .ref 1 (v_1 + 1) 0 (l_2 ++ [(gt l_ i_1).Id]).length⟩, ⟨8, [], .s (.int .i64 (IntKind.wrap .i64 (i_1 + 1)))⟩]) 2 (by kernel_rfl) (by kernel_rfl) (L' := [⟨0, .grow, 1, cat (nI .i64) ([] : List Int)⟩, ⟨(v_1 + 1), .grow, 1, cat (nI .i64) (l_2 ++ [(gt l_ i_1).Id])⟩]) (by kernel_rfl) ⟨⟨rfl, (static_under _ _ (by simp [V.static, statics, cat_stat, dropcat_stat]))⟩, ⟨rfl, rfl⟩, ⟨rfl, rfl⟩, ⟨rfl, rfl⟩, ⟨rfl, rfl⟩, ⟨rfl, rfl⟩, trivial⟩ ⟨.inr (.inr (statics_unders _ _ (cat_stat _))), .inr (.inr (statics_unders _ _ (cat_stat _))), trivial⟩ (FOk_of [0, 1, 2, 6, 7, 8] hf22 (by kernel_rfl)) fun f hf => ?_)
        exact ih _ _ ⟨(l_2 ++ [(gt l_ i_1).Id]), (IntKind.wrap .i64 (i_1 + 1)), (v_1 + 1), h, hf, rfl⟩
      · have h := if_f h hc9
        refine k_skip ?_
        refine k_b ?_
        refine k_c ?_
        refine k_reg ?_
        refine mops_en hf14 (by kernel_rfl) fun f15 hf15 => ?_
        refine k_l ?_
        exact ih _ _ ⟨l_2, (IntKind.wrap .i64 (i_1 + 1)), v_1, h, FOk_of [0, 1, 2, 6, 7, 8] hf15 (by kernel_rfl), (by kernel_rfl)⟩
    · have h := if_f h hc1
      refine k_exit ?_
      refine x_c nofun ?_
      refine x_l nofun ?_
      refine x_b ?_
      refine k_hp (L' := [⟨0, .grow, 1, cat (nI .i64) ([] : List Int)⟩, ⟨v_1, .grow, 1, cat (nI .i64) l_2⟩]) (by kernel_rfl) ?_
      exact hgo0 l_2 v_1 (Option.some.inj h) _ (FOk_of [6, 7] hf1 (by kernel_rfl))
def slices_Equal_sl_int_int_i0 : List Op1 := [(oM 4 (.k (.bool false)) [])]
def slices_Equal_sl_int_int_i1 : List Op1 := [(oM 6 (.t 0) []), (oE 7 (.len (.t 6)) [0]), (oM 8 (.t 1) []), (oE 9 (.len (.t 8)) [2]), (oE 10 (.bin .neq (.t 7) (.t 9)) [1, 3])]
def slices_Equal_sl_int_int_i2 : List Op1 := [(oM 4 (.k (.bool false)) [])]
def slices_Equal_sl_int_int_i3 : IR := .ret
def slices_Equal_sl_int_int_i4 : IR := (.cond (.t 10) (.seq (.reg false slices_Equal_sl_int_int_i2) slices_Equal_sl_int_int_i3) .skip)
def slices_Equal_sl_int_int_i5 : List Op1 := [(oM 11 (.t 0) []), (oE 12 (.len (.t 11)) [0]), (oM 13 (.k (.int .i64 0)) [])]
def slices_Equal_sl_int_int_i6 : List Op1 := [(oE 14 (.bin .lss (.t 13) (.t 12)) [])]
def slices_Equal_sl_int_int_i7 : List Op1 := [(oM 15 (.t 13) []), (oM 5 (.t 15) [0, 0])]
def slices_Equal_sl_int_int_i8 : List Op1 := [(oM 16 (.t 0) []), (oM 17 (.t 5) []), (oE 18 (.ias 1 (.t 16) (.t 17)) [0, 1]), (oE 19 (.load false 1 (.t 18)) [2]), (oM 20 (.t 1) []), (oM 21 (.t 5) []), (oE 22 (.ias 1 (.t 20) (.t 21)) [4, 5]), (oE 23 (.load false 1 (.t 22)) [6]), (oE 24 (.bin .neq (.t 19) (.t 23)) [3, 7])]
def slices_Equal_sl_int_int_i9 : List Op1 := [(oM 4 (.k (.bool false)) [])]
def slices_Equal_sl_int_int_i10 : IR := .ret
def slices_Equal_sl_int_int_i11 : IR := (.cond (.t 24) (.seq (.reg false slices_Equal_sl_int_int_i9) slices_Equal_sl_int_int_i10) .skip)
def slices_Equal_sl_int_int_i12 : IR := (.seq (.reg true slices_Equal_sl_int_int_i8) slices_Equal_sl_int_int_i11)
def slices_Equal_sl_int_int_i13 : List Op1 := [(oE 25 (.bin .add (.t 13) (.k (.int .i64 1))) []), (oM 13 (.t 25) [0])]
def slices_Equal_sl_int_int_i14 : IR := (.reg false slices_Equal_sl_int_int_i13)
def slices_Equal_sl_int_int_i15 : IR := (.seq (.block 1 (.seq (.reg false slices_Equal_sl_int_int_i7) slices_Equal_sl_int_int_i12)) slices_Equal_sl_int_int_i14)
def slices_Equal_sl_int_int_i16 : IR := (.seq (.cond (.t 14) .skip (.exit 0)) slices_Equal_sl_int_int_i15)
def slices_Equal_sl_int_int_i17 : IR := (.seq (.reg false slices_Equal_sl_int_int_i6) slices_Equal_sl_int_int_i16)
def slices_Equal_sl_int_int_i18 : IR := (.block 0 (.loop slices_Equal_sl_int_int_i17))
def slices_Equal_sl_int_int_i19 : List Op1 := [(oM 4 (.k (.bool true)) [])]
def slices_Equal_sl_int_int_i20 : IR := .ret
def slices_Equal_sl_int_int_i21 : IR := (.seq (.reg false slices_Equal_sl_int_int_i19) slices_Equal_sl_int_int_i20)
def slices_Equal_sl_int_int_i22 : IR := (.seq (.seq (.reg false slices_Equal_sl_int_int_i5) slices_Equal_sl_int_int_i18) slices_Equal_sl_int_int_i21)
def slices_Equal_sl_int_int_i23 : IR := (.seq (.seq (.reg false slices_Equal_sl_int_int_i1) slices_Equal_sl_int_int_i4) slices_Equal_sl_int_int_i22)
def slices_Equal_sl_int_int_ir : IR := (.seq (.reg false slices_Equal_sl_int_int_i0) slices_Equal_sl_int_int_i23)
theorem slices_Equal_sl_int_int_cfn : cFn Try.prog 8 = some (slices_Equal_sl_int_int_ir, [(.t 4)], 26) := by kernel_rfl
def slices_Equal_sl_int_int_V (r : (Bool)) : V := .s (.bool r)
def slices_Equal_sl_int_int_C (r : (Bool)) : X → Fr → Hp → Prop := FinL [(.t 4)] [] (slices_Equal_sl_int_int_V r) []
theorem slices_Equal_sl_int_int_ok (s1_ : (List Int)) (s2_ : (List Int)) (r : (Bool)) (h : slices_Equal_sl_int_int s1_ s2_ = some r) : Pure Try.prog 8 [.sl false s1_.length (cat (nI .i64) s1_), .sl false s2_.length (cat (nI .i64) s2_)] (slices_Equal_sl_int_int_V r) := by
  refine ConL.of slices_Equal_sl_int_int_cfn (Nat.le_of_ble_eq_true (by kernel_rfl)) (Nat.le_of_ble_eq_true (by kernel_rfl)) ?_
  refine k_start ?_
  show dwv Try.prog [] slices_Equal_sl_int_int_ir (kont Try.prog [] (slices_Equal_sl_int_int_C r) []) (fr0 [.sl false s1_.length (cat (nI .i64) s1_), .sl false s2_.length (cat (nI .i64) s2_)]) []
  have hf : FOk (fr0 [.sl false s1_.length (cat (nI .i64) s1_), .sl false s2_.length (cat (nI .i64) s2_)]) [⟨0, [], .sl false s1_.length (cat (nI .i64) s1_)⟩, ⟨1, [], .sl false s2_.length (cat (nI .i64) s2_)⟩] := ⟨⟨fun _ => rfl, fun h => (h trivial).elim⟩, ⟨fun _ => rfl, fun h => (h trivial).elim⟩, trivial⟩
  generalize fr0 [.sl false s1_.length (cat (nI .i64) s1_), .sl false s2_.length (cat (nI .i64) s2_)] = f at hf ⊢
  unfold slices_Equal_sl_int_int at h
  refine k_seq ?_
  refine k_reg ?_
  refine mops_en hf (by kernel_rfl) fun f1 hf1 => ?_
  refine k_c ?_
  refine k_seq ?_
  refine k_seq ?_
  refine k_reg ?_
  refine mops_en hf1 (by kernel_rfl) fun f2 hf2 => ?_
  refine k_c ?_
  refine k_cond hf2 (t := ((ln s1_) != (ln s2_))) (by kernel_rfl) (fun hc1 => ?_) (fun hc1 => ?_)
  · have h := if_t h hc1
    refine k_seq ?_
    refine k_reg ?_
    refine mops_en hf2 (by kernel_rfl) fun f3 hf3 => ?_
    refine k_c ?_
    refine k_ret ?_
    refine x_c nofun ?_
    obtain rfl := Option.some.inj h
    exact k_fin (fin_ret (.inl rfl) hf3 (vs := [.s (.bool false)]) (by kernel_rfl) (SettL.pure (FzL.stat rfl)))
  · have h := if_f h hc1
    refine k_skip ?_
    refine k_c ?_
    refine k_seq ?_
    refine k_seq ?_
    refine k_reg ?_
    refine mops_en hf2 (by kernel_rfl) fun f3 hf3 => ?_
    refine k_c ?_
    refine k_block ?_
    obtain ⟨o0, hx0, h⟩ := Option.bind_eq_some_iff.1 h
    have hret0 : ∀ r0, .ret r0 = o0 → r0 = r := fun r0 e => by subst e; exact Option.some.inj h
    have hgo0 : .go () = o0 → ∀ f, FOk f [⟨4, [], .s (.bool false)⟩] → kont Try.prog [] (slices_Equal_sl_int_int_C r) ((.c slices_Equal_sl_int_int_i21) :: []) .normal f [] := by
      intro  e f hf
      subst e
      refine k_c ?_
      refine k_seq ?_
      refine k_reg ?_
      refine mops_en hf (by kernel_rfl) fun f1 hf1 => ?_
      refine k_c ?_
      refine k_ret ?_
      obtain rfl := Option.some.inj h
      exact k_fin (fin_ret (.inl rfl) hf1 (vs := [.s (.bool true)]) (by kernel_rfl) (SettL.pure (FzL.stat rfl)))
    refine k_loop BIG ?_
    refine loop_ind (fun n f L => ∃ (t_1 : Int), slices_Equal_sl_int_int_l0 s1_ s2_ n t_1 = some o0 ∧ FOk f [⟨0, [], .sl false s1_.length (cat (nI .i64) s1_)⟩, ⟨1, [], .sl false s2_.length (cat (nI .i64) s2_)⟩, ⟨4, [], .s (.bool false)⟩, ⟨12, [], .s (.int .i64 (ln s1_))⟩, ⟨13, [], .s (.int .i64 t_1)⟩] ∧ L = []) ?_ ?_ BIG _ _ ⟨(0), hx0, FOk_of [0, 1, 4, 12, 13] hf3 (by kernel_rfl), (by kernel_rfl)⟩
    · rintro f L ⟨t_1, h, _⟩
      cases (show (none : Option _) = some _ from h)
    · rintro n0 R0 ih f L ⟨t_1, h, hf, rfl⟩
      rw [slices_Equal_sl_int_int_l0] at h
      refine k_seq ?_
      refine k_reg ?_
      refine mops_en hf (by kernel_rfl) fun f1 hf1 => ?_
      refine k_c ?_
      refine k_seq ?_
      refine k_cond hf1 (t := (decide (t_1 < (ln s1_)))) (by kernel_rfl) (fun hc2 => ?_) (fun hc2 => ?_)
      · have h := if_t h hc2
        refine k_skip ?_
        refine k_c ?_
        refine k_seq ?_
        refine k_block ?_
        refine k_seq ?_
        refine k_reg ?_
        refine mops_en hf1 (by kernel_rfl) fun f2 hf2 => ?_
        refine k_c ?_
        refine k_seq ?_
        refine k_regq ?_
        refine mops_sg 2 hf2 (by kernel_rfl) fun f3 hf3 => ?_
        obtain ⟨c3, h⟩ := as_ok h
        refine mops_adv rfl (v := .ip ((cat (nI .i64) s1_).drop ((t_1 : Int).toNat * 1))) hf3 (by kernel_rfl) (e_ias (n := s1_.length) (xv := .sl false s1_.length (cat (nI .i64) s1_)) (k := .i64) (iv := t_1) (p := .ip ((cat (nI .i64) s1_).drop ((t_1 : Int).toNat * 1))) (by kernel_rfl) (by kernel_rfl) (by kernel_rfl) (by kernel_rfl) c3) fun f4 hf4 => ?_
        refine mops_adv rfl (v := .s (.int .i64 (gt s1_ t_1))) hf4 (by kernel_rfl) (e_load_ip (g := (nI .i64)) (l := s1_) (iv := t_1) [] (by kernel_rfl) c3 (by kernel_rfl) (by kernel_rfl)) fun f5 hf5 => ?_
        refine mops_sg 2 hf5 (by kernel_rfl) fun f6 hf6 => ?_
        obtain ⟨c4, h⟩ := as_ok h
        refine mops_adv rfl (v := .ip ((cat (nI .i64) s2_).drop ((t_1 : Int).toNat * 1))) hf6 (by kernel_rfl) (e_ias (n := s2_.length) (xv := .sl false s2_.length (cat (nI .i64) s2_)) (k := .i64) (iv := t_1) (p := .ip ((cat (nI .i64) s2_).drop ((t_1 : Int).toNat * 1))) (by kernel_rfl) (by kernel_rfl) (by kernel_rfl) (by kernel_rfl) c4) fun f7 hf7 => ?_
        refine mops_adv rfl (v := .s (.int .i64 (gt s2_ t_1))) hf7 (by kernel_rfl) (e_load_ip (g := (nI .i64)) (l := s2_) (iv := t_1) [] (by kernel_rfl) c4 (by kernel_rfl) (by kernel_rfl)) fun f8 hf8 => ?_
        refine mops_en hf8 (by kernel_rfl) fun f9 hf9 => ?_
        refine k_c ?_
        refine k_cond hf9 (t := ((gt s1_ t_1) != (gt s2_ t_1))) (by kernel_rfl) (fun hc5 => ?_) (fun hc5 => ?_)
        · have h := if_t h hc5
          refine k_seq ?_
          refine k_reg ?_
          refine mops_en hf9 (by kernel_rfl) fun f10 hf10 => ?_
          refine k_c ?_
          refine k_ret ?_
          refine x_br ?_
          refine x_c nofun ?_
          refine x_l nofun ?_
          refine x_br ?_
          refine x_c nofun ?_
          obtain rfl := hret0 _ (Option.some.inj h)
          exact k_fin (fin_ret (.inl rfl) hf10 (vs := [.s (.bool false)]) (by kernel_rfl) (SettL.pure (FzL.stat rfl)))
        · have h := if_f h hc5
          refine k_skip ?_
          refine k_b ?_
          refine k_c ?_
          refine k_reg ?_
          refine mops_en hf9 (by kernel_rfl) fun f10 hf10 => ?_
          refine k_l ?_
          exact ih _ _ ⟨(IntKind.wrap .i64 (t_1 + 1)), h, FOk_of [0, 1, 4, 12, 13] hf10 (by kernel_rfl), (by kernel_rfl)⟩
      · have h := if_f h hc2
        refine k_exit ?_
        refine x_c nofun ?_
        refine x_l nofun ?_
        refine x_b ?_
        refine k_hp (L' := []) (by kernel_rfl) ?_
        exact hgo0  (Option.some.inj h) _ (FOk_of [4] hf1 (by kernel_rfl))
def watch_Watch_hits_i0 : List Op1 := [(oE 6 (.nilg 1) [])]
def watch_Watch_hits_i1 : List Op1 := [(oE 7 (.nilg 1) [])]
def watch_Watch_hits_i2 : List Op1 := [(oM 10 (.t 0) []), (oE 11 (.nilc (.t 10)) [0]), (oE 12 (.fld 0 (.t 11)) [1]), (oE 13 (.load false 1 (.t 12)) [2]), (oE 14 (.len (.t 13)) [3]), (oM 15 (.k (.int .i64 0)) [])]
def watch_Watch_hits_i3 : List Op1 := [(oE 16 (.bin .lss (.t 15) (.t 14)) [])]
def watch_Watch_hits_i4 : List Op1 := [(oE 17 (.ias 4 (.t 13) (.t 15)) []), (oE 18 (.load true 4 (.t 17)) [0]), (oE 9 (.zero [(.int .i64 0), (.int .i64 0), (.int .u16 0), (.int .u16 0)]) []), (oN (.store 4 (.t 9) (.t 18)) [2, 1, 0, 1, 2])]
def watch_Watch_hits_i5 : List Op1 := [(oE 19 (.fld 1 (.t 9)) []), (oE 20 (.load false 1 (.t 19)) [0]), (oM 21 (.t 1) []), (oE 22 (.bin .eql (.t 20) (.t 21)) [1, 2]), (oM 23 (.t 22) [3]), (oG 24 (.mv (.t 2)) 23 true [4]), (oG 25 (.fld 2 (.t 9)) 23 true [4]), (oG 26 (.load false 1 (.t 25)) 23 true [6, 4]), (oG 27 (.bin .geq (.t 24) (.t 26)) 23 true [5, 7, 4]), (oE 28 (.pick (.t 23) (.t 27) (.k (.bool false))) [4, 8]), (oM 29 (.t 28) [9, 4]), (oG 30 (.mv (.t 2)) 29 true [10]), (oG 31 (.fld 3 (.t 9)) 29 true [10]), (oG 32 (.load false 1 (.t 31)) 29 true [12, 10]), (oG 33 (.bin .leq (.t 30) (.t 32)) 29 true [11, 13, 10]), (oE 34 (.pick (.t 29) (.t 33) (.k (.bool false))) [10, 14])]
def watch_Watch_hits_i6 : List Op1 := [(oM 35 (.t 7) []), (oE 36 (.fld 0 (.t 9)) []), (oE 37 (.load false 1 (.t 36)) [1]), (oE 38 (.bslo 1 1 [(.int .i64 0)] [(0, (1, (.t 37)))]) [2]), (oE 39 (.app 3 1 8 (.t 35) (.t 38)) [0, 3]), (oM 7 (.t 39) [4, 4, 0, 1, 2, 3, 4])]
def watch_Watch_hits_i7 : IR := (.cond (.t 34) (.reg false watch_Watch_hits_i6) .skip)
def watch_Watch_hits_i8 : IR := (.seq (.reg false watch_Watch_hits_i5) watch_Watch_hits_i7)
def watch_Watch_hits_i9 : List Op1 := [(oE 40 (.bin .add (.t 15) (.k (.int .i64 1))) []), (oM 15 (.t 40) [0])]
def watch_Watch_hits_i10 : IR := (.reg false watch_Watch_hits_i9)
def watch_Watch_hits_i11 : IR := (.seq (.block 1 (.seq (.reg false watch_Watch_hits_i4) watch_Watch_hits_i8)) watch_Watch_hits_i10)
def watch_Watch_hits_i12 : IR := (.seq (.cond (.t 16) .skip (.exit 0)) watch_Watch_hits_i11)
def watch_Watch_hits_i13 : IR := (.seq (.reg false watch_Watch_hits_i3) watch_Watch_hits_i12)
def watch_Watch_hits_i14 : IR := (.block 0 (.loop watch_Watch_hits_i13))
def watch_Watch_hits_i15 : List Op1 := [(oM 41 (.t 7) []), (oM 6 (.t 41) [0, 0])]
def watch_Watch_hits_i16 : IR := .ret
def watch_Watch_hits_i17 : IR := (.seq (.reg false watch_Watch_hits_i15) watch_Watch_hits_i16)
def watch_Watch_hits_i18 : IR := (.seq (.seq (.reg false watch_Watch_hits_i2) watch_Watch_hits_i14) watch_Watch_hits_i17)
def watch_Watch_hits_i19 : IR := (.seq (.reg false watch_Watch_hits_i1) watch_Watch_hits_i18)
def watch_Watch_hits_ir : IR := (.seq (.reg false watch_Watch_hits_i0) watch_Watch_hits_i19)
theorem watch_Watch_hits_cfn : cFn Try.prog 26 = some (watch_Watch_hits_ir, [(.t 6)], 42) := by kernel_rfl
def watch_Watch_hits_V (ver_ : Nat) (r : ((List Int))) : V := .sl false r.length (cat (nI .i64) r)
def watch_Watch_hits_L (w_ : watch_Watch) (ver_ : Nat) : Hp := [⟨ver_, .grow, 4, cat watch_Point.v w_.l⟩, ⟨0, .mem, 1, [.ref 0 ver_ 0 w_.l.length, .s (.int .i64 w_.last)]⟩]
def watch_Watch_hits_C (w_ : watch_Watch) (ver_ : Nat) (r : ((List Int))) : X → Fr → Hp → Prop := FinL [(.t 6)] (watch_Watch_hits_L w_ ver_) (watch_Watch_hits_V ver_ r) [⟨ver_, .grow, 4, cat watch_Point.v w_.l⟩, ⟨0, .mem, 1, [.ref 0 ver_ 0 w_.l.length, .s (.int .i64 w_.last)]⟩]
theorem watch_Watch_hits_ok (w_ : watch_Watch) (kind_ : Int) (at_ : Int) (ver_ : Nat) (r : ((List Int))) (h : watch_Watch_hits w_ kind_ at_ = some r) : ConL Try.prog 26 [.ptr 1 0 0, .s (.int .i64 kind_), .s (.int .u16 at_)] [⟨ver_, .grow, 4, cat watch_Point.v w_.l⟩, ⟨0, .mem, 1, [.ref 0 ver_ 0 w_.l.length, .s (.int .i64 w_.last)]⟩] (watch_Watch_hits_V ver_ r) [⟨ver_, .grow, 4, cat watch_Point.v w_.l⟩, ⟨0, .mem, 1, [.ref 0 ver_ 0 w_.l.length, .s (.int .i64 w_.last)]⟩] := by
  refine ConL.of watch_Watch_hits_cfn (Nat.le_of_ble_eq_true (by kernel_rfl)) (Nat.le_of_ble_eq_true (by kernel_rfl)) ?_
  refine k_start ?_
  show dwv Try.prog (watch_Watch_hits_L w_ ver_) watch_Watch_hits_ir (kont Try.prog (watch_Watch_hits_L w_ ver_) (watch_Watch_hits_C w_ ver_ r) []) (fr0 [.ptr 1 0 0, .s (.int .i64 kind_), .s (.int .u16 at_)]) [⟨ver_, .grow, 4, cat watch_Point.v w_.l⟩, ⟨0, .mem, 1, [.ref 0 ver_ 0 w_.l.length, .s (.int .i64 w_.last)]⟩]
  have hf : FOk (fr0 [.ptr 1 0 0, .s (.int .i64 kind_), .s (.int .u16 at_)]) [⟨0, [], .ptr 1 0 0⟩, ⟨1, [], .s (.int .i64 kind_)⟩, ⟨2, [], .s (.int .u16 at_)⟩] := ⟨⟨fun _ => rfl, fun h => (h trivial).elim⟩, ⟨fun _ => rfl, fun h => (h trivial).elim⟩, ⟨fun _ => rfl, fun h => (h trivial).elim⟩, trivial⟩
  generalize fr0 [.ptr 1 0 0, .s (.int .i64 kind_), .s (.int .u16 at_)] = f at hf ⊢
  unfold watch_Watch_hits at h
  refine k_seq ?_
  refine k_reg ?_
  refine mops_en hf (by kernel_rfl) fun f1 hf1 => ?_
  refine k_c ?_
  refine k_seq ?_
  refine k_reg ?_
  refine mops_en hf1 (by kernel_rfl) fun f2 hf2 => ?_
  refine k_c ?_
  refine k_seq ?_
  refine k_seq ?_
  refine k_reg ?_
  refine mops_sg 4 hf2 (by kernel_rfl) fun f3 hf3 => ?_
  refine mops_adv rfl (v := .s (.int .i64 (ln w_.l))) hf3 (by kernel_rfl) (e_len_ref (l := w_.l) (B := ⟨ver_, .grow, 4, cat watch_Point.v w_.l⟩) (b := 0) (ver := ver_) (n := w_.l.length) (by kernel_rfl) rfl (live_grow (by kernel_rfl))) fun f4 hf4 => ?_
  refine mops_en hf4 (by kernel_rfl) fun f5 hf5 => ?_
  refine k_c ?_
  refine k_block ?_
  obtain ⟨o0, hx0, h⟩ := Option.bind_eq_some_iff.1 h
  have hgo0 : ∀ (l_2 : (List Int)) (v_2 : Nat), l_2 = o0 → ∀ f, FOk f [⟨6, [], .ref 2 0 0 0⟩, ⟨7, [], .ref 3 v_2 0 l_2.length⟩] → kont Try.prog (watch_Watch_hits_L w_ ver_) (watch_Watch_hits_C w_ ver_ r) ((.c watch_Watch_hits_i17) :: []) .normal f [⟨ver_, .grow, 4, cat watch_Point.v w_.l⟩, ⟨0, .mem, 1, [.ref 0 ver_ 0 w_.l.length, .s (.int .i64 w_.last)]⟩, ⟨0, .grow, 1, cat (nI .i64) ([] : List Int)⟩, ⟨v_2, .grow, 1, cat (nI .i64) l_2⟩] := by
    intro l_2 v_2 e f hf
    subst e
    refine k_c ?_
    refine k_seq ?_
    refine k_reg ?_
    refine mops_en hf (by kernel_rfl) fun f1 hf1 => ?_
    refine k_c ?_
    refine k_ret ?_
    obtain rfl := Option.some.inj h
    exact k_fin (fin_ret (.inl rfl) hf1 (vs := [.ref 3 v_2 0 l_2.length]) (by kernel_rfl) (SettL.cutb (L' := [⟨ver_, .grow, 4, cat watch_Point.v w_.l⟩, ⟨0, .mem, 1, [.ref 0 ver_ 0 w_.l.length, .s (.int .i64 w_.last)]⟩]) 2 (by kernel_rfl) (by kernel_rfl) (by kernel_rfl) ⟨.inr (.inr (statics_unders _ _ (cat_stat _))), .inr (.inr rfl), trivial⟩ (FzL.whole (g := (nI .i64)) (kd := .grow) (l := l_2) (by kernel_rfl) rfl (live_grow (by kernel_rfl)))))
  refine k_loop BIG ?_
  refine loop_ind (fun n f L => ∃ (l_1 : (List Int)) (t_1 : Int) (v_1 : Nat), watch_Watch_hits_l0 w_ kind_ at_ n l_1 t_1 = some o0 ∧ FOk f [⟨1, [], .s (.int .i64 kind_)⟩, ⟨2, [], .s (.int .u16 at_)⟩, ⟨6, [], .ref 2 0 0 0⟩, ⟨7, [], .ref 3 v_1 0 l_1.length⟩, ⟨13, [], .ref 0 ver_ 0 w_.l.length⟩, ⟨14, [], .s (.int .i64 (ln w_.l))⟩, ⟨15, [], .s (.int .i64 t_1)⟩] ∧ L = [⟨ver_, .grow, 4, cat watch_Point.v w_.l⟩, ⟨0, .mem, 1, [.ref 0 ver_ 0 w_.l.length, .s (.int .i64 w_.last)]⟩, ⟨0, .grow, 1, cat (nI .i64) ([] : List Int)⟩, ⟨v_1, .grow, 1, cat (nI .i64) l_1⟩]) ?_ ?_ BIG _ _ ⟨([] : List Int), (0), (0), hx0, FOk_of [1, 2, 6, 7, 13, 14, 15] hf5 (by kernel_rfl), (by kernel_rfl)⟩
  · rintro f L ⟨l_1, t_1, v_1, h, _⟩
    cases (show (none : Option _) = some _ from h)
  · rintro n0 R0 ih f L ⟨l_1, t_1, v_1, h, hf, rfl⟩
    rw [watch_Watch_hits_l0] at h
    refine k_seq ?_
    refine k_reg ?_
    refine mops_en hf (by kernel_rfl) fun f1 hf1 => ?_
    refine k_c ?_
    refine k_seq ?_
    refine k_cond hf1 (t := (decide (t_1 < (ln w_.l)))) (by kernel_rfl) (fun hc1 => ?_) (fun hc1 => ?_)
    · have h := if_t h hc1
      refine k_skip ?_
      refine k_c ?_
      refine k_seq ?_
      refine k_block ?_
      refine k_seq ?_
      refine k_reg ?_
      obtain ⟨c2, h⟩ := as_ok h
      refine mops_adv rfl (v := .ptr 0 ver_ (0 + (t_1 : Int).toNat * 4)) hf1 (by kernel_rfl) (e_ias_ref (l := w_.l) (B := ⟨ver_, .grow, 4, cat watch_Point.v w_.l⟩) (b := 0) (ver := ver_) (n := w_.l.length) (k := .i64) (iv := t_1) (by kernel_rfl) (by kernel_rfl) rfl (live_grow (by kernel_rfl)) c2) fun f2 hf2 => ?_
      refine mops_adv rfl (v := .agg [.s (.int .i64 (gt w_.l t_1).Id), .s (.int .i64 (gt w_.l t_1).Kind), .s (.int .u16 (gt w_.l t_1).From), .s (.int .u16 (gt w_.l t_1).To)]) hf2 (by kernel_rfl) (e_load_pe (g := watch_Point.v) (l := w_.l) (iv := t_1) (kd := .grow) (q := 4) (b := 0) (ver := ver_) [] (by kernel_rfl) (live_grow (by kernel_rfl)) c2 (by kernel_rfl) (by kernel_rfl)) fun f3 hf3 => ?_
      refine mops_en hf3 (by kernel_rfl) fun f4 hf4 => ?_
      refine k_c ?_
      refine k_seq ?_
      refine k_reg ?_
      refine mops_en hf4 (by kernel_rfl) fun f5 hf5 => ?_
      refine k_c ?_
      refine k_cond hf5 (t := ((((gt w_.l t_1).Kind == kind_) && (decide ((gt w_.l t_1).From ≤ at_))) && (decide (at_ ≤ (gt w_.l t_1).To)))) (by kernel_rfl) (fun hc3 => ?_) (fun hc3 => ?_)
      · have h := if_t h hc3
        refine k_reg ?_
        refine mops_sg 4 hf5 (by kernel_rfl) fun f6 hf6 => ?_
        obtain ⟨c4, h⟩ := as_ok h
        refine mops_adv rfl (v := .ref 3 (v_1 + 1) 0 (l_1 ++ [(gt w_.l t_1).Id]).length) hf6 (by kernel_rfl) (e_app (g := (nI .i64)) (l := l_1) (l' := [(gt w_.l t_1).Id]) (b := 3) (ver := v_1) (n := l_1.length) rfl (by kernel_rfl) rfl (live_grow (by kernel_rfl)) (sll_ev (v := .ref 5 0 0 1) (by kernel_rfl) (sll_ref (B := ⟨0, .grow, 1, cat (nI .i64) [(gt w_.l t_1).Id]⟩) (by kernel_rfl) (live_grow (by kernel_rfl)))) (slc_ev (v := .ref 5 0 0 1) (by kernel_rfl) (slc_ref (g := (nI .i64)) (l := [(gt w_.l t_1).Id]) (kd := .grow) (q := 1) (by kernel_rfl) (live_grow (by kernel_rfl)))) c4) fun f7 hf7 => ?_
        refine mops_en hf7 (by kernel_rfl) fun f8 hf8 => ?_
        refine k_b ?_
        refine k_c ?_
        refine k_reg ?_
        refine mops_en hf8 (by kernel_rfl) fun f9 hf9 => ?_
        refine k_l' (vs_cut (l := [⟨1, [], .s (.int .i64 kind_)⟩, ⟨2, [], .s (.int .u16 at_)⟩, ⟨6, [], .ref 2 0 0 0⟩, ⟨7, [], .ref 3 (v_1 + 1) 0 (l_1 ++ [(gt w_.l t_1).Id]).length⟩, ⟨13, [], .ref 0 ver_ 0 w_.l.length⟩, ⟨14, [], .s (.int .i64 (ln w_.l))⟩, ⟨15, [], .s (.int .i64 (IntKind.wrap .i64 (t_1 + 1)))⟩]) 4 (by kernel_rfl) (by kernel_rfl) (L' := [⟨ver_, .grow, 4, cat watch_Point.v w_.l⟩, ⟨0, .mem, 1, [.ref 0 ver_ 0 w_.l.length, .s (.int .i64 w_.last)]⟩, ⟨0, .grow, 1, cat (nI .i64) ([] : List Int)⟩, ⟨(v_1 + 1), .grow, 1, cat (nI .i64) (l_1 ++ [(gt w_.l t_1).Id])⟩]) (by kernel_rfl) ⟨⟨rfl, rfl⟩, ⟨rfl, rfl⟩, ⟨rfl, rfl⟩, ⟨rfl, rfl⟩, ⟨rfl, rfl⟩, ⟨rfl, rfl⟩, ⟨rfl, rfl⟩, trivial⟩ ⟨.inr (.inr (statics_unders _ _ (cat_stat _))), .inr (.inr rfl), .inr (.inr (statics_unders _ _ (cat_stat _))), .inr (.inr (statics_unders _ _ (cat_stat _))), trivial⟩ (FOk_of [1, 2, 6, 7, 13, 14, 15] hf9 (by kernel_rfl)) fun f hf => ?_)
        exact ih _ _ ⟨(l_1 ++ [(gt w_.l t_1).Id]), (IntKind.wrap .i64 (t_1 + 1)), (v_1 + 1), h, hf, rfl⟩
      · have h := if_f h hc3
        refine k_skip ?_
        refine k_b ?_
        refine k_c ?_
        refine k_reg ?_
        refine mops_en hf5 (by kernel_rfl) fun f6 hf6 => ?_
        refine k_l' (vs_cut (l := [⟨1, [], .s (.int .i64 kind_)⟩, ⟨2, [], .s (.int .u16 at_)⟩, ⟨6, [], .ref 2 0 0 0⟩, ⟨7, [], .ref 3 v_1 0 l_1.length⟩, ⟨13, [], .ref 0 ver_ 0 w_.l.length⟩, ⟨14, [], .s (.int .i64 (ln w_.l))⟩, ⟨15, [], .s (.int .i64 (IntKind.wrap .i64 (t_1 + 1)))⟩]) 4 (by kernel_rfl) (by kernel_rfl) (L' := [⟨ver_, .grow, 4, cat watch_Point.v w_.l⟩, ⟨0, .mem, 1, [.ref 0 ver_ 0 w_.l.length, .s (.int .i64 w_.last)]⟩, ⟨0, .grow, 1, cat (nI .i64) ([] : List Int)⟩, ⟨v_1, .grow, 1, cat (nI .i64) l_1⟩]) (by kernel_rfl) ⟨⟨rfl, rfl⟩, ⟨rfl, rfl⟩, ⟨rfl, rfl⟩, ⟨rfl, rfl⟩, ⟨rfl, rfl⟩, ⟨rfl, rfl⟩, ⟨rfl, rfl⟩, trivial⟩ ⟨.inr (.inr (statics_unders _ _ (cat_stat _))), .inr (.inr rfl), .inr (.inr (statics_unders _ _ (cat_stat _))), .inr (.inr (statics_unders _ _ (cat_stat _))), trivial⟩ (FOk_of [1, 2, 6, 7, 13, 14, 15] hf6 (by kernel_rfl)) fun f hf => ?_)
        exact ih _ _ ⟨l_1, (IntKind.wrap .i64 (t_1 + 1)), v_1, h, hf, rfl⟩
    · have h := if_f h hc1
      refine k_exit ?_
      refine x_c nofun ?_
      refine x_l nofun ?_
      refine x_b ?_
      refine k_hp (L' := [⟨ver_, .grow, 4, cat watch_Point.v w_.l⟩, ⟨0, .mem, 1, [.ref 0 ver_ 0 w_.l.length, .s (.int .i64 w_.last)]⟩, ⟨0, .grow, 1, cat (nI .i64) ([] : List Int)⟩, ⟨v_1, .grow, 1, cat (nI .i64) l_1⟩]) (by kernel_rfl) ?_
      exact hgo0 l_1 v_1 (Option.some.inj h) _ (FOk_of [6, 7] hf1 (by kernel_rfl))
end Go.Proofs.YtfdadnldlngmeaaK
