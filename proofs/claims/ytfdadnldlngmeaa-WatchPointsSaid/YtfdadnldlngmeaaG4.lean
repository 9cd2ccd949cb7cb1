/- The Go functions come to the functions over typed data. Printed by a program of this work. -/
import Derived.Test.YtfdadnldlngmeaaF
import Derived.Test.YtfdadnldlngmeaaProg
import Derived.Test.YtfdadnldlngmeaaRq
import Derived.Test.YtfdadnldlngmeaaG0
import Derived.Test.YtfdadnldlngmeaaG1
import Derived.Test.YtfdadnldlngmeaaG2
import Derived.Test.YtfdadnldlngmeaaG3
namespace Go.Proofs.YtfdadnldlngmeaaK
set_option linter.unusedVariables false
set_option linter.unusedSimpArgs false
set_option maxHeartbeats 4000000
open Go.RowKit
attribute [local irreducible] dwv mops lops lqops lwops kont iter run runK rk okK ex E1 vals val chain chB sel resF
def spinetlaw49_WatchPoints_i0 : List Op1 := [(oE 3 (.box (.t 1)) []), (oM 4 (.k (.bool false)) [])]
def spinetlaw49_WatchPoints_i1 : List Op1 := [(oM 9 (.t 0) []), (oE 10 (.len (.t 9)) [0]), (oE 11 (.bin .gtr (.t 10) (.k (.int .i64 40))) [1])]
def spinetlaw49_WatchPoints_i2 : List Op1 := [(oM 4 (.k (.bool true)) [])]
def spinetlaw49_WatchPoints_i3 : IR := .ret
def spinetlaw49_WatchPoints_i4 : IR := (.cond (.t 11) (.seq (.reg false spinetlaw49_WatchPoints_i2) spinetlaw49_WatchPoints_i3) .skip)
def spinetlaw49_WatchPoints_i5 : List Op1 := [(oE 12 (.build [(.slice none 0 0), (.int .i64 0)] []) []), (oE 13 (.box (.t 12)) [0]), (oM 5 (.t 13) [1, 0, 1])]
def spinetlaw49_WatchPoints_i6 : List Op1 := [(oM 15 (.t 5) []), (oM 16 (.t 0) []), (oC 17 6 [(.t 15), (.t 16)] [0, 1]), (oM 14 (.t 17) [2]), (oE 18 (.ext 0 (.t 14)) [3]), (oE 19 (.ext 1 (.t 14)) [3]), (oM 6 (.t 18) [4, 2, 0, 1, 2, 3, 4]), (oM 7 (.t 19) [5, 6, 0, 1, 2, 3, 4, 5, 6])]
def spinetlaw49_WatchPoints_i7 : List Op1 := [(oM 20 (.t 7) []), (oE 21 (.un .not (.t 20)) [0])]
def spinetlaw49_WatchPoints_i8 : List Op1 := [(oM 4 (.k (.bool false)) [])]
def spinetlaw49_WatchPoints_i9 : IR := .ret
def spinetlaw49_WatchPoints_i10 : IR := (.cond (.t 21) (.seq (.reg false spinetlaw49_WatchPoints_i8) spinetlaw49_WatchPoints_i9) .skip)
def spinetlaw49_WatchPoints_i11 : List Op1 := [(oE 8 (.nilg 1) [])]
def spinetlaw49_WatchPoints_i12 : List Op1 := [(oE 22 (.fld 8 (.t 3)) []), (oE 23 (.load false 1 (.t 22)) [0]), (oM 24 (.t 23) [1]), (oG 25 (.fld 2 (.t 3)) 24 true [2]), (oG 26 (.load false 1 (.t 25)) 24 true [3, 2]), (oE 27 (.pick (.t 24) (.t 26) (.k (.bool false))) [2, 4])]
def spinetlaw49_WatchPoints_i13 : List Op1 := [(oM 28 (.t 6) []), (oE 29 (.fld 0 (.t 3)) []), (oE 30 (.load false 1 (.t 29)) [1]), (oC 31 7 [(.t 28), (.k (.int .i64 0)), (.t 30)] [0, 2]), (oM 8 (.t 31) [3, 3, 0, 1, 2, 3])]
def spinetlaw49_WatchPoints_i14 : IR := (.cond (.t 27) (.reg false spinetlaw49_WatchPoints_i13) .skip)
def spinetlaw49_WatchPoints_i15 : List Op1 := [(oE 32 (.fld 8 (.t 3)) []), (oE 33 (.load false 1 (.t 32)) [0]), (oM 34 (.t 33) [1]), (oG 35 (.fld 2 (.t 3)) 34 true [2]), (oG 36 (.load false 1 (.t 35)) 34 true [3, 2]), (oG 37 (.un .not (.t 36)) 34 true [4, 2]), (oE 38 (.pick (.t 34) (.t 37) (.k (.bool false))) [2, 5])]
def spinetlaw49_WatchPoints_i16 : List Op1 := [(oM 39 (.t 6) []), (oE 40 (.fld 0 (.t 3)) []), (oE 41 (.load false 1 (.t 40)) [1]), (oC 42 7 [(.t 39), (.k (.int .i64 1)), (.t 41)] [0, 2]), (oM 8 (.t 42) [3, 3, 0, 1, 2, 3])]
def spinetlaw49_WatchPoints_i17 : IR := (.cond (.t 38) (.reg false spinetlaw49_WatchPoints_i16) .skip)
def spinetlaw49_WatchPoints_i18 : List Op1 := [(oM 43 (.t 5) []), (oE 44 (.load true 9 (.t 3)) []), (oC 45 9 [(.t 43), (.t 44)] [0, 1]), (oM 46 (.t 8) []), (oC 47 8 [(.t 45), (.t 46)] [2, 3, 2]), (oM 48 (.t 47) [4, 4]), (oG 49 (.mv (.t 5)) 48 true [5]), (oG 50 (.fld 0 (.t 3)) 48 true [5]), (oG 51 (.load false 1 (.t 50)) 48 true [7, 5]), ⟨(some 52), (.call 10 [(.t 49), (.t 51)]), (some (48, true)), [6, 8, 5, 5]⟩, (oG 53 (.mv (.t 6)) 48 true [5]), (oG 54 (.fld 0 (.t 3)) 48 true [5]), (oG 55 (.load false 1 (.t 54)) 48 true [11, 5]), ⟨(some 56), (.call 7 [(.t 53), (.k (.int .i64 2)), (.t 55)]), (some (48, true)), [10, 12, 9, 5]⟩, ⟨(some 57), (.call 8 [(.t 52), (.t 56)]), (some (48, true)), [9, 13, 13, 5]⟩, (oE 58 (.pick (.t 48) (.t 57) (.k (.bool false))) [5, 14]), (oM 59 (.t 58) [15, 14]), ⟨(some 60), (.call 11 []), (some (59, true)), [16, 16]⟩, (oE 61 (.pick (.t 59) (.t 60) (.k (.bool false))) [16, 17]), (oM 4 (.t 61) [18, 17, 0, 1, 2, 3, 4, 5, 6, 7, 8, 9, 10, 11, 12, 13, 14, 15, 16, 17, 18])]
def spinetlaw49_WatchPoints_i19 : IR := .ret
def spinetlaw49_WatchPoints_i20 : IR := (.seq (.reg true spinetlaw49_WatchPoints_i18) spinetlaw49_WatchPoints_i19)
def spinetlaw49_WatchPoints_i21 : IR := (.seq (.seq (.reg false spinetlaw49_WatchPoints_i15) spinetlaw49_WatchPoints_i17) spinetlaw49_WatchPoints_i20)
def spinetlaw49_WatchPoints_i22 : IR := (.seq (.seq (.reg false spinetlaw49_WatchPoints_i12) spinetlaw49_WatchPoints_i14) spinetlaw49_WatchPoints_i21)
def spinetlaw49_WatchPoints_i23 : IR := (.seq (.reg false spinetlaw49_WatchPoints_i11) spinetlaw49_WatchPoints_i22)
def spinetlaw49_WatchPoints_i24 : IR := (.seq (.seq (.reg false spinetlaw49_WatchPoints_i7) spinetlaw49_WatchPoints_i10) spinetlaw49_WatchPoints_i23)
def spinetlaw49_WatchPoints_i25 : IR := (.seq (.reg false spinetlaw49_WatchPoints_i6) spinetlaw49_WatchPoints_i24)
def spinetlaw49_WatchPoints_i26 : IR := (.seq (.reg false spinetlaw49_WatchPoints_i5) spinetlaw49_WatchPoints_i25)
def spinetlaw49_WatchPoints_i27 : IR := (.seq (.seq (.reg false spinetlaw49_WatchPoints_i1) spinetlaw49_WatchPoints_i4) spinetlaw49_WatchPoints_i26)
def spinetlaw49_WatchPoints_ir : IR := (.seq (.reg false spinetlaw49_WatchPoints_i0) spinetlaw49_WatchPoints_i27)
theorem spinetlaw49_WatchPoints_cfn : cFn Try.prog 3 = some (spinetlaw49_WatchPoints_ir, [(.t 4)], 62) := by kernel_rfl
def spinetlaw49_WatchPoints_V (r : (Bool)) : V := .s (.bool r)
def spinetlaw49_WatchPoints_C (r : (Bool)) : X → Fr → Hp → Prop := FinL [(.t 4)] [] (spinetlaw49_WatchPoints_V r) []
theorem spinetlaw49_WatchPoints_ok (calls_ : (List spinetlaw49_Op)) (r_ : api_Rec) (r : (Bool)) (h : spinetlaw49_WatchPoints calls_ r_ = some r) : Pure Try.prog 3 [.sl false calls_.length (cat spinetlaw49_Op.v calls_), .agg [.s (.int .u16 r_.Addr), .s (.int .u8 r_.Data), .s (.bool r_.Read), .s (.bool r_.BA), .s (.bool r_.BS), .s (.bool r_.LIC), .s (.bool r_.AVMA), .s (.bool r_.BUSY), .s (.bool r_.Mine)]] (spinetlaw49_WatchPoints_V r) := by
  refine ConL.of spinetlaw49_WatchPoints_cfn (Nat.le_of_ble_eq_true (by kernel_rfl)) (Nat.le_of_ble_eq_true (by kernel_rfl)) ?_
  refine k_start ?_
  show dwv Try.prog [] spinetlaw49_WatchPoints_ir (kont Try.prog [] (spinetlaw49_WatchPoints_C r) []) (fr0 [.sl false calls_.length (cat spinetlaw49_Op.v calls_), .agg [.s (.int .u16 r_.Addr), .s (.int .u8 r_.Data), .s (.bool r_.Read), .s (.bool r_.BA), .s (.bool r_.BS), .s (.bool r_.LIC), .s (.bool r_.AVMA), .s (.bool r_.BUSY), .s (.bool r_.Mine)]]) []
  have hf : FOk (fr0 [.sl false calls_.length (cat spinetlaw49_Op.v calls_), .agg [.s (.int .u16 r_.Addr), .s (.int .u8 r_.Data), .s (.bool r_.Read), .s (.bool r_.BA), .s (.bool r_.BS), .s (.bool r_.LIC), .s (.bool r_.AVMA), .s (.bool r_.BUSY), .s (.bool r_.Mine)]]) [⟨0, [], .sl false calls_.length (cat spinetlaw49_Op.v calls_)⟩, ⟨1, [], .agg [.s (.int .u16 r_.Addr), .s (.int .u8 r_.Data), .s (.bool r_.Read), .s (.bool r_.BA), .s (.bool r_.BS), .s (.bool r_.LIC), .s (.bool r_.AVMA), .s (.bool r_.BUSY), .s (.bool r_.Mine)]⟩] := ⟨⟨fun _ => rfl, fun h => (h trivial).elim⟩, ⟨fun _ => rfl, fun h => (h trivial).elim⟩, trivial⟩
  generalize fr0 [.sl false calls_.length (cat spinetlaw49_Op.v calls_), .agg [.s (.int .u16 r_.Addr), .s (.int .u8 r_.Data), .s (.bool r_.Read), .s (.bool r_.BA), .s (.bool r_.BS), .s (.bool r_.LIC), .s (.bool r_.AVMA), .s (.bool r_.BUSY), .s (.bool r_.Mine)]] = f at hf ⊢
  unfold spinetlaw49_WatchPoints at h
  refine k_seq ?_
  refine k_reg ?_
  refine mops_en hf (by kernel_rfl) fun f1 hf1 => ?_
  refine k_c ?_
  refine k_seq ?_
  refine k_seq ?_
  refine k_reg ?_
  refine mops_en hf1 (by kernel_rfl) fun f2 hf2 => ?_
  refine k_c ?_
  refine k_cond hf2 (t := (decide (40 < (ln calls_)))) (by kernel_rfl) (fun hc1 => ?_) (fun hc1 => ?_)
  · have h := if_t h hc1
    refine k_seq ?_
    refine k_reg ?_
    refine mops_en hf2 (by kernel_rfl) fun f3 hf3 => ?_
    refine k_c ?_
    refine k_ret ?_
    refine x_c nofun ?_
    obtain rfl := Option.some.inj h
    exact k_fin (fin_ret (.inl rfl) hf3 (vs := [.s (.bool true)]) (by kernel_rfl) (SettL.pure (FzL.stat rfl)))
  · have h := if_f h hc1
    refine k_skip ?_
    refine k_c ?_
    refine k_seq ?_
    refine k_reg ?_
    refine mops_en hf2 (by kernel_rfl) fun f3 hf3 => ?_
    refine k_row (ver := 0) (q := 1) (kd := .mem) (cs := [.s (.slice none 0 0), .s (.int .i64 0)]) 1 0 4 (L' := [⟨0, .mem, 1, [.s (.int .u16 r_.Addr), .s (.int .u8 r_.Data), .s (.bool r_.Read), .s (.bool r_.BA), .s (.bool r_.BS), .s (.bool r_.LIC), .s (.bool r_.AVMA), .s (.bool r_.BUSY), .s (.bool r_.Mine)]⟩, ⟨0, .mem, 1, [.ref 2 0 0 0, .s (.int .i64 0)]⟩, ⟨0, .grow, 4, cat watch_Point.v ([] : List watch_Point)⟩]) ?_
    refine k_c ?_
    refine k_seq ?_
    refine k_reg ?_
    refine mops_sg 2 hf3 (by kernel_rfl) fun f4 hf4 => ?_
    obtain ⟨r_1, hx_r_1, h⟩ := Option.bind_eq_some_iff.1 h
    refine mops_call rfl hf4 (av := [.ptr 1 0 0, .sl false calls_.length (cat spinetlaw49_Op.v calls_)]) (by kernel_rfl) (v := .tup [.sl false r_1.1.length (cat watch_Point.v r_1.1), .s (.bool r_1.2.1)]) (L' := [⟨0, .mem, 1, [.s (.int .u16 r_.Addr), .s (.int .u8 r_.Data), .s (.bool r_.Read), .s (.bool r_.BA), .s (.bool r_.BS), .s (.bool r_.LIC), .s (.bool r_.AVMA), .s (.bool r_.BUSY), .s (.bool r_.Mine)]⟩, ⟨0, .mem, 1, [.ref 2 1 0 r_1.2.2.l.length, .s (.int .i64 r_1.2.2.last)]⟩, ⟨1, .grow, 4, cat watch_Point.v r_1.2.2.l⟩]) (CalL.borrow (M := [⟨0, .grow, 4, cat watch_Point.v ([] : List watch_Point)⟩, ⟨0, .mem, 1, [.ref 2 0 0 0, .s (.int .i64 0)]⟩]) (M' := [⟨1, .grow, 4, cat watch_Point.v r_1.2.2.l⟩, ⟨0, .mem, 1, [.ref 2 1 0 r_1.2.2.l.length, .s (.int .i64 r_1.2.2.last)]⟩]) [2, 1] (spinetlaw49_made_ok (watch_Watch.mk ([] : List watch_Point) (0)) calls_ 0 r_1 hx_r_1) (by kernel_rfl) (RNs.cons (RN.ptr (by kernel_rfl)) (RNs.cons (RN.stat (by simp [V.static, statics, cat_stat])) RNs.nil)) (RN.tup (RNs.cons (RN.stat (by simp [V.static, statics, cat_stat, spinetlaw49_made_V])) (RNs.cons (RN.stat rfl) RNs.nil))) (RBs.cons (RNs.stat (cat_stat _)) (RBs.cons (RNs.cons (RN.ref (by kernel_rfl)) (RNs.stat rfl)) RBs.nil)) (RBs.cons (RNs.stat (cat_stat _)) (RBs.cons (RNs.cons (RN.ref (by kernel_rfl)) (RNs.stat rfl)) RBs.nil)) (by kernel_rfl) (by kernel_rfl)) (by intro h; cases h) fun f5 hf5 => ?_
    refine mops_en hf5 (by kernel_rfl) fun f6 hf6 => ?_
    refine k_c ?_
    refine k_seq ?_
    refine k_seq ?_
    refine k_reg ?_
    refine mops_en hf6 (by kernel_rfl) fun f7 hf7 => ?_
    refine k_c ?_
    refine k_cond hf7 (t := (!r_1.2.1)) (by kernel_rfl) (fun hc2 => ?_) (fun hc2 => ?_)
    · have h := if_t h hc2
      refine k_seq ?_
      refine k_reg ?_
      refine mops_en hf7 (by kernel_rfl) fun f8 hf8 => ?_
      refine k_c ?_
      refine k_ret ?_
      refine x_c nofun ?_
      obtain rfl := Option.some.inj h
      exact k_fin (fin_ret (.inl rfl) hf8 (vs := [.s (.bool false)]) (by kernel_rfl) (SettL.pure (FzL.stat rfl)))
    · have h := if_f h hc2
      refine k_skip ?_
      refine k_c ?_
      refine k_seq ?_
      refine k_reg ?_
      refine mops_en hf7 (by kernel_rfl) fun f8 hf8 => ?_
      refine k_c ?_
      refine k_seq ?_
      refine k_seq ?_
      refine k_reg ?_
      refine mops_en hf8 (by kernel_rfl) fun f9 hf9 => ?_
      refine k_c ?_
      have hj1 : ∀ (want_ : (List Int)) (v_ : Nat), spinetlaw49_WatchPoints_j1 r_ r_1 want_ = some r → ∀ f, FOk f [⟨3, [], .ptr 0 0 0⟩, ⟨4, [], .s (.bool false)⟩, ⟨5, [], .ptr 1 0 0⟩, ⟨6, [], .sl false r_1.1.length (cat watch_Point.v r_1.1)⟩, ⟨8, [], .sl false want_.length (cat (nI .i64) want_)⟩] → kont Try.prog [] (spinetlaw49_WatchPoints_C r) ((.c spinetlaw49_WatchPoints_i21) :: []) .normal f [⟨0, .mem, 1, [.s (.int .u16 r_.Addr), .s (.int .u8 r_.Data), .s (.bool r_.Read), .s (.bool r_.BA), .s (.bool r_.BS), .s (.bool r_.LIC), .s (.bool r_.AVMA), .s (.bool r_.BUSY), .s (.bool r_.Mine)]⟩, ⟨0, .mem, 1, [.ref 2 1 0 r_1.2.2.l.length, .s (.int .i64 r_1.2.2.last)]⟩, ⟨1, .grow, 4, cat watch_Point.v r_1.2.2.l⟩, ⟨v_, .grow, 1, cat (nI .i64) ([] : List Int)⟩] := by
        intro want_ v_ h f hf
        unfold spinetlaw49_WatchPoints_j1 at h
        refine k_c ?_
        refine k_seq ?_
        refine k_seq ?_
        refine k_reg ?_
        refine mops_en hf (by kernel_rfl) fun f1 hf1 => ?_
        refine k_c ?_
        have hj2 : ∀ (want_1 : (List Int)), spinetlaw49_WatchPoints_j0 r_ r_1 want_1 = some r → ∀ f, FOk f [⟨3, [], .ptr 0 0 0⟩, ⟨4, [], .s (.bool false)⟩, ⟨5, [], .ptr 1 0 0⟩, ⟨6, [], .sl false r_1.1.length (cat watch_Point.v r_1.1)⟩, ⟨8, [], .sl false want_1.length (cat (nI .i64) want_1)⟩] → kont Try.prog [] (spinetlaw49_WatchPoints_C r) ((.c spinetlaw49_WatchPoints_i20) :: []) .normal f [⟨0, .mem, 1, [.s (.int .u16 r_.Addr), .s (.int .u8 r_.Data), .s (.bool r_.Read), .s (.bool r_.BA), .s (.bool r_.BS), .s (.bool r_.LIC), .s (.bool r_.AVMA), .s (.bool r_.BUSY), .s (.bool r_.Mine)]⟩, ⟨0, .mem, 1, [.ref 2 1 0 r_1.2.2.l.length, .s (.int .i64 r_1.2.2.last)]⟩, ⟨1, .grow, 4, cat watch_Point.v r_1.2.2.l⟩, ⟨v_, .grow, 1, cat (nI .i64) ([] : List Int)⟩] := by
          intro want_1 h f hf
          unfold spinetlaw49_WatchPoints_j0 at h
          refine k_c ?_
          refine k_seq ?_
          refine k_regq ?_
          refine mops_sg 2 hf (by kernel_rfl) fun f1 hf1 => ?_
          obtain ⟨r_4, hx_r_4, h⟩ := Option.bind_eq_some_iff.1 h
          refine mops_call rfl hf1 (av := [.ptr 1 0 0, .agg [.s (.int .u16 r_.Addr), .s (.int .u8 r_.Data), .s (.bool r_.Read), .s (.bool r_.BA), .s (.bool r_.BS), .s (.bool r_.LIC), .s (.bool r_.AVMA), .s (.bool r_.BUSY), .s (.bool r_.Mine)]]) (by kernel_rfl) (v := .sl false r_4.length (cat (nI .i64) r_4)) (L' := [⟨0, .mem, 1, [.s (.int .u16 r_.Addr), .s (.int .u8 r_.Data), .s (.bool r_.Read), .s (.bool r_.BA), .s (.bool r_.BS), .s (.bool r_.LIC), .s (.bool r_.AVMA), .s (.bool r_.BUSY), .s (.bool r_.Mine)]⟩, ⟨0, .mem, 1, [.ref 2 1 0 r_1.2.2.l.length, .s (.int .i64 r_1.2.2.last)]⟩, ⟨1, .grow, 4, cat watch_Point.v r_1.2.2.l⟩, ⟨v_, .grow, 1, cat (nI .i64) ([] : List Int)⟩]) (CalL.borrow (M := [⟨1, .grow, 4, cat watch_Point.v r_1.2.2.l⟩, ⟨0, .mem, 1, [.ref 2 1 0 r_1.2.2.l.length, .s (.int .i64 r_1.2.2.last)]⟩]) (M' := [⟨1, .grow, 4, cat watch_Point.v r_1.2.2.l⟩, ⟨0, .mem, 1, [.ref 2 1 0 r_1.2.2.l.length, .s (.int .i64 r_1.2.2.last)]⟩]) [2, 1] (watch_Watch_Cycle_ok r_1.2.2 r_ 1 r_4 hx_r_4) (by kernel_rfl) (RNs.cons (RN.ptr (by kernel_rfl)) (RNs.cons (RN.stat rfl) RNs.nil)) (RN.stat (by simp [V.static, statics, cat_stat, watch_Watch_Cycle_V])) (RBs.cons (RNs.stat (cat_stat _)) (RBs.cons (RNs.cons (RN.ref (by kernel_rfl)) (RNs.stat rfl)) RBs.nil)) (RBs.cons (RNs.stat (cat_stat _)) (RBs.cons (RNs.cons (RN.ref (by kernel_rfl)) (RNs.stat rfl)) RBs.nil)) (by kernel_rfl) (by kernel_rfl)) (fun _ => by kernel_rfl) fun f2 hf2 => ?_
          refine mops_sg 1 hf2 (by kernel_rfl) fun f3 hf3 => ?_
          obtain ⟨r_5, hx_r_5, h⟩ := Option.bind_eq_some_iff.1 h
          refine mops_call rfl hf3 (av := [.sl false r_4.length (cat (nI .i64) r_4), .sl false want_1.length (cat (nI .i64) want_1)]) (by kernel_rfl) (v := .s (.bool r_5)) (CalL.pure (slices_Equal_sl_int_int_ok r_4 want_1 r_5 hx_r_5) (by simp [V.static, statics, cat_stat]) rfl (Nat.le_of_ble_eq_true (by kernel_rfl))) (fun _ => rfl) fun f4 hf4 => ?_
          refine mops_sg 4 hf4 (by kernel_rfl) fun f5 hf5 => ?_
          obtain ⟨r_6, hx_r_6, h⟩ := Option.bind_eq_some_iff.1 h
          refine mops_gcall (dst := (some 52)) (m := 10) (args := [(.t 49), (.t 51)]) (aft := [6, 8, 5, 5]) (t := 48) (w := true) (ch := [(48, true)]) (b := r_5) (by kernel_rfl) hf5 (by kernel_rfl) (by kernel_rfl) (av := [.ptr 1 0 0, .s (.int .u16 r_.Addr)]) (by kernel_rfl) (v := .sl false r_6.length (cat (nI .i64) r_6)) (by kernel_rfl) (fun hb5 => (CalL.borrow (M := [⟨1, .grow, 4, cat watch_Point.v r_1.2.2.l⟩, ⟨0, .mem, 1, [.ref 2 1 0 r_1.2.2.l.length, .s (.int .i64 r_1.2.2.last)]⟩]) (M' := [⟨1, .grow, 4, cat watch_Point.v r_1.2.2.l⟩, ⟨0, .mem, 1, [.ref 2 1 0 r_1.2.2.l.length, .s (.int .i64 r_1.2.2.last)]⟩]) [2, 1] (watch_Watch_Boundary_ok r_1.2.2 r_.Addr 1 r_6 (if_t hx_r_6 hb5)) (by kernel_rfl) (RNs.cons (RN.ptr (by kernel_rfl)) (RNs.cons (RN.stat rfl) RNs.nil)) (RN.stat (by simp [V.static, statics, cat_stat, watch_Watch_Boundary_V])) (RBs.cons (RNs.stat (cat_stat _)) (RBs.cons (RNs.cons (RN.ref (by kernel_rfl)) (RNs.stat rfl)) RBs.nil)) (RBs.cons (RNs.stat (cat_stat _)) (RBs.cons (RNs.cons (RN.ref (by kernel_rfl)) (RNs.stat rfl)) RBs.nil)) (by kernel_rfl) (by kernel_rfl))) fun f6 hf6 => ?_
          refine mops_sg 3 hf6 (by kernel_rfl) fun f7 hf7 => ?_
          obtain ⟨r_7, hx_r_7, h⟩ := Option.bind_eq_some_iff.1 h
          refine mops_gcall (dst := (some 56)) (m := 7) (args := [(.t 53), (.k (.int .i64 2)), (.t 55)]) (aft := [10, 12, 9, 5]) (t := 48) (w := true) (ch := [(48, true)]) (b := r_5) (by kernel_rfl) hf7 (by kernel_rfl) (by kernel_rfl) (av := [.sl false r_1.1.length (cat watch_Point.v r_1.1), .s (.int .i64 2), .s (.int .u16 r_.Addr)]) (by kernel_rfl) (v := .sl false r_7.length (cat (nI .i64) r_7)) (by kernel_rfl) (fun hb6 => (CalL.pure (spinetlaw49_hits_ok r_1.1 (2) r_.Addr r_7 (if_t hx_r_7 hb6)) (by simp [V.static, statics, cat_stat]) (by simp [V.static, statics, cat_stat, spinetlaw49_hits_V]) (Nat.le_of_ble_eq_true (by kernel_rfl)))) fun f8 hf8 => ?_
          obtain ⟨r_8, hx_r_8, h⟩ := Option.bind_eq_some_iff.1 h
          refine mops_gcall (dst := (some 57)) (m := 8) (args := [(.t 52), (.t 56)]) (aft := [9, 13, 13, 5]) (t := 48) (w := true) (ch := [(48, true)]) (b := r_5) (by kernel_rfl) hf8 (by kernel_rfl) (by kernel_rfl) (av := [.sl false r_6.length (cat (nI .i64) r_6), .sl false r_7.length (cat (nI .i64) r_7)]) (by kernel_rfl) (v := .s (.bool r_8)) (by kernel_rfl) (fun hb7 => (CalL.pure (slices_Equal_sl_int_int_ok r_6 r_7 r_8 (if_t hx_r_8 hb7)) (by simp [V.static, statics, cat_stat]) rfl (Nat.le_of_ble_eq_true (by kernel_rfl)))) fun f9 hf9 => ?_
          refine mops_sg 2 hf9 (by kernel_rfl) fun f10 hf10 => ?_
          obtain ⟨r_9, hx_r_9, h⟩ := Option.bind_eq_some_iff.1 h
          refine mops_gcall (dst := (some 60)) (m := 11) (args := []) (aft := [16, 16]) (t := 59) (w := true) (ch := [(59, true)]) (b := (r_5 && r_8)) (by kernel_rfl) hf10 (by kernel_rfl) (by kernel_rfl) (av := []) (by kernel_rfl) (v := .s (.bool r_9)) (by kernel_rfl) (fun hb8 => (CalL.pure (spinetlaw49_alive_ok  r_9 (if_t hx_r_9 hb8)) rfl rfl (Nat.le_of_ble_eq_true (by kernel_rfl)))) fun f11 hf11 => ?_
          refine mops_en hf11 (by kernel_rfl) fun f12 hf12 => ?_
          refine k_c ?_
          refine k_ret ?_
          obtain rfl := Option.some.inj h
          exact k_fin (fin_ret (.inl rfl) hf12 (vs := [.s (.bool ((r_5 && r_8) && r_9))]) (by kernel_rfl) (SettL.pure (FzL.stat rfl)))
        refine k_cond hf1 (t := (r_.Mine && (!r_.Read))) (by kernel_rfl) (fun hc4 => ?_) (fun hc4 => ?_)
        · have h := if_t h hc4
          refine k_reg ?_
          refine mops_sg 3 hf1 (by kernel_rfl) fun f2 hf2 => ?_
          obtain ⟨r_3, hx_r_3, h⟩ := Option.bind_eq_some_iff.1 h
          refine mops_call rfl hf2 (av := [.sl false r_1.1.length (cat watch_Point.v r_1.1), .s (.int .i64 1), .s (.int .u16 r_.Addr)]) (by kernel_rfl) (v := .sl false r_3.length (cat (nI .i64) r_3)) (CalL.pure (spinetlaw49_hits_ok r_1.1 (1) r_.Addr r_3 hx_r_3) (by simp [V.static, statics, cat_stat]) (by simp [V.static, statics, cat_stat, spinetlaw49_hits_V]) (Nat.le_of_ble_eq_true (by kernel_rfl))) (fun _ => rfl) fun f3 hf3 => ?_
          refine mops_en hf3 (by kernel_rfl) fun f4 hf4 => ?_
          refine k_hp (L' := [⟨0, .mem, 1, [.s (.int .u16 r_.Addr), .s (.int .u8 r_.Data), .s (.bool r_.Read), .s (.bool r_.BA), .s (.bool r_.BS), .s (.bool r_.LIC), .s (.bool r_.AVMA), .s (.bool r_.BUSY), .s (.bool r_.Mine)]⟩, ⟨0, .mem, 1, [.ref 2 1 0 r_1.2.2.l.length, .s (.int .i64 r_1.2.2.last)]⟩, ⟨1, .grow, 4, cat watch_Point.v r_1.2.2.l⟩, ⟨v_, .grow, 1, cat (nI .i64) ([] : List Int)⟩]) (by kernel_rfl) ?_
          exact hj2 r_3 h _ (FOk_of [3, 4, 5, 6, 8] hf4 (by kernel_rfl))
        · have h := if_f h hc4
          refine k_skip ?_
          refine k_hp (L' := [⟨0, .mem, 1, [.s (.int .u16 r_.Addr), .s (.int .u8 r_.Data), .s (.bool r_.Read), .s (.bool r_.BA), .s (.bool r_.BS), .s (.bool r_.LIC), .s (.bool r_.AVMA), .s (.bool r_.BUSY), .s (.bool r_.Mine)]⟩, ⟨0, .mem, 1, [.ref 2 1 0 r_1.2.2.l.length, .s (.int .i64 r_1.2.2.last)]⟩, ⟨1, .grow, 4, cat watch_Point.v r_1.2.2.l⟩, ⟨v_, .grow, 1, cat (nI .i64) ([] : List Int)⟩]) (by kernel_rfl) ?_
          exact hj2 want_ h _ (FOk_of [3, 4, 5, 6, 8] hf1 (by kernel_rfl))
      refine k_cond hf9 (t := (r_.Mine && r_.Read)) (by kernel_rfl) (fun hc3 => ?_) (fun hc3 => ?_)
      · have h := if_t h hc3
        refine k_reg ?_
        refine mops_sg 3 hf9 (by kernel_rfl) fun f10 hf10 => ?_
        obtain ⟨r_2, hx_r_2, h⟩ := Option.bind_eq_some_iff.1 h
        refine mops_call rfl hf10 (av := [.sl false r_1.1.length (cat watch_Point.v r_1.1), .s (.int .i64 0), .s (.int .u16 r_.Addr)]) (by kernel_rfl) (v := .sl false r_2.length (cat (nI .i64) r_2)) (CalL.pure (spinetlaw49_hits_ok r_1.1 (0) r_.Addr r_2 hx_r_2) (by simp [V.static, statics, cat_stat]) (by simp [V.static, statics, cat_stat, spinetlaw49_hits_V]) (Nat.le_of_ble_eq_true (by kernel_rfl))) (fun _ => rfl) fun f11 hf11 => ?_
        refine mops_en hf11 (by kernel_rfl) fun f12 hf12 => ?_
        refine k_hp (L' := [⟨0, .mem, 1, [.s (.int .u16 r_.Addr), .s (.int .u8 r_.Data), .s (.bool r_.Read), .s (.bool r_.BA), .s (.bool r_.BS), .s (.bool r_.LIC), .s (.bool r_.AVMA), .s (.bool r_.BUSY), .s (.bool r_.Mine)]⟩, ⟨0, .mem, 1, [.ref 2 1 0 r_1.2.2.l.length, .s (.int .i64 r_1.2.2.last)]⟩, ⟨1, .grow, 4, cat watch_Point.v r_1.2.2.l⟩, ⟨0, .grow, 1, cat (nI .i64) ([] : List Int)⟩]) (by kernel_rfl) ?_
        exact hj1 r_2 (0) h _ (FOk_of [3, 4, 5, 6, 8] hf12 (by kernel_rfl))
      · have h := if_f h hc3
        refine k_skip ?_
        refine k_fz (g := (nI .i64)) (x := ([] : List Int)) (ver := 0) (n := 0) 8 3 hf9 rfl (L' := [⟨0, .mem, 1, [.s (.int .u16 r_.Addr), .s (.int .u8 r_.Data), .s (.bool r_.Read), .s (.bool r_.BA), .s (.bool r_.BS), .s (.bool r_.LIC), .s (.bool r_.AVMA), .s (.bool r_.BUSY), .s (.bool r_.Mine)]⟩, ⟨0, .mem, 1, [.ref 2 1 0 r_1.2.2.l.length, .s (.int .i64 r_1.2.2.last)]⟩, ⟨1, .grow, 4, cat watch_Point.v r_1.2.2.l⟩, ⟨1, .grow, 1, cat (nI .i64) ([] : List Int)⟩]) fun f10 hf10 => ?_
        refine k_hp (L' := [⟨0, .mem, 1, [.s (.int .u16 r_.Addr), .s (.int .u8 r_.Data), .s (.bool r_.Read), .s (.bool r_.BA), .s (.bool r_.BS), .s (.bool r_.LIC), .s (.bool r_.AVMA), .s (.bool r_.BUSY), .s (.bool r_.Mine)]⟩, ⟨0, .mem, 1, [.ref 2 1 0 r_1.2.2.l.length, .s (.int .i64 r_1.2.2.last)]⟩, ⟨1, .grow, 4, cat watch_Point.v r_1.2.2.l⟩, ⟨1, .grow, 1, cat (nI .i64) ([] : List Int)⟩]) (by kernel_rfl) ?_
        exact hj1 ([] : List Int) (1) h _ (FOk_of [3, 4, 5, 6, 8] hf10 (by kernel_rfl))
end Go.Proofs.YtfdadnldlngmeaaK
