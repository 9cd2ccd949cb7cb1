/- The Go functions come to the functions over typed data. Printed by a program of this work. -/
import Derived.Test.YtmabdijipkmmkaaF
import Derived.Test.YtmabdijipkmmkaaProg
import Derived.Test.YtmabdijipkmmkaaG2
import Derived.Test.YtmabdijipkmmkaaG3
import Derived.Test.YtmabdijipkmmkaaG5
import Derived.Test.YtmabdijipkmmkaaG6
namespace Go.Proofs.YtmabdijipkmmkaaK
set_option linter.unusedVariables false
set_option linter.unusedSimpArgs false
set_option maxHeartbeats 4000000
open Go.RowKit
attribute [local irreducible] dwv mops lops lqops lwops kont iter run runK rk okK ex E1 vals val chain chB sel resF
def page_Of_i0 : List Op1 := [(oE 4 (.zero [(.int .i64 0), (.int .i64 0), (.int .i64 0)]) [])]
def page_Of_i1 : List Op1 := [(oM 6 (.t 0) []), (oE 7 (.bin .eql (.t 6) (.k (.int .i64 2))) [0]), (oM 8 (.t 7) [1]), (oG 9 (.mv (.t 0)) 8 false [2]), (oG 10 (.bin .eql (.t 9) (.k (.int .i64 3))) 8 false [3, 2]), (oE 11 (.pick (.t 8) (.k (.bool true)) (.t 10)) [2, 4]), (oM 12 (.t 11) [5, 2]), (oG 13 (.mv (.t 1)) 12 true [6]), (oG 14 (.bin .eql (.t 13) (.k (.int .u8 63))) 12 true [7, 6]), (oE 15 (.pick (.t 12) (.t 14) (.k (.bool false))) [6, 8]), (oM 5 (.t 15) [9, 6])]
def page_Of_i2 : List Op1 := [(oM 16 (.t 0) []), (oE 17 (.build [(.int .i64 0), (.int .i64 0), (.int .i64 0)] [(0, (1, (.k (.int .i64 51)))), (2, (1, (.t 16)))]) [0]), (oN (.store 3 (.t 4) (.t 17)) [1, 0, 1])]
def page_Of_i3 : IR := .ret
def page_Of_i4 : List Op1 := [(oM 19 (.t 0) []), (oE 20 (.bin .eql (.t 19) (.k (.int .i64 1))) [0]), (oM 18 (.t 20) [1])]
def page_Of_i5 : List Op1 := [(oM 21 (.t 1) []), (oC 22 25 [(.t 21)] [0]), (oN (.store 3 (.t 4) (.t 22)) [1, 1, 0, 1])]
def page_Of_i6 : IR := .ret
def page_Of_i7 : List Op1 := [(oM 24 (.t 0) []), (oE 25 (.bin .eql (.t 24) (.k (.int .i64 2))) [0]), (oM 23 (.t 25) [1])]
def page_Of_i8 : List Op1 := [(oM 26 (.t 1) []), (oC 27 26 [(.t 26)] [0]), (oN (.store 3 (.t 4) (.t 27)) [1, 1, 0, 1])]
def page_Of_i9 : IR := .ret
def page_Of_i10 : List Op1 := [(oM 29 (.t 0) []), (oE 30 (.bin .eql (.t 29) (.k (.int .i64 3))) [0]), (oM 28 (.t 30) [1])]
def page_Of_i11 : List Op1 := [(oM 31 (.t 1) []), (oC 32 27 [(.t 31)] [0]), (oN (.store 3 (.t 4) (.t 32)) [1, 1, 0, 1])]
def page_Of_i12 : IR := .ret
def page_Of_i13 : IR := (.cond (.t 28) (.seq (.reg false page_Of_i11) page_Of_i12) .skip)
def page_Of_i14 : IR := (.cond (.t 23) (.seq (.reg false page_Of_i8) page_Of_i9) (.seq (.reg false page_Of_i10) page_Of_i13))
def page_Of_i15 : IR := (.cond (.t 18) (.seq (.reg false page_Of_i5) page_Of_i6) (.seq (.reg false page_Of_i7) page_Of_i14))
def page_Of_i16 : IR := (.cond (.t 5) (.seq (.reg false page_Of_i2) page_Of_i3) (.seq (.reg false page_Of_i4) page_Of_i15))
def page_Of_i17 : List Op1 := [(oE 33 (.build [(.int .i64 0), (.int .i64 0), (.int .i64 0)] []) []), (oN (.store 3 (.t 4) (.t 33)) [0, 0])]
def page_Of_i18 : IR := .ret
def page_Of_i19 : IR := (.seq (.reg false page_Of_i17) page_Of_i18)
def page_Of_i20 : IR := (.seq (.block 0 (.seq (.reg false page_Of_i1) page_Of_i16)) page_Of_i19)
def page_Of_ir : IR := (.seq (.reg false page_Of_i0) page_Of_i20)
theorem page_Of_cfn : cFn Try.prog 15 = some (page_Of_ir, [(.c 4 true 3)], 34) := by kernel_rfl
def page_Of_V (r : (api_Entry)) : V := .agg [.s (.int .i64 r.Op), .s (.int .i64 r.Mode), .s (.int .i64 r.Reg)]
def page_Of_C (r : (api_Entry)) : X → Fr → Hp → Prop := FinL [(.c 4 true 3)] [] (page_Of_V r) []
theorem page_Of_ok (page_ : Int) (code_ : Int) (r : (api_Entry)) (h : page_Of page_ code_ = some r) : Pure Try.prog 15 [.s (.int .i64 page_), .s (.int .u8 code_)] (page_Of_V r) := by
  refine ConL.of page_Of_cfn (Nat.le_of_ble_eq_true (by kernel_rfl)) (Nat.le_of_ble_eq_true (by kernel_rfl)) ?_
  refine k_start ?_
  show dwv Try.prog [] page_Of_ir (kont Try.prog [] (page_Of_C r) []) (fr0 [.s (.int .i64 page_), .s (.int .u8 code_)]) []
  have hf : FOk (fr0 [.s (.int .i64 page_), .s (.int .u8 code_)]) [⟨0, [], .s (.int .i64 page_)⟩, ⟨1, [], .s (.int .u8 code_)⟩] := ⟨⟨fun _ => rfl, fun h => (h trivial).elim⟩, ⟨fun _ => rfl, fun h => (h trivial).elim⟩, trivial⟩
  generalize fr0 [.s (.int .i64 page_), .s (.int .u8 code_)] = f at hf ⊢
  unfold page_Of at h
  refine k_seq ?_
  refine k_reg ?_
  refine mops_en hf (by kernel_rfl) fun f1 hf1 => ?_
  refine k_c ?_
  refine k_seq ?_
  refine k_block ?_
  refine k_seq ?_
  refine k_reg ?_
  refine mops_en hf1 (by kernel_rfl) fun f2 hf2 => ?_
  refine k_c ?_
  refine k_cond hf2 (t := (((page_ == 2) || (page_ == 3)) && (code_ == 63))) (by kernel_rfl) (fun hc1 => ?_) (fun hc1 => ?_)
  · have h := if_t h hc1
    refine k_seq ?_
    refine k_reg ?_
    refine mops_en hf2 (by kernel_rfl) fun f3 hf3 => ?_
    refine k_c ?_
    refine k_ret ?_
    refine x_br ?_
    refine x_c nofun ?_
    obtain rfl := Option.some.inj h
    exact k_fin (fin_ret (.inl rfl) hf3 (vs := [.agg [.s (.int .i64 51), .s (.int .i64 0), .s (.int .i64 page_)]]) (by kernel_rfl) (SettL.pure (FzL.stat rfl)))
  · have h := if_f h hc1
    refine k_seq ?_
    refine k_reg ?_
    refine mops_en hf2 (by kernel_rfl) fun f3 hf3 => ?_
    refine k_c ?_
    refine k_cond hf3 (t := (page_ == 1)) (by kernel_rfl) (fun hc2 => ?_) (fun hc2 => ?_)
    · have h := if_t h hc2
      refine k_seq ?_
      refine k_reg ?_
      refine mops_sg 1 hf3 (by kernel_rfl) fun f4 hf4 => ?_
      obtain ⟨r_, hx_r_, h⟩ := Option.bind_eq_some_iff.1 h
      refine mops_call rfl hf4 (av := [.s (.int .u8 code_)]) (by kernel_rfl) (v := .agg [.s (.int .i64 r_.Op), .s (.int .i64 r_.Mode), .s (.int .i64 r_.Reg)]) (CalL.pure (page_first_ok code_ r_ hx_r_) rfl rfl (Nat.le_of_ble_eq_true (by kernel_rfl))) (fun _ => rfl) fun f5 hf5 => ?_
      refine mops_en hf5 (by kernel_rfl) fun f6 hf6 => ?_
      refine k_c ?_
      refine k_ret ?_
      refine x_br ?_
      refine x_c nofun ?_
      obtain rfl := Option.some.inj h
      exact k_fin (fin_ret (.inl rfl) hf6 (vs := [.agg [.s (.int .i64 r_.Op), .s (.int .i64 r_.Mode), .s (.int .i64 r_.Reg)]]) (by kernel_rfl) (SettL.pure (FzL.stat rfl)))
    · have h := if_f h hc2
      refine k_seq ?_
      refine k_reg ?_
      refine mops_en hf3 (by kernel_rfl) fun f4 hf4 => ?_
      refine k_c ?_
      refine k_cond hf4 (t := (page_ == 2)) (by kernel_rfl) (fun hc3 => ?_) (fun hc3 => ?_)
      · have h := if_t h hc3
        refine k_seq ?_
        refine k_reg ?_
        refine mops_sg 1 hf4 (by kernel_rfl) fun f5 hf5 => ?_
        obtain ⟨r_1, hx_r_1, h⟩ := Option.bind_eq_some_iff.1 h
        refine mops_call rfl hf5 (av := [.s (.int .u8 code_)]) (by kernel_rfl) (v := .agg [.s (.int .i64 r_1.Op), .s (.int .i64 r_1.Mode), .s (.int .i64 r_1.Reg)]) (CalL.pure (page_second_ok code_ r_1 hx_r_1) rfl rfl (Nat.le_of_ble_eq_true (by kernel_rfl))) (fun _ => rfl) fun f6 hf6 => ?_
        refine mops_en hf6 (by kernel_rfl) fun f7 hf7 => ?_
        refine k_c ?_
        refine k_ret ?_
        refine x_br ?_
        refine x_c nofun ?_
        obtain rfl := Option.some.inj h
        exact k_fin (fin_ret (.inl rfl) hf7 (vs := [.agg [.s (.int .i64 r_1.Op), .s (.int .i64 r_1.Mode), .s (.int .i64 r_1.Reg)]]) (by kernel_rfl) (SettL.pure (FzL.stat rfl)))
      · have h := if_f h hc3
        refine k_seq ?_
        refine k_reg ?_
        refine mops_en hf4 (by kernel_rfl) fun f5 hf5 => ?_
        refine k_c ?_
        refine k_cond hf5 (t := (page_ == 3)) (by kernel_rfl) (fun hc4 => ?_) (fun hc4 => ?_)
        · have h := if_t h hc4
          refine k_seq ?_
          refine k_reg ?_
          refine mops_sg 1 hf5 (by kernel_rfl) fun f6 hf6 => ?_
          obtain ⟨r_2, hx_r_2, h⟩ := Option.bind_eq_some_iff.1 h
          refine mops_call rfl hf6 (av := [.s (.int .u8 code_)]) (by kernel_rfl) (v := .agg [.s (.int .i64 r_2.Op), .s (.int .i64 r_2.Mode), .s (.int .i64 r_2.Reg)]) (CalL.pure (page_third_ok code_ r_2 hx_r_2) rfl rfl (Nat.le_of_ble_eq_true (by kernel_rfl))) (fun _ => rfl) fun f7 hf7 => ?_
          refine mops_en hf7 (by kernel_rfl) fun f8 hf8 => ?_
          refine k_c ?_
          refine k_ret ?_
          refine x_br ?_
          refine x_c nofun ?_
          obtain rfl := Option.some.inj h
          exact k_fin (fin_ret (.inl rfl) hf8 (vs := [.agg [.s (.int .i64 r_2.Op), .s (.int .i64 r_2.Mode), .s (.int .i64 r_2.Reg)]]) (by kernel_rfl) (SettL.pure (FzL.stat rfl)))
        · have h := if_f h hc4
          refine k_skip ?_
          refine k_b ?_
          refine k_c ?_
          refine k_seq ?_
          refine k_reg ?_
          refine mops_en hf5 (by kernel_rfl) fun f6 hf6 => ?_
          refine k_c ?_
          refine k_ret ?_
          obtain rfl := Option.some.inj h
          exact k_fin (fin_ret (.inl rfl) hf6 (vs := [.agg [.s (.int .i64 0), .s (.int .i64 0), .s (.int .i64 0)]]) (by kernel_rfl) (SettL.pure (FzL.stat rfl)))
def spinetref18_Of_i0 : List Op1 := [(oE 2 (.zero [(.int .i64 0), (.int .u8 0), (.int .i64 0), (.int .i64 0), (.int .i64 0), (.int .u8 0), (.int .u16 0), (.int .i64 0)]) []), (oM 3 (.k (.bool false)) [])]
def spinetref18_Of_i1 : List Op1 := [(oE 12 (.bslo 1 0 [] []) []), (oM 13 (.t 0) []), (oE 14 (.app 1 1 (.t 12) (.t 13)) [0, 1]), (oE 15 (.bslo 1 5 [(.int .u8 0), (.int .u8 0), (.int .u8 0), (.int .u8 0), (.int .u8 0)] [(0, (1, (.k (.int .u8 0)))), (1, (1, (.k (.int .u8 0)))), (2, (1, (.k (.int .u8 0)))), (3, (1, (.k (.int .u8 0)))), (4, (1, (.k (.int .u8 0))))]) []), (oE 16 (.app 1 1 (.t 14) (.t 15)) [2, 3, 2]), (oM 4 (.t 16) [4, 4, 0, 1, 2, 3, 4])]
def spinetref18_Of_i2 : List Op1 := [(oM 17 (.t 4) []), (oE 18 (.ias 1 (.t 17) (.k (.int .i64 0))) [0]), (oE 19 (.load false 1 (.t 18)) [1]), (oE 20 (.build [(.int .i64 0), (.int .u8 0), (.int .i64 0), (.int .i64 0), (.int .i64 0), (.int .u8 0), (.int .u16 0), (.int .i64 0)] [(0, (1, (.k (.int .i64 1)))), (1, (1, (.t 19))), (7, (1, (.k (.int .i64 1))))]) [2]), (oE 5 (.zero [(.int .i64 0), (.int .u8 0), (.int .i64 0), (.int .i64 0), (.int .i64 0), (.int .u8 0), (.int .u16 0), (.int .i64 0)]) []), (oN (.store 8 (.t 5) (.t 20)) [4, 3, 0, 1, 2, 3, 4])]
def spinetref18_Of_i3 : List Op1 := [(oM 21 (.t 4) []), (oE 22 (.ias 1 (.t 21) (.k (.int .i64 0))) [0]), (oE 23 (.load false 1 (.t 22)) [1]), (oE 24 (.bin .eql (.t 23) (.k (.int .u8 16))) [2]), (oM 25 (.t 24) [3]), (oG 26 (.mv (.t 4)) 25 false [4]), (oG 27 (.ias 1 (.t 26) (.k (.int .i64 0))) 25 false [5, 4]), (oG 28 (.load false 1 (.t 27)) 25 false [6, 4]), (oG 29 (.bin .eql (.t 28) (.k (.int .u8 17))) 25 false [7, 4]), (oE 30 (.pick (.t 25) (.k (.bool true)) (.t 29)) [4, 8])]
def spinetref18_Of_i4 : List An := [(aO (oM 31 (.t 4) []) false 0 0), (aO (oE 32 (.ias 1 (.t 31) (.k (.int .i64 0))) [0]) false 0 0), (aO (oE 33 (.load false 1 (.t 32)) [1]) false 0 0), (aO (oE 34 (.cint .i64 (.t 33)) [2]) false 0 0), (aO (oE 35 (.bin .sub (.t 34) (.k (.int .i64 14))) [3]) false 0 0), (aO (oM 36 (.t 4) []) false 0 1), (aO (oE 37 (.ias 1 (.t 36) (.k (.int .i64 1))) [5]) false 0 1), (aO (oE 38 (.load false 1 (.t 37)) [6]) false 0 1), (aO (oE 39 (.fld 0 (.t 5)) [0, 1, 2, 3, 4]) false 0 0), (aO (oN (.store 1 (.t 39) (.t 35)) [8, 4, 0, 1, 2, 3, 4]) true 0 1), (aO (oE 40 (.fld 1 (.t 5)) [0, 1, 2, 3, 4, 5, 6, 7, 8, 9]) false 1 1), (aO (oN (.store 1 (.t 40) (.t 38)) [10, 7, 9, 0, 1, 2, 3, 4, 5, 6, 7, 8, 9]) true 1 2), (aO (oE 41 (.fld 7 (.t 5)) [0, 1, 2, 3, 4, 5, 6, 7, 8, 9, 10, 11]) false 2 2), (aO (oN (.store 1 (.t 41) (.k (.int .i64 2))) [12, 11, 0, 1, 2, 3, 4, 5, 6, 7, 8, 9, 10, 11]) true 2 3)]
def spinetref18_Of_i5 : IR := (.cond (.t 30) (.regw spinetref18_Of_i4) .skip)
def spinetref18_Of_i6 : List Op1 := [(oE 42 (.fld 0 (.t 5)) []), (oE 43 (.load false 1 (.t 42)) [0]), (oE 44 (.fld 1 (.t 5)) []), (oE 45 (.load false 1 (.t 44)) [2]), (oE 46 (.cint .i64 (.t 45)) [3]), (oC 47 19 [(.t 43), (.t 46)] [1, 4]), (oE 48 (.fld 2 (.t 5)) [0, 1, 2, 3, 4, 5]), (oN (.store 3 (.t 48) (.t 47)) [6, 5, 5, 0, 1, 2, 3, 4, 5])]
def spinetref18_Of_i7 : List Op1 := [(oE 50 (.fld 2 (.t 5)) []), (oE 51 (.fld 1 (.t 50)) [0]), (oE 52 (.load false 1 (.t 51)) [1]), (oC 53 20 [(.t 52), (.k (.int .u8 0))] [2]), (oM 49 (.t 53) [3]), (oE 54 (.ext 0 (.t 49)) [4]), (oE 55 (.ext 1 (.t 49)) [4]), (oE 56 (.ext 2 (.t 49)) [4]), (oM 6 (.t 54) [5, 3, 0, 1, 2, 3, 4, 5]), (oM 7 (.t 55) [6, 8, 0, 1, 2, 3, 4, 5, 6, 8]), (oM 8 (.t 56) [7, 9, 0, 1, 2, 3, 4, 5, 6, 7, 8, 9])]
def spinetref18_Of_i8 : List Op1 := [(oM 57 (.t 6) [])]
def spinetref18_Of_i9 : List Op1 := [(oM 58 (.t 4) []), (oE 59 (.fld 7 (.t 5)) []), (oE 60 (.load false 1 (.t 59)) [1]), (oE 61 (.ias 1 (.t 58) (.t 60)) [0, 2]), (oE 62 (.load false 1 (.t 61)) [3]), (oE 63 (.fld 5 (.t 5)) [0, 1, 2, 3, 4]), (oN (.store 1 (.t 63) (.t 62)) [5, 4, 0, 1, 2, 3, 4])]
def spinetref18_Of_i10 : List Op1 := [(oE 64 (.fld 7 (.t 5)) []), (oE 65 (.load false 1 (.t 64)) [0]), (oE 66 (.bin .add (.t 65) (.k (.int .i64 1))) [1]), (oE 67 (.fld 7 (.t 5)) [0, 1, 2]), (oN (.store 1 (.t 67) (.t 66)) [3, 2, 0, 1, 2])]
def spinetref18_Of_i11 : IR := (.reg false spinetref18_Of_i10)
def spinetref18_Of_i12 : IR := (.cond (.t 57) (.seq (.reg false spinetref18_Of_i9) spinetref18_Of_i11) .skip)
def spinetref18_Of_i13 : List Op1 := [(oE 69 (.fld 2 (.t 5)) []), (oE 70 (.fld 1 (.t 69)) [0]), (oE 71 (.load false 1 (.t 70)) [1]), (oE 72 (.fld 5 (.t 5)) []), (oE 73 (.load false 1 (.t 72)) [3]), (oC 74 20 [(.t 71), (.t 73)] [2, 4]), (oM 68 (.t 74) [5]), (oE 75 (.ext 0 (.t 68)) [6]), (oE 76 (.ext 1 (.t 68)) [6]), (oE 77 (.ext 2 (.t 68)) [6]), (oM 9 (.t 75) [7, 5, 0, 1, 2, 3, 4, 5, 6, 7]), (oM 10 (.t 76) [8, 10, 0, 1, 2, 3, 4, 5, 6, 7, 8, 10]), (oM 11 (.t 77) [9, 11, 0, 1, 2, 3, 4, 5, 6, 7, 8, 9, 10, 11])]
def spinetref18_Of_i14 : List Op1 := [(oM 78 (.t 10) []), (oE 79 (.bin .eql (.t 78) (.k (.int .i64 1))) [0]), (oM 80 (.t 79) [1]), (oG 81 (.mv (.t 11)) 80 true [2]), (oE 82 (.pick (.t 80) (.t 81) (.k (.bool false))) [2, 3])]
def spinetref18_Of_i15 : List Op1 := [(oM 83 (.t 4) []), (oE 84 (.fld 7 (.t 5)) []), (oE 85 (.load false 1 (.t 84)) [1]), (oE 86 (.ias 1 (.t 83) (.t 85)) [0, 2]), (oE 87 (.load false 1 (.t 86)) [3]), (oC 88 21 [(.t 87)] [4]), (oE 89 (.fld 6 (.t 5)) [0, 1, 2, 3, 4, 5]), (oN (.store 1 (.t 89) (.t 88)) [6, 5, 5, 0, 1, 2, 3, 4, 5])]
def spinetref18_Of_i16 : List Op1 := [(oM 90 (.t 10) []), (oE 91 (.bin .eql (.t 90) (.k (.int .i64 1))) [0])]
def spinetref18_Of_i17 : List Op1 := [(oM 92 (.t 4) []), (oE 93 (.fld 7 (.t 5)) []), (oE 94 (.load false 1 (.t 93)) [1]), (oE 95 (.ias 1 (.t 92) (.t 94)) [0, 2]), (oE 96 (.load false 1 (.t 95)) [3]), (oE 97 (.cint .u16 (.t 96)) [4]), (oE 98 (.fld 6 (.t 5)) [0, 1, 2, 3, 4, 5]), (oN (.store 1 (.t 98) (.t 97)) [6, 5, 0, 1, 2, 3, 4, 5])]
def spinetref18_Of_i18 : List Op1 := [(oM 99 (.t 10) []), (oE 100 (.bin .eql (.t 99) (.k (.int .i64 2))) [0])]
def spinetref18_Of_i19 : List An := [(aO (oM 101 (.t 4) []) false 0 0), (aO (oE 102 (.fld 7 (.t 5)) []) false 0 0), (aO (oE 103 (.load false 1 (.t 102)) [1]) false 0 0), (aO (oE 104 (.ias 1 (.t 101) (.t 103)) [0, 2]) false 0 0), (aO (oE 105 (.load false 1 (.t 104)) [3]) false 0 0), (aO (oE 106 (.cint .u16 (.t 105)) [4]) false 0 0), (aO (oE 107 (.bin .mul (.t 106) (.k (.int .u16 256))) [5]) false 0 0), (aO (oM 108 (.t 4) []) false 0 0), (aO (oE 109 (.fld 7 (.t 5)) []) false 0 0), (aO (oE 110 (.load false 1 (.t 109)) [8]) false 0 0), (aO (oE 111 (.bin .add (.t 110) (.k (.int .i64 1))) [9]) false 0 0), (aO (oE 112 (.ias 1 (.t 108) (.t 111)) [7, 10]) false 0 0), (aO (oE 113 (.load false 1 (.t 112)) [11]) false 0 0), (aO (oE 114 (.cint .u16 (.t 113)) [12]) false 0 0), (aO (oE 115 (.bin .add (.t 107) (.t 114)) [6, 13]) false 0 0), (aO (oE 116 (.fld 6 (.t 5)) [0, 1, 2, 3, 4, 5, 6, 7, 8, 9, 10, 11, 12, 13, 14]) false 0 0), (aO (oN (.store 1 (.t 116) (.t 115)) [15, 14, 0, 1, 2, 3, 4, 5, 6, 7, 8, 9, 10, 11, 12, 13, 14]) true 0 1)]
def spinetref18_Of_i20 : IR := (.cond (.t 100) (.regw spinetref18_Of_i19) .skip)
def spinetref18_Of_i21 : IR := (.cond (.t 91) (.reg false spinetref18_Of_i17) (.seq (.reg false spinetref18_Of_i18) spinetref18_Of_i20))
def spinetref18_Of_i22 : IR := (.cond (.t 82) (.reg false spinetref18_Of_i15) (.seq (.reg false spinetref18_Of_i16) spinetref18_Of_i21))
def spinetref18_Of_i23 : List Op1 := [(oE 117 (.fld 7 (.t 5)) []), (oE 118 (.load false 1 (.t 117)) [0]), (oM 119 (.t 10) []), (oE 120 (.bin .add (.t 118) (.t 119)) [1, 2]), (oE 121 (.fld 7 (.t 5)) [0, 1, 2, 3]), (oN (.store 1 (.t 121) (.t 120)) [4, 3, 0, 1, 2, 3])]
def spinetref18_Of_i24 : List Op1 := [(oE 122 (.fld 7 (.t 5)) []), (oE 123 (.load false 1 (.t 122)) [0]), (oM 124 (.t 0) []), (oE 125 (.len (.t 124)) [2]), (oE 126 (.bin .gtr (.t 123) (.t 125)) [1, 3])]
def spinetref18_Of_i25 : List Op1 := [(oE 127 (.build [(.int .i64 0), (.int .u8 0), (.int .i64 0), (.int .i64 0), (.int .i64 0), (.int .u8 0), (.int .u16 0), (.int .i64 0)] []) []), (oN (.store 8 (.t 2) (.t 127)) [0, 0]), (oM 3 (.k (.bool false)) [1, 0, 1])]
def spinetref18_Of_i26 : IR := .ret
def spinetref18_Of_i27 : IR := (.cond (.t 126) (.seq (.reg false spinetref18_Of_i25) spinetref18_Of_i26) .skip)
def spinetref18_Of_i28 : List Op1 := [(oE 128 (.load true 8 (.t 5)) []), (oN (.store 8 (.t 2) (.t 128)) [0, 0]), (oM 3 (.k (.bool true)) [1, 0, 1])]
def spinetref18_Of_i29 : IR := .ret
def spinetref18_Of_i30 : IR := (.seq (.reg false spinetref18_Of_i28) spinetref18_Of_i29)
def spinetref18_Of_i31 : IR := (.seq (.seq (.reg false spinetref18_Of_i24) spinetref18_Of_i27) spinetref18_Of_i30)
def spinetref18_Of_i32 : IR := (.seq (.reg false spinetref18_Of_i23) spinetref18_Of_i31)
def spinetref18_Of_i33 : IR := (.seq (.seq (.reg false spinetref18_Of_i14) spinetref18_Of_i22) spinetref18_Of_i32)
def spinetref18_Of_i34 : IR := (.seq (.reg false spinetref18_Of_i13) spinetref18_Of_i33)
def spinetref18_Of_i35 : IR := (.seq (.seq (.reg false spinetref18_Of_i8) spinetref18_Of_i12) spinetref18_Of_i34)
def spinetref18_Of_i36 : IR := (.seq (.reg false spinetref18_Of_i7) spinetref18_Of_i35)
def spinetref18_Of_i37 : IR := (.seq (.reg false spinetref18_Of_i6) spinetref18_Of_i36)
def spinetref18_Of_i38 : IR := (.seq (.seq (.reg false spinetref18_Of_i3) spinetref18_Of_i5) spinetref18_Of_i37)
def spinetref18_Of_i39 : IR := (.seq (.reg false spinetref18_Of_i2) spinetref18_Of_i38)
def spinetref18_Of_i40 : IR := (.seq (.reg false spinetref18_Of_i1) spinetref18_Of_i39)
def spinetref18_Of_ir : IR := (.seq (.reg false spinetref18_Of_i0) spinetref18_Of_i40)
theorem spinetref18_Of_cfn : cFn Try.prog 6 = some (spinetref18_Of_ir, [(.c 2 true 8), (.t 3)], 129) := by kernel_rfl
def spinetref18_Of_V (r : (api_Inst × Bool)) : V := .tup [.agg [.s (.int .i64 r.1.Page), .s (.int .u8 r.1.Code), .s (.int .i64 r.1.Entry.Op), .s (.int .i64 r.1.Entry.Mode), .s (.int .i64 r.1.Entry.Reg), .s (.int .u8 r.1.Post), .s (.int .u16 r.1.Value), .s (.int .i64 r.1.Len)], .s (.bool r.2)]
def spinetref18_Of_C (r : (api_Inst × Bool)) : X → Fr → Hp → Prop := FinL [(.c 2 true 8), (.t 3)] [] (spinetref18_Of_V r) []
theorem spinetref18_Of_ok (b_ : (List Int)) (r : (api_Inst × Bool)) (h : spinetref18_Of b_ = some r) : Pure Try.prog 6 [.sl false b_.length (cat (nI .u8) b_)] (spinetref18_Of_V r) := by
  refine ConL.of spinetref18_Of_cfn (Nat.le_of_ble_eq_true (by kernel_rfl)) (Nat.le_of_ble_eq_true (by kernel_rfl)) ?_
  refine k_start ?_
  show dwv Try.prog [] spinetref18_Of_ir (kont Try.prog [] (spinetref18_Of_C r) []) (fr0 [.sl false b_.length (cat (nI .u8) b_)]) []
  have hf : FOk (fr0 [.sl false b_.length (cat (nI .u8) b_)]) [⟨0, [], .sl false b_.length (cat (nI .u8) b_)⟩] := ⟨⟨fun _ => rfl, fun h => (h trivial).elim⟩, trivial⟩
  generalize fr0 [.sl false b_.length (cat (nI .u8) b_)] = f at hf ⊢
  unfold spinetref18_Of at h
  refine k_seq ?_
  refine k_reg ?_
  refine mops_en hf (by kernel_rfl) fun f1 hf1 => ?_
  refine k_c ?_
  refine k_seq ?_
  refine k_reg ?_
  refine mops_sg 2 hf1 (by kernel_rfl) fun f2 hf2 => ?_
  obtain ⟨c1, h⟩ := as_ok h
  refine mops_adv rfl (v := .ref 1 1 0 (([] : List Int) ++ b_).length) hf2 (by kernel_rfl) (e_app (g := (nI .u8)) (l := ([] : List Int)) (l' := b_) (b := 1) (ver := 0) (n := 0) (by kernel_rfl) (by kernel_rfl) (live_grow (by kernel_rfl)) (by kernel_rfl) (slc_ev (v := .sl false b_.length (cat (nI .u8) b_)) (by kernel_rfl) (slc_sl (g := (nI .u8)) b_)) c1) fun f3 hf3 => ?_
  refine mops_sg 1 hf3 (by kernel_rfl) fun f4 hf4 => ?_
  obtain ⟨c2, h⟩ := as_ok h
  refine mops_adv rfl (v := .ref 1 2 0 ((([] : List Int) ++ b_) ++ [0, 0, 0, 0, 0]).length) hf4 (by kernel_rfl) (e_app (g := (nI .u8)) (l := (([] : List Int) ++ b_)) (l' := [0, 0, 0, 0, 0]) (b := 1) (ver := 1) (n := (([] : List Int) ++ b_).length) (by kernel_rfl) rfl (live_grow (by kernel_rfl)) (sll_ev (v := .ref 2 0 0 5) (by kernel_rfl) (sll_ref (B := ⟨0, .grow, 1, cat (nI .u8) [0, 0, 0, 0, 0]⟩) (by kernel_rfl) (live_grow (by kernel_rfl)))) (slc_ev (v := .ref 2 0 0 5) (by kernel_rfl) (slc_ref (g := (nI .u8)) (l := [0, 0, 0, 0, 0]) (kd := .grow) (q := 1) (by kernel_rfl) (live_grow (by kernel_rfl)))) c2) fun f5 hf5 => ?_
  refine mops_en hf5 (by kernel_rfl) fun f6 hf6 => ?_
  refine k_c ?_
  refine k_seq ?_
  refine k_reg ?_
  refine mops_sg 1 hf6 (by kernel_rfl) fun f7 hf7 => ?_
  obtain ⟨c3, h⟩ := as_ok h
  refine mops_adv rfl (v := .ptr 1 2 (0 + (0 : Int).toNat * 1)) hf7 (by kernel_rfl) (e_ias_ref (l := ((([] : List Int) ++ b_) ++ [0, 0, 0, 0, 0])) (B := ⟨2, .grow, 1, cat (nI .u8) ((([] : List Int) ++ b_) ++ [0, 0, 0, 0, 0])⟩) (b := 1) (ver := 2) (n := ((([] : List Int) ++ b_) ++ [0, 0, 0, 0, 0]).length) (k := .i64) (iv := 0) (by kernel_rfl) (by kernel_rfl) rfl (live_grow (by kernel_rfl)) c3) fun f8 hf8 => ?_
  refine mops_adv rfl (v := .s (.int .u8 (gt ((([] : List Int) ++ b_) ++ [0, 0, 0, 0, 0]) (0)))) hf8 (by kernel_rfl) (e_load_pe (g := (nI .u8)) (l := ((([] : List Int) ++ b_) ++ [0, 0, 0, 0, 0])) (iv := 0) (kd := .grow) (q := 1) (b := 1) (ver := 2) [] (by kernel_rfl) (live_grow (by kernel_rfl)) c3 (by kernel_rfl) (by kernel_rfl)) fun f9 hf9 => ?_
  refine mops_en hf9 (by kernel_rfl) fun f10 hf10 => ?_
  refine k_c ?_
  refine k_seq ?_
  refine k_seq ?_
  refine k_reg ?_
  refine mops_sg 1 hf10 (by kernel_rfl) fun f11 hf11 => ?_
  obtain ⟨c4, h⟩ := as_ok h
  refine mops_adv rfl (v := .ptr 1 2 (0 + (0 : Int).toNat * 1)) hf11 (by kernel_rfl) (e_ias_ref (l := ((([] : List Int) ++ b_) ++ [0, 0, 0, 0, 0])) (B := ⟨2, .grow, 1, cat (nI .u8) ((([] : List Int) ++ b_) ++ [0, 0, 0, 0, 0])⟩) (b := 1) (ver := 2) (n := ((([] : List Int) ++ b_) ++ [0, 0, 0, 0, 0]).length) (k := .i64) (iv := 0) (by kernel_rfl) (by kernel_rfl) rfl (live_grow (by kernel_rfl)) c4) fun f12 hf12 => ?_
  refine mops_adv rfl (v := .s (.int .u8 (gt ((([] : List Int) ++ b_) ++ [0, 0, 0, 0, 0]) (0)))) hf12 (by kernel_rfl) (e_load_pe (g := (nI .u8)) (l := ((([] : List Int) ++ b_) ++ [0, 0, 0, 0, 0])) (iv := 0) (kd := .grow) (q := 1) (b := 1) (ver := 2) [] (by kernel_rfl) (live_grow (by kernel_rfl)) c4 (by kernel_rfl) (by kernel_rfl)) fun f13 hf13 => ?_
  refine mops_sg 3 hf13 (by kernel_rfl) fun f14 hf14 => ?_
  obtain ⟨c5, h⟩ := as_ok h
  refine mops_gadv (dst := (some 27)) (op := (.ias 1 (.t 26) (.k (.int .i64 0)))) (aft := [5, 4]) (t := 25) (w := false) (ch := [(25, false)]) (b := (!((gt ((([] : List Int) ++ b_) ++ [0, 0, 0, 0, 0]) (0)) == 16))) (v := .ptr 1 2 (0 + (0 : Int).toNat * 1)) (by kernel_rfl) hf14 (by kernel_rfl) (by kernel_rfl) (by kernel_rfl) (fun hb6 => e_ias_ref (l := ((([] : List Int) ++ b_) ++ [0, 0, 0, 0, 0])) (B := ⟨2, .grow, 1, cat (nI .u8) ((([] : List Int) ++ b_) ++ [0, 0, 0, 0, 0])⟩) (b := 1) (ver := 2) (n := ((([] : List Int) ++ b_) ++ [0, 0, 0, 0, 0]).length) (k := .i64) (iv := 0) (by kernel_rfl) (by kernel_rfl) rfl (live_grow (by kernel_rfl)) (c5 hb6)) fun f15 hf15 => ?_
  refine mops_gadv (dst := (some 28)) (op := (.load false 1 (.t 27))) (aft := [6, 4]) (t := 25) (w := false) (ch := [(25, false)]) (b := (!((gt ((([] : List Int) ++ b_) ++ [0, 0, 0, 0, 0]) (0)) == 16))) (v := .s (.int .u8 (gt ((([] : List Int) ++ b_) ++ [0, 0, 0, 0, 0]) (0)))) (by kernel_rfl) hf15 (by kernel_rfl) (by kernel_rfl) (by kernel_rfl) (fun hb7 => e_load_pe (g := (nI .u8)) (l := ((([] : List Int) ++ b_) ++ [0, 0, 0, 0, 0])) (iv := 0) (kd := .grow) (q := 1) (b := 1) (ver := 2) [] (by kernel_rfl) (live_grow (by kernel_rfl)) (c5 hb7) (by kernel_rfl) (by kernel_rfl)) fun f16 hf16 => ?_
  refine mops_en hf16 (by kernel_rfl) fun f17 hf17 => ?_
  refine k_c ?_
  have hj1 : ∀ (m_ : Int) (m_1 : Int) (m_2 : Int), spinetref18_Of_j2 b_ m_ m_1 m_2 = some r → ∀ f, FOk f [⟨0, [], .sl false b_.length (cat (nI .u8) b_)⟩, ⟨2, [], .ptr 0 0 0⟩, ⟨3, [], .s (.bool false)⟩, ⟨4, [], .ref 1 2 0 ((([] : List Int) ++ b_) ++ [0, 0, 0, 0, 0]).length⟩, ⟨5, [], .ptr 3 0 0⟩] → kont Try.prog [] (spinetref18_Of_C r) ((.c spinetref18_Of_i37) :: []) .normal f [⟨0, .mem, 1, [.s (.int .i64 0), .s (.int .u8 0), .s (.int .i64 0), .s (.int .i64 0), .s (.int .i64 0), .s (.int .u8 0), .s (.int .u16 0), .s (.int .i64 0)]⟩, ⟨2, .grow, 1, cat (nI .u8) ((([] : List Int) ++ b_) ++ [0, 0, 0, 0, 0])⟩, ⟨0, .grow, 1, cat (nI .u8) [0, 0, 0, 0, 0]⟩, ⟨0, .mem, 1, [.s (.int .i64 m_), .s (.int .u8 m_1), .s (.int .i64 0), .s (.int .i64 0), .s (.int .i64 0), .s (.int .u8 0), .s (.int .u16 0), .s (.int .i64 m_2)]⟩] := by
    intro m_ m_1 m_2 h f hf
    unfold spinetref18_Of_j2 at h
    refine k_c ?_
    refine k_seq ?_
    refine k_reg ?_
    refine mops_sg 5 hf (by kernel_rfl) fun f1 hf1 => ?_
    obtain ⟨r_, hx_r_, h⟩ := Option.bind_eq_some_iff.1 h
    refine mops_call rfl hf1 (av := [.s (.int .i64 m_), .s (.int .i64 (IntKind.wrap .i64 m_1))]) (by kernel_rfl) (v := .agg [.s (.int .i64 r_.Op), .s (.int .i64 r_.Mode), .s (.int .i64 r_.Reg)]) (CalL.pure (spinetref14_Of_ok m_ (IntKind.wrap .i64 m_1) r_ hx_r_) rfl rfl (Nat.le_of_ble_eq_true (by kernel_rfl))) (fun _ => rfl) fun f2 hf2 => ?_
    refine mops_en hf2 (by kernel_rfl) fun f3 hf3 => ?_
    refine k_c ?_
    refine k_seq ?_
    refine k_reg ?_
    refine mops_sg 3 hf3 (by kernel_rfl) fun f4 hf4 => ?_
    obtain ⟨r_1, hx_r_1, h⟩ := Option.bind_eq_some_iff.1 h
    refine mops_call rfl hf4 (av := [.s (.int .i64 r_.Mode), .s (.int .u8 0)]) (by kernel_rfl) (v := .tup [.s (.bool r_1.1), .s (.int .i64 r_1.2.1), .s (.bool r_1.2.2)]) (CalL.pure (spinetref18_Shape_ok r_.Mode (0) r_1 hx_r_1) rfl rfl (Nat.le_of_ble_eq_true (by kernel_rfl))) (fun _ => rfl) fun f5 hf5 => ?_
    refine mops_en hf5 (by kernel_rfl) fun f6 hf6 => ?_
    refine k_c ?_
    refine k_seq ?_
    refine k_seq ?_
    refine k_reg ?_
    refine mops_en hf6 (by kernel_rfl) fun f7 hf7 => ?_
    refine k_c ?_
    have hj2 : ∀ (m_3 : Int) (m_4 : Int), spinetref18_Of_j1 b_ m_ m_1 r_ m_3 m_4 = some r → ∀ f, FOk f [⟨0, [], .sl false b_.length (cat (nI .u8) b_)⟩, ⟨2, [], .ptr 0 0 0⟩, ⟨3, [], .s (.bool false)⟩, ⟨4, [], .ref 1 2 0 ((([] : List Int) ++ b_) ++ [0, 0, 0, 0, 0]).length⟩, ⟨5, [], .ptr 3 0 0⟩] → kont Try.prog [] (spinetref18_Of_C r) ((.c spinetref18_Of_i34) :: []) .normal f [⟨0, .mem, 1, [.s (.int .i64 0), .s (.int .u8 0), .s (.int .i64 0), .s (.int .i64 0), .s (.int .i64 0), .s (.int .u8 0), .s (.int .u16 0), .s (.int .i64 0)]⟩, ⟨2, .grow, 1, cat (nI .u8) ((([] : List Int) ++ b_) ++ [0, 0, 0, 0, 0])⟩, ⟨0, .grow, 1, cat (nI .u8) [0, 0, 0, 0, 0]⟩, ⟨0, .mem, 1, [.s (.int .i64 m_), .s (.int .u8 m_1), .s (.int .i64 r_.Op), .s (.int .i64 r_.Mode), .s (.int .i64 r_.Reg), .s (.int .u8 m_3), .s (.int .u16 0), .s (.int .i64 m_4)]⟩] := by
      intro m_3 m_4 h f hf
      unfold spinetref18_Of_j1 at h
      refine k_c ?_
      refine k_seq ?_
      refine k_reg ?_
      refine mops_sg 5 hf (by kernel_rfl) fun f1 hf1 => ?_
      obtain ⟨r_2, hx_r_2, h⟩ := Option.bind_eq_some_iff.1 h
      refine mops_call rfl hf1 (av := [.s (.int .i64 r_.Mode), .s (.int .u8 m_3)]) (by kernel_rfl) (v := .tup [.s (.bool r_2.1), .s (.int .i64 r_2.2.1), .s (.bool r_2.2.2)]) (CalL.pure (spinetref18_Shape_ok r_.Mode m_3 r_2 hx_r_2) rfl rfl (Nat.le_of_ble_eq_true (by kernel_rfl))) (fun _ => rfl) fun f2 hf2 => ?_
      refine mops_en hf2 (by kernel_rfl) fun f3 hf3 => ?_
      refine k_c ?_
      refine k_seq ?_
      refine k_seq ?_
      refine k_reg ?_
      refine mops_en hf3 (by kernel_rfl) fun f4 hf4 => ?_
      refine k_c ?_
      have hj3 : ∀ (m_5 : Int), spinetref18_Of_j0 b_ m_ m_1 r_ m_3 m_4 r_2 m_5 = some r → ∀ f, FOk f [⟨0, [], .sl false b_.length (cat (nI .u8) b_)⟩, ⟨2, [], .ptr 0 0 0⟩, ⟨3, [], .s (.bool false)⟩, ⟨5, [], .ptr 3 0 0⟩, ⟨10, [], .s (.int .i64 r_2.2.1)⟩] → kont Try.prog [] (spinetref18_Of_C r) ((.c spinetref18_Of_i32) :: []) .normal f [⟨0, .mem, 1, [.s (.int .i64 0), .s (.int .u8 0), .s (.int .i64 0), .s (.int .i64 0), .s (.int .i64 0), .s (.int .u8 0), .s (.int .u16 0), .s (.int .i64 0)]⟩, ⟨2, .grow, 1, cat (nI .u8) ((([] : List Int) ++ b_) ++ [0, 0, 0, 0, 0])⟩, ⟨0, .grow, 1, cat (nI .u8) [0, 0, 0, 0, 0]⟩, ⟨0, .mem, 1, [.s (.int .i64 m_), .s (.int .u8 m_1), .s (.int .i64 r_.Op), .s (.int .i64 r_.Mode), .s (.int .i64 r_.Reg), .s (.int .u8 m_3), .s (.int .u16 m_5), .s (.int .i64 m_4)]⟩] := by
        intro m_5 h f hf
        unfold spinetref18_Of_j0 at h
        refine k_c ?_
        refine k_seq ?_
        refine k_reg ?_
        refine mops_en hf (by kernel_rfl) fun f1 hf1 => ?_
        refine k_c ?_
        refine k_seq ?_
        refine k_seq ?_
        refine k_reg ?_
        refine mops_en hf1 (by kernel_rfl) fun f2 hf2 => ?_
        refine k_c ?_
        refine k_cond hf2 (t := (decide ((ln b_) < (IntKind.wrap .i64 (m_4 + r_2.2.1))))) (by kernel_rfl) (fun hc20 => ?_) (fun hc20 => ?_)
        · have h := if_t h hc20
          refine k_seq ?_
          refine k_reg ?_
          refine mops_en hf2 (by kernel_rfl) fun f3 hf3 => ?_
          refine k_c ?_
          refine k_ret ?_
          refine x_c nofun ?_
          obtain rfl := Option.some.inj h
          exact k_fin (fin_ret (.inl rfl) hf3 (vs := [.agg [.s (.int .i64 0), .s (.int .u8 0), .s (.int .i64 0), .s (.int .i64 0), .s (.int .i64 0), .s (.int .u8 0), .s (.int .u16 0), .s (.int .i64 0)], .s (.bool false)]) (by kernel_rfl) (SettL.pure (FzL.tup (FzsL.cons (FzL.stat rfl) (FzsL.cons (FzL.stat rfl) FzsL.nil)))))
        · have h := if_f h hc20
          refine k_skip ?_
          refine k_c ?_
          refine k_seq ?_
          refine k_reg ?_
          refine mops_en hf2 (by kernel_rfl) fun f3 hf3 => ?_
          refine k_c ?_
          refine k_ret ?_
          obtain rfl := Option.some.inj h
          exact k_fin (fin_ret (.inl rfl) hf3 (vs := [.agg [.s (.int .i64 m_), .s (.int .u8 m_1), .s (.int .i64 r_.Op), .s (.int .i64 r_.Mode), .s (.int .i64 r_.Reg), .s (.int .u8 m_3), .s (.int .u16 m_5), .s (.int .i64 (IntKind.wrap .i64 (m_4 + r_2.2.1)))], .s (.bool true)]) (by kernel_rfl) (SettL.pure (FzL.tup (FzsL.cons (FzL.stat rfl) (FzsL.cons (FzL.stat rfl) FzsL.nil)))))
      refine k_cond hf4 (t := ((r_2.2.1 == 1) && r_2.2.2)) (by kernel_rfl) (fun hc13 => ?_) (fun hc13 => ?_)
      · have h := if_t h hc13
        refine k_reg ?_
        refine mops_sg 3 hf4 (by kernel_rfl) fun f5 hf5 => ?_
        obtain ⟨c14, h⟩ := as_ok h
        refine mops_adv rfl (v := .ptr 1 2 (0 + (m_4 : Int).toNat * 1)) hf5 (by kernel_rfl) (e_ias_ref (l := ((([] : List Int) ++ b_) ++ [0, 0, 0, 0, 0])) (B := ⟨2, .grow, 1, cat (nI .u8) ((([] : List Int) ++ b_) ++ [0, 0, 0, 0, 0])⟩) (b := 1) (ver := 2) (n := ((([] : List Int) ++ b_) ++ [0, 0, 0, 0, 0]).length) (k := .i64) (iv := m_4) (by kernel_rfl) (by kernel_rfl) rfl (live_grow (by kernel_rfl)) c14) fun f6 hf6 => ?_
        refine mops_adv rfl (v := .s (.int .u8 (gt ((([] : List Int) ++ b_) ++ [0, 0, 0, 0, 0]) m_4))) hf6 (by kernel_rfl) (e_load_pe (g := (nI .u8)) (l := ((([] : List Int) ++ b_) ++ [0, 0, 0, 0, 0])) (iv := m_4) (kd := .grow) (q := 1) (b := 1) (ver := 2) [] (by kernel_rfl) (live_grow (by kernel_rfl)) c14 (by kernel_rfl) (by kernel_rfl)) fun f7 hf7 => ?_
        obtain ⟨r_3, hx_r_3, h⟩ := Option.bind_eq_some_iff.1 h
        refine mops_call rfl hf7 (av := [.s (.int .u8 (gt ((([] : List Int) ++ b_) ++ [0, 0, 0, 0, 0]) m_4))]) (by kernel_rfl) (v := .s (.int .u16 r_3)) (CalL.pure (spinetref18_Sign_ok (gt ((([] : List Int) ++ b_) ++ [0, 0, 0, 0, 0]) m_4) r_3 hx_r_3) rfl rfl (Nat.le_of_ble_eq_true (by kernel_rfl))) (fun _ => rfl) fun f8 hf8 => ?_
        refine mops_en hf8 (by kernel_rfl) fun f9 hf9 => ?_
        refine k_hp (L' := [⟨0, .mem, 1, [.s (.int .i64 0), .s (.int .u8 0), .s (.int .i64 0), .s (.int .i64 0), .s (.int .i64 0), .s (.int .u8 0), .s (.int .u16 0), .s (.int .i64 0)]⟩, ⟨2, .grow, 1, cat (nI .u8) ((([] : List Int) ++ b_) ++ [0, 0, 0, 0, 0])⟩, ⟨0, .grow, 1, cat (nI .u8) [0, 0, 0, 0, 0]⟩, ⟨0, .mem, 1, [.s (.int .i64 m_), .s (.int .u8 m_1), .s (.int .i64 r_.Op), .s (.int .i64 r_.Mode), .s (.int .i64 r_.Reg), .s (.int .u8 m_3), .s (.int .u16 r_3), .s (.int .i64 m_4)]⟩]) (by kernel_rfl) ?_
        exact hj3 r_3 h _ (FOk_of [0, 2, 3, 5, 10] hf9 (by kernel_rfl))
      · have h := if_f h hc13
        refine k_seq ?_
        refine k_reg ?_
        refine mops_en hf4 (by kernel_rfl) fun f5 hf5 => ?_
        refine k_c ?_
        refine k_cond hf5 (t := (r_2.2.1 == 1)) (by kernel_rfl) (fun hc15 => ?_) (fun hc15 => ?_)
        · have h := if_t h hc15
          refine k_reg ?_
          refine mops_sg 3 hf5 (by kernel_rfl) fun f6 hf6 => ?_
          obtain ⟨c16, h⟩ := as_ok h
          refine mops_adv rfl (v := .ptr 1 2 (0 + (m_4 : Int).toNat * 1)) hf6 (by kernel_rfl) (e_ias_ref (l := ((([] : List Int) ++ b_) ++ [0, 0, 0, 0, 0])) (B := ⟨2, .grow, 1, cat (nI .u8) ((([] : List Int) ++ b_) ++ [0, 0, 0, 0, 0])⟩) (b := 1) (ver := 2) (n := ((([] : List Int) ++ b_) ++ [0, 0, 0, 0, 0]).length) (k := .i64) (iv := m_4) (by kernel_rfl) (by kernel_rfl) rfl (live_grow (by kernel_rfl)) c16) fun f7 hf7 => ?_
          refine mops_adv rfl (v := .s (.int .u8 (gt ((([] : List Int) ++ b_) ++ [0, 0, 0, 0, 0]) m_4))) hf7 (by kernel_rfl) (e_load_pe (g := (nI .u8)) (l := ((([] : List Int) ++ b_) ++ [0, 0, 0, 0, 0])) (iv := m_4) (kd := .grow) (q := 1) (b := 1) (ver := 2) [] (by kernel_rfl) (live_grow (by kernel_rfl)) c16 (by kernel_rfl) (by kernel_rfl)) fun f8 hf8 => ?_
          refine mops_en hf8 (by kernel_rfl) fun f9 hf9 => ?_
          refine k_hp (L' := [⟨0, .mem, 1, [.s (.int .i64 0), .s (.int .u8 0), .s (.int .i64 0), .s (.int .i64 0), .s (.int .i64 0), .s (.int .u8 0), .s (.int .u16 0), .s (.int .i64 0)]⟩, ⟨2, .grow, 1, cat (nI .u8) ((([] : List Int) ++ b_) ++ [0, 0, 0, 0, 0])⟩, ⟨0, .grow, 1, cat (nI .u8) [0, 0, 0, 0, 0]⟩, ⟨0, .mem, 1, [.s (.int .i64 m_), .s (.int .u8 m_1), .s (.int .i64 r_.Op), .s (.int .i64 r_.Mode), .s (.int .i64 r_.Reg), .s (.int .u8 m_3), .s (.int .u16 (IntKind.wrap .u16 (gt ((([] : List Int) ++ b_) ++ [0, 0, 0, 0, 0]) m_4))), .s (.int .i64 m_4)]⟩]) (by kernel_rfl) ?_
          exact hj3 (IntKind.wrap .u16 (gt ((([] : List Int) ++ b_) ++ [0, 0, 0, 0, 0]) m_4)) h _ (FOk_of [0, 2, 3, 5, 10] hf9 (by kernel_rfl))
        · have h := if_f h hc15
          refine k_seq ?_
          refine k_reg ?_
          refine mops_en hf5 (by kernel_rfl) fun f6 hf6 => ?_
          refine k_c ?_
          refine k_cond hf6 (t := (r_2.2.1 == 2)) (by kernel_rfl) (fun hc17 => ?_) (fun hc17 => ?_)
          · have h := if_t h hc17
            refine k_regw ?_
            refine lw_tight 16 (by kernel_rfl) ?_
            refine mops_seg [0, 2, 3, 4, 5, 10, 101, 103] 3 hf6 (l' := [⟨0, [], .sl false b_.length (cat (nI .u8) b_)⟩, ⟨2, [], .ptr 0 0 0⟩, ⟨3, [], .s (.bool false)⟩, ⟨4, [], .ref 1 2 0 ((([] : List Int) ++ b_) ++ [0, 0, 0, 0, 0]).length⟩, ⟨5, [], .ptr 3 0 0⟩, ⟨10, [], .s (.int .i64 r_2.2.1)⟩, ⟨101, [], .ref 1 2 0 ((([] : List Int) ++ b_) ++ [0, 0, 0, 0, 0]).length⟩, ⟨103, [], .s (.int .i64 m_4)⟩]) (L' := [⟨0, .mem, 1, [.s (.int .i64 0), .s (.int .u8 0), .s (.int .i64 0), .s (.int .i64 0), .s (.int .i64 0), .s (.int .u8 0), .s (.int .u16 0), .s (.int .i64 0)]⟩, ⟨2, .grow, 1, cat (nI .u8) ((([] : List Int) ++ b_) ++ [0, 0, 0, 0, 0])⟩, ⟨0, .grow, 1, cat (nI .u8) [0, 0, 0, 0, 0]⟩, ⟨0, .mem, 1, [.s (.int .i64 m_), .s (.int .u8 m_1), .s (.int .i64 r_.Op), .s (.int .i64 r_.Mode), .s (.int .i64 r_.Reg), .s (.int .u8 m_3), .s (.int .u16 0), .s (.int .i64 m_4)]⟩]) (by kernel_rfl) fun f7 hf7 => ?_
            obtain ⟨c18, h⟩ := as_ok h
            refine mops_adv rfl (v := .ptr 1 2 (0 + (m_4 : Int).toNat * 1)) hf7 (by kernel_rfl) (e_ias_ref (l := ((([] : List Int) ++ b_) ++ [0, 0, 0, 0, 0])) (B := ⟨2, .grow, 1, cat (nI .u8) ((([] : List Int) ++ b_) ++ [0, 0, 0, 0, 0])⟩) (b := 1) (ver := 2) (n := ((([] : List Int) ++ b_) ++ [0, 0, 0, 0, 0]).length) (k := .i64) (iv := m_4) (by kernel_rfl) (by kernel_rfl) rfl (live_grow (by kernel_rfl)) c18) fun f8 hf8 => ?_
            refine mops_adv rfl (v := .s (.int .u8 (gt ((([] : List Int) ++ b_) ++ [0, 0, 0, 0, 0]) m_4))) hf8 (by kernel_rfl) (e_load_pe (g := (nI .u8)) (l := ((([] : List Int) ++ b_) ++ [0, 0, 0, 0, 0])) (iv := m_4) (kd := .grow) (q := 1) (b := 1) (ver := 2) [] (by kernel_rfl) (live_grow (by kernel_rfl)) c18 (by kernel_rfl) (by kernel_rfl)) fun f9 hf9 => ?_
            refine mops_seg [0, 2, 3, 5, 10, 107, 108, 111] 6 hf9 (l' := [⟨0, [], .sl false b_.length (cat (nI .u8) b_)⟩, ⟨2, [], .ptr 0 0 0⟩, ⟨3, [], .s (.bool false)⟩, ⟨5, [], .ptr 3 0 0⟩, ⟨10, [], .s (.int .i64 r_2.2.1)⟩, ⟨107, [], .s (.int .u16 (IntKind.wrap .u16 ((IntKind.wrap .u16 (gt ((([] : List Int) ++ b_) ++ [0, 0, 0, 0, 0]) m_4)) * 256)))⟩, ⟨108, [], .ref 1 2 0 ((([] : List Int) ++ b_) ++ [0, 0, 0, 0, 0]).length⟩, ⟨111, [], .s (.int .i64 (IntKind.wrap .i64 (m_4 + 1)))⟩]) (L' := [⟨0, .mem, 1, [.s (.int .i64 0), .s (.int .u8 0), .s (.int .i64 0), .s (.int .i64 0), .s (.int .i64 0), .s (.int .u8 0), .s (.int .u16 0), .s (.int .i64 0)]⟩, ⟨2, .grow, 1, cat (nI .u8) ((([] : List Int) ++ b_) ++ [0, 0, 0, 0, 0])⟩, ⟨0, .grow, 1, cat (nI .u8) [0, 0, 0, 0, 0]⟩, ⟨0, .mem, 1, [.s (.int .i64 m_), .s (.int .u8 m_1), .s (.int .i64 r_.Op), .s (.int .i64 r_.Mode), .s (.int .i64 r_.Reg), .s (.int .u8 m_3), .s (.int .u16 0), .s (.int .i64 m_4)]⟩]) (by kernel_rfl) fun f10 hf10 => ?_
            obtain ⟨c19, h⟩ := as_ok h
            refine mops_adv rfl (v := .ptr 1 2 (0 + ((IntKind.wrap .i64 (m_4 + 1)) : Int).toNat * 1)) hf10 (by kernel_rfl) (e_ias_ref (l := ((([] : List Int) ++ b_) ++ [0, 0, 0, 0, 0])) (B := ⟨2, .grow, 1, cat (nI .u8) ((([] : List Int) ++ b_) ++ [0, 0, 0, 0, 0])⟩) (b := 1) (ver := 2) (n := ((([] : List Int) ++ b_) ++ [0, 0, 0, 0, 0]).length) (k := .i64) (iv := (IntKind.wrap .i64 (m_4 + 1))) (by kernel_rfl) (by kernel_rfl) rfl (live_grow (by kernel_rfl)) c19) fun f11 hf11 => ?_
            refine mops_adv rfl (v := .s (.int .u8 (gt ((([] : List Int) ++ b_) ++ [0, 0, 0, 0, 0]) (IntKind.wrap .i64 (m_4 + 1))))) hf11 (by kernel_rfl) (e_load_pe (g := (nI .u8)) (l := ((([] : List Int) ++ b_) ++ [0, 0, 0, 0, 0])) (iv := (IntKind.wrap .i64 (m_4 + 1))) (kd := .grow) (q := 1) (b := 1) (ver := 2) [] (by kernel_rfl) (live_grow (by kernel_rfl)) c19 (by kernel_rfl) (by kernel_rfl)) fun f12 hf12 => ?_
            refine mops_end [0, 2, 3, 5, 10, 115, 116] hf12 (l' := [⟨0, [], .sl false b_.length (cat (nI .u8) b_)⟩, ⟨2, [], .ptr 0 0 0⟩, ⟨3, [], .s (.bool false)⟩, ⟨5, [], .ptr 3 0 0⟩, ⟨10, [], .s (.int .i64 r_2.2.1)⟩, ⟨115, [], .s (.int .u16 (IntKind.wrap .u16 ((IntKind.wrap .u16 ((IntKind.wrap .u16 (gt ((([] : List Int) ++ b_) ++ [0, 0, 0, 0, 0]) m_4)) * 256)) + (IntKind.wrap .u16 (gt ((([] : List Int) ++ b_) ++ [0, 0, 0, 0, 0]) (IntKind.wrap .i64 (m_4 + 1)))))))⟩, ⟨116, [], .ptr 3 0 6⟩]) (L' := [⟨0, .mem, 1, [.s (.int .i64 0), .s (.int .u8 0), .s (.int .i64 0), .s (.int .i64 0), .s (.int .i64 0), .s (.int .u8 0), .s (.int .u16 0), .s (.int .i64 0)]⟩, ⟨2, .grow, 1, cat (nI .u8) ((([] : List Int) ++ b_) ++ [0, 0, 0, 0, 0])⟩, ⟨0, .grow, 1, cat (nI .u8) [0, 0, 0, 0, 0]⟩, ⟨0, .mem, 1, [.s (.int .i64 m_), .s (.int .u8 m_1), .s (.int .i64 r_.Op), .s (.int .i64 r_.Mode), .s (.int .i64 r_.Reg), .s (.int .u8 m_3), .s (.int .u16 0), .s (.int .i64 m_4)]⟩]) (by kernel_rfl) fun f13 hf13 => ?_
            intro _
            refine lw_w (a := ⟨⟨none, (.e (.store 1 (.t 116) (.t 115))), none, [15, 14, 0, 1, 2, 3, 4, 5, 6, 7, 8, 9, 10, 11, 12, 13, 14]⟩, true, 0, 1⟩) (by kernel_rfl) rfl rfl ?_
            refine mops_end [0, 2, 3, 5, 10] hf13 (l' := [⟨0, [], .sl false b_.length (cat (nI .u8) b_)⟩, ⟨2, [], .ptr 0 0 0⟩, ⟨3, [], .s (.bool false)⟩, ⟨5, [], .ptr 3 0 0⟩, ⟨10, [], .s (.int .i64 r_2.2.1)⟩]) (L' := [⟨0, .mem, 1, [.s (.int .i64 0), .s (.int .u8 0), .s (.int .i64 0), .s (.int .i64 0), .s (.int .i64 0), .s (.int .u8 0), .s (.int .u16 0), .s (.int .i64 0)]⟩, ⟨2, .grow, 1, cat (nI .u8) ((([] : List Int) ++ b_) ++ [0, 0, 0, 0, 0])⟩, ⟨0, .grow, 1, cat (nI .u8) [0, 0, 0, 0, 0]⟩, ⟨0, .mem, 1, [.s (.int .i64 m_), .s (.int .u8 m_1), .s (.int .i64 r_.Op), .s (.int .i64 r_.Mode), .s (.int .i64 r_.Reg), .s (.int .u8 m_3), .s (.int .u16 (IntKind.wrap .u16 ((IntKind.wrap .u16 ((IntKind.wrap .u16 (gt ((([] : List Int) ++ b_) ++ [0, 0, 0, 0, 0]) m_4)) * 256)) + (IntKind.wrap .u16 (gt ((([] : List Int) ++ b_) ++ [0, 0, 0, 0, 0]) (IntKind.wrap .i64 (m_4 + 1))))))), .s (.int .i64 m_4)]⟩]) (by kernel_rfl) fun f14 hf14 => ?_
            refine ⟨trivial, ?_⟩
            refine lw_end (by kernel_rfl) ?_
            exact hj3 (IntKind.wrap .u16 ((IntKind.wrap .u16 ((IntKind.wrap .u16 (gt ((([] : List Int) ++ b_) ++ [0, 0, 0, 0, 0]) m_4)) * 256)) + (IntKind.wrap .u16 (gt ((([] : List Int) ++ b_) ++ [0, 0, 0, 0, 0]) (IntKind.wrap .i64 (m_4 + 1)))))) h _ (FOk_of [0, 2, 3, 5, 10] hf14 (by kernel_rfl))
          · have h := if_f h hc17
            refine k_skip ?_
            refine k_hp (L' := [⟨0, .mem, 1, [.s (.int .i64 0), .s (.int .u8 0), .s (.int .i64 0), .s (.int .i64 0), .s (.int .i64 0), .s (.int .u8 0), .s (.int .u16 0), .s (.int .i64 0)]⟩, ⟨2, .grow, 1, cat (nI .u8) ((([] : List Int) ++ b_) ++ [0, 0, 0, 0, 0])⟩, ⟨0, .grow, 1, cat (nI .u8) [0, 0, 0, 0, 0]⟩, ⟨0, .mem, 1, [.s (.int .i64 m_), .s (.int .u8 m_1), .s (.int .i64 r_.Op), .s (.int .i64 r_.Mode), .s (.int .i64 r_.Reg), .s (.int .u8 m_3), .s (.int .u16 0), .s (.int .i64 m_4)]⟩]) (by kernel_rfl) ?_
            exact hj3 (0) h _ (FOk_of [0, 2, 3, 5, 10] hf6 (by kernel_rfl))
    refine k_cond hf7 (t := r_1.1) (by kernel_rfl) (fun hc11 => ?_) (fun hc11 => ?_)
    · have h := if_t h hc11
      refine k_seq ?_
      refine k_reg ?_
      refine mops_sg 3 hf7 (by kernel_rfl) fun f8 hf8 => ?_
      obtain ⟨c12, h⟩ := as_ok h
      refine mops_adv rfl (v := .ptr 1 2 (0 + (m_2 : Int).toNat * 1)) hf8 (by kernel_rfl) (e_ias_ref (l := ((([] : List Int) ++ b_) ++ [0, 0, 0, 0, 0])) (B := ⟨2, .grow, 1, cat (nI .u8) ((([] : List Int) ++ b_) ++ [0, 0, 0, 0, 0])⟩) (b := 1) (ver := 2) (n := ((([] : List Int) ++ b_) ++ [0, 0, 0, 0, 0]).length) (k := .i64) (iv := m_2) (by kernel_rfl) (by kernel_rfl) rfl (live_grow (by kernel_rfl)) c12) fun f9 hf9 => ?_
      refine mops_adv rfl (v := .s (.int .u8 (gt ((([] : List Int) ++ b_) ++ [0, 0, 0, 0, 0]) m_2))) hf9 (by kernel_rfl) (e_load_pe (g := (nI .u8)) (l := ((([] : List Int) ++ b_) ++ [0, 0, 0, 0, 0])) (iv := m_2) (kd := .grow) (q := 1) (b := 1) (ver := 2) [] (by kernel_rfl) (live_grow (by kernel_rfl)) c12 (by kernel_rfl) (by kernel_rfl)) fun f10 hf10 => ?_
      refine mops_en hf10 (by kernel_rfl) fun f11 hf11 => ?_
      refine k_c ?_
      refine k_reg ?_
      refine mops_en hf11 (by kernel_rfl) fun f12 hf12 => ?_
      refine k_hp (L' := [⟨0, .mem, 1, [.s (.int .i64 0), .s (.int .u8 0), .s (.int .i64 0), .s (.int .i64 0), .s (.int .i64 0), .s (.int .u8 0), .s (.int .u16 0), .s (.int .i64 0)]⟩, ⟨2, .grow, 1, cat (nI .u8) ((([] : List Int) ++ b_) ++ [0, 0, 0, 0, 0])⟩, ⟨0, .grow, 1, cat (nI .u8) [0, 0, 0, 0, 0]⟩, ⟨0, .mem, 1, [.s (.int .i64 m_), .s (.int .u8 m_1), .s (.int .i64 r_.Op), .s (.int .i64 r_.Mode), .s (.int .i64 r_.Reg), .s (.int .u8 (gt ((([] : List Int) ++ b_) ++ [0, 0, 0, 0, 0]) m_2)), .s (.int .u16 0), .s (.int .i64 (IntKind.wrap .i64 (m_2 + 1)))]⟩]) (by kernel_rfl) ?_
      exact hj2 (gt ((([] : List Int) ++ b_) ++ [0, 0, 0, 0, 0]) m_2) (IntKind.wrap .i64 (m_2 + 1)) h _ (FOk_of [0, 2, 3, 4, 5] hf12 (by kernel_rfl))
    · have h := if_f h hc11
      refine k_skip ?_
      refine k_hp (L' := [⟨0, .mem, 1, [.s (.int .i64 0), .s (.int .u8 0), .s (.int .i64 0), .s (.int .i64 0), .s (.int .i64 0), .s (.int .u8 0), .s (.int .u16 0), .s (.int .i64 0)]⟩, ⟨2, .grow, 1, cat (nI .u8) ((([] : List Int) ++ b_) ++ [0, 0, 0, 0, 0])⟩, ⟨0, .grow, 1, cat (nI .u8) [0, 0, 0, 0, 0]⟩, ⟨0, .mem, 1, [.s (.int .i64 m_), .s (.int .u8 m_1), .s (.int .i64 r_.Op), .s (.int .i64 r_.Mode), .s (.int .i64 r_.Reg), .s (.int .u8 0), .s (.int .u16 0), .s (.int .i64 m_2)]⟩]) (by kernel_rfl) ?_
      exact hj2 (0) m_2 h _ (FOk_of [0, 2, 3, 4, 5] hf7 (by kernel_rfl))
  refine k_cond hf17 (t := (((gt ((([] : List Int) ++ b_) ++ [0, 0, 0, 0, 0]) (0)) == 16) || ((gt ((([] : List Int) ++ b_) ++ [0, 0, 0, 0, 0]) (0)) == 17))) (by kernel_rfl) (fun hc8 => ?_) (fun hc8 => ?_)
  · have h := if_t h hc8
    refine k_regw ?_
    refine lw_tight 5 (by kernel_rfl) ?_
    refine mops_seg [0, 2, 3, 4, 5, 31] 1 hf17 (l' := [⟨0, [], .sl false b_.length (cat (nI .u8) b_)⟩, ⟨2, [], .ptr 0 0 0⟩, ⟨3, [], .s (.bool false)⟩, ⟨4, [], .ref 1 2 0 ((([] : List Int) ++ b_) ++ [0, 0, 0, 0, 0]).length⟩, ⟨5, [], .ptr 3 0 0⟩, ⟨31, [], .ref 1 2 0 ((([] : List Int) ++ b_) ++ [0, 0, 0, 0, 0]).length⟩]) (L' := [⟨0, .mem, 1, [.s (.int .i64 0), .s (.int .u8 0), .s (.int .i64 0), .s (.int .i64 0), .s (.int .i64 0), .s (.int .u8 0), .s (.int .u16 0), .s (.int .i64 0)]⟩, ⟨2, .grow, 1, cat (nI .u8) ((([] : List Int) ++ b_) ++ [0, 0, 0, 0, 0])⟩, ⟨0, .grow, 1, cat (nI .u8) [0, 0, 0, 0, 0]⟩, ⟨0, .mem, 1, [.s (.int .i64 1), .s (.int .u8 (gt ((([] : List Int) ++ b_) ++ [0, 0, 0, 0, 0]) (0))), .s (.int .i64 0), .s (.int .i64 0), .s (.int .i64 0), .s (.int .u8 0), .s (.int .u16 0), .s (.int .i64 1)]⟩]) (by kernel_rfl) fun f18 hf18 => ?_
    obtain ⟨c9, h⟩ := as_ok h
    refine mops_adv rfl (v := .ptr 1 2 (0 + (0 : Int).toNat * 1)) hf18 (by kernel_rfl) (e_ias_ref (l := ((([] : List Int) ++ b_) ++ [0, 0, 0, 0, 0])) (B := ⟨2, .grow, 1, cat (nI .u8) ((([] : List Int) ++ b_) ++ [0, 0, 0, 0, 0])⟩) (b := 1) (ver := 2) (n := ((([] : List Int) ++ b_) ++ [0, 0, 0, 0, 0]).length) (k := .i64) (iv := 0) (by kernel_rfl) (by kernel_rfl) rfl (live_grow (by kernel_rfl)) c9) fun f19 hf19 => ?_
    refine mops_adv rfl (v := .s (.int .u8 (gt ((([] : List Int) ++ b_) ++ [0, 0, 0, 0, 0]) (0)))) hf19 (by kernel_rfl) (e_load_pe (g := (nI .u8)) (l := ((([] : List Int) ++ b_) ++ [0, 0, 0, 0, 0])) (iv := 0) (kd := .grow) (q := 1) (b := 1) (ver := 2) [] (by kernel_rfl) (live_grow (by kernel_rfl)) c9 (by kernel_rfl) (by kernel_rfl)) fun f20 hf20 => ?_
    refine mops_end [0, 2, 3, 4, 5, 35] hf20 (l' := [⟨0, [], .sl false b_.length (cat (nI .u8) b_)⟩, ⟨2, [], .ptr 0 0 0⟩, ⟨3, [], .s (.bool false)⟩, ⟨4, [], .ref 1 2 0 ((([] : List Int) ++ b_) ++ [0, 0, 0, 0, 0]).length⟩, ⟨5, [], .ptr 3 0 0⟩, ⟨35, [], .s (.int .i64 (IntKind.wrap .i64 ((IntKind.wrap .i64 (gt ((([] : List Int) ++ b_) ++ [0, 0, 0, 0, 0]) (0))) - 14)))⟩]) (L' := [⟨0, .mem, 1, [.s (.int .i64 0), .s (.int .u8 0), .s (.int .i64 0), .s (.int .i64 0), .s (.int .i64 0), .s (.int .u8 0), .s (.int .u16 0), .s (.int .i64 0)]⟩, ⟨2, .grow, 1, cat (nI .u8) ((([] : List Int) ++ b_) ++ [0, 0, 0, 0, 0])⟩, ⟨0, .grow, 1, cat (nI .u8) [0, 0, 0, 0, 0]⟩, ⟨0, .mem, 1, [.s (.int .i64 1), .s (.int .u8 (gt ((([] : List Int) ++ b_) ++ [0, 0, 0, 0, 0]) (0))), .s (.int .i64 0), .s (.int .i64 0), .s (.int .i64 0), .s (.int .u8 0), .s (.int .u16 0), .s (.int .i64 1)]⟩]) (by kernel_rfl) fun f21 hf21 => ?_
    intro _
    refine lw_free' (dst := (some 36)) (op := (.mv (.t 4))) (aft := []) (lo := 0) (hi := 1) (v := .ref 1 2 0 ((([] : List Int) ++ b_) ++ [0, 0, 0, 0, 0]).length) (by kernel_rfl) (by kernel_rfl) hf21 (by kernel_rfl) (by kernel_rfl) trivial fun f22 hf22 => ?_
    obtain ⟨c10, h⟩ := as_ok h
    refine lw_free' (dst := (some 37)) (op := (.ias 1 (.t 36) (.k (.int .i64 1)))) (aft := [5]) (lo := 0) (hi := 1) (v := .ptr 1 2 (0 + (1 : Int).toNat * 1)) (by kernel_rfl) (by kernel_rfl) hf22 (by kernel_rfl) (e_ias_ref (l := ((([] : List Int) ++ b_) ++ [0, 0, 0, 0, 0])) (B := ⟨2, .grow, 1, cat (nI .u8) ((([] : List Int) ++ b_) ++ [0, 0, 0, 0, 0])⟩) (b := 1) (ver := 2) (n := ((([] : List Int) ++ b_) ++ [0, 0, 0, 0, 0]).length) (k := .i64) (iv := 1) (by kernel_rfl) (by kernel_rfl) rfl (live_grow (by kernel_rfl)) c10) trivial fun f23 hf23 => ?_
    refine lw_free' (dst := (some 38)) (op := (.load false 1 (.t 37))) (aft := [6]) (lo := 0) (hi := 1) (v := .s (.int .u8 (gt ((([] : List Int) ++ b_) ++ [0, 0, 0, 0, 0]) (1)))) (by kernel_rfl) (by kernel_rfl) hf23 (by kernel_rfl) (e_load_pe (g := (nI .u8)) (l := ((([] : List Int) ++ b_) ++ [0, 0, 0, 0, 0])) (iv := 1) (kd := .grow) (q := 1) (b := 1) (ver := 2) [] (by kernel_rfl) (live_grow (by kernel_rfl)) c10 (by kernel_rfl) (by kernel_rfl)) trivial fun f24 hf24 => ?_
    refine lw_tight 1 (by kernel_rfl) ?_
    refine mops_end [0, 2, 3, 4, 5, 35, 38, 39] hf24 (l' := [⟨0, [], .sl false b_.length (cat (nI .u8) b_)⟩, ⟨2, [], .ptr 0 0 0⟩, ⟨3, [], .s (.bool false)⟩, ⟨4, [], .ref 1 2 0 ((([] : List Int) ++ b_) ++ [0, 0, 0, 0, 0]).length⟩, ⟨5, [], .ptr 3 0 0⟩, ⟨35, [], .s (.int .i64 (IntKind.wrap .i64 ((IntKind.wrap .i64 (gt ((([] : List Int) ++ b_) ++ [0, 0, 0, 0, 0]) (0))) - 14)))⟩, ⟨38, [], .s (.int .u8 (gt ((([] : List Int) ++ b_) ++ [0, 0, 0, 0, 0]) (1)))⟩, ⟨39, [], .ptr 3 0 0⟩]) (L' := [⟨0, .mem, 1, [.s (.int .i64 0), .s (.int .u8 0), .s (.int .i64 0), .s (.int .i64 0), .s (.int .i64 0), .s (.int .u8 0), .s (.int .u16 0), .s (.int .i64 0)]⟩, ⟨2, .grow, 1, cat (nI .u8) ((([] : List Int) ++ b_) ++ [0, 0, 0, 0, 0])⟩, ⟨0, .grow, 1, cat (nI .u8) [0, 0, 0, 0, 0]⟩, ⟨0, .mem, 1, [.s (.int .i64 1), .s (.int .u8 (gt ((([] : List Int) ++ b_) ++ [0, 0, 0, 0, 0]) (0))), .s (.int .i64 0), .s (.int .i64 0), .s (.int .i64 0), .s (.int .u8 0), .s (.int .u16 0), .s (.int .i64 1)]⟩]) (by kernel_rfl) fun f25 hf25 => ?_
    intro _
    refine lw_w (a := ⟨⟨none, (.e (.store 1 (.t 39) (.t 35))), none, [8, 4, 0, 1, 2, 3, 4]⟩, true, 0, 1⟩) (by kernel_rfl) rfl rfl ?_
    refine mops_end [0, 2, 3, 4, 5, 38] hf25 (l' := [⟨0, [], .sl false b_.length (cat (nI .u8) b_)⟩, ⟨2, [], .ptr 0 0 0⟩, ⟨3, [], .s (.bool false)⟩, ⟨4, [], .ref 1 2 0 ((([] : List Int) ++ b_) ++ [0, 0, 0, 0, 0]).length⟩, ⟨5, [], .ptr 3 0 0⟩, ⟨38, [], .s (.int .u8 (gt ((([] : List Int) ++ b_) ++ [0, 0, 0, 0, 0]) (1)))⟩]) (L' := [⟨0, .mem, 1, [.s (.int .i64 0), .s (.int .u8 0), .s (.int .i64 0), .s (.int .i64 0), .s (.int .i64 0), .s (.int .u8 0), .s (.int .u16 0), .s (.int .i64 0)]⟩, ⟨2, .grow, 1, cat (nI .u8) ((([] : List Int) ++ b_) ++ [0, 0, 0, 0, 0])⟩, ⟨0, .grow, 1, cat (nI .u8) [0, 0, 0, 0, 0]⟩, ⟨0, .mem, 1, [.s (.int .i64 (IntKind.wrap .i64 ((IntKind.wrap .i64 (gt ((([] : List Int) ++ b_) ++ [0, 0, 0, 0, 0]) (0))) - 14))), .s (.int .u8 (gt ((([] : List Int) ++ b_) ++ [0, 0, 0, 0, 0]) (0))), .s (.int .i64 0), .s (.int .i64 0), .s (.int .i64 0), .s (.int .u8 0), .s (.int .u16 0), .s (.int .i64 1)]⟩]) (by kernel_rfl) fun f26 hf26 => ?_
    refine ⟨(pend_ok hf23 (by kernel_rfl) (e_load_pe (g := (nI .u8)) (l := ((([] : List Int) ++ b_) ++ [0, 0, 0, 0, 0])) (iv := 1) (kd := .grow) (q := 1) (b := 1) (ver := 2) [] (by kernel_rfl) (live_grow (by kernel_rfl)) c10 (by kernel_rfl) (by kernel_rfl)) (pend_ok hf22 (by kernel_rfl) (e_ias_ref (l := ((([] : List Int) ++ b_) ++ [0, 0, 0, 0, 0])) (B := ⟨2, .grow, 1, cat (nI .u8) ((([] : List Int) ++ b_) ++ [0, 0, 0, 0, 0])⟩) (b := 1) (ver := 2) (n := ((([] : List Int) ++ b_) ++ [0, 0, 0, 0, 0]).length) (k := .i64) (iv := 1) (by kernel_rfl) (by kernel_rfl) rfl (live_grow (by kernel_rfl)) c10) (pend_ok hf21 (by kernel_rfl) (by kernel_rfl) trivial))), ?_⟩
    refine lw_tight 1 (by kernel_rfl) ?_
    refine mops_end [0, 2, 3, 4, 5, 38, 40] hf26 (l' := [⟨0, [], .sl false b_.length (cat (nI .u8) b_)⟩, ⟨2, [], .ptr 0 0 0⟩, ⟨3, [], .s (.bool false)⟩, ⟨4, [], .ref 1 2 0 ((([] : List Int) ++ b_) ++ [0, 0, 0, 0, 0]).length⟩, ⟨5, [], .ptr 3 0 0⟩, ⟨38, [], .s (.int .u8 (gt ((([] : List Int) ++ b_) ++ [0, 0, 0, 0, 0]) (1)))⟩, ⟨40, [], .ptr 3 0 1⟩]) (L' := [⟨0, .mem, 1, [.s (.int .i64 0), .s (.int .u8 0), .s (.int .i64 0), .s (.int .i64 0), .s (.int .i64 0), .s (.int .u8 0), .s (.int .u16 0), .s (.int .i64 0)]⟩, ⟨2, .grow, 1, cat (nI .u8) ((([] : List Int) ++ b_) ++ [0, 0, 0, 0, 0])⟩, ⟨0, .grow, 1, cat (nI .u8) [0, 0, 0, 0, 0]⟩, ⟨0, .mem, 1, [.s (.int .i64 (IntKind.wrap .i64 ((IntKind.wrap .i64 (gt ((([] : List Int) ++ b_) ++ [0, 0, 0, 0, 0]) (0))) - 14))), .s (.int .u8 (gt ((([] : List Int) ++ b_) ++ [0, 0, 0, 0, 0]) (0))), .s (.int .i64 0), .s (.int .i64 0), .s (.int .i64 0), .s (.int .u8 0), .s (.int .u16 0), .s (.int .i64 1)]⟩]) (by kernel_rfl) fun f27 hf27 => ?_
    intro _
    refine lw_w (a := ⟨⟨none, (.e (.store 1 (.t 40) (.t 38))), none, [10, 7, 9, 0, 1, 2, 3, 4, 5, 6, 7, 8, 9]⟩, true, 1, 2⟩) (by kernel_rfl) rfl rfl ?_
    refine mops_end [0, 2, 3, 4, 5] hf27 (l' := [⟨0, [], .sl false b_.length (cat (nI .u8) b_)⟩, ⟨2, [], .ptr 0 0 0⟩, ⟨3, [], .s (.bool false)⟩, ⟨4, [], .ref 1 2 0 ((([] : List Int) ++ b_) ++ [0, 0, 0, 0, 0]).length⟩, ⟨5, [], .ptr 3 0 0⟩]) (L' := [⟨0, .mem, 1, [.s (.int .i64 0), .s (.int .u8 0), .s (.int .i64 0), .s (.int .i64 0), .s (.int .i64 0), .s (.int .u8 0), .s (.int .u16 0), .s (.int .i64 0)]⟩, ⟨2, .grow, 1, cat (nI .u8) ((([] : List Int) ++ b_) ++ [0, 0, 0, 0, 0])⟩, ⟨0, .grow, 1, cat (nI .u8) [0, 0, 0, 0, 0]⟩, ⟨0, .mem, 1, [.s (.int .i64 (IntKind.wrap .i64 ((IntKind.wrap .i64 (gt ((([] : List Int) ++ b_) ++ [0, 0, 0, 0, 0]) (0))) - 14))), .s (.int .u8 (gt ((([] : List Int) ++ b_) ++ [0, 0, 0, 0, 0]) (1))), .s (.int .i64 0), .s (.int .i64 0), .s (.int .i64 0), .s (.int .u8 0), .s (.int .u16 0), .s (.int .i64 1)]⟩]) (by kernel_rfl) fun f28 hf28 => ?_
    refine ⟨(pend_ok hf23 (by kernel_rfl) (e_load_pe (g := (nI .u8)) (l := ((([] : List Int) ++ b_) ++ [0, 0, 0, 0, 0])) (iv := 1) (kd := .grow) (q := 1) (b := 1) (ver := 2) [] (by kernel_rfl) (live_grow (by kernel_rfl)) c10 (by kernel_rfl) (by kernel_rfl)) (pend_ok hf22 (by kernel_rfl) (e_ias_ref (l := ((([] : List Int) ++ b_) ++ [0, 0, 0, 0, 0])) (B := ⟨2, .grow, 1, cat (nI .u8) ((([] : List Int) ++ b_) ++ [0, 0, 0, 0, 0])⟩) (b := 1) (ver := 2) (n := ((([] : List Int) ++ b_) ++ [0, 0, 0, 0, 0]).length) (k := .i64) (iv := 1) (by kernel_rfl) (by kernel_rfl) rfl (live_grow (by kernel_rfl)) c10) (pend_ok hf21 (by kernel_rfl) (by kernel_rfl) trivial))), ?_⟩
    refine lw_tight 1 (by kernel_rfl) ?_
    refine mops_end [0, 2, 3, 4, 5, 41] hf28 (l' := [⟨0, [], .sl false b_.length (cat (nI .u8) b_)⟩, ⟨2, [], .ptr 0 0 0⟩, ⟨3, [], .s (.bool false)⟩, ⟨4, [], .ref 1 2 0 ((([] : List Int) ++ b_) ++ [0, 0, 0, 0, 0]).length⟩, ⟨5, [], .ptr 3 0 0⟩, ⟨41, [], .ptr 3 0 7⟩]) (L' := [⟨0, .mem, 1, [.s (.int .i64 0), .s (.int .u8 0), .s (.int .i64 0), .s (.int .i64 0), .s (.int .i64 0), .s (.int .u8 0), .s (.int .u16 0), .s (.int .i64 0)]⟩, ⟨2, .grow, 1, cat (nI .u8) ((([] : List Int) ++ b_) ++ [0, 0, 0, 0, 0])⟩, ⟨0, .grow, 1, cat (nI .u8) [0, 0, 0, 0, 0]⟩, ⟨0, .mem, 1, [.s (.int .i64 (IntKind.wrap .i64 ((IntKind.wrap .i64 (gt ((([] : List Int) ++ b_) ++ [0, 0, 0, 0, 0]) (0))) - 14))), .s (.int .u8 (gt ((([] : List Int) ++ b_) ++ [0, 0, 0, 0, 0]) (1))), .s (.int .i64 0), .s (.int .i64 0), .s (.int .i64 0), .s (.int .u8 0), .s (.int .u16 0), .s (.int .i64 1)]⟩]) (by kernel_rfl) fun f29 hf29 => ?_
    intro _
    refine lw_w (a := ⟨⟨none, (.e (.store 1 (.t 41) (.k (.int .i64 2)))), none, [12, 11, 0, 1, 2, 3, 4, 5, 6, 7, 8, 9, 10, 11]⟩, true, 2, 3⟩) (by kernel_rfl) rfl rfl ?_
    refine mops_end [0, 2, 3, 4, 5] hf29 (l' := [⟨0, [], .sl false b_.length (cat (nI .u8) b_)⟩, ⟨2, [], .ptr 0 0 0⟩, ⟨3, [], .s (.bool false)⟩, ⟨4, [], .ref 1 2 0 ((([] : List Int) ++ b_) ++ [0, 0, 0, 0, 0]).length⟩, ⟨5, [], .ptr 3 0 0⟩]) (L' := [⟨0, .mem, 1, [.s (.int .i64 0), .s (.int .u8 0), .s (.int .i64 0), .s (.int .i64 0), .s (.int .i64 0), .s (.int .u8 0), .s (.int .u16 0), .s (.int .i64 0)]⟩, ⟨2, .grow, 1, cat (nI .u8) ((([] : List Int) ++ b_) ++ [0, 0, 0, 0, 0])⟩, ⟨0, .grow, 1, cat (nI .u8) [0, 0, 0, 0, 0]⟩, ⟨0, .mem, 1, [.s (.int .i64 (IntKind.wrap .i64 ((IntKind.wrap .i64 (gt ((([] : List Int) ++ b_) ++ [0, 0, 0, 0, 0]) (0))) - 14))), .s (.int .u8 (gt ((([] : List Int) ++ b_) ++ [0, 0, 0, 0, 0]) (1))), .s (.int .i64 0), .s (.int .i64 0), .s (.int .i64 0), .s (.int .u8 0), .s (.int .u16 0), .s (.int .i64 2)]⟩]) (by kernel_rfl) fun f30 hf30 => ?_
    refine ⟨(pend_ok hf23 (by kernel_rfl) (e_load_pe (g := (nI .u8)) (l := ((([] : List Int) ++ b_) ++ [0, 0, 0, 0, 0])) (iv := 1) (kd := .grow) (q := 1) (b := 1) (ver := 2) [] (by kernel_rfl) (live_grow (by kernel_rfl)) c10 (by kernel_rfl) (by kernel_rfl)) (pend_ok hf22 (by kernel_rfl) (e_ias_ref (l := ((([] : List Int) ++ b_) ++ [0, 0, 0, 0, 0])) (B := ⟨2, .grow, 1, cat (nI .u8) ((([] : List Int) ++ b_) ++ [0, 0, 0, 0, 0])⟩) (b := 1) (ver := 2) (n := ((([] : List Int) ++ b_) ++ [0, 0, 0, 0, 0]).length) (k := .i64) (iv := 1) (by kernel_rfl) (by kernel_rfl) rfl (live_grow (by kernel_rfl)) c10) (pend_ok hf21 (by kernel_rfl) (by kernel_rfl) trivial))), ?_⟩
    refine lw_end (by kernel_rfl) ?_
    exact hj1 (IntKind.wrap .i64 ((IntKind.wrap .i64 (gt ((([] : List Int) ++ b_) ++ [0, 0, 0, 0, 0]) (0))) - 14)) (gt ((([] : List Int) ++ b_) ++ [0, 0, 0, 0, 0]) (1)) (2) h _ (FOk_of [0, 2, 3, 4, 5] hf30 (by kernel_rfl))
  · have h := if_f h hc8
    refine k_skip ?_
    refine k_hp (L' := [⟨0, .mem, 1, [.s (.int .i64 0), .s (.int .u8 0), .s (.int .i64 0), .s (.int .i64 0), .s (.int .i64 0), .s (.int .u8 0), .s (.int .u16 0), .s (.int .i64 0)]⟩, ⟨2, .grow, 1, cat (nI .u8) ((([] : List Int) ++ b_) ++ [0, 0, 0, 0, 0])⟩, ⟨0, .grow, 1, cat (nI .u8) [0, 0, 0, 0, 0]⟩, ⟨0, .mem, 1, [.s (.int .i64 1), .s (.int .u8 (gt ((([] : List Int) ++ b_) ++ [0, 0, 0, 0, 0]) (0))), .s (.int .i64 0), .s (.int .i64 0), .s (.int .i64 0), .s (.int .u8 0), .s (.int .u16 0), .s (.int .i64 1)]⟩]) (by kernel_rfl) ?_
    exact hj1 (1) (gt ((([] : List Int) ++ b_) ++ [0, 0, 0, 0, 0]) (0)) (1) h _ (FOk_of [0, 2, 3, 4, 5] hf17 (by kernel_rfl))
end Go.Proofs.YtmabdijipkmmkaaK
