/- The Go functions come to the functions over typed data. Printed by a program of this work. -/
import Derived.Test.YtmabdijipkmmkaaF
import Derived.Test.YtmabdijipkmmkaaProg
import Derived.Test.YtmabdijipkmmkaaG2
import Derived.Test.YtmabdijipkmmkaaG5
import Derived.Test.YtmabdijipkmmkaaG7
import Derived.Test.YtmabdijipkmmkaaG8
namespace Go.Proofs.YtmabdijipkmmkaaK
set_option linter.unusedVariables false
set_option linter.unusedSimpArgs false
set_option maxHeartbeats 4000000
open Go.RowKit
attribute [local irreducible] dwv mops lops lqops lwops kont iter run runK rk okK ex E1 vals val chain chB sel resF
def inst_Same_i0 : List Op1 := [(oE 2 (.box (.t 0)) []), (oM 4 (.k (.bool false)) [])]
def inst_Same_i1 : List Op1 := [(oE 8 (.load true 8 (.t 2)) []), (oC 9 8 [(.t 8)] [0]), (oM 7 (.t 9) [1]), (oE 10 (.ext 0 (.t 7)) [2]), (oE 11 (.ext 1 (.t 7)) [2]), (oM 5 (.t 10) [3, 1, 0, 1, 2, 3]), (oM 6 (.t 11) [4, 5, 0, 1, 2, 3, 4, 5])]
def inst_Same_i2 : List Op1 := [(oM 12 (.t 6) []), (oE 13 (.bin .eql (.t 12) (.k (.int .i64 0))) [0]), (oM 14 (.t 13) [1]), (oG 15 (.mv (.t 1)) 14 true [2]), (oG 16 (.mv (.t 5)) 14 true [2]), ⟨(some 17), (.call 24 [(.t 15), (.t 16)]), (some (14, true)), [3, 4, 2, 2]⟩, (oE 18 (.pick (.t 14) (.t 17) (.k (.bool false))) [2, 5]), (oM 4 (.t 18) [6, 5, 0, 1, 2, 3, 4, 5, 6])]
def inst_Same_i3 : IR := .ret
def inst_Same_i4 : IR := (.seq (.reg false inst_Same_i2) inst_Same_i3)
def inst_Same_i5 : IR := (.seq (.reg false inst_Same_i1) inst_Same_i4)
def inst_Same_ir : IR := (.seq (.reg false inst_Same_i0) inst_Same_i5)
theorem inst_Same_cfn : cFn Try.prog 11 = some (inst_Same_ir, [(.t 4)], 19) := by kernel_rfl
def inst_Same_V (r : (Bool)) : V := .s (.bool r)
def inst_Same_C (r : (Bool)) : X → Fr → Hp → Prop := FinL [(.t 4)] [] (inst_Same_V r) []
theorem inst_Same_ok (i_ : api_Inst) (b_ : (List Int)) (r : (Bool)) (h : inst_Same i_ b_ = some r) : Pure Try.prog 11 [.agg [.s (.int .i64 i_.Page), .s (.int .u8 i_.Code), .s (.int .i64 i_.Entry.Op), .s (.int .i64 i_.Entry.Mode), .s (.int .i64 i_.Entry.Reg), .s (.int .u8 i_.Post), .s (.int .u16 i_.Value), .s (.int .i64 i_.Len)], .sl false b_.length (cat (nI .u8) b_)] (inst_Same_V r) := by
  refine ConL.of inst_Same_cfn (Nat.le_of_ble_eq_true (by kernel_rfl)) (Nat.le_of_ble_eq_true (by kernel_rfl)) ?_
  refine k_start ?_
  show dwv Try.prog [] inst_Same_ir (kont Try.prog [] (inst_Same_C r) []) (fr0 [.agg [.s (.int .i64 i_.Page), .s (.int .u8 i_.Code), .s (.int .i64 i_.Entry.Op), .s (.int .i64 i_.Entry.Mode), .s (.int .i64 i_.Entry.Reg), .s (.int .u8 i_.Post), .s (.int .u16 i_.Value), .s (.int .i64 i_.Len)], .sl false b_.length (cat (nI .u8) b_)]) []
  have hf : FOk (fr0 [.agg [.s (.int .i64 i_.Page), .s (.int .u8 i_.Code), .s (.int .i64 i_.Entry.Op), .s (.int .i64 i_.Entry.Mode), .s (.int .i64 i_.Entry.Reg), .s (.int .u8 i_.Post), .s (.int .u16 i_.Value), .s (.int .i64 i_.Len)], .sl false b_.length (cat (nI .u8) b_)]) [⟨0, [], .agg [.s (.int .i64 i_.Page), .s (.int .u8 i_.Code), .s (.int .i64 i_.Entry.Op), .s (.int .i64 i_.Entry.Mode), .s (.int .i64 i_.Entry.Reg), .s (.int .u8 i_.Post), .s (.int .u16 i_.Value), .s (.int .i64 i_.Len)]⟩, ⟨1, [], .sl false b_.length (cat (nI .u8) b_)⟩] := ⟨⟨fun _ => rfl, fun h => (h trivial).elim⟩, ⟨fun _ => rfl, fun h => (h trivial).elim⟩, trivial⟩
  generalize fr0 [.agg [.s (.int .i64 i_.Page), .s (.int .u8 i_.Code), .s (.int .i64 i_.Entry.Op), .s (.int .i64 i_.Entry.Mode), .s (.int .i64 i_.Entry.Reg), .s (.int .u8 i_.Post), .s (.int .u16 i_.Value), .s (.int .i64 i_.Len)], .sl false b_.length (cat (nI .u8) b_)] = f at hf ⊢
  unfold inst_Same at h
  refine k_seq ?_
  refine k_reg ?_
  refine mops_en hf (by kernel_rfl) fun f1 hf1 => ?_
  refine k_c ?_
  refine k_seq ?_
  refine k_reg ?_
  refine mops_sg 1 hf1 (by kernel_rfl) fun f2 hf2 => ?_
  obtain ⟨r_, hx_r_, h⟩ := Option.bind_eq_some_iff.1 h
  refine mops_call rfl hf2 (av := [.agg [.s (.int .i64 i_.Page), .s (.int .u8 i_.Code), .s (.int .i64 i_.Entry.Op), .s (.int .i64 i_.Entry.Mode), .s (.int .i64 i_.Entry.Reg), .s (.int .u8 i_.Post), .s (.int .u16 i_.Value), .s (.int .i64 i_.Len)]]) (by kernel_rfl) (v := .tup [.sl false r_.1.length (cat (nI .u8) r_.1), .s (.int .i64 r_.2)]) (CalL.pure (inst_Put_ok i_ r_ hx_r_) rfl (by simp [V.static, statics, cat_stat, inst_Put_V]) (Nat.le_of_ble_eq_true (by kernel_rfl))) (fun _ => rfl) fun f3 hf3 => ?_
  refine mops_en hf3 (by kernel_rfl) fun f4 hf4 => ?_
  refine k_c ?_
  refine k_seq ?_
  refine k_reg ?_
  refine mops_sg 5 hf4 (by kernel_rfl) fun f5 hf5 => ?_
  obtain ⟨r_1, hx_r_1, h⟩ := Option.bind_eq_some_iff.1 h
  refine mops_gcall (dst := (some 17)) (m := 24) (args := [(.t 15), (.t 16)]) (aft := [3, 4, 2, 2]) (t := 14) (w := true) (ch := [(14, true)]) (b := (r_.2 == 0)) (by kernel_rfl) hf5 (by kernel_rfl) (by kernel_rfl) (av := [.sl false b_.length (cat (nI .u8) b_), .sl false r_.1.length (cat (nI .u8) r_.1)]) (by kernel_rfl) (v := .s (.bool r_1)) (by kernel_rfl) (fun hb1 => (CalL.pure (bytes_HasPrefix_ok b_ r_.1 r_1 (if_t hx_r_1 hb1)) (by simp [V.static, statics, cat_stat]) rfl (Nat.le_of_ble_eq_true (by kernel_rfl)))) fun f6 hf6 => ?_
  refine mops_en hf6 (by kernel_rfl) fun f7 hf7 => ?_
  refine k_c ?_
  refine k_ret ?_
  obtain rfl := Option.some.inj h
  exact k_fin (fin_ret (.inl rfl) hf7 (vs := [.s (.bool ((r_.2 == 0) && r_1))]) (by kernel_rfl) (SettL.pure (FzL.stat rfl)))
def spinetlaw18_InstReads_i0 : List Op1 := [(oM 4 (.k (.bool false)) [])]
def spinetlaw18_InstReads_i1 : List Op1 := [(oM 15 (.t 0) []), (oE 16 (.len (.t 15)) [0]), (oE 17 (.bin .gtr (.t 16) (.k (.int .i64 20))) [1])]
def spinetlaw18_InstReads_i2 : List Op1 := [(oM 4 (.k (.bool true)) [])]
def spinetlaw18_InstReads_i3 : IR := .ret
def spinetlaw18_InstReads_i4 : IR := (.cond (.t 17) (.seq (.reg false spinetlaw18_InstReads_i2) spinetlaw18_InstReads_i3) .skip)
def spinetlaw18_InstReads_i5 : List Op1 := [(oM 19 (.t 0) []), (oC 20 5 [(.t 19)] [0]), (oM 18 (.t 20) [1]), (oE 21 (.ext 0 (.t 18)) [2]), (oE 22 (.ext 1 (.t 18)) [2]), (oE 5 (.zero [(.int .i64 0), (.int .u8 0), (.int .i64 0), (.int .i64 0), (.int .i64 0), (.int .u8 0), (.int .u16 0), (.int .i64 0)]) []), (oN (.store 8 (.t 5) (.t 21)) [5, 3, 1, 0, 1, 2, 3, 5]), (oM 6 (.t 22) [4, 6, 0, 1, 2, 3, 4, 5, 6])]
def spinetlaw18_InstReads_i6 : List Op1 := [(oM 24 (.t 0) []), (oC 25 6 [(.t 24)] [0]), (oM 23 (.t 25) [1]), (oE 26 (.ext 0 (.t 23)) [2]), (oE 27 (.ext 1 (.t 23)) [2]), (oE 7 (.zero [(.int .i64 0), (.int .u8 0), (.int .i64 0), (.int .i64 0), (.int .i64 0), (.int .u8 0), (.int .u16 0), (.int .i64 0)]) []), (oN (.store 8 (.t 7) (.t 26)) [5, 3, 1, 0, 1, 2, 3, 5]), (oM 8 (.t 27) [4, 6, 0, 1, 2, 3, 4, 5, 6])]
def spinetlaw18_InstReads_i7 : List Op1 := [(oM 28 (.t 8) []), (oE 29 (.un .not (.t 28)) [0])]
def spinetlaw18_InstReads_i8 : List Op1 := [(oE 30 (.load true 8 (.t 5)) []), (oE 31 (.build [(.int .i64 0), (.int .u8 0), (.int .i64 0), (.int .i64 0), (.int .i64 0), (.int .u8 0), (.int .u16 0), (.int .i64 0)] []) []), (oE 32 (.eqa false [.int, .int, .int, .int, .int, .int, .int, .int] (.t 30) (.t 31)) [0, 1]), (oM 33 (.t 32) [2]), (oG 34 (.mv (.t 6)) 33 true [3]), (oG 35 (.bin .eql (.t 34) (.k (.int .i64 20))) 33 true [4, 3]), (oE 36 (.pick (.t 33) (.t 35) (.k (.bool false))) [3, 5]), (oM 37 (.t 36) [6, 3]), ⟨(some 38), (.call 7 []), (some (37, true)), [7, 7]⟩, (oE 39 (.pick (.t 37) (.t 38) (.k (.bool false))) [7, 8]), (oM 4 (.t 39) [9, 8, 0, 1, 2, 3, 4, 5, 6, 7, 8, 9])]
def spinetlaw18_InstReads_i9 : IR := .ret
def spinetlaw18_InstReads_i10 : IR := (.cond (.t 29) (.seq (.reg false spinetlaw18_InstReads_i8) spinetlaw18_InstReads_i9) .skip)
def spinetlaw18_InstReads_i11 : List Op1 := [(oE 40 (.load true 8 (.t 5)) []), (oE 41 (.load true 8 (.t 7)) []), (oE 42 (.eqa true [.int, .int, .int, .int, .int, .int, .int, .int] (.t 40) (.t 41)) [0, 1]), (oM 43 (.t 42) [2]), (oG 44 (.mv (.t 6)) 43 false [3]), (oG 45 (.bin .neq (.t 44) (.k (.int .i64 0))) 43 false [4, 3]), (oE 46 (.pick (.t 43) (.k (.bool true)) (.t 45)) [3, 5])]
def spinetlaw18_InstReads_i12 : List Op1 := [(oM 4 (.k (.bool false)) [])]
def spinetlaw18_InstReads_i13 : IR := .ret
def spinetlaw18_InstReads_i14 : IR := (.cond (.t 46) (.seq (.reg false spinetlaw18_InstReads_i12) spinetlaw18_InstReads_i13) .skip)
def spinetlaw18_InstReads_i15 : List Op1 := [(oE 48 (.load true 8 (.t 5)) []), (oC 49 8 [(.t 48)] [0]), (oM 47 (.t 49) [1]), (oE 50 (.ext 0 (.t 47)) [2]), (oE 51 (.ext 1 (.t 47)) [2]), (oM 9 (.t 50) [3, 1, 0, 1, 2, 3]), (oM 10 (.t 51) [4, 5, 0, 1, 2, 3, 4, 5])]
def spinetlaw18_InstReads_i16 : List Op1 := [(oE 53 (.load true 8 (.t 5)) []), (oM 54 (.t 1) []), (oC 55 9 [(.t 53), (.t 54)] [0, 1]), (oM 52 (.t 55) [2]), (oE 56 (.ext 0 (.t 52)) [3]), (oE 57 (.ext 1 (.t 52)) [3]), (oM 11 (.t 56) [4, 2, 0, 1, 2, 3, 4]), (oM 12 (.t 57) [5, 6, 0, 1, 2, 3, 4, 5, 6])]
def spinetlaw18_InstReads_i17 : List Op1 := [(oE 58 (.fld 2 (.t 5)) []), (oE 59 (.fld 1 (.t 58)) [0]), (oE 60 (.load false 1 (.t 59)) [1]), (oE 61 (.bin .eql (.t 60) (.k (.int .i64 6))) [2]), (oM 62 (.t 61) [3]), (oG 63 (.fld 2 (.t 5)) 62 false [4]), (oG 64 (.fld 1 (.t 63)) 62 false [5, 4]), (oG 65 (.load false 1 (.t 64)) 62 false [6, 4]), (oG 66 (.bin .eql (.t 65) (.k (.int .i64 7))) 62 false [7, 4]), (oE 67 (.pick (.t 62) (.k (.bool true)) (.t 66)) [4, 8]), (oM 13 (.t 67) [9, 4, 0, 1, 2, 3, 4, 5, 6, 7, 8, 9])]
def spinetlaw18_InstReads_i18 : List Op1 := [(oM 14 (.k (.int .i64 0)) [])]
def spinetlaw18_InstReads_i19 : List Op1 := [(oM 68 (.t 13) [])]
def spinetlaw18_InstReads_i20 : List Op1 := [(oM 69 (.t 1) []), (oE 70 (.cint .i64 (.t 69)) [0]), (oE 71 (.fld 7 (.t 5)) []), (oE 72 (.load false 1 (.t 71)) [2]), (oE 73 (.bin .add (.t 70) (.t 72)) [1, 3]), (oE 74 (.fld 6 (.t 5)) []), (oE 75 (.load false 1 (.t 74)) [5]), (oE 76 (.cint .i64 (.t 75)) [6]), (oE 77 (.bin .add (.t 73) (.t 76)) [4, 7]), (oE 78 (.bin .rem (.t 77) (.k (.int .i64 65536))) [8]), (oM 14 (.t 78) [9, 0, 1, 2, 3, 4, 5, 6, 7, 8, 9])]
def spinetlaw18_InstReads_i21 : IR := (.cond (.t 68) (.reg false spinetlaw18_InstReads_i20) .skip)
def spinetlaw18_InstReads_i22 : List Op1 := [(oM 79 (.t 9) []), (oM 80 (.t 0) []), (oE 81 (.fld 7 (.t 5)) []), (oE 82 (.load false 1 (.t 81)) [2]), (oE 83 (.slice 1 (.t 80) none (some (.t 82))) [1, 3]), (oC 84 10 [(.t 79), (.t 83)] [0, 4]), (oM 85 (.t 84) [5, 5]), (oG 86 (.mv (.t 10)) 85 true [6]), (oG 87 (.bin .eql (.t 86) (.k (.int .i64 0))) 85 true [7, 6]), (oE 88 (.pick (.t 85) (.t 87) (.k (.bool false))) [6, 8]), (oM 89 (.t 88) [9, 6]), (oG 90 (.load true 8 (.t 5)) 89 true [10]), (oG 91 (.mv (.t 0)) 89 true [10]), ⟨(some 92), (.call 11 [(.t 90), (.t 91)]), (some (89, true)), [11, 12, 10, 10]⟩, (oE 93 (.pick (.t 89) (.t 92) (.k (.bool false))) [10, 13]), (oM 94 (.t 93) [14, 13]), (oG 95 (.load true 8 (.t 5)) 94 true [15]), (oG 96 (.mv (.t 1)) 94 true [15]), ⟨(some 97), (.call 12 [(.t 95), (.t 96)]), (some (94, true)), [16, 17, 15, 15]⟩, (oG 98 (.cint .i64 (.t 97)) 94 true [18, 15]), (oG 99 (.mv (.t 1)) 94 true [15]), (oG 100 (.cint .i64 (.t 99)) 94 true [20, 15]), (oG 101 (.fld 7 (.t 5)) 94 true [15]), (oG 102 (.load false 1 (.t 101)) 94 true [22, 15]), (oG 103 (.bin .add (.t 100) (.t 102)) 94 true [21, 23, 15]), (oG 104 (.bin .rem (.t 103) (.k (.int .i64 65536))) 94 true [24, 15]), (oG 105 (.bin .eql (.t 98) (.t 104)) 94 true [19, 25, 15]), (oE 106 (.pick (.t 94) (.t 105) (.k (.bool false))) [15, 26]), (oM 107 (.t 106) [27, 18]), (oG 108 (.mv (.t 11)) 107 true [28]), (oG 109 (.cint .i64 (.t 108)) 107 true [29, 28]), (oG 110 (.mv (.t 14)) 107 true [28]), (oG 111 (.bin .eql (.t 109) (.t 110)) 107 true [30, 31, 28]), (oE 112 (.pick (.t 107) (.t 111) (.k (.bool false))) [28, 32]), (oM 113 (.t 112) [33, 28]), (oG 114 (.mv (.t 12)) 113 true [34]), (oG 115 (.mv (.t 13)) 113 true [34]), (oG 116 (.bbin false (.t 114) (.t 115)) 113 true [35, 36, 34]), (oE 117 (.pick (.t 113) (.t 116) (.k (.bool false))) [34, 37]), (oM 118 (.t 117) [38, 34]), ⟨(some 119), (.call 7 []), (some (118, true)), [39, 39]⟩, (oE 120 (.pick (.t 118) (.t 119) (.k (.bool false))) [39, 40]), (oM 4 (.t 120) [41, 40, 0, 1, 2, 3, 4, 5, 6, 7, 8, 9, 10, 11, 12, 13, 14, 15, 16, 17, 18, 19, 20, 21, 22, 23, 24, 25, 26, 27, 28, 29, 30, 31, 32, 33, 34, 35, 36, 37, 38, 39, 40, 41])]
def spinetlaw18_InstReads_i23 : IR := .ret
def spinetlaw18_InstReads_i24 : IR := (.seq (.reg true spinetlaw18_InstReads_i22) spinetlaw18_InstReads_i23)
def spinetlaw18_InstReads_i25 : IR := (.seq (.seq (.reg false spinetlaw18_InstReads_i19) spinetlaw18_InstReads_i21) spinetlaw18_InstReads_i24)
def spinetlaw18_InstReads_i26 : IR := (.seq (.reg false spinetlaw18_InstReads_i18) spinetlaw18_InstReads_i25)
def spinetlaw18_InstReads_i27 : IR := (.seq (.reg false spinetlaw18_InstReads_i17) spinetlaw18_InstReads_i26)
def spinetlaw18_InstReads_i28 : IR := (.seq (.reg false spinetlaw18_InstReads_i16) spinetlaw18_InstReads_i27)
def spinetlaw18_InstReads_i29 : IR := (.seq (.reg false spinetlaw18_InstReads_i15) spinetlaw18_InstReads_i28)
def spinetlaw18_InstReads_i30 : IR := (.seq (.seq (.reg false spinetlaw18_InstReads_i11) spinetlaw18_InstReads_i14) spinetlaw18_InstReads_i29)
def spinetlaw18_InstReads_i31 : IR := (.seq (.seq (.reg false spinetlaw18_InstReads_i7) spinetlaw18_InstReads_i10) spinetlaw18_InstReads_i30)
def spinetlaw18_InstReads_i32 : IR := (.seq (.reg false spinetlaw18_InstReads_i6) spinetlaw18_InstReads_i31)
def spinetlaw18_InstReads_i33 : IR := (.seq (.reg false spinetlaw18_InstReads_i5) spinetlaw18_InstReads_i32)
def spinetlaw18_InstReads_i34 : IR := (.seq (.seq (.reg false spinetlaw18_InstReads_i1) spinetlaw18_InstReads_i4) spinetlaw18_InstReads_i33)
def spinetlaw18_InstReads_ir : IR := (.seq (.reg false spinetlaw18_InstReads_i0) spinetlaw18_InstReads_i34)
theorem spinetlaw18_InstReads_cfn : cFn Try.prog 3 = some (spinetlaw18_InstReads_ir, [(.t 4)], 121) := by kernel_rfl
def spinetlaw18_InstReads_V (r : (Bool)) : V := .s (.bool r)
def spinetlaw18_InstReads_C (r : (Bool)) : X → Fr → Hp → Prop := FinL [(.t 4)] [] (spinetlaw18_InstReads_V r) []
theorem spinetlaw18_InstReads_ok (b_ : (List Int)) (at_ : Int) (r : (Bool)) (h : spinetlaw18_InstReads b_ at_ = some r) : Pure Try.prog 3 [.sl false b_.length (cat (nI .u8) b_), .s (.int .u16 at_)] (spinetlaw18_InstReads_V r) := by
  refine ConL.of spinetlaw18_InstReads_cfn (Nat.le_of_ble_eq_true (by kernel_rfl)) (Nat.le_of_ble_eq_true (by kernel_rfl)) ?_
  refine k_start ?_
  show dwv Try.prog [] spinetlaw18_InstReads_ir (kont Try.prog [] (spinetlaw18_InstReads_C r) []) (fr0 [.sl false b_.length (cat (nI .u8) b_), .s (.int .u16 at_)]) []
  have hf : FOk (fr0 [.sl false b_.length (cat (nI .u8) b_), .s (.int .u16 at_)]) [⟨0, [], .sl false b_.length (cat (nI .u8) b_)⟩, ⟨1, [], .s (.int .u16 at_)⟩] := ⟨⟨fun _ => rfl, fun h => (h trivial).elim⟩, ⟨fun _ => rfl, fun h => (h trivial).elim⟩, trivial⟩
  generalize fr0 [.sl false b_.length (cat (nI .u8) b_), .s (.int .u16 at_)] = f at hf ⊢
  unfold spinetlaw18_InstReads at h
  refine k_seq ?_
  refine k_reg ?_
  refine mops_en hf (by kernel_rfl) fun f1 hf1 => ?_
  refine k_c ?_
  refine k_seq ?_
  refine k_seq ?_
  refine k_reg ?_
  refine mops_en hf1 (by kernel_rfl) fun f2 hf2 => ?_
  refine k_c ?_
  refine k_cond hf2 (t := (decide (20 < (ln b_)))) (by kernel_rfl) (fun hc1 => ?_) (fun hc1 => ?_)
  · have h := if_t h hc1
    refine k_seq ?_
    refine k_reg ?_
    refine mops_en hf2 (by kernel_rfl) fun f3 hf3 => ?_
    refine k_c ?_
    refine k_ret ?_
    refine x_c nofun ?_
    obtain rfl := Option.some.inj h
    exact k_fin (fin_ret (.inl rfl) hf3 (vs := [.s (.bool true)]) (by kernel_rfl) (SettL.pure (FzL.stat rfl)))
  · have h := if_f h hc1
    refine k_skip ?_
    refine k_c ?_
    refine k_seq ?_
    refine k_reg ?_
    refine mops_sg 1 hf2 (by kernel_rfl) fun f3 hf3 => ?_
    obtain ⟨r_, hx_r_, h⟩ := Option.bind_eq_some_iff.1 h
    refine mops_call rfl hf3 (av := [.sl false b_.length (cat (nI .u8) b_)]) (by kernel_rfl) (v := .tup [.agg [.s (.int .i64 r_.1.Page), .s (.int .u8 r_.1.Code), .s (.int .i64 r_.1.Entry.Op), .s (.int .i64 r_.1.Entry.Mode), .s (.int .i64 r_.1.Entry.Reg), .s (.int .u8 r_.1.Post), .s (.int .u16 r_.1.Value), .s (.int .i64 r_.1.Len)], .s (.int .i64 r_.2)]) (CalL.pure (inst_Of_ok b_ r_ hx_r_) (by simp [V.static, statics, cat_stat]) rfl (Nat.le_of_ble_eq_true (by kernel_rfl))) (fun _ => rfl) fun f4 hf4 => ?_
    refine mops_en hf4 (by kernel_rfl) fun f5 hf5 => ?_
    refine k_c ?_
    refine k_seq ?_
    refine k_reg ?_
    refine mops_sg 1 hf5 (by kernel_rfl) fun f6 hf6 => ?_
    obtain ⟨r_1, hx_r_1, h⟩ := Option.bind_eq_some_iff.1 h
    refine mops_call rfl hf6 (av := [.sl false b_.length (cat (nI .u8) b_)]) (by kernel_rfl) (v := .tup [.agg [.s (.int .i64 r_1.1.Page), .s (.int .u8 r_1.1.Code), .s (.int .i64 r_1.1.Entry.Op), .s (.int .i64 r_1.1.Entry.Mode), .s (.int .i64 r_1.1.Entry.Reg), .s (.int .u8 r_1.1.Post), .s (.int .u16 r_1.1.Value), .s (.int .i64 r_1.1.Len)], .s (.bool r_1.2)]) (CalL.pure (spinetref18_Of_ok b_ r_1 hx_r_1) (by simp [V.static, statics, cat_stat]) rfl (Nat.le_of_ble_eq_true (by kernel_rfl))) (fun _ => rfl) fun f7 hf7 => ?_
    refine mops_en hf7 (by kernel_rfl) fun f8 hf8 => ?_
    refine k_c ?_
    refine k_seq ?_
    refine k_seq ?_
    refine k_reg ?_
    refine mops_en hf8 (by kernel_rfl) fun f9 hf9 => ?_
    refine k_c ?_
    refine k_cond hf9 (t := (!r_1.2)) (by kernel_rfl) (fun hc2 => ?_) (fun hc2 => ?_)
    · have h := if_t h hc2
      refine k_seq ?_
      refine k_reg ?_
      refine mops_sg 8 hf9 (by kernel_rfl) fun f10 hf10 => ?_
      obtain ⟨r_2, hx_r_2, h⟩ := Option.bind_eq_some_iff.1 h
      refine mops_gcall (dst := (some 38)) (m := 7) (args := []) (aft := [7, 7]) (t := 37) (w := true) (ch := [(37, true)]) (b := (((r_.1.Page == 0) && ((r_.1.Code == 0) && ((r_.1.Entry.Op == 0) && ((r_.1.Entry.Mode == 0) && ((r_.1.Entry.Reg == 0) && ((r_.1.Post == 0) && ((r_.1.Value == 0) && ((r_.1.Len == 0) && true)))))))) && (r_.2 == 20))) (by kernel_rfl) hf10 (by kernel_rfl) (by kernel_rfl) (av := []) (by kernel_rfl) (v := .s (.bool r_2)) (by kernel_rfl) (fun hb3 => (CalL.pure (spinetlaw18_alive_ok  r_2 (if_t hx_r_2 hb3)) rfl rfl (Nat.le_of_ble_eq_true (by kernel_rfl)))) fun f11 hf11 => ?_
      refine mops_end [0, 1, 4, 5, 6, 7] hf11 (l' := [⟨0, [], .sl false b_.length (cat (nI .u8) b_)⟩, ⟨1, [], .s (.int .u16 at_)⟩, ⟨4, [], .s (.bool ((((r_.1.Page == 0) && ((r_.1.Code == 0) && ((r_.1.Entry.Op == 0) && ((r_.1.Entry.Mode == 0) && ((r_.1.Entry.Reg == 0) && ((r_.1.Post == 0) && ((r_.1.Value == 0) && ((r_.1.Len == 0) && true)))))))) && (r_.2 == 20)) && r_2))⟩, ⟨5, [], .ptr 0 0 0⟩, ⟨6, [], .s (.int .i64 r_.2)⟩, ⟨7, [], .ptr 1 0 0⟩]) (L' := [⟨0, .mem, 1, [.s (.int .i64 r_.1.Page), .s (.int .u8 r_.1.Code), .s (.int .i64 r_.1.Entry.Op), .s (.int .i64 r_.1.Entry.Mode), .s (.int .i64 r_.1.Entry.Reg), .s (.int .u8 r_.1.Post), .s (.int .u16 r_.1.Value), .s (.int .i64 r_.1.Len)]⟩, ⟨0, .mem, 1, [.s (.int .i64 r_1.1.Page), .s (.int .u8 r_1.1.Code), .s (.int .i64 r_1.1.Entry.Op), .s (.int .i64 r_1.1.Entry.Mode), .s (.int .i64 r_1.1.Entry.Reg), .s (.int .u8 r_1.1.Post), .s (.int .u16 r_1.1.Value), .s (.int .i64 r_1.1.Len)]⟩]) (by kernel_rfl) fun f12 hf12 => ?_
      refine k_c ?_
      refine k_ret ?_
      refine x_c nofun ?_
      obtain rfl := Option.some.inj h
      exact k_fin (fin_ret (.inl rfl) hf12 (vs := [.s (.bool ((((r_.1.Page == 0) && ((r_.1.Code == 0) && ((r_.1.Entry.Op == 0) && ((r_.1.Entry.Mode == 0) && ((r_.1.Entry.Reg == 0) && ((r_.1.Post == 0) && ((r_.1.Value == 0) && ((r_.1.Len == 0) && true)))))))) && (r_.2 == 20)) && r_2))]) (by kernel_rfl) (SettL.pure (FzL.stat rfl)))
    · have h := if_f h hc2
      refine k_skip ?_
      refine k_c ?_
      refine k_seq ?_
      refine k_seq ?_
      refine k_reg ?_
      refine mops_en hf9 (by kernel_rfl) fun f10 hf10 => ?_
      refine k_c ?_
      refine k_cond hf10 (t := ((!((r_.1.Page == r_1.1.Page) && ((r_.1.Code == r_1.1.Code) && ((r_.1.Entry.Op == r_1.1.Entry.Op) && ((r_.1.Entry.Mode == r_1.1.Entry.Mode) && ((r_.1.Entry.Reg == r_1.1.Entry.Reg) && ((r_.1.Post == r_1.1.Post) && ((r_.1.Value == r_1.1.Value) && ((r_.1.Len == r_1.1.Len) && true))))))))) || (r_.2 != 0))) (by kernel_rfl) (fun hc4 => ?_) (fun hc4 => ?_)
      · have h := if_t h hc4
        refine k_seq ?_
        refine k_reg ?_
        refine mops_en hf10 (by kernel_rfl) fun f11 hf11 => ?_
        refine k_c ?_
        refine k_ret ?_
        refine x_c nofun ?_
        obtain rfl := Option.some.inj h
        exact k_fin (fin_ret (.inl rfl) hf11 (vs := [.s (.bool false)]) (by kernel_rfl) (SettL.pure (FzL.stat rfl)))
      · have h := if_f h hc4
        refine k_skip ?_
        refine k_c ?_
        refine k_seq ?_
        refine k_reg ?_
        refine mops_sg 1 hf10 (by kernel_rfl) fun f11 hf11 => ?_
        obtain ⟨r_3, hx_r_3, h⟩ := Option.bind_eq_some_iff.1 h
        refine mops_call rfl hf11 (av := [.agg [.s (.int .i64 r_.1.Page), .s (.int .u8 r_.1.Code), .s (.int .i64 r_.1.Entry.Op), .s (.int .i64 r_.1.Entry.Mode), .s (.int .i64 r_.1.Entry.Reg), .s (.int .u8 r_.1.Post), .s (.int .u16 r_.1.Value), .s (.int .i64 r_.1.Len)]]) (by kernel_rfl) (v := .tup [.sl false r_3.1.length (cat (nI .u8) r_3.1), .s (.int .i64 r_3.2)]) (CalL.pure (inst_Put_ok r_.1 r_3 hx_r_3) rfl (by simp [V.static, statics, cat_stat, inst_Put_V]) (Nat.le_of_ble_eq_true (by kernel_rfl))) (fun _ => rfl) fun f12 hf12 => ?_
        refine mops_end [0, 1, 4, 5, 9, 10] hf12 (l' := [⟨0, [], .sl false b_.length (cat (nI .u8) b_)⟩, ⟨1, [], .s (.int .u16 at_)⟩, ⟨4, [], .s (.bool false)⟩, ⟨5, [], .ptr 0 0 0⟩, ⟨9, [], .sl false r_3.1.length (cat (nI .u8) r_3.1)⟩, ⟨10, [], .s (.int .i64 r_3.2)⟩]) (L' := [⟨0, .mem, 1, [.s (.int .i64 r_.1.Page), .s (.int .u8 r_.1.Code), .s (.int .i64 r_.1.Entry.Op), .s (.int .i64 r_.1.Entry.Mode), .s (.int .i64 r_.1.Entry.Reg), .s (.int .u8 r_.1.Post), .s (.int .u16 r_.1.Value), .s (.int .i64 r_.1.Len)]⟩, ⟨0, .mem, 1, [.s (.int .i64 r_1.1.Page), .s (.int .u8 r_1.1.Code), .s (.int .i64 r_1.1.Entry.Op), .s (.int .i64 r_1.1.Entry.Mode), .s (.int .i64 r_1.1.Entry.Reg), .s (.int .u8 r_1.1.Post), .s (.int .u16 r_1.1.Value), .s (.int .i64 r_1.1.Len)]⟩]) (by kernel_rfl) fun f13 hf13 => ?_
        refine k_c ?_
        refine k_seq ?_
        refine k_reg ?_
        refine mops_sg 2 hf13 (by kernel_rfl) fun f14 hf14 => ?_
        obtain ⟨r_4, hx_r_4, h⟩ := Option.bind_eq_some_iff.1 h
        refine mops_call rfl hf14 (av := [.agg [.s (.int .i64 r_.1.Page), .s (.int .u8 r_.1.Code), .s (.int .i64 r_.1.Entry.Op), .s (.int .i64 r_.1.Entry.Mode), .s (.int .i64 r_.1.Entry.Reg), .s (.int .u8 r_.1.Post), .s (.int .u16 r_.1.Value), .s (.int .i64 r_.1.Len)], .s (.int .u16 at_)]) (by kernel_rfl) (v := .tup [.s (.int .u16 r_4.1), .s (.bool r_4.2)]) (CalL.pure (inst_Target_ok r_.1 at_ r_4 hx_r_4) rfl rfl (Nat.le_of_ble_eq_true (by kernel_rfl))) (fun _ => rfl) fun f15 hf15 => ?_
        refine mops_en hf15 (by kernel_rfl) fun f16 hf16 => ?_
        refine k_c ?_
        refine k_seq ?_
        refine k_reg ?_
        refine mops_en hf16 (by kernel_rfl) fun f17 hf17 => ?_
        refine k_c ?_
        refine k_seq ?_
        refine k_reg ?_
        refine mops_en hf17 (by kernel_rfl) fun f18 hf18 => ?_
        refine k_c ?_
        refine k_seq ?_
        refine k_seq ?_
        refine k_reg ?_
        refine mops_en hf18 (by kernel_rfl) fun f19 hf19 => ?_
        refine k_c ?_
        have hj1 : ∀ (want_ : Int), spinetlaw18_InstReads_j0 b_ at_ r_ r_3 r_4 want_ = some r → ∀ f, FOk f [⟨0, [], .sl false b_.length (cat (nI .u8) b_)⟩, ⟨1, [], .s (.int .u16 at_)⟩, ⟨4, [], .s (.bool false)⟩, ⟨5, [], .ptr 0 0 0⟩, ⟨9, [], .sl false r_3.1.length (cat (nI .u8) r_3.1)⟩, ⟨10, [], .s (.int .i64 r_3.2)⟩, ⟨11, [], .s (.int .u16 r_4.1)⟩, ⟨12, [], .s (.bool r_4.2)⟩, ⟨13, [], .s (.bool ((r_.1.Entry.Mode == 6) || (r_.1.Entry.Mode == 7)))⟩, ⟨14, [], .s (.int .i64 want_)⟩] → kont Try.prog [] (spinetlaw18_InstReads_C r) ((.c spinetlaw18_InstReads_i24) :: []) .normal f [⟨0, .mem, 1, [.s (.int .i64 r_.1.Page), .s (.int .u8 r_.1.Code), .s (.int .i64 r_.1.Entry.Op), .s (.int .i64 r_.1.Entry.Mode), .s (.int .i64 r_.1.Entry.Reg), .s (.int .u8 r_.1.Post), .s (.int .u16 r_.1.Value), .s (.int .i64 r_.1.Len)]⟩, ⟨0, .mem, 1, [.s (.int .i64 r_1.1.Page), .s (.int .u8 r_1.1.Code), .s (.int .i64 r_1.1.Entry.Op), .s (.int .i64 r_1.1.Entry.Mode), .s (.int .i64 r_1.1.Entry.Reg), .s (.int .u8 r_1.1.Post), .s (.int .u16 r_1.1.Value), .s (.int .i64 r_1.1.Len)]⟩] := by
          intro want_ h f hf
          unfold spinetlaw18_InstReads_j0 at h
          refine k_c ?_
          refine k_seq ?_
          refine k_regq ?_
          refine mops_sg 4 hf (by kernel_rfl) fun f1 hf1 => ?_
          obtain ⟨c6, h⟩ := as_ok h
          refine mops_adv rfl (v := .sl (false && (r_.1.Len : Int).toNat == b_.length) ((r_.1.Len : Int).toNat - 0) (cat (nI .u8) (b_.drop 0))) hf1 (by kernel_rfl) (e_slice_sl (g := (nI .u8)) (l := b_) (n := b_.length) (u := false) (by kernel_rfl) (b_ns (k := .i64) (iv := r_.1.Len) (by kernel_rfl) c6)) fun f2 hf2 => ?_
          obtain ⟨r_5, hx_r_5, h⟩ := Option.bind_eq_some_iff.1 h
          refine mops_call rfl hf2 (av := [.sl false r_3.1.length (cat (nI .u8) r_3.1), .sl (false && (r_.1.Len : Int).toNat == b_.length) ((r_.1.Len : Int).toNat - 0) (cat (nI .u8) (b_.drop 0))]) (by kernel_rfl) (v := .s (.bool r_5)) (CalL.purew (bytes_Equal_ok r_3.1 ((b_.drop 0).take ((r_.1.Len : Int).toNat - 0)) r_5 hx_r_5) (Wks.cons Wk.refl (Wks.cons (Wk.part (g := (nI .u8)) (cut_le (l := b_) (a := 0) (b := (r_.1.Len : Int).toNat) (cut_ns (n := b_.length) c6) rfl)) Wks.nil)) (by simp [V.static, statics, cat_stat]) rfl (by kernel_rfl)) (fun _ => rfl) fun f3 hf3 => ?_
          refine mops_sg 7 hf3 (by kernel_rfl) fun f4 hf4 => ?_
          obtain ⟨r_6, hx_r_6, h⟩ := Option.bind_eq_some_iff.1 h
          refine mops_gcall (dst := (some 92)) (m := 11) (args := [(.t 90), (.t 91)]) (aft := [11, 12, 10, 10]) (t := 89) (w := true) (ch := [(89, true)]) (b := (r_5 && (r_3.2 == 0))) (by kernel_rfl) hf4 (by kernel_rfl) (by kernel_rfl) (av := [.agg [.s (.int .i64 r_.1.Page), .s (.int .u8 r_.1.Code), .s (.int .i64 r_.1.Entry.Op), .s (.int .i64 r_.1.Entry.Mode), .s (.int .i64 r_.1.Entry.Reg), .s (.int .u8 r_.1.Post), .s (.int .u16 r_.1.Value), .s (.int .i64 r_.1.Len)], .sl false b_.length (cat (nI .u8) b_)]) (by kernel_rfl) (v := .s (.bool r_6)) (by kernel_rfl) (fun hb7 => (CalL.pure (inst_Same_ok r_.1 b_ r_6 (if_t hx_r_6 hb7)) (by simp [V.static, statics, cat_stat]) rfl (Nat.le_of_ble_eq_true (by kernel_rfl)))) fun f5 hf5 => ?_
          refine mops_sg 4 hf5 (by kernel_rfl) fun f6 hf6 => ?_
          obtain ⟨r_7, hx_r_7, h⟩ := Option.bind_eq_some_iff.1 h
          refine mops_gcall (dst := (some 97)) (m := 12) (args := [(.t 95), (.t 96)]) (aft := [16, 17, 15, 15]) (t := 94) (w := true) (ch := [(94, true)]) (b := ((r_5 && (r_3.2 == 0)) && r_6)) (by kernel_rfl) hf6 (by kernel_rfl) (by kernel_rfl) (av := [.agg [.s (.int .i64 r_.1.Page), .s (.int .u8 r_.1.Code), .s (.int .i64 r_.1.Entry.Op), .s (.int .i64 r_.1.Entry.Mode), .s (.int .i64 r_.1.Entry.Reg), .s (.int .u8 r_.1.Post), .s (.int .u16 r_.1.Value), .s (.int .i64 r_.1.Len)], .s (.int .u16 at_)]) (by kernel_rfl) (v := .s (.int .u16 r_7)) (by kernel_rfl) (fun hb8 => (CalL.pure (inst_Next_ok r_.1 at_ r_7 (if_t hx_r_7 hb8)) rfl rfl (Nat.le_of_ble_eq_true (by kernel_rfl)))) fun f7 hf7 => ?_
          refine mops_seg [4, 118] 21 hf7 (l' := [⟨4, [], .s (.bool false)⟩, ⟨118, [], .s (.bool (((((r_5 && (r_3.2 == 0)) && r_6) && ((IntKind.wrap .i64 r_7) == (Int.tmod (IntKind.wrap .i64 ((IntKind.wrap .i64 at_) + r_.1.Len)) 65536))) && ((IntKind.wrap .i64 r_4.1) == want_)) && (r_4.2 == ((r_.1.Entry.Mode == 6) || (r_.1.Entry.Mode == 7)))))⟩]) (L' := [⟨0, .mem, 1, [.s (.int .i64 r_.1.Page), .s (.int .u8 r_.1.Code), .s (.int .i64 r_.1.Entry.Op), .s (.int .i64 r_.1.Entry.Mode), .s (.int .i64 r_.1.Entry.Reg), .s (.int .u8 r_.1.Post), .s (.int .u16 r_.1.Value), .s (.int .i64 r_.1.Len)]⟩, ⟨0, .mem, 1, [.s (.int .i64 r_1.1.Page), .s (.int .u8 r_1.1.Code), .s (.int .i64 r_1.1.Entry.Op), .s (.int .i64 r_1.1.Entry.Mode), .s (.int .i64 r_1.1.Entry.Reg), .s (.int .u8 r_1.1.Post), .s (.int .u16 r_1.1.Value), .s (.int .i64 r_1.1.Len)]⟩]) (by kernel_rfl) fun f8 hf8 => ?_
          obtain ⟨r_8, hx_r_8, h⟩ := Option.bind_eq_some_iff.1 h
          refine mops_gcall (dst := (some 119)) (m := 7) (args := []) (aft := [39, 39]) (t := 118) (w := true) (ch := [(118, true)]) (b := (((((r_5 && (r_3.2 == 0)) && r_6) && ((IntKind.wrap .i64 r_7) == (Int.tmod (IntKind.wrap .i64 ((IntKind.wrap .i64 at_) + r_.1.Len)) 65536))) && ((IntKind.wrap .i64 r_4.1) == want_)) && (r_4.2 == ((r_.1.Entry.Mode == 6) || (r_.1.Entry.Mode == 7))))) (by kernel_rfl) hf8 (by kernel_rfl) (by kernel_rfl) (av := []) (by kernel_rfl) (v := .s (.bool r_8)) (by kernel_rfl) (fun hb9 => (CalL.pure (spinetlaw18_alive_ok  r_8 (if_t hx_r_8 hb9)) rfl rfl (Nat.le_of_ble_eq_true (by kernel_rfl)))) fun f9 hf9 => ?_
          refine mops_en hf9 (by kernel_rfl) fun f10 hf10 => ?_
          refine k_c ?_
          refine k_ret ?_
          obtain rfl := Option.some.inj h
          exact k_fin (fin_ret (.inl rfl) hf10 (vs := [.s (.bool ((((((r_5 && (r_3.2 == 0)) && r_6) && ((IntKind.wrap .i64 r_7) == (Int.tmod (IntKind.wrap .i64 ((IntKind.wrap .i64 at_) + r_.1.Len)) 65536))) && ((IntKind.wrap .i64 r_4.1) == want_)) && (r_4.2 == ((r_.1.Entry.Mode == 6) || (r_.1.Entry.Mode == 7)))) && r_8))]) (by kernel_rfl) (SettL.pure (FzL.stat rfl)))
        refine k_cond hf19 (t := ((r_.1.Entry.Mode == 6) || (r_.1.Entry.Mode == 7))) (by kernel_rfl) (fun hc5 => ?_) (fun hc5 => ?_)
        · have h := if_t h hc5
          refine k_reg ?_
          refine mops_en hf19 (by kernel_rfl) fun f20 hf20 => ?_
          refine k_hp (L' := [⟨0, .mem, 1, [.s (.int .i64 r_.1.Page), .s (.int .u8 r_.1.Code), .s (.int .i64 r_.1.Entry.Op), .s (.int .i64 r_.1.Entry.Mode), .s (.int .i64 r_.1.Entry.Reg), .s (.int .u8 r_.1.Post), .s (.int .u16 r_.1.Value), .s (.int .i64 r_.1.Len)]⟩, ⟨0, .mem, 1, [.s (.int .i64 r_1.1.Page), .s (.int .u8 r_1.1.Code), .s (.int .i64 r_1.1.Entry.Op), .s (.int .i64 r_1.1.Entry.Mode), .s (.int .i64 r_1.1.Entry.Reg), .s (.int .u8 r_1.1.Post), .s (.int .u16 r_1.1.Value), .s (.int .i64 r_1.1.Len)]⟩]) (by kernel_rfl) ?_
          exact hj1 (Int.tmod (IntKind.wrap .i64 ((IntKind.wrap .i64 ((IntKind.wrap .i64 at_) + r_.1.Len)) + (IntKind.wrap .i64 r_.1.Value))) 65536) h _ (FOk_of [0, 1, 4, 5, 9, 10, 11, 12, 13, 14] hf20 (by kernel_rfl))
        · have h := if_f h hc5
          refine k_skip ?_
          refine k_hp (L' := [⟨0, .mem, 1, [.s (.int .i64 r_.1.Page), .s (.int .u8 r_.1.Code), .s (.int .i64 r_.1.Entry.Op), .s (.int .i64 r_.1.Entry.Mode), .s (.int .i64 r_.1.Entry.Reg), .s (.int .u8 r_.1.Post), .s (.int .u16 r_.1.Value), .s (.int .i64 r_.1.Len)]⟩, ⟨0, .mem, 1, [.s (.int .i64 r_1.1.Page), .s (.int .u8 r_1.1.Code), .s (.int .i64 r_1.1.Entry.Op), .s (.int .i64 r_1.1.Entry.Mode), .s (.int .i64 r_1.1.Entry.Reg), .s (.int .u8 r_1.1.Post), .s (.int .u16 r_1.1.Value), .s (.int .i64 r_1.1.Len)]⟩]) (by kernel_rfl) ?_
          exact hj1 (0) h _ (FOk_of [0, 1, 4, 5, 9, 10, 11, 12, 13, 14] hf19 (by kernel_rfl))
def spinetlaw18_InstPuts_i0 : List Op1 := [(oE 2 (.box (.t 0)) []), (oM 4 (.k (.bool false)) [])]
def spinetlaw18_InstPuts_i1 : List Op1 := [(oM 13 (.t 1) []), (oE 14 (.len (.t 13)) [0]), (oE 15 (.bin .gtr (.t 14) (.k (.int .i64 20))) [1])]
def spinetlaw18_InstPuts_i2 : List Op1 := [(oM 4 (.k (.bool true)) [])]
def spinetlaw18_InstPuts_i3 : IR := .ret
def spinetlaw18_InstPuts_i4 : IR := (.cond (.t 15) (.seq (.reg false spinetlaw18_InstPuts_i2) spinetlaw18_InstPuts_i3) .skip)
def spinetlaw18_InstPuts_i5 : List Op1 := [(oE 17 (.load true 8 (.t 2)) []), (oC 18 8 [(.t 17)] [0]), (oM 16 (.t 18) [1]), (oE 19 (.ext 0 (.t 16)) [2]), (oE 20 (.ext 1 (.t 16)) [2]), (oM 5 (.t 19) [3, 1, 0, 1, 2, 3]), (oM 6 (.t 20) [4, 5, 0, 1, 2, 3, 4, 5])]
def spinetlaw18_InstPuts_i6 : List Op1 := [(oE 21 (.load true 8 (.t 2)) []), (oM 22 (.t 1) []), (oC 23 11 [(.t 21), (.t 22)] [0, 1]), (oM 7 (.t 23) [2, 2, 0, 1, 2])]
def spinetlaw18_InstPuts_i7 : List Op1 := [(oM 24 (.t 6) []), (oE 25 (.bin .neq (.t 24) (.k (.int .i64 0))) [0])]
def spinetlaw18_InstPuts_i8 : List Op1 := [(oM 27 (.t 1) []), (oC 28 6 [(.t 27)] [0]), (oM 26 (.t 28) [1]), (oE 29 (.ext 0 (.t 26)) [2]), (oE 30 (.ext 1 (.t 26)) [2]), (oE 8 (.zero [(.int .i64 0), (.int .u8 0), (.int .i64 0), (.int .i64 0), (.int .i64 0), (.int .u8 0), (.int .u16 0), (.int .i64 0)]) []), (oN (.store 8 (.t 8) (.t 29)) [5, 3, 1, 0, 1, 2, 3, 5]), (oM 9 (.t 30) [4, 6, 0, 1, 2, 3, 4, 5, 6])]
def spinetlaw18_InstPuts_i9 : List Op1 := [(oM 31 (.t 5) []), (oE 32 (.len (.t 31)) [0]), (oE 33 (.bin .eql (.t 32) (.k (.int .i64 0))) [1]), (oM 34 (.t 33) [2]), (oG 35 (.mv (.t 6)) 34 true [3]), (oG 36 (.bin .eql (.t 35) (.k (.int .i64 10))) 34 true [4, 3]), (oE 37 (.pick (.t 34) (.t 36) (.k (.bool false))) [3, 5]), (oM 38 (.t 37) [6, 3]), (oG 39 (.mv (.t 7)) 38 true [7]), (oG 40 (.un .not (.t 39)) 38 true [8, 7]), (oE 41 (.pick (.t 38) (.t 40) (.k (.bool false))) [7, 9]), (oM 42 (.t 41) [10, 7]), (oG 43 (.mv (.t 9)) 42 true [11]), (oG 44 (.mv (.t 43)) 42 true [12, 11, 11]), (oG 45 (.load true 8 (.t 8)) 44 true [13]), (oG 46 (.load true 8 (.t 2)) 44 true [13]), (oG 47 (.eqa false [.int, .int, .int, .int, .int, .int, .int, .int] (.t 45) (.t 46)) 44 true [14, 15, 13]), (oG 48 (.pick (.t 44) (.t 47) (.k (.bool false))) 42 true [13, 16, 11]), (oG 49 (.un .not (.t 48)) 42 true [17, 11]), (oE 50 (.pick (.t 42) (.t 49) (.k (.bool false))) [11, 18]), (oM 51 (.t 50) [19, 13]), ⟨(some 52), (.call 7 []), (some (51, true)), [20, 20]⟩, (oE 53 (.pick (.t 51) (.t 52) (.k (.bool false))) [20, 21]), (oM 4 (.t 53) [22, 21, 0, 1, 2, 3, 4, 5, 6, 7, 8, 9, 10, 11, 12, 13, 14, 15, 16, 17, 18, 19, 20, 21, 22])]
def spinetlaw18_InstPuts_i10 : IR := .ret
def spinetlaw18_InstPuts_i11 : IR := (.seq (.reg false spinetlaw18_InstPuts_i9) spinetlaw18_InstPuts_i10)
def spinetlaw18_InstPuts_i12 : IR := (.cond (.t 25) (.seq (.reg false spinetlaw18_InstPuts_i8) spinetlaw18_InstPuts_i11) .skip)
def spinetlaw18_InstPuts_i13 : List Op1 := [(oM 55 (.t 5) []), (oC 56 6 [(.t 55)] [0]), (oM 54 (.t 56) [1]), (oE 57 (.ext 0 (.t 54)) [2]), (oE 58 (.ext 1 (.t 54)) [2]), (oE 10 (.zero [(.int .i64 0), (.int .u8 0), (.int .i64 0), (.int .i64 0), (.int .i64 0), (.int .u8 0), (.int .u16 0), (.int .i64 0)]) []), (oN (.store 8 (.t 10) (.t 57)) [5, 3, 1, 0, 1, 2, 3, 5]), (oM 11 (.t 58) [4, 6, 0, 1, 2, 3, 4, 5, 6])]
def spinetlaw18_InstPuts_i14 : List Op1 := [(oM 59 (.t 1) []), (oE 60 (.len (.t 59)) [0]), (oM 61 (.t 5) []), (oE 62 (.len (.t 61)) [2]), (oE 63 (.bin .geq (.t 60) (.t 62)) [1, 3]), (oM 64 (.t 63) [4]), (oG 65 (.mv (.t 1)) 64 true [5]), (oG 66 (.mv (.t 5)) 64 true [5]), (oG 67 (.len (.t 66)) 64 true [7, 5]), (oG 68 (.slice 1 (.t 65) none (some (.t 67))) 64 true [6, 8, 5]), (oG 69 (.mv (.t 5)) 64 true [5]), ⟨(some 70), (.call 10 [(.t 68), (.t 69)]), (some (64, true)), [9, 10, 5, 5]⟩, (oE 71 (.pick (.t 64) (.t 70) (.k (.bool false))) [5, 11]), (oM 12 (.t 71) [12, 11, 0, 1, 2, 3, 4, 5, 6, 7, 8, 9, 10, 11, 12])]
def spinetlaw18_InstPuts_i15 : List Op1 := [(oM 72 (.t 11) []), (oM 73 (.t 72) [0]), (oG 74 (.load true 8 (.t 10)) 73 true [1]), (oG 75 (.load true 8 (.t 2)) 73 true [1]), (oG 76 (.eqa false [.int, .int, .int, .int, .int, .int, .int, .int] (.t 74) (.t 75)) 73 true [2, 3, 1]), (oE 77 (.pick (.t 73) (.t 76) (.k (.bool false))) [1, 4]), (oM 78 (.t 77) [5, 1]), (oG 79 (.fld 7 (.t 10)) 78 true [6]), (oG 80 (.load false 1 (.t 79)) 78 true [7, 6]), (oG 81 (.mv (.t 5)) 78 true [6]), (oG 82 (.len (.t 81)) 78 true [9, 6]), (oG 83 (.bin .eql (.t 80) (.t 82)) 78 true [8, 10, 6]), (oE 84 (.pick (.t 78) (.t 83) (.k (.bool false))) [6, 11]), (oM 85 (.t 84) [12, 6]), (oG 86 (.mv (.t 7)) 85 true [13]), (oG 87 (.mv (.t 12)) 85 true [13]), (oG 88 (.bbin false (.t 86) (.t 87)) 85 true [14, 15, 13]), (oE 89 (.pick (.t 85) (.t 88) (.k (.bool false))) [13, 16]), (oM 90 (.t 89) [17, 13]), ⟨(some 91), (.call 7 []), (some (90, true)), [18, 18]⟩, (oE 92 (.pick (.t 90) (.t 91) (.k (.bool false))) [18, 19]), (oM 4 (.t 92) [20, 19, 0, 1, 2, 3, 4, 5, 6, 7, 8, 9, 10, 11, 12, 13, 14, 15, 16, 17, 18, 19, 20])]
def spinetlaw18_InstPuts_i16 : IR := .ret
def spinetlaw18_InstPuts_i17 : IR := (.seq (.reg false spinetlaw18_InstPuts_i15) spinetlaw18_InstPuts_i16)
def spinetlaw18_InstPuts_i18 : IR := (.seq (.reg false spinetlaw18_InstPuts_i14) spinetlaw18_InstPuts_i17)
def spinetlaw18_InstPuts_i19 : IR := (.seq (.reg false spinetlaw18_InstPuts_i13) spinetlaw18_InstPuts_i18)
def spinetlaw18_InstPuts_i20 : IR := (.seq (.seq (.reg false spinetlaw18_InstPuts_i7) spinetlaw18_InstPuts_i12) spinetlaw18_InstPuts_i19)
def spinetlaw18_InstPuts_i21 : IR := (.seq (.reg false spinetlaw18_InstPuts_i6) spinetlaw18_InstPuts_i20)
def spinetlaw18_InstPuts_i22 : IR := (.seq (.reg false spinetlaw18_InstPuts_i5) spinetlaw18_InstPuts_i21)
def spinetlaw18_InstPuts_i23 : IR := (.seq (.seq (.reg false spinetlaw18_InstPuts_i1) spinetlaw18_InstPuts_i4) spinetlaw18_InstPuts_i22)
def spinetlaw18_InstPuts_ir : IR := (.seq (.reg false spinetlaw18_InstPuts_i0) spinetlaw18_InstPuts_i23)
theorem spinetlaw18_InstPuts_cfn : cFn Try.prog 4 = some (spinetlaw18_InstPuts_ir, [(.t 4)], 93) := by kernel_rfl
def spinetlaw18_InstPuts_V (r : (Bool)) : V := .s (.bool r)
def spinetlaw18_InstPuts_C (r : (Bool)) : X → Fr → Hp → Prop := FinL [(.t 4)] [] (spinetlaw18_InstPuts_V r) []
theorem spinetlaw18_InstPuts_ok (i_ : api_Inst) (b_ : (List Int)) (r : (Bool)) (h : spinetlaw18_InstPuts i_ b_ = some r) : Pure Try.prog 4 [.agg [.s (.int .i64 i_.Page), .s (.int .u8 i_.Code), .s (.int .i64 i_.Entry.Op), .s (.int .i64 i_.Entry.Mode), .s (.int .i64 i_.Entry.Reg), .s (.int .u8 i_.Post), .s (.int .u16 i_.Value), .s (.int .i64 i_.Len)], .sl false b_.length (cat (nI .u8) b_)] (spinetlaw18_InstPuts_V r) := by
  refine ConL.of spinetlaw18_InstPuts_cfn (Nat.le_of_ble_eq_true (by kernel_rfl)) (Nat.le_of_ble_eq_true (by kernel_rfl)) ?_
  refine k_start ?_
  show dwv Try.prog [] spinetlaw18_InstPuts_ir (kont Try.prog [] (spinetlaw18_InstPuts_C r) []) (fr0 [.agg [.s (.int .i64 i_.Page), .s (.int .u8 i_.Code), .s (.int .i64 i_.Entry.Op), .s (.int .i64 i_.Entry.Mode), .s (.int .i64 i_.Entry.Reg), .s (.int .u8 i_.Post), .s (.int .u16 i_.Value), .s (.int .i64 i_.Len)], .sl false b_.length (cat (nI .u8) b_)]) []
  have hf : FOk (fr0 [.agg [.s (.int .i64 i_.Page), .s (.int .u8 i_.Code), .s (.int .i64 i_.Entry.Op), .s (.int .i64 i_.Entry.Mode), .s (.int .i64 i_.Entry.Reg), .s (.int .u8 i_.Post), .s (.int .u16 i_.Value), .s (.int .i64 i_.Len)], .sl false b_.length (cat (nI .u8) b_)]) [⟨0, [], .agg [.s (.int .i64 i_.Page), .s (.int .u8 i_.Code), .s (.int .i64 i_.Entry.Op), .s (.int .i64 i_.Entry.Mode), .s (.int .i64 i_.Entry.Reg), .s (.int .u8 i_.Post), .s (.int .u16 i_.Value), .s (.int .i64 i_.Len)]⟩, ⟨1, [], .sl false b_.length (cat (nI .u8) b_)⟩] := ⟨⟨fun _ => rfl, fun h => (h trivial).elim⟩, ⟨fun _ => rfl, fun h => (h trivial).elim⟩, trivial⟩
  generalize fr0 [.agg [.s (.int .i64 i_.Page), .s (.int .u8 i_.Code), .s (.int .i64 i_.Entry.Op), .s (.int .i64 i_.Entry.Mode), .s (.int .i64 i_.Entry.Reg), .s (.int .u8 i_.Post), .s (.int .u16 i_.Value), .s (.int .i64 i_.Len)], .sl false b_.length (cat (nI .u8) b_)] = f at hf ⊢
  unfold spinetlaw18_InstPuts at h
  refine k_seq ?_
  refine k_reg ?_
  refine mops_en hf (by kernel_rfl) fun f1 hf1 => ?_
  refine k_c ?_
  refine k_seq ?_
  refine k_seq ?_
  refine k_reg ?_
  refine mops_en hf1 (by kernel_rfl) fun f2 hf2 => ?_
  refine k_c ?_
  refine k_cond hf2 (t := (decide (20 < (ln b_)))) (by kernel_rfl) (fun hc1 => ?_) (fun hc1 => ?_)
  · have h := if_t h hc1
    refine k_seq ?_
    refine k_reg ?_
    refine mops_en hf2 (by kernel_rfl) fun f3 hf3 => ?_
    refine k_c ?_
    refine k_ret ?_
    refine x_c nofun ?_
    obtain rfl := Option.some.inj h
    exact k_fin (fin_ret (.inl rfl) hf3 (vs := [.s (.bool true)]) (by kernel_rfl) (SettL.pure (FzL.stat rfl)))
  · have h := if_f h hc1
    refine k_skip ?_
    refine k_c ?_
    refine k_seq ?_
    refine k_reg ?_
    refine mops_sg 1 hf2 (by kernel_rfl) fun f3 hf3 => ?_
    obtain ⟨r_, hx_r_, h⟩ := Option.bind_eq_some_iff.1 h
    refine mops_call rfl hf3 (av := [.agg [.s (.int .i64 i_.Page), .s (.int .u8 i_.Code), .s (.int .i64 i_.Entry.Op), .s (.int .i64 i_.Entry.Mode), .s (.int .i64 i_.Entry.Reg), .s (.int .u8 i_.Post), .s (.int .u16 i_.Value), .s (.int .i64 i_.Len)]]) (by kernel_rfl) (v := .tup [.sl false r_.1.length (cat (nI .u8) r_.1), .s (.int .i64 r_.2)]) (CalL.pure (inst_Put_ok i_ r_ hx_r_) rfl (by simp [V.static, statics, cat_stat, inst_Put_V]) (Nat.le_of_ble_eq_true (by kernel_rfl))) (fun _ => rfl) fun f4 hf4 => ?_
    refine mops_en hf4 (by kernel_rfl) fun f5 hf5 => ?_
    refine k_c ?_
    refine k_seq ?_
    refine k_reg ?_
    refine mops_sg 2 hf5 (by kernel_rfl) fun f6 hf6 => ?_
    obtain ⟨r_1, hx_r_1, h⟩ := Option.bind_eq_some_iff.1 h
    refine mops_call rfl hf6 (av := [.agg [.s (.int .i64 i_.Page), .s (.int .u8 i_.Code), .s (.int .i64 i_.Entry.Op), .s (.int .i64 i_.Entry.Mode), .s (.int .i64 i_.Entry.Reg), .s (.int .u8 i_.Post), .s (.int .u16 i_.Value), .s (.int .i64 i_.Len)], .sl false b_.length (cat (nI .u8) b_)]) (by kernel_rfl) (v := .s (.bool r_1)) (CalL.pure (inst_Same_ok i_ b_ r_1 hx_r_1) (by simp [V.static, statics, cat_stat]) rfl (Nat.le_of_ble_eq_true (by kernel_rfl))) (fun _ => rfl) fun f7 hf7 => ?_
    refine mops_en hf7 (by kernel_rfl) fun f8 hf8 => ?_
    refine k_c ?_
    refine k_seq ?_
    refine k_seq ?_
    refine k_reg ?_
    refine mops_en hf8 (by kernel_rfl) fun f9 hf9 => ?_
    refine k_c ?_
    refine k_cond hf9 (t := (r_.2 != 0)) (by kernel_rfl) (fun hc2 => ?_) (fun hc2 => ?_)
    · have h := if_t h hc2
      refine k_seq ?_
      refine k_reg ?_
      refine mops_sg 1 hf9 (by kernel_rfl) fun f10 hf10 => ?_
      obtain ⟨r_2, hx_r_2, h⟩ := Option.bind_eq_some_iff.1 h
      refine mops_call rfl hf10 (av := [.sl false b_.length (cat (nI .u8) b_)]) (by kernel_rfl) (v := .tup [.agg [.s (.int .i64 r_2.1.Page), .s (.int .u8 r_2.1.Code), .s (.int .i64 r_2.1.Entry.Op), .s (.int .i64 r_2.1.Entry.Mode), .s (.int .i64 r_2.1.Entry.Reg), .s (.int .u8 r_2.1.Post), .s (.int .u16 r_2.1.Value), .s (.int .i64 r_2.1.Len)], .s (.bool r_2.2)]) (CalL.pure (spinetref18_Of_ok b_ r_2 hx_r_2) (by simp [V.static, statics, cat_stat]) rfl (Nat.le_of_ble_eq_true (by kernel_rfl))) (fun _ => rfl) fun f11 hf11 => ?_
      refine mops_en hf11 (by kernel_rfl) fun f12 hf12 => ?_
      refine k_c ?_
      refine k_seq ?_
      refine k_reg ?_
      refine mops_seg [1, 2, 4, 5, 7, 51] 21 hf12 (l' := [⟨1, [], .sl false b_.length (cat (nI .u8) b_)⟩, ⟨2, [], .ptr 0 0 0⟩, ⟨4, [], .s (.bool false)⟩, ⟨5, [], .sl false r_.1.length (cat (nI .u8) r_.1)⟩, ⟨7, [], .s (.bool r_1)⟩, ⟨51, [], .s (.bool (((((ln r_.1) == 0) && (r_.2 == 10)) && (!r_1)) && (!(r_2.2 && ((r_2.1.Page == i_.Page) && ((r_2.1.Code == i_.Code) && ((r_2.1.Entry.Op == i_.Entry.Op) && ((r_2.1.Entry.Mode == i_.Entry.Mode) && ((r_2.1.Entry.Reg == i_.Entry.Reg) && ((r_2.1.Post == i_.Post) && ((r_2.1.Value == i_.Value) && ((r_2.1.Len == i_.Len) && true))))))))))))⟩]) (L' := [⟨0, .mem, 1, [.s (.int .i64 i_.Page), .s (.int .u8 i_.Code), .s (.int .i64 i_.Entry.Op), .s (.int .i64 i_.Entry.Mode), .s (.int .i64 i_.Entry.Reg), .s (.int .u8 i_.Post), .s (.int .u16 i_.Value), .s (.int .i64 i_.Len)]⟩, ⟨0, .mem, 1, [.s (.int .i64 r_2.1.Page), .s (.int .u8 r_2.1.Code), .s (.int .i64 r_2.1.Entry.Op), .s (.int .i64 r_2.1.Entry.Mode), .s (.int .i64 r_2.1.Entry.Reg), .s (.int .u8 r_2.1.Post), .s (.int .u16 r_2.1.Value), .s (.int .i64 r_2.1.Len)]⟩]) (by kernel_rfl) fun f13 hf13 => ?_
      obtain ⟨r_3, hx_r_3, h⟩ := Option.bind_eq_some_iff.1 h
      refine mops_gcall (dst := (some 52)) (m := 7) (args := []) (aft := [20, 20]) (t := 51) (w := true) (ch := [(51, true)]) (b := (((((ln r_.1) == 0) && (r_.2 == 10)) && (!r_1)) && (!(r_2.2 && ((r_2.1.Page == i_.Page) && ((r_2.1.Code == i_.Code) && ((r_2.1.Entry.Op == i_.Entry.Op) && ((r_2.1.Entry.Mode == i_.Entry.Mode) && ((r_2.1.Entry.Reg == i_.Entry.Reg) && ((r_2.1.Post == i_.Post) && ((r_2.1.Value == i_.Value) && ((r_2.1.Len == i_.Len) && true)))))))))))) (by kernel_rfl) hf13 (by kernel_rfl) (by kernel_rfl) (av := []) (by kernel_rfl) (v := .s (.bool r_3)) (by kernel_rfl) (fun hb3 => (CalL.pure (spinetlaw18_alive_ok  r_3 (if_t hx_r_3 hb3)) rfl rfl (Nat.le_of_ble_eq_true (by kernel_rfl)))) fun f14 hf14 => ?_
      refine mops_en hf14 (by kernel_rfl) fun f15 hf15 => ?_
      refine k_c ?_
      refine k_ret ?_
      refine x_c nofun ?_
      obtain rfl := Option.some.inj h
      exact k_fin (fin_ret (.inl rfl) hf15 (vs := [.s (.bool ((((((ln r_.1) == 0) && (r_.2 == 10)) && (!r_1)) && (!(r_2.2 && ((r_2.1.Page == i_.Page) && ((r_2.1.Code == i_.Code) && ((r_2.1.Entry.Op == i_.Entry.Op) && ((r_2.1.Entry.Mode == i_.Entry.Mode) && ((r_2.1.Entry.Reg == i_.Entry.Reg) && ((r_2.1.Post == i_.Post) && ((r_2.1.Value == i_.Value) && ((r_2.1.Len == i_.Len) && true))))))))))) && r_3))]) (by kernel_rfl) (SettL.pure (FzL.stat rfl)))
    · have h := if_f h hc2
      refine k_skip ?_
      refine k_c ?_
      refine k_seq ?_
      refine k_reg ?_
      refine mops_sg 1 hf9 (by kernel_rfl) fun f10 hf10 => ?_
      obtain ⟨r_4, hx_r_4, h⟩ := Option.bind_eq_some_iff.1 h
      refine mops_call rfl hf10 (av := [.sl false r_.1.length (cat (nI .u8) r_.1)]) (by kernel_rfl) (v := .tup [.agg [.s (.int .i64 r_4.1.Page), .s (.int .u8 r_4.1.Code), .s (.int .i64 r_4.1.Entry.Op), .s (.int .i64 r_4.1.Entry.Mode), .s (.int .i64 r_4.1.Entry.Reg), .s (.int .u8 r_4.1.Post), .s (.int .u16 r_4.1.Value), .s (.int .i64 r_4.1.Len)], .s (.bool r_4.2)]) (CalL.pure (spinetref18_Of_ok r_.1 r_4 hx_r_4) (by simp [V.static, statics, cat_stat]) rfl (Nat.le_of_ble_eq_true (by kernel_rfl))) (fun _ => rfl) fun f11 hf11 => ?_
      refine mops_en hf11 (by kernel_rfl) fun f12 hf12 => ?_
      refine k_c ?_
      refine k_seq ?_
      refine k_reg ?_
      refine mops_seg [2, 4, 5, 7, 10, 11, 64, 65, 67] 9 hf12 (l' := [⟨2, [], .ptr 0 0 0⟩, ⟨4, [], .s (.bool false)⟩, ⟨5, [], .sl false r_.1.length (cat (nI .u8) r_.1)⟩, ⟨7, [], .s (.bool r_1)⟩, ⟨10, [], .ptr 1 0 0⟩, ⟨11, [], .s (.bool r_4.2)⟩, ⟨64, [], .s (.bool (decide ((ln r_.1) ≤ (ln b_))))⟩, ⟨65, [(64, true)], .sl false b_.length (cat (nI .u8) b_)⟩, ⟨67, [(64, true)], .s (.int .i64 (ln r_.1))⟩]) (L' := [⟨0, .mem, 1, [.s (.int .i64 i_.Page), .s (.int .u8 i_.Code), .s (.int .i64 i_.Entry.Op), .s (.int .i64 i_.Entry.Mode), .s (.int .i64 i_.Entry.Reg), .s (.int .u8 i_.Post), .s (.int .u16 i_.Value), .s (.int .i64 i_.Len)]⟩, ⟨0, .mem, 1, [.s (.int .i64 r_4.1.Page), .s (.int .u8 r_4.1.Code), .s (.int .i64 r_4.1.Entry.Op), .s (.int .i64 r_4.1.Entry.Mode), .s (.int .i64 r_4.1.Entry.Reg), .s (.int .u8 r_4.1.Post), .s (.int .u16 r_4.1.Value), .s (.int .i64 r_4.1.Len)]⟩]) (by kernel_rfl) fun f13 hf13 => ?_
      obtain ⟨c4, h⟩ := as_ok h
      refine mops_gadv (dst := (some 68)) (op := (.slice 1 (.t 65) none (some (.t 67)))) (aft := [6, 8, 5]) (t := 64) (w := true) (ch := [(64, true)]) (b := (decide ((ln r_.1) ≤ (ln b_)))) (v := .sl (false && ((ln r_.1) : Int).toNat == b_.length) (((ln r_.1) : Int).toNat - 0) (cat (nI .u8) (b_.drop 0))) (by kernel_rfl) hf13 (by kernel_rfl) (by kernel_rfl) (by kernel_rfl) (fun hb5 => e_slice_sl (g := (nI .u8)) (l := b_) (n := b_.length) (u := false) (by kernel_rfl) (b_ns (k := .i64) (iv := (ln r_.1)) (by kernel_rfl) (c4 hb5))) fun f14 hf14 => ?_
      refine mops_sg 1 hf14 (by kernel_rfl) fun f15 hf15 => ?_
      obtain ⟨r_5, hx_r_5, h⟩ := Option.bind_eq_some_iff.1 h
      refine mops_gcall (dst := (some 70)) (m := 10) (args := [(.t 68), (.t 69)]) (aft := [9, 10, 5, 5]) (t := 64) (w := true) (ch := [(64, true)]) (b := (decide ((ln r_.1) ≤ (ln b_)))) (by kernel_rfl) hf15 (by kernel_rfl) (by kernel_rfl) (av := [.sl (false && ((ln r_.1) : Int).toNat == b_.length) (((ln r_.1) : Int).toNat - 0) (cat (nI .u8) (b_.drop 0)), .sl false r_.1.length (cat (nI .u8) r_.1)]) (by kernel_rfl) (v := .s (.bool r_5)) (by kernel_rfl) (fun hb6 => (CalL.purew (bytes_Equal_ok ((b_.drop 0).take (((ln r_.1) : Int).toNat - 0)) r_.1 r_5 (if_t hx_r_5 hb6)) (Wks.cons (Wk.part (g := (nI .u8)) (cut_le (l := b_) (a := 0) (b := ((ln r_.1) : Int).toNat) (cut_ns (n := b_.length) (c4 hb6)) rfl)) (Wks.cons Wk.refl Wks.nil)) (by simp [V.static, statics, cat_stat]) rfl (by kernel_rfl))) fun f16 hf16 => ?_
      refine mops_en hf16 (by kernel_rfl) fun f17 hf17 => ?_
      refine k_c ?_
      refine k_seq ?_
      refine k_reg ?_
      refine mops_sg 19 hf17 (by kernel_rfl) fun f18 hf18 => ?_
      obtain ⟨r_6, hx_r_6, h⟩ := Option.bind_eq_some_iff.1 h
      refine mops_gcall (dst := (some 91)) (m := 7) (args := []) (aft := [18, 18]) (t := 90) (w := true) (ch := [(90, true)]) (b := (((r_4.2 && ((r_4.1.Page == i_.Page) && ((r_4.1.Code == i_.Code) && ((r_4.1.Entry.Op == i_.Entry.Op) && ((r_4.1.Entry.Mode == i_.Entry.Mode) && ((r_4.1.Entry.Reg == i_.Entry.Reg) && ((r_4.1.Post == i_.Post) && ((r_4.1.Value == i_.Value) && ((r_4.1.Len == i_.Len) && true))))))))) && (r_4.1.Len == (ln r_.1))) && (r_1 == ((decide ((ln r_.1) ≤ (ln b_))) && r_5)))) (by kernel_rfl) hf18 (by kernel_rfl) (by kernel_rfl) (av := []) (by kernel_rfl) (v := .s (.bool r_6)) (by kernel_rfl) (fun hb7 => (CalL.pure (spinetlaw18_alive_ok  r_6 (if_t hx_r_6 hb7)) rfl rfl (Nat.le_of_ble_eq_true (by kernel_rfl)))) fun f19 hf19 => ?_
      refine mops_en hf19 (by kernel_rfl) fun f20 hf20 => ?_
      refine k_c ?_
      refine k_ret ?_
      obtain rfl := Option.some.inj h
      exact k_fin (fin_ret (.inl rfl) hf20 (vs := [.s (.bool ((((r_4.2 && ((r_4.1.Page == i_.Page) && ((r_4.1.Code == i_.Code) && ((r_4.1.Entry.Op == i_.Entry.Op) && ((r_4.1.Entry.Mode == i_.Entry.Mode) && ((r_4.1.Entry.Reg == i_.Entry.Reg) && ((r_4.1.Post == i_.Post) && ((r_4.1.Value == i_.Value) && ((r_4.1.Len == i_.Len) && true))))))))) && (r_4.1.Len == (ln r_.1))) && (r_1 == ((decide ((ln r_.1) ≤ (ln b_))) && r_5))) && r_6))]) (by kernel_rfl) (SettL.pure (FzL.stat rfl)))
end Go.Proofs.YtmabdijipkmmkaaK
