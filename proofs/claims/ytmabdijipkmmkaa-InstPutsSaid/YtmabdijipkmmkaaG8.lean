/- The Go functions come to the functions over typed data. Printed by a program of this work. -/
import Derived.Test.YtmabdijipkmmkaaF
import Derived.Test.YtmabdijipkmmkaaProg
import Derived.Test.YtmabdijipkmmkaaG0
import Derived.Test.YtmabdijipkmmkaaG1
import Derived.Test.YtmabdijipkmmkaaG2
import Derived.Test.YtmabdijipkmmkaaG5
import Derived.Test.YtmabdijipkmmkaaG6
import Derived.Test.YtmabdijipkmmkaaG7
namespace Go.Proofs.YtmabdijipkmmkaaK
set_option linter.unusedVariables false
set_option linter.unusedSimpArgs false
set_option maxHeartbeats 4000000
open Go.RowKit
attribute [local irreducible] dwv mops lops lqops lwops kont iter run runK rk okK ex E1 vals val chain chB sel resF
def inst_Of_i0 : List Op1 := [(oE 2 (.zero [(.int .i64 0), (.int .u8 0), (.int .i64 0), (.int .i64 0), (.int .i64 0), (.int .u8 0), (.int .u16 0), (.int .i64 0)]) []), (oM 3 (.k (.int .i64 0)) [])]
def inst_Of_i1 : List Op1 := [(oM 9 (.t 0) []), (oE 10 (.build [(.slice none 0 0), (.int .i64 0), (.bool false)] [(0, (1, (.t 9)))]) [0]), (oE 11 (.box (.t 10)) [1]), (oM 4 (.t 11) [2, 0, 1, 2])]
def inst_Of_i2 : List Op1 := [(oM 12 (.t 4) []), (oC 13 13 [(.t 12)] [0]), (oE 14 (.build [(.int .i64 0), (.int .u8 0), (.int .i64 0), (.int .i64 0), (.int .i64 0), (.int .u8 0), (.int .u16 0), (.int .i64 0)] [(0, (1, (.k (.int .i64 1)))), (1, (1, (.t 13)))]) [1]), (oE 5 (.zero [(.int .i64 0), (.int .u8 0), (.int .i64 0), (.int .i64 0), (.int .i64 0), (.int .u8 0), (.int .u16 0), (.int .i64 0)]) []), (oN (.store 8 (.t 5) (.t 14)) [3, 2, 1, 0, 1, 2, 3])]
def inst_Of_i3 : List Op1 := [(oE 15 (.fld 1 (.t 5)) []), (oE 16 (.load false 1 (.t 15)) [0]), (oC 17 14 [(.t 16)] [1]), (oM 6 (.t 17) [2, 2, 0, 1, 2])]
def inst_Of_i4 : List Op1 := [(oM 18 (.t 6) []), (oE 19 (.bin .neq (.t 18) (.k (.int .i64 0))) [0])]
def inst_Of_i5 : List Op1 := [(oM 20 (.t 6) []), (oM 21 (.t 4) []), (oC 22 13 [(.t 21)] [1]), (oE 23 (.fld 0 (.t 5)) [0]), (oN (.store 1 (.t 23) (.t 20)) [3, 0, 2, 0]), (oE 24 (.fld 1 (.t 5)) [0, 1, 2, 3, 4]), (oN (.store 1 (.t 24) (.t 22)) [5, 2, 4, 0, 1, 2, 3, 4])]
def inst_Of_i6 : IR := (.cond (.t 19) (.reg false inst_Of_i5) .skip)
def inst_Of_i7 : IR := (.seq (.reg false inst_Of_i4) inst_Of_i6)
def inst_Of_i8 : List Op1 := [(oE 25 (.fld 0 (.t 5)) []), (oE 26 (.load false 1 (.t 25)) [0]), (oE 27 (.fld 1 (.t 5)) []), (oE 28 (.load false 1 (.t 27)) [2]), (oC 29 15 [(.t 26), (.t 28)] [1, 3]), (oE 30 (.fld 2 (.t 5)) [0, 1, 2, 3, 4]), (oN (.store 3 (.t 30) (.t 29)) [5, 4, 4, 0, 1, 2, 3, 4])]
def inst_Of_i9 : List Op1 := [(oE 31 (.fld 2 (.t 5)) []), (oE 32 (.fld 1 (.t 31)) [0]), (oE 33 (.load false 1 (.t 32)) [1]), (oC 34 16 [(.t 33)] [2])]
def inst_Of_i10 : List Op1 := [(oM 35 (.t 4) []), (oC 36 13 [(.t 35)] [0]), (oE 37 (.fld 5 (.t 5)) [0, 1]), (oN (.store 1 (.t 37) (.t 36)) [2, 1, 1, 0, 1])]
def inst_Of_i11 : IR := (.cond (.t 34) (.reg false inst_Of_i10) .skip)
def inst_Of_i12 : List Op1 := [(oE 39 (.fld 2 (.t 5)) []), (oE 40 (.fld 1 (.t 39)) [0]), (oE 41 (.load false 1 (.t 40)) [1]), (oE 42 (.fld 5 (.t 5)) []), (oE 43 (.load false 1 (.t 42)) [3]), (oC 44 17 [(.t 41), (.t 43)] [2, 4]), (oM 38 (.t 44) [5]), (oE 45 (.ext 0 (.t 38)) [6]), (oE 46 (.ext 1 (.t 38)) [6]), (oM 7 (.t 45) [7, 5, 0, 1, 2, 3, 4, 5, 6, 7]), (oM 8 (.t 46) [8, 9, 0, 1, 2, 3, 4, 5, 6, 7, 8, 9])]
def inst_Of_i13 : List Op1 := [(oM 47 (.t 4) []), (oM 48 (.t 7) []), (oM 49 (.t 8) []), (oC 50 18 [(.t 47), (.t 48), (.t 49)] [0, 1, 2]), (oE 51 (.fld 6 (.t 5)) [0, 1, 2, 3]), (oN (.store 1 (.t 51) (.t 50)) [4, 3, 3, 0, 1, 2, 3])]
def inst_Of_i14 : List Op1 := [(oM 52 (.t 4) []), (oE 53 (.nilc (.t 52)) [0]), (oE 54 (.fld 1 (.t 53)) [1]), (oE 55 (.load false 1 (.t 54)) [2]), (oE 56 (.fld 7 (.t 5)) [0, 1, 2, 3]), (oN (.store 1 (.t 56) (.t 55)) [4, 3, 0, 1, 2, 3])]
def inst_Of_i15 : List Op1 := [(oM 57 (.t 4) []), (oE 58 (.nilc (.t 57)) [0]), (oE 59 (.fld 2 (.t 58)) [1]), (oE 60 (.load false 1 (.t 59)) [2])]
def inst_Of_i16 : List Op1 := [(oE 61 (.build [(.int .i64 0), (.int .u8 0), (.int .i64 0), (.int .i64 0), (.int .i64 0), (.int .u8 0), (.int .u16 0), (.int .i64 0)] []) []), (oN (.store 8 (.t 2) (.t 61)) [0, 0]), (oM 3 (.k (.int .i64 20)) [1, 0, 1])]
def inst_Of_i17 : IR := .ret
def inst_Of_i18 : IR := (.cond (.t 60) (.seq (.reg false inst_Of_i16) inst_Of_i17) .skip)
def inst_Of_i19 : List Op1 := [(oE 62 (.load true 8 (.t 5)) []), (oN (.store 8 (.t 2) (.t 62)) [0, 0]), (oM 3 (.k (.int .i64 0)) [1, 0, 1])]
def inst_Of_i20 : IR := .ret
def inst_Of_i21 : IR := (.seq (.reg false inst_Of_i19) inst_Of_i20)
def inst_Of_i22 : IR := (.seq (.seq (.reg false inst_Of_i15) inst_Of_i18) inst_Of_i21)
def inst_Of_i23 : IR := (.seq (.reg false inst_Of_i14) inst_Of_i22)
def inst_Of_i24 : IR := (.seq (.reg false inst_Of_i13) inst_Of_i23)
def inst_Of_i25 : IR := (.seq (.reg false inst_Of_i12) inst_Of_i24)
def inst_Of_i26 : IR := (.seq (.seq (.reg false inst_Of_i9) inst_Of_i11) inst_Of_i25)
def inst_Of_i27 : IR := (.seq (.reg false inst_Of_i8) inst_Of_i26)
def inst_Of_i28 : IR := (.seq (.seq (.reg false inst_Of_i3) inst_Of_i7) inst_Of_i27)
def inst_Of_i29 : IR := (.seq (.reg false inst_Of_i2) inst_Of_i28)
def inst_Of_i30 : IR := (.seq (.reg false inst_Of_i1) inst_Of_i29)
def inst_Of_ir : IR := (.seq (.reg false inst_Of_i0) inst_Of_i30)
theorem inst_Of_cfn : cFn Try.prog 5 [13, 18] = some (inst_Of_ir, [(.c 2 true 8), (.t 3)], 63) := by kernel_rfl
def inst_Of_V (r : (api_Inst × Int)) : V := .tup [.agg [.s (.int .i64 r.1.Page), .s (.int .u8 r.1.Code), .s (.int .i64 r.1.Entry.Op), .s (.int .i64 r.1.Entry.Mode), .s (.int .i64 r.1.Entry.Reg), .s (.int .u8 r.1.Post), .s (.int .u16 r.1.Value), .s (.int .i64 r.1.Len)], .s (.int .i64 r.2)]
def inst_Of_C (r : (api_Inst × Int)) : X → Fr → Hp → Prop := FinL [(.c 2 true 8), (.t 3)] [] (inst_Of_V r) []
theorem inst_Of_ok (b_ : (List Int)) (r : (api_Inst × Int)) (h : inst_Of b_ = some r) : Pure Try.prog 5 [.sl false b_.length (cat (nI .u8) b_)] (inst_Of_V r) := by
  refine ConL.of inst_Of_cfn (Nat.le_of_ble_eq_true (by kernel_rfl)) (Nat.le_of_ble_eq_true (by kernel_rfl)) ?_
  refine k_start ?_
  show dwv Try.prog [] inst_Of_ir (kont Try.prog [] (inst_Of_C r) []) (fr0 [.sl false b_.length (cat (nI .u8) b_)]) []
  have hf : FOk (fr0 [.sl false b_.length (cat (nI .u8) b_)]) [⟨0, [], .sl false b_.length (cat (nI .u8) b_)⟩] := ⟨⟨fun _ => rfl, fun h => (h trivial).elim⟩, trivial⟩
  generalize fr0 [.sl false b_.length (cat (nI .u8) b_)] = f at hf ⊢
  unfold inst_Of at h
  refine k_seq ?_
  refine k_reg ?_
  refine mops_en hf (by kernel_rfl) fun f1 hf1 => ?_
  refine k_c ?_
  refine k_seq ?_
  refine k_reg ?_
  refine mops_en hf1 (by kernel_rfl) fun f2 hf2 => ?_
  refine k_c ?_
  refine k_seq ?_
  refine k_reg ?_
  refine mops_sg 1 hf2 (by kernel_rfl) fun f3 hf3 => ?_
  obtain ⟨r_, hx_r_, h⟩ := Option.bind_eq_some_iff.1 h
  refine mops_call rfl hf3 (av := [.ptr 1 0 0]) (by kernel_rfl) (v := .s (.int .u8 r_.1)) (L' := [⟨0, .mem, 1, [.s (.int .i64 0), .s (.int .u8 0), .s (.int .i64 0), .s (.int .i64 0), .s (.int .i64 0), .s (.int .u8 0), .s (.int .u16 0), .s (.int .i64 0)]⟩, ⟨0, .mem, 1, [.sl false r_.2.b.length (cat (nI .u8) r_.2.b), .s (.int .i64 r_.2.n), .s (.bool r_.2.short)]⟩]) (CalL.borrow (M := [⟨0, .mem, 1, [.sl false b_.length (cat (nI .u8) b_), .s (.int .i64 0), .s (.bool false)]⟩]) (M' := [⟨0, .mem, 1, [.sl false r_.2.b.length (cat (nI .u8) r_.2.b), .s (.int .i64 r_.2.n), .s (.bool r_.2.short)]⟩]) [1] (inst_reader_next_ok (inst_reader.mk b_ (0) false) r_ hx_r_) (by kernel_rfl) (RNs.cons (RN.ptr (by kernel_rfl)) RNs.nil) (RN.stat rfl) (RBs.cons (RNs.stat (by simp [statics, V.static, cat_stat])) RBs.nil) (RBs.cons (RNs.stat (by simp [statics, V.static, cat_stat])) RBs.nil) (by kernel_rfl) (by kernel_rfl)) (by intro h; cases h) fun f4 hf4 => ?_
  refine mops_en hf4 (by kernel_rfl) fun f5 hf5 => ?_
  refine k_c ?_
  refine k_seq ?_
  refine k_seq ?_
  refine k_reg ?_
  refine mops_sg 2 hf5 (by kernel_rfl) fun f6 hf6 => ?_
  obtain ⟨r_1, hx_r_1, h⟩ := Option.bind_eq_some_iff.1 h
  refine mops_call rfl hf6 (av := [.s (.int .u8 r_.1)]) (by kernel_rfl) (v := .s (.int .i64 r_1)) (CalL.pure (page_Prefix_ok r_.1 r_1 hx_r_1) rfl rfl (Nat.le_of_ble_eq_true (by kernel_rfl))) (fun _ => rfl) fun f7 hf7 => ?_
  refine mops_en hf7 (by kernel_rfl) fun f8 hf8 => ?_
  refine k_c ?_
  refine k_seq ?_
  refine k_reg ?_
  refine mops_en hf8 (by kernel_rfl) fun f9 hf9 => ?_
  refine k_c ?_
  have hj1 : ∀ (m_ : (List Int)) (m_1 : Int) (m_2 : Bool) (m_3 : Int) (m_4 : Int), inst_Of_j1 m_ m_1 m_2 m_3 m_4 = some r → ∀ f, FOk f [⟨2, [], .ptr 0 0 0⟩, ⟨3, [], .s (.int .i64 0)⟩, ⟨4, [], .ptr 1 0 0⟩, ⟨5, [], .ptr 2 0 0⟩] → kont Try.prog [] (inst_Of_C r) ((.c inst_Of_i27) :: []) .normal f [⟨0, .mem, 1, [.s (.int .i64 0), .s (.int .u8 0), .s (.int .i64 0), .s (.int .i64 0), .s (.int .i64 0), .s (.int .u8 0), .s (.int .u16 0), .s (.int .i64 0)]⟩, ⟨0, .mem, 1, [.sl false m_.length (cat (nI .u8) m_), .s (.int .i64 m_1), .s (.bool m_2)]⟩, ⟨0, .mem, 1, [.s (.int .i64 m_3), .s (.int .u8 m_4), .s (.int .i64 0), .s (.int .i64 0), .s (.int .i64 0), .s (.int .u8 0), .s (.int .u16 0), .s (.int .i64 0)]⟩] := by
    intro m_ m_1 m_2 m_3 m_4 h f hf
    unfold inst_Of_j1 at h
    refine k_c ?_
    refine k_seq ?_
    refine k_reg ?_
    refine mops_sg 4 hf (by kernel_rfl) fun f1 hf1 => ?_
    obtain ⟨r_3, hx_r_3, h⟩ := Option.bind_eq_some_iff.1 h
    refine mops_call rfl hf1 (av := [.s (.int .i64 m_3), .s (.int .u8 m_4)]) (by kernel_rfl) (v := .agg [.s (.int .i64 r_3.Op), .s (.int .i64 r_3.Mode), .s (.int .i64 r_3.Reg)]) (CalL.pure (page_Of_ok m_3 m_4 r_3 hx_r_3) rfl rfl (Nat.le_of_ble_eq_true (by kernel_rfl))) (fun _ => rfl) fun f2 hf2 => ?_
    refine mops_en hf2 (by kernel_rfl) fun f3 hf3 => ?_
    refine k_c ?_
    refine k_seq ?_
    refine k_seq ?_
    refine k_reg ?_
    refine mops_sg 3 hf3 (by kernel_rfl) fun f4 hf4 => ?_
    obtain ⟨r_4, hx_r_4, h⟩ := Option.bind_eq_some_iff.1 h
    refine mops_call rfl hf4 (av := [.s (.int .i64 r_3.Mode)]) (by kernel_rfl) (v := .s (.bool r_4)) (CalL.pure (inst_posted_ok r_3.Mode r_4 hx_r_4) rfl rfl (Nat.le_of_ble_eq_true (by kernel_rfl))) (fun _ => rfl) fun f5 hf5 => ?_
    refine mops_en hf5 (by kernel_rfl) fun f6 hf6 => ?_
    refine k_c ?_
    have hj2 : ∀ (m_5 : (List Int)) (m_6 : Int) (m_7 : Bool) (m_8 : Int), inst_Of_j0 m_3 m_4 r_3 m_5 m_6 m_7 m_8 = some r → ∀ f, FOk f [⟨2, [], .ptr 0 0 0⟩, ⟨3, [], .s (.int .i64 0)⟩, ⟨4, [], .ptr 1 0 0⟩, ⟨5, [], .ptr 2 0 0⟩] → kont Try.prog [] (inst_Of_C r) ((.c inst_Of_i25) :: []) .normal f [⟨0, .mem, 1, [.s (.int .i64 0), .s (.int .u8 0), .s (.int .i64 0), .s (.int .i64 0), .s (.int .i64 0), .s (.int .u8 0), .s (.int .u16 0), .s (.int .i64 0)]⟩, ⟨0, .mem, 1, [.sl false m_5.length (cat (nI .u8) m_5), .s (.int .i64 m_6), .s (.bool m_7)]⟩, ⟨0, .mem, 1, [.s (.int .i64 m_3), .s (.int .u8 m_4), .s (.int .i64 r_3.Op), .s (.int .i64 r_3.Mode), .s (.int .i64 r_3.Reg), .s (.int .u8 m_8), .s (.int .u16 0), .s (.int .i64 0)]⟩] := by
      intro m_5 m_6 m_7 m_8 h f hf
      unfold inst_Of_j0 at h
      refine k_c ?_
      refine k_seq ?_
      refine k_reg ?_
      refine mops_sg 5 hf (by kernel_rfl) fun f1 hf1 => ?_
      obtain ⟨r_6, hx_r_6, h⟩ := Option.bind_eq_some_iff.1 h
      refine mops_call rfl hf1 (av := [.s (.int .i64 r_3.Mode), .s (.int .u8 m_8)]) (by kernel_rfl) (v := .tup [.s (.int .i64 r_6.1), .s (.bool r_6.2)]) (CalL.pure (inst_behind_ok r_3.Mode m_8 r_6 hx_r_6) rfl rfl (Nat.le_of_ble_eq_true (by kernel_rfl))) (fun _ => rfl) fun f2 hf2 => ?_
      refine mops_en hf2 (by kernel_rfl) fun f3 hf3 => ?_
      refine k_c ?_
      refine k_seq ?_
      refine k_reg ?_
      refine mops_sg 3 hf3 (by kernel_rfl) fun f4 hf4 => ?_
      obtain ⟨r_7, hx_r_7, h⟩ := Option.bind_eq_some_iff.1 h
      refine mops_call rfl hf4 (av := [.ptr 1 0 0, .s (.int .i64 r_6.1), .s (.bool r_6.2)]) (by kernel_rfl) (v := .s (.int .u16 r_7.1)) (L' := [⟨0, .mem, 1, [.s (.int .i64 0), .s (.int .u8 0), .s (.int .i64 0), .s (.int .i64 0), .s (.int .i64 0), .s (.int .u8 0), .s (.int .u16 0), .s (.int .i64 0)]⟩, ⟨0, .mem, 1, [.sl false r_7.2.b.length (cat (nI .u8) r_7.2.b), .s (.int .i64 r_7.2.n), .s (.bool r_7.2.short)]⟩, ⟨0, .mem, 1, [.s (.int .i64 m_3), .s (.int .u8 m_4), .s (.int .i64 r_3.Op), .s (.int .i64 r_3.Mode), .s (.int .i64 r_3.Reg), .s (.int .u8 m_8), .s (.int .u16 0), .s (.int .i64 0)]⟩]) (CalL.borrow (M := [⟨0, .mem, 1, [.sl false m_5.length (cat (nI .u8) m_5), .s (.int .i64 m_6), .s (.bool m_7)]⟩]) (M' := [⟨0, .mem, 1, [.sl false r_7.2.b.length (cat (nI .u8) r_7.2.b), .s (.int .i64 r_7.2.n), .s (.bool r_7.2.short)]⟩]) [1] (inst_reader_value_ok (inst_reader.mk m_5 m_6 m_7) r_6.1 r_6.2 r_7 hx_r_7) (by kernel_rfl) (RNs.cons (RN.ptr (by kernel_rfl)) (RNs.cons (RN.stat rfl) (RNs.cons (RN.stat rfl) RNs.nil))) (RN.stat rfl) (RBs.cons (RNs.stat (by simp [statics, V.static, cat_stat])) RBs.nil) (RBs.cons (RNs.stat (by simp [statics, V.static, cat_stat])) RBs.nil) (by kernel_rfl) (by kernel_rfl)) (by intro h; cases h) fun f5 hf5 => ?_
      refine mops_en hf5 (by kernel_rfl) fun f6 hf6 => ?_
      refine k_c ?_
      refine k_seq ?_
      refine k_reg ?_
      refine mops_en hf6 (by kernel_rfl) fun f7 hf7 => ?_
      refine k_c ?_
      refine k_seq ?_
      refine k_seq ?_
      refine k_reg ?_
      refine mops_en hf7 (by kernel_rfl) fun f8 hf8 => ?_
      refine k_c ?_
      refine k_cond hf8 (t := r_7.2.short) (by kernel_rfl) (fun hc3 => ?_) (fun hc3 => ?_)
      · have h := if_t h hc3
        refine k_seq ?_
        refine k_reg ?_
        refine mops_en hf8 (by kernel_rfl) fun f9 hf9 => ?_
        refine k_c ?_
        refine k_ret ?_
        refine x_c nofun ?_
        obtain rfl := Option.some.inj h
        exact k_fin (fin_ret (.inl rfl) hf9 (vs := [.agg [.s (.int .i64 0), .s (.int .u8 0), .s (.int .i64 0), .s (.int .i64 0), .s (.int .i64 0), .s (.int .u8 0), .s (.int .u16 0), .s (.int .i64 0)], .s (.int .i64 20)]) (by kernel_rfl) (SettL.pure (FzL.tup (FzsL.cons (FzL.stat rfl) (FzsL.cons (FzL.stat rfl) FzsL.nil)))))
      · have h := if_f h hc3
        refine k_skip ?_
        refine k_c ?_
        refine k_seq ?_
        refine k_reg ?_
        refine mops_en hf8 (by kernel_rfl) fun f9 hf9 => ?_
        refine k_c ?_
        refine k_ret ?_
        obtain rfl := Option.some.inj h
        exact k_fin (fin_ret (.inl rfl) hf9 (vs := [.agg [.s (.int .i64 m_3), .s (.int .u8 m_4), .s (.int .i64 r_3.Op), .s (.int .i64 r_3.Mode), .s (.int .i64 r_3.Reg), .s (.int .u8 m_8), .s (.int .u16 r_7.1), .s (.int .i64 r_7.2.n)], .s (.int .i64 0)]) (by kernel_rfl) (SettL.pure (FzL.tup (FzsL.cons (FzL.stat rfl) (FzsL.cons (FzL.stat rfl) FzsL.nil)))))
    refine k_cond hf6 (t := r_4) (by kernel_rfl) (fun hc2 => ?_) (fun hc2 => ?_)
    · have h := if_t h hc2
      refine k_reg ?_
      refine mops_sg 1 hf6 (by kernel_rfl) fun f7 hf7 => ?_
      obtain ⟨r_5, hx_r_5, h⟩ := Option.bind_eq_some_iff.1 h
      refine mops_call rfl hf7 (av := [.ptr 1 0 0]) (by kernel_rfl) (v := .s (.int .u8 r_5.1)) (L' := [⟨0, .mem, 1, [.s (.int .i64 0), .s (.int .u8 0), .s (.int .i64 0), .s (.int .i64 0), .s (.int .i64 0), .s (.int .u8 0), .s (.int .u16 0), .s (.int .i64 0)]⟩, ⟨0, .mem, 1, [.sl false r_5.2.b.length (cat (nI .u8) r_5.2.b), .s (.int .i64 r_5.2.n), .s (.bool r_5.2.short)]⟩, ⟨0, .mem, 1, [.s (.int .i64 m_3), .s (.int .u8 m_4), .s (.int .i64 r_3.Op), .s (.int .i64 r_3.Mode), .s (.int .i64 r_3.Reg), .s (.int .u8 0), .s (.int .u16 0), .s (.int .i64 0)]⟩]) (CalL.borrow (M := [⟨0, .mem, 1, [.sl false m_.length (cat (nI .u8) m_), .s (.int .i64 m_1), .s (.bool m_2)]⟩]) (M' := [⟨0, .mem, 1, [.sl false r_5.2.b.length (cat (nI .u8) r_5.2.b), .s (.int .i64 r_5.2.n), .s (.bool r_5.2.short)]⟩]) [1] (inst_reader_next_ok (inst_reader.mk m_ m_1 m_2) r_5 hx_r_5) (by kernel_rfl) (RNs.cons (RN.ptr (by kernel_rfl)) RNs.nil) (RN.stat rfl) (RBs.cons (RNs.stat (by simp [statics, V.static, cat_stat])) RBs.nil) (RBs.cons (RNs.stat (by simp [statics, V.static, cat_stat])) RBs.nil) (by kernel_rfl) (by kernel_rfl)) (by intro h; cases h) fun f8 hf8 => ?_
      refine mops_en hf8 (by kernel_rfl) fun f9 hf9 => ?_
      refine k_hp (L' := [⟨0, .mem, 1, [.s (.int .i64 0), .s (.int .u8 0), .s (.int .i64 0), .s (.int .i64 0), .s (.int .i64 0), .s (.int .u8 0), .s (.int .u16 0), .s (.int .i64 0)]⟩, ⟨0, .mem, 1, [.sl false r_5.2.b.length (cat (nI .u8) r_5.2.b), .s (.int .i64 r_5.2.n), .s (.bool r_5.2.short)]⟩, ⟨0, .mem, 1, [.s (.int .i64 m_3), .s (.int .u8 m_4), .s (.int .i64 r_3.Op), .s (.int .i64 r_3.Mode), .s (.int .i64 r_3.Reg), .s (.int .u8 r_5.1), .s (.int .u16 0), .s (.int .i64 0)]⟩]) (by kernel_rfl) ?_
      exact hj2 r_5.2.b r_5.2.n r_5.2.short r_5.1 h _ (FOk_of [2, 3, 4, 5] hf9 (by kernel_rfl))
    · have h := if_f h hc2
      refine k_skip ?_
      refine k_hp (L' := [⟨0, .mem, 1, [.s (.int .i64 0), .s (.int .u8 0), .s (.int .i64 0), .s (.int .i64 0), .s (.int .i64 0), .s (.int .u8 0), .s (.int .u16 0), .s (.int .i64 0)]⟩, ⟨0, .mem, 1, [.sl false m_.length (cat (nI .u8) m_), .s (.int .i64 m_1), .s (.bool m_2)]⟩, ⟨0, .mem, 1, [.s (.int .i64 m_3), .s (.int .u8 m_4), .s (.int .i64 r_3.Op), .s (.int .i64 r_3.Mode), .s (.int .i64 r_3.Reg), .s (.int .u8 0), .s (.int .u16 0), .s (.int .i64 0)]⟩]) (by kernel_rfl) ?_
      exact hj2 m_ m_1 m_2 (0) h _ (FOk_of [2, 3, 4, 5] hf6 (by kernel_rfl))
  refine k_cond hf9 (t := (r_1 != 0)) (by kernel_rfl) (fun hc1 => ?_) (fun hc1 => ?_)
  · have h := if_t h hc1
    refine k_reg ?_
    refine mops_sg 2 hf9 (by kernel_rfl) fun f10 hf10 => ?_
    obtain ⟨r_2, hx_r_2, h⟩ := Option.bind_eq_some_iff.1 h
    refine mops_call rfl hf10 (av := [.ptr 1 0 0]) (by kernel_rfl) (v := .s (.int .u8 r_2.1)) (L' := [⟨0, .mem, 1, [.s (.int .i64 0), .s (.int .u8 0), .s (.int .i64 0), .s (.int .i64 0), .s (.int .i64 0), .s (.int .u8 0), .s (.int .u16 0), .s (.int .i64 0)]⟩, ⟨0, .mem, 1, [.sl false r_2.2.b.length (cat (nI .u8) r_2.2.b), .s (.int .i64 r_2.2.n), .s (.bool r_2.2.short)]⟩, ⟨0, .mem, 1, [.s (.int .i64 1), .s (.int .u8 r_.1), .s (.int .i64 0), .s (.int .i64 0), .s (.int .i64 0), .s (.int .u8 0), .s (.int .u16 0), .s (.int .i64 0)]⟩]) (CalL.borrow (M := [⟨0, .mem, 1, [.sl false r_.2.b.length (cat (nI .u8) r_.2.b), .s (.int .i64 r_.2.n), .s (.bool r_.2.short)]⟩]) (M' := [⟨0, .mem, 1, [.sl false r_2.2.b.length (cat (nI .u8) r_2.2.b), .s (.int .i64 r_2.2.n), .s (.bool r_2.2.short)]⟩]) [1] (inst_reader_next_ok r_.2 r_2 hx_r_2) (by kernel_rfl) (RNs.cons (RN.ptr (by kernel_rfl)) RNs.nil) (RN.stat rfl) (RBs.cons (RNs.stat (by simp [statics, V.static, cat_stat])) RBs.nil) (RBs.cons (RNs.stat (by simp [statics, V.static, cat_stat])) RBs.nil) (by kernel_rfl) (by kernel_rfl)) (by intro h; cases h) fun f11 hf11 => ?_
    refine mops_en hf11 (by kernel_rfl) fun f12 hf12 => ?_
    refine k_hp (L' := [⟨0, .mem, 1, [.s (.int .i64 0), .s (.int .u8 0), .s (.int .i64 0), .s (.int .i64 0), .s (.int .i64 0), .s (.int .u8 0), .s (.int .u16 0), .s (.int .i64 0)]⟩, ⟨0, .mem, 1, [.sl false r_2.2.b.length (cat (nI .u8) r_2.2.b), .s (.int .i64 r_2.2.n), .s (.bool r_2.2.short)]⟩, ⟨0, .mem, 1, [.s (.int .i64 r_1), .s (.int .u8 r_2.1), .s (.int .i64 0), .s (.int .i64 0), .s (.int .i64 0), .s (.int .u8 0), .s (.int .u16 0), .s (.int .i64 0)]⟩]) (by kernel_rfl) ?_
    exact hj1 r_2.2.b r_2.2.n r_2.2.short r_1 r_2.1 h _ (FOk_of [2, 3, 4, 5] hf12 (by kernel_rfl))
  · have h := if_f h hc1
    refine k_skip ?_
    refine k_hp (L' := [⟨0, .mem, 1, [.s (.int .i64 0), .s (.int .u8 0), .s (.int .i64 0), .s (.int .i64 0), .s (.int .i64 0), .s (.int .u8 0), .s (.int .u16 0), .s (.int .i64 0)]⟩, ⟨0, .mem, 1, [.sl false r_.2.b.length (cat (nI .u8) r_.2.b), .s (.int .i64 r_.2.n), .s (.bool r_.2.short)]⟩, ⟨0, .mem, 1, [.s (.int .i64 1), .s (.int .u8 r_.1), .s (.int .i64 0), .s (.int .i64 0), .s (.int .i64 0), .s (.int .u8 0), .s (.int .u16 0), .s (.int .i64 0)]⟩]) (by kernel_rfl) ?_
    exact hj1 r_.2.b r_.2.n r_.2.short (1) r_.1 h _ (FOk_of [2, 3, 4, 5] hf9 (by kernel_rfl))
def spinetlaw18_alive_i0 : List Op1 := [(oM 0 (.k (.bool false)) [])]
def spinetlaw18_alive_i1 : List Op1 := [(oE 6 (.bsl 4 [(.int .u8 0), (.int .u8 0), (.int .u8 0), (.int .u8 0)] [(0, (1, (.k (.int .u8 16)))), (1, (1, (.k (.int .u8 39)))), (2, (1, (.k (.int .u8 255)))), (3, (1, (.k (.int .u8 252))))]) []), (oC 7 5 [(.t 6)] [0]), (oM 5 (.t 7) [1]), (oE 8 (.ext 0 (.t 5)) [2]), (oE 9 (.ext 1 (.t 5)) [2]), (oE 1 (.zero [(.int .i64 0), (.int .u8 0), (.int .i64 0), (.int .i64 0), (.int .i64 0), (.int .u8 0), (.int .u16 0), (.int .i64 0)]) []), (oN (.store 8 (.t 1) (.t 8)) [5, 3, 1, 0, 1, 2, 3, 5]), (oM 2 (.t 9) [4, 6, 0, 1, 2, 3, 4, 5, 6])]
def spinetlaw18_alive_i2 : List Op1 := [(oE 11 (.load true 8 (.t 1)) []), (oC 12 9 [(.t 11), (.k (.int .u16 4096))] [0]), (oM 10 (.t 12) [1]), (oE 13 (.ext 0 (.t 10)) [2]), (oE 14 (.ext 1 (.t 10)) [2]), (oM 3 (.t 13) [3, 1, 0, 1, 2, 3]), (oM 4 (.t 14) [4, 5, 0, 1, 2, 3, 4, 5])]
def spinetlaw18_alive_i3 : List Op1 := [(oM 15 (.t 2) []), (oE 16 (.bin .eql (.t 15) (.k (.int .i64 0))) [0]), (oM 17 (.t 16) [1]), (oG 18 (.fld 2 (.t 1)) 17 true [2]), (oG 19 (.fld 0 (.t 18)) 17 true [3, 2]), (oG 20 (.load false 1 (.t 19)) 17 true [4, 2]), (oG 21 (.bin .eql (.t 20) (.k (.int .i64 35))) 17 true [5, 2]), (oE 22 (.pick (.t 17) (.t 21) (.k (.bool false))) [2, 6]), (oM 23 (.t 22) [7, 2]), (oG 24 (.fld 2 (.t 1)) 23 true [8]), (oG 25 (.fld 2 (.t 24)) 23 true [9, 8]), (oG 26 (.load false 1 (.t 25)) 23 true [10, 8]), (oG 27 (.bin .eql (.t 26) (.k (.int .i64 7))) 23 true [11, 8]), (oE 28 (.pick (.t 23) (.t 27) (.k (.bool false))) [8, 12]), (oM 29 (.t 28) [13, 8]), (oG 30 (.fld 7 (.t 1)) 29 true [14]), (oG 31 (.load false 1 (.t 30)) 29 true [15, 14]), (oG 32 (.bin .eql (.t 31) (.k (.int .i64 4))) 29 true [16, 14]), (oE 33 (.pick (.t 29) (.t 32) (.k (.bool false))) [14, 17]), (oM 34 (.t 33) [18, 14]), (oG 35 (.mv (.t 3)) 34 true [19]), (oG 36 (.bin .eql (.t 35) (.k (.int .u16 4096))) 34 true [20, 19]), (oE 37 (.pick (.t 34) (.t 36) (.k (.bool false))) [19, 21]), (oM 38 (.t 37) [22, 19]), (oG 39 (.mv (.t 4)) 38 true [23]), (oE 40 (.pick (.t 38) (.t 39) (.k (.bool false))) [23, 24]), (oM 0 (.t 40) [25, 23, 0, 1, 2, 3, 4, 5, 6, 7, 8, 9, 10, 11, 12, 13, 14, 15, 16, 17, 18, 19, 20, 21, 22, 23, 24, 25])]
def spinetlaw18_alive_i4 : IR := .ret
def spinetlaw18_alive_i5 : IR := (.seq (.reg false spinetlaw18_alive_i3) spinetlaw18_alive_i4)
def spinetlaw18_alive_i6 : IR := (.seq (.reg false spinetlaw18_alive_i2) spinetlaw18_alive_i5)
def spinetlaw18_alive_i7 : IR := (.seq (.reg false spinetlaw18_alive_i1) spinetlaw18_alive_i6)
def spinetlaw18_alive_ir : IR := (.seq (.reg false spinetlaw18_alive_i0) spinetlaw18_alive_i7)
theorem spinetlaw18_alive_cfn : cFn Try.prog 7 = some (spinetlaw18_alive_ir, [(.t 0)], 41) := by kernel_rfl
def spinetlaw18_alive_V (r : (Bool)) : V := .s (.bool r)
def spinetlaw18_alive_C (r : (Bool)) : X → Fr → Hp → Prop := FinL [(.t 0)] [] (spinetlaw18_alive_V r) []
theorem spinetlaw18_alive_ok (r : (Bool)) (h : spinetlaw18_alive = some r) : Pure Try.prog 7 [] (spinetlaw18_alive_V r) := by
  refine ConL.of spinetlaw18_alive_cfn (Nat.le_of_ble_eq_true (by kernel_rfl)) (Nat.le_of_ble_eq_true (by kernel_rfl)) ?_
  refine k_start ?_
  show dwv Try.prog [] spinetlaw18_alive_ir (kont Try.prog [] (spinetlaw18_alive_C r) []) (fr0 []) []
  have hf : FOk (fr0 []) [] := trivial
  generalize fr0 [] = f at hf ⊢
  unfold spinetlaw18_alive at h
  refine k_seq ?_
  refine k_reg ?_
  refine mops_en hf (by kernel_rfl) fun f1 hf1 => ?_
  refine k_c ?_
  refine k_seq ?_
  refine k_reg ?_
  refine mops_sg 1 hf1 (by kernel_rfl) fun f2 hf2 => ?_
  obtain ⟨r_, hx_r_, h⟩ := Option.bind_eq_some_iff.1 h
  refine mops_call rfl hf2 (av := [.sl true [16, 39, 255, 252].length (cat (nI .u8) [16, 39, 255, 252])]) (by kernel_rfl) (v := .tup [.agg [.s (.int .i64 r_.1.Page), .s (.int .u8 r_.1.Code), .s (.int .i64 r_.1.Entry.Op), .s (.int .i64 r_.1.Entry.Mode), .s (.int .i64 r_.1.Entry.Reg), .s (.int .u8 r_.1.Post), .s (.int .u16 r_.1.Value), .s (.int .i64 r_.1.Len)], .s (.int .i64 r_.2)]) (CalL.purew (inst_Of_ok [16, 39, 255, 252] r_ hx_r_) (Wks.cons Wk.slf Wks.nil) (by simp [V.static, statics, cat_stat]) rfl (by kernel_rfl)) (fun _ => rfl) fun f3 hf3 => ?_
  refine mops_en hf3 (by kernel_rfl) fun f4 hf4 => ?_
  refine k_c ?_
  refine k_seq ?_
  refine k_reg ?_
  refine mops_sg 1 hf4 (by kernel_rfl) fun f5 hf5 => ?_
  obtain ⟨r_1, hx_r_1, h⟩ := Option.bind_eq_some_iff.1 h
  refine mops_call rfl hf5 (av := [.agg [.s (.int .i64 r_.1.Page), .s (.int .u8 r_.1.Code), .s (.int .i64 r_.1.Entry.Op), .s (.int .i64 r_.1.Entry.Mode), .s (.int .i64 r_.1.Entry.Reg), .s (.int .u8 r_.1.Post), .s (.int .u16 r_.1.Value), .s (.int .i64 r_.1.Len)], .s (.int .u16 4096)]) (by kernel_rfl) (v := .tup [.s (.int .u16 r_1.1), .s (.bool r_1.2)]) (CalL.pure (inst_Target_ok r_.1 (4096) r_1 hx_r_1) rfl rfl (Nat.le_of_ble_eq_true (by kernel_rfl))) (fun _ => rfl) fun f6 hf6 => ?_
  refine mops_en hf6 (by kernel_rfl) fun f7 hf7 => ?_
  refine k_c ?_
  refine k_seq ?_
  refine k_reg ?_
  refine mops_end [0] hf7 (l' := [⟨0, [], .s (.bool ((((((r_.2 == 0) && (r_.1.Entry.Op == 35)) && (r_.1.Entry.Reg == 7)) && (r_.1.Len == 4)) && (r_1.1 == 4096)) && r_1.2))⟩]) (L' := [⟨0, .mem, 1, [.s (.int .i64 r_.1.Page), .s (.int .u8 r_.1.Code), .s (.int .i64 r_.1.Entry.Op), .s (.int .i64 r_.1.Entry.Mode), .s (.int .i64 r_.1.Entry.Reg), .s (.int .u8 r_.1.Post), .s (.int .u16 r_.1.Value), .s (.int .i64 r_.1.Len)]⟩]) (by kernel_rfl) fun f8 hf8 => ?_
  refine k_c ?_
  refine k_ret ?_
  obtain rfl := Option.some.inj h
  exact k_fin (fin_ret (.inl rfl) hf8 (vs := [.s (.bool ((((((r_.2 == 0) && (r_.1.Entry.Op == 35)) && (r_.1.Entry.Reg == 7)) && (r_.1.Len == 4)) && (r_1.1 == 4096)) && r_1.2))]) (by kernel_rfl) (SettL.pure (FzL.stat rfl)))
def inst_Put_i0 : List Op1 := [(oE 1 (.box (.t 0)) []), (oE 2 (.nilg 1) []), (oM 3 (.k (.int .i64 0)) [1])]
def inst_Put_i1 : List Op1 := [(oE 4 (.nilg 1) [])]
def inst_Put_i2 : List Op1 := [(oE 9 (.fld 0 (.t 1)) []), (oE 10 (.load false 1 (.t 9)) [0]), (oE 11 (.bin .eql (.t 10) (.k (.int .i64 2))) [1]), (oM 12 (.t 11) [2]), (oG 13 (.fld 0 (.t 1)) 12 false [3]), (oG 14 (.load false 1 (.t 13)) 12 false [4, 3]), (oG 15 (.bin .eql (.t 14) (.k (.int .i64 3))) 12 false [5, 3]), (oE 16 (.pick (.t 12) (.k (.bool true)) (.t 15)) [3, 6])]
def inst_Put_i3 : List Op1 := [(oM 17 (.t 4) []), (oE 18 (.fld 0 (.t 1)) []), (oE 19 (.load false 1 (.t 18)) [1]), (oE 20 (.bin .add (.k (.int .i64 14)) (.t 19)) [2]), (oE 21 (.cint .u8 (.t 20)) [3]), (oE 22 (.bslo 1 1 [(.int .u8 0)] [(0, (1, (.t 21)))]) [4]), (oE 23 (.app 1 1 (.t 17) (.t 22)) [0, 5]), (oM 4 (.t 23) [6, 6, 0, 1, 2, 3, 4, 5, 6])]
def inst_Put_i4 : IR := (.cond (.t 16) (.reg false inst_Put_i3) .skip)
def inst_Put_i5 : List Op1 := [(oM 24 (.t 4) []), (oE 25 (.fld 1 (.t 1)) []), (oE 26 (.load false 1 (.t 25)) [1]), (oE 27 (.bslo 1 1 [(.int .u8 0)] [(0, (1, (.t 26)))]) [2]), (oE 28 (.app 1 1 (.t 24) (.t 27)) [0, 3]), (oM 4 (.t 28) [4, 4, 0, 1, 2, 3, 4])]
def inst_Put_i6 : List Op1 := [(oE 29 (.fld 2 (.t 1)) []), (oE 30 (.fld 1 (.t 29)) [0]), (oE 31 (.load false 1 (.t 30)) [1]), (oC 32 16 [(.t 31)] [2])]
def inst_Put_i7 : List Op1 := [(oM 33 (.t 4) []), (oE 34 (.fld 5 (.t 1)) []), (oE 35 (.load false 1 (.t 34)) [1]), (oE 36 (.bslo 1 1 [(.int .u8 0)] [(0, (1, (.t 35)))]) [2]), (oE 37 (.app 1 1 (.t 33) (.t 36)) [0, 3]), (oM 4 (.t 37) [4, 4, 0, 1, 2, 3, 4])]
def inst_Put_i8 : IR := (.cond (.t 32) (.reg false inst_Put_i7) .skip)
def inst_Put_i9 : List Op1 := [(oE 39 (.fld 2 (.t 1)) []), (oE 40 (.fld 1 (.t 39)) [0]), (oE 41 (.load false 1 (.t 40)) [1]), (oE 42 (.fld 5 (.t 1)) []), (oE 43 (.load false 1 (.t 42)) [3]), (oC 44 17 [(.t 41), (.t 43)] [2, 4]), (oM 38 (.t 44) [5]), (oE 45 (.ext 0 (.t 38)) [6]), (oE 46 (.ext 1 (.t 38)) [6]), (oM 5 (.t 45) [7, 5, 0, 1, 2, 3, 4, 5, 6, 7]), (oM 6 (.t 46) [8, 9, 0, 1, 2, 3, 4, 5, 6, 7, 8, 9])]
def inst_Put_i10 : List Op1 := [(oM 47 (.t 5) [])]
def inst_Put_i11 : List Op1 := [(oE 49 (.bin .eql (.t 47) (.k (.int .i64 1))) []), (oM 48 (.t 49) [0])]
def inst_Put_i12 : List Op1 := [(oM 50 (.t 4) []), (oE 51 (.fld 6 (.t 1)) []), (oE 52 (.load false 1 (.t 51)) [1]), (oC 53 22 [(.t 52)] [2]), (oE 54 (.bslo 1 1 [(.int .u8 0)] [(0, (1, (.t 53)))]) [3]), (oE 55 (.app 1 1 (.t 50) (.t 54)) [0, 4, 3]), (oM 4 (.t 55) [5, 5, 0, 1, 2, 3, 4, 5])]
def inst_Put_i13 : List Op1 := [(oE 57 (.bin .eql (.t 47) (.k (.int .i64 2))) []), (oM 56 (.t 57) [0])]
def inst_Put_i14 : List Op1 := [(oM 58 (.t 4) []), (oE 59 (.fld 6 (.t 1)) []), (oE 60 (.load false 1 (.t 59)) [1]), (oE 61 (.bsl 1 [(.int .u16 0)] [(0, (1, (.t 60)))]) [2]), (oC 62 23 [(.t 61)] [3]), (oE 63 (.app 1 1 (.t 58) (.t 62)) [0, 4, 4]), (oM 4 (.t 63) [5, 5, 0, 1, 2, 3, 4, 5])]
def inst_Put_i15 : IR := (.cond (.t 56) (.reg false inst_Put_i14) .skip)
def inst_Put_i16 : IR := (.cond (.t 48) (.reg false inst_Put_i12) (.seq (.reg false inst_Put_i13) inst_Put_i15))
def inst_Put_i17 : IR := (.block 0 (.seq (.reg false inst_Put_i11) inst_Put_i16))
def inst_Put_i18 : IR := (.seq (.reg false inst_Put_i10) inst_Put_i17)
def inst_Put_i19 : List Op1 := [(oM 65 (.t 4) []), (oC 66 5 [(.t 65)] [0]), (oM 64 (.t 66) [1]), (oE 67 (.ext 0 (.t 64)) [2]), (oE 68 (.ext 1 (.t 64)) [2]), (oE 7 (.zero [(.int .i64 0), (.int .u8 0), (.int .i64 0), (.int .i64 0), (.int .i64 0), (.int .u8 0), (.int .u16 0), (.int .i64 0)]) []), (oN (.store 8 (.t 7) (.t 67)) [5, 3, 1, 0, 1, 2, 3, 5]), (oM 8 (.t 68) [4, 6, 0, 1, 2, 3, 4, 5, 6])]
def inst_Put_i20 : List Op1 := [(oM 69 (.t 8) []), (oE 70 (.bin .neq (.t 69) (.k (.int .i64 0))) [0]), (oM 71 (.t 70) [1]), (oG 72 (.load true 8 (.t 7)) 71 false [2]), (oG 73 (.load true 8 (.t 1)) 71 false [2]), (oG 74 (.eqa true [.int, .int, .int, .int, .int, .int, .int, .int] (.t 72) (.t 73)) 71 false [3, 4, 2]), (oE 75 (.pick (.t 71) (.k (.bool true)) (.t 74)) [2, 5])]
def inst_Put_i21 : List Op1 := [(oE 2 (.nilg 1) []), (oM 3 (.k (.int .i64 10)) [0, 0])]
def inst_Put_i22 : IR := .ret
def inst_Put_i23 : IR := (.cond (.t 75) (.seq (.reg false inst_Put_i21) inst_Put_i22) .skip)
def inst_Put_i24 : IR := (.seq (.reg false inst_Put_i20) inst_Put_i23)
def inst_Put_i25 : List Op1 := [(oM 76 (.t 4) []), (oM 2 (.t 76) [0, 0]), (oM 3 (.k (.int .i64 0)) [1, 0, 1])]
def inst_Put_i26 : IR := .ret
def inst_Put_i27 : IR := (.seq (.reg false inst_Put_i25) inst_Put_i26)
def inst_Put_i28 : IR := (.seq (.seq (.reg false inst_Put_i19) inst_Put_i24) inst_Put_i27)
def inst_Put_i29 : IR := (.seq (.seq (.reg false inst_Put_i9) inst_Put_i18) inst_Put_i28)
def inst_Put_i30 : IR := (.seq (.seq (.reg false inst_Put_i6) inst_Put_i8) inst_Put_i29)
def inst_Put_i31 : IR := (.seq (.reg false inst_Put_i5) inst_Put_i30)
def inst_Put_i32 : IR := (.seq (.seq (.reg false inst_Put_i2) inst_Put_i4) inst_Put_i31)
def inst_Put_i33 : IR := (.seq (.reg false inst_Put_i1) inst_Put_i32)
def inst_Put_ir : IR := (.seq (.reg false inst_Put_i0) inst_Put_i33)
theorem inst_Put_cfn : cFn Try.prog 8 = some (inst_Put_ir, [(.t 2), (.t 3)], 77) := by kernel_rfl
def inst_Put_V (r : ((List Int) × Int)) : V := .tup [.sl false r.1.length (cat (nI .u8) r.1), .s (.int .i64 r.2)]
def inst_Put_C (r : ((List Int) × Int)) : X → Fr → Hp → Prop := FinL [(.t 2), (.t 3)] [] (inst_Put_V r) []
theorem inst_Put_ok (i_ : api_Inst) (r : ((List Int) × Int)) (h : inst_Put i_ = some r) : Pure Try.prog 8 [.agg [.s (.int .i64 i_.Page), .s (.int .u8 i_.Code), .s (.int .i64 i_.Entry.Op), .s (.int .i64 i_.Entry.Mode), .s (.int .i64 i_.Entry.Reg), .s (.int .u8 i_.Post), .s (.int .u16 i_.Value), .s (.int .i64 i_.Len)]] (inst_Put_V r) := by
  refine ConL.of inst_Put_cfn (Nat.le_of_ble_eq_true (by kernel_rfl)) (Nat.le_of_ble_eq_true (by kernel_rfl)) ?_
  refine k_start ?_
  show dwv Try.prog [] inst_Put_ir (kont Try.prog [] (inst_Put_C r) []) (fr0 [.agg [.s (.int .i64 i_.Page), .s (.int .u8 i_.Code), .s (.int .i64 i_.Entry.Op), .s (.int .i64 i_.Entry.Mode), .s (.int .i64 i_.Entry.Reg), .s (.int .u8 i_.Post), .s (.int .u16 i_.Value), .s (.int .i64 i_.Len)]]) []
  have hf : FOk (fr0 [.agg [.s (.int .i64 i_.Page), .s (.int .u8 i_.Code), .s (.int .i64 i_.Entry.Op), .s (.int .i64 i_.Entry.Mode), .s (.int .i64 i_.Entry.Reg), .s (.int .u8 i_.Post), .s (.int .u16 i_.Value), .s (.int .i64 i_.Len)]]) [⟨0, [], .agg [.s (.int .i64 i_.Page), .s (.int .u8 i_.Code), .s (.int .i64 i_.Entry.Op), .s (.int .i64 i_.Entry.Mode), .s (.int .i64 i_.Entry.Reg), .s (.int .u8 i_.Post), .s (.int .u16 i_.Value), .s (.int .i64 i_.Len)]⟩] := ⟨⟨fun _ => rfl, fun h => (h trivial).elim⟩, trivial⟩
  generalize fr0 [.agg [.s (.int .i64 i_.Page), .s (.int .u8 i_.Code), .s (.int .i64 i_.Entry.Op), .s (.int .i64 i_.Entry.Mode), .s (.int .i64 i_.Entry.Reg), .s (.int .u8 i_.Post), .s (.int .u16 i_.Value), .s (.int .i64 i_.Len)]] = f at hf ⊢
  unfold inst_Put at h
  refine k_seq ?_
  refine k_reg ?_
  refine mops_en hf (by kernel_rfl) fun f1 hf1 => ?_
  refine k_c ?_
  refine k_seq ?_
  refine k_reg ?_
  refine mops_en hf1 (by kernel_rfl) fun f2 hf2 => ?_
  refine k_c ?_
  refine k_seq ?_
  refine k_seq ?_
  refine k_reg ?_
  refine mops_en hf2 (by kernel_rfl) fun f3 hf3 => ?_
  refine k_c ?_
  have hj1 : ∀ (l_ : (List Int)) (v_ : Nat), inst_Put_j2 i_ l_ = some r → ∀ f, FOk f [⟨1, [], .ptr 0 0 0⟩, ⟨2, [], .ref 1 0 0 0⟩, ⟨3, [], .s (.int .i64 0)⟩, ⟨4, [], .ref 2 v_ 0 l_.length⟩] → kont Try.prog [] (inst_Put_C r) ((.c inst_Put_i31) :: []) .normal f [⟨0, .mem, 1, [.s (.int .i64 i_.Page), .s (.int .u8 i_.Code), .s (.int .i64 i_.Entry.Op), .s (.int .i64 i_.Entry.Mode), .s (.int .i64 i_.Entry.Reg), .s (.int .u8 i_.Post), .s (.int .u16 i_.Value), .s (.int .i64 i_.Len)]⟩, ⟨0, .grow, 1, cat (nI .u8) ([] : List Int)⟩, ⟨v_, .grow, 1, cat (nI .u8) l_⟩] := by
    intro l_ v_ h f hf
    unfold inst_Put_j2 at h
    refine k_c ?_
    refine k_seq ?_
    refine k_reg ?_
    refine mops_sg 4 hf (by kernel_rfl) fun f1 hf1 => ?_
    obtain ⟨c3, h⟩ := as_ok h
    refine mops_adv rfl (v := .ref 2 (v_ + 1) 0 (l_ ++ [i_.Code]).length) hf1 (by kernel_rfl) (e_app (g := (nI .u8)) (l := l_) (l' := [i_.Code]) (b := 2) (ver := v_) (n := l_.length) (by kernel_rfl) rfl (live_grow (by kernel_rfl)) (sll_ev (v := .ref 3 0 0 1) (by kernel_rfl) (sll_ref (B := ⟨0, .grow, 1, cat (nI .u8) [i_.Code]⟩) (by kernel_rfl) (live_grow (by kernel_rfl)))) (slc_ev (v := .ref 3 0 0 1) (by kernel_rfl) (slc_ref (g := (nI .u8)) (l := [i_.Code]) (kd := .grow) (q := 1) (by kernel_rfl) (live_grow (by kernel_rfl)))) c3) fun f2 hf2 => ?_
    refine mops_en hf2 (by kernel_rfl) fun f3 hf3 => ?_
    refine k_c ?_
    refine k_seq ?_
    refine k_seq ?_
    refine k_reg ?_
    refine mops_sg 3 hf3 (by kernel_rfl) fun f4 hf4 => ?_
    obtain ⟨r_, hx_r_, h⟩ := Option.bind_eq_some_iff.1 h
    refine mops_call rfl hf4 (av := [.s (.int .i64 i_.Entry.Mode)]) (by kernel_rfl) (v := .s (.bool r_)) (CalL.pure (inst_posted_ok i_.Entry.Mode r_ hx_r_) rfl rfl (Nat.le_of_ble_eq_true (by kernel_rfl))) (fun _ => rfl) fun f5 hf5 => ?_
    refine mops_en hf5 (by kernel_rfl) fun f6 hf6 => ?_
    refine k_c ?_
    have hj2 : ∀ (l_1 : (List Int)) (v_1 : Nat), inst_Put_j1 i_ l_1 = some r → ∀ f, FOk f [⟨1, [], .ptr 0 0 0⟩, ⟨2, [], .ref 1 0 0 0⟩, ⟨3, [], .s (.int .i64 0)⟩, ⟨4, [], .ref 2 v_1 0 l_1.length⟩] → kont Try.prog [] (inst_Put_C r) ((.c inst_Put_i29) :: []) .normal f [⟨0, .mem, 1, [.s (.int .i64 i_.Page), .s (.int .u8 i_.Code), .s (.int .i64 i_.Entry.Op), .s (.int .i64 i_.Entry.Mode), .s (.int .i64 i_.Entry.Reg), .s (.int .u8 i_.Post), .s (.int .u16 i_.Value), .s (.int .i64 i_.Len)]⟩, ⟨0, .grow, 1, cat (nI .u8) ([] : List Int)⟩, ⟨v_1, .grow, 1, cat (nI .u8) l_1⟩, ⟨0, .grow, 1, cat (nI .u8) [i_.Code]⟩] := by
      intro l_1 v_1 h f hf
      unfold inst_Put_j1 at h
      refine k_c ?_
      refine k_seq ?_
      refine k_seq ?_
      refine k_reg ?_
      refine mops_sg 5 hf (by kernel_rfl) fun f1 hf1 => ?_
      obtain ⟨r_1, hx_r_1, h⟩ := Option.bind_eq_some_iff.1 h
      refine mops_call rfl hf1 (av := [.s (.int .i64 i_.Entry.Mode), .s (.int .u8 i_.Post)]) (by kernel_rfl) (v := .tup [.s (.int .i64 r_1.1), .s (.bool r_1.2)]) (CalL.pure (inst_behind_ok i_.Entry.Mode i_.Post r_1 hx_r_1) rfl rfl (Nat.le_of_ble_eq_true (by kernel_rfl))) (fun _ => rfl) fun f2 hf2 => ?_
      refine mops_en hf2 (by kernel_rfl) fun f3 hf3 => ?_
      refine k_c ?_
      refine k_seq ?_
      refine k_reg ?_
      refine mops_en hf3 (by kernel_rfl) fun f4 hf4 => ?_
      refine k_c ?_
      refine k_block ?_
      refine k_seq ?_
      refine k_reg ?_
      refine mops_en hf4 (by kernel_rfl) fun f5 hf5 => ?_
      refine k_c ?_
      have hj3 : ∀ (l_2 : (List Int)) (v_2 : Nat), inst_Put_j0 i_ l_2 = some r → ∀ f, FOk f [⟨1, [], .ptr 0 0 0⟩, ⟨2, [], .ref 1 0 0 0⟩, ⟨3, [], .s (.int .i64 0)⟩, ⟨4, [], .ref 2 v_2 0 l_2.length⟩] → kont Try.prog [] (inst_Put_C r) ((.c inst_Put_i28) :: []) .normal f [⟨0, .mem, 1, [.s (.int .i64 i_.Page), .s (.int .u8 i_.Code), .s (.int .i64 i_.Entry.Op), .s (.int .i64 i_.Entry.Mode), .s (.int .i64 i_.Entry.Reg), .s (.int .u8 i_.Post), .s (.int .u16 i_.Value), .s (.int .i64 i_.Len)]⟩, ⟨0, .grow, 1, cat (nI .u8) ([] : List Int)⟩, ⟨v_2, .grow, 1, cat (nI .u8) l_2⟩, ⟨0, .grow, 1, cat (nI .u8) [i_.Code]⟩] := by
        intro l_2 v_2 h f hf
        unfold inst_Put_j0 at h
        refine k_c ?_
        refine k_seq ?_
        refine k_seq ?_
        refine k_reg ?_
        refine mops_sg 1 hf (by kernel_rfl) fun f1 hf1 => ?_
        obtain ⟨r_4, hx_r_4, h⟩ := Option.bind_eq_some_iff.1 h
        refine mops_call rfl hf1 (av := [.ref 2 v_2 0 l_2.length]) (by kernel_rfl) (v := .tup [.agg [.s (.int .i64 r_4.1.Page), .s (.int .u8 r_4.1.Code), .s (.int .i64 r_4.1.Entry.Op), .s (.int .i64 r_4.1.Entry.Mode), .s (.int .i64 r_4.1.Entry.Reg), .s (.int .u8 r_4.1.Post), .s (.int .u16 r_4.1.Value), .s (.int .i64 r_4.1.Len)], .s (.int .i64 r_4.2)]) (CalL.lend (inst_Of_ok l_2 r_4 hx_r_4) rfl (Lends.cons (Lend.whole (g := (nI .u8)) (kd := .grow) (l := l_2) rfl (live_grow (by kernel_rfl))) Lends.nil) (by kernel_rfl)) (fun _ => rfl) fun f2 hf2 => ?_
        refine mops_en hf2 (by kernel_rfl) fun f3 hf3 => ?_
        refine k_c ?_
        refine k_seq ?_
        refine k_reg ?_
        refine mops_en hf3 (by kernel_rfl) fun f4 hf4 => ?_
        refine k_c ?_
        refine k_cond hf4 (t := ((r_4.2 != 0) || (!((r_4.1.Page == i_.Page) && ((r_4.1.Code == i_.Code) && ((r_4.1.Entry.Op == i_.Entry.Op) && ((r_4.1.Entry.Mode == i_.Entry.Mode) && ((r_4.1.Entry.Reg == i_.Entry.Reg) && ((r_4.1.Post == i_.Post) && ((r_4.1.Value == i_.Value) && ((r_4.1.Len == i_.Len) && true))))))))))) (by kernel_rfl) (fun hc10 => ?_) (fun hc10 => ?_)
        · have h := if_t h hc10
          refine k_seq ?_
          refine k_reg ?_
          refine mops_en hf4 (by kernel_rfl) fun f5 hf5 => ?_
          refine k_c ?_
          refine k_ret ?_
          refine x_c nofun ?_
          obtain rfl := Option.some.inj h
          exact k_fin (fin_ret (.inl rfl) hf5 (vs := [.ref 5 0 0 0, .s (.int .i64 10)]) (by kernel_rfl) (SettL.pure (FzL.tup (FzsL.cons (FzL.whole (g := (nI .u8)) (kd := .grow) (l := ([] : List Int)) (by kernel_rfl) rfl (live_grow (by kernel_rfl))) (FzsL.cons (FzL.stat rfl) FzsL.nil)))))
        · have h := if_f h hc10
          refine k_skip ?_
          refine k_c ?_
          refine k_seq ?_
          refine k_reg ?_
          refine mops_en hf4 (by kernel_rfl) fun f5 hf5 => ?_
          refine k_c ?_
          refine k_ret ?_
          obtain rfl := Option.some.inj h
          exact k_fin (fin_ret (.inl rfl) hf5 (vs := [.ref 2 v_2 0 l_2.length, .s (.int .i64 0)]) (by kernel_rfl) (SettL.pure (FzL.tup (FzsL.cons (FzL.whole (g := (nI .u8)) (kd := .grow) (l := l_2) (by kernel_rfl) rfl (live_grow (by kernel_rfl))) (FzsL.cons (FzL.stat rfl) FzsL.nil)))))
      refine k_cond hf5 (t := (r_1.1 == 1)) (by kernel_rfl) (fun hc6 => ?_) (fun hc6 => ?_)
      · have h := if_t h hc6
        refine k_reg ?_
        refine mops_sg 3 hf5 (by kernel_rfl) fun f6 hf6 => ?_
        obtain ⟨r_2, hx_r_2, h⟩ := Option.bind_eq_some_iff.1 h
        refine mops_call rfl hf6 (av := [.s (.int .u16 i_.Value)]) (by kernel_rfl) (v := .s (.int .u8 r_2)) (CalL.pure (octet_Low_ok i_.Value r_2 hx_r_2) rfl rfl (Nat.le_of_ble_eq_true (by kernel_rfl))) (fun _ => rfl) fun f7 hf7 => ?_
        refine mops_sg 1 hf7 (by kernel_rfl) fun f8 hf8 => ?_
        obtain ⟨c7, h⟩ := as_ok h
        refine mops_adv rfl (v := .ref 2 (v_1 + 1) 0 (l_1 ++ [r_2]).length) hf8 (by kernel_rfl) (e_app (g := (nI .u8)) (l := l_1) (l' := [r_2]) (b := 2) (ver := v_1) (n := l_1.length) (by kernel_rfl) rfl (live_grow (by kernel_rfl)) (sll_ev (v := .ref 4 0 0 1) (by kernel_rfl) (sll_ref (B := ⟨0, .grow, 1, cat (nI .u8) [r_2]⟩) (by kernel_rfl) (live_grow (by kernel_rfl)))) (slc_ev (v := .ref 4 0 0 1) (by kernel_rfl) (slc_ref (g := (nI .u8)) (l := [r_2]) (kd := .grow) (q := 1) (by kernel_rfl) (live_grow (by kernel_rfl)))) c7) fun f9 hf9 => ?_
        refine mops_en hf9 (by kernel_rfl) fun f10 hf10 => ?_
        refine k_b ?_
        refine k_c' (vs_vs (vs_cut (l := [⟨1, [], .ptr 0 0 0⟩, ⟨2, [], .ref 1 0 0 0⟩, ⟨3, [], .s (.int .i64 0)⟩, ⟨4, [], .ref 2 (v_1 + 1) 0 (l_1 ++ [r_2]).length⟩]) 4 (by kernel_rfl) (by kernel_rfl) (L' := [⟨0, .mem, 1, [.s (.int .i64 i_.Page), .s (.int .u8 i_.Code), .s (.int .i64 i_.Entry.Op), .s (.int .i64 i_.Entry.Mode), .s (.int .i64 i_.Entry.Reg), .s (.int .u8 i_.Post), .s (.int .u16 i_.Value), .s (.int .i64 i_.Len)]⟩, ⟨0, .grow, 1, cat (nI .u8) ([] : List Int)⟩, ⟨(v_1 + 1), .grow, 1, cat (nI .u8) (l_1 ++ [r_2])⟩, ⟨0, .grow, 1, cat (nI .u8) [i_.Code]⟩]) (by kernel_rfl) ⟨⟨rfl, rfl⟩, ⟨rfl, rfl⟩, ⟨rfl, rfl⟩, ⟨rfl, rfl⟩, trivial⟩ ⟨.inr (.inr rfl), .inr (.inr (statics_unders _ _ (cat_stat _))), .inr (.inr (statics_unders _ _ (cat_stat _))), .inr (.inr (statics_unders _ _ (cat_stat _))), trivial⟩ (FOk_of [1, 2, 3, 4] hf10 (by kernel_rfl)) fun f hf => ?_))
        exact k_un (hj3 (l_1 ++ [r_2]) (v_1 + 1) h _ hf)
      · have h := if_f h hc6
        refine k_seq ?_
        refine k_reg ?_
        refine mops_en hf5 (by kernel_rfl) fun f6 hf6 => ?_
        refine k_c ?_
        refine k_cond hf6 (t := (r_1.1 == 2)) (by kernel_rfl) (fun hc8 => ?_) (fun hc8 => ?_)
        · have h := if_t h hc8
          refine k_reg ?_
          refine mops_sg 4 hf6 (by kernel_rfl) fun f7 hf7 => ?_
          obtain ⟨r_3, hx_r_3, h⟩ := Option.bind_eq_some_iff.1 h
          refine mops_call rfl hf7 (av := [.sl true [i_.Value].length (cat (nI .u16) [i_.Value])]) (by kernel_rfl) (v := .sl false r_3.length (cat (nI .u8) r_3)) (CalL.purew (octet_Bytes_ok [i_.Value] r_3 hx_r_3) (Wks.cons Wk.slf Wks.nil) (by simp [V.static, statics, cat_stat]) (by simp [V.static, statics, cat_stat, octet_Bytes_V]) (by kernel_rfl)) (fun _ => rfl) fun f8 hf8 => ?_
          obtain ⟨c9, h⟩ := as_ok h
          refine mops_adv rfl (v := .ref 2 (v_1 + 1) 0 (l_1 ++ r_3).length) hf8 (by kernel_rfl) (e_app (g := (nI .u8)) (l := l_1) (l' := r_3) (b := 2) (ver := v_1) (n := l_1.length) (by kernel_rfl) rfl (live_grow (by kernel_rfl)) (by kernel_rfl) (slc_ev (v := .sl false r_3.length (cat (nI .u8) r_3)) (by kernel_rfl) (slc_sl (g := (nI .u8)) r_3)) c9) fun f9 hf9 => ?_
          refine mops_en hf9 (by kernel_rfl) fun f10 hf10 => ?_
          refine k_b ?_
          refine k_hp (L' := [⟨0, .mem, 1, [.s (.int .i64 i_.Page), .s (.int .u8 i_.Code), .s (.int .i64 i_.Entry.Op), .s (.int .i64 i_.Entry.Mode), .s (.int .i64 i_.Entry.Reg), .s (.int .u8 i_.Post), .s (.int .u16 i_.Value), .s (.int .i64 i_.Len)]⟩, ⟨0, .grow, 1, cat (nI .u8) ([] : List Int)⟩, ⟨(v_1 + 1), .grow, 1, cat (nI .u8) (l_1 ++ r_3)⟩, ⟨0, .grow, 1, cat (nI .u8) [i_.Code]⟩]) (by kernel_rfl) ?_
          exact hj3 (l_1 ++ r_3) (v_1 + 1) h _ (FOk_of [1, 2, 3, 4] hf10 (by kernel_rfl))
        · have h := if_f h hc8
          refine k_skip ?_
          refine k_b ?_
          refine k_hp (L' := [⟨0, .mem, 1, [.s (.int .i64 i_.Page), .s (.int .u8 i_.Code), .s (.int .i64 i_.Entry.Op), .s (.int .i64 i_.Entry.Mode), .s (.int .i64 i_.Entry.Reg), .s (.int .u8 i_.Post), .s (.int .u16 i_.Value), .s (.int .i64 i_.Len)]⟩, ⟨0, .grow, 1, cat (nI .u8) ([] : List Int)⟩, ⟨v_1, .grow, 1, cat (nI .u8) l_1⟩, ⟨0, .grow, 1, cat (nI .u8) [i_.Code]⟩]) (by kernel_rfl) ?_
          exact hj3 l_1 v_1 h _ (FOk_of [1, 2, 3, 4] hf6 (by kernel_rfl))
    refine k_cond hf6 (t := r_) (by kernel_rfl) (fun hc4 => ?_) (fun hc4 => ?_)
    · have h := if_t h hc4
      refine k_reg ?_
      refine mops_sg 4 hf6 (by kernel_rfl) fun f7 hf7 => ?_
      obtain ⟨c5, h⟩ := as_ok h
      refine mops_adv rfl (v := .ref 2 (((v_ + 1)) + 1) 0 ((l_ ++ [i_.Code]) ++ [i_.Post]).length) hf7 (by kernel_rfl) (e_app (g := (nI .u8)) (l := (l_ ++ [i_.Code])) (l' := [i_.Post]) (b := 2) (ver := (v_ + 1)) (n := (l_ ++ [i_.Code]).length) (by kernel_rfl) rfl (live_grow (by kernel_rfl)) (sll_ev (v := .ref 4 0 0 1) (by kernel_rfl) (sll_ref (B := ⟨0, .grow, 1, cat (nI .u8) [i_.Post]⟩) (by kernel_rfl) (live_grow (by kernel_rfl)))) (slc_ev (v := .ref 4 0 0 1) (by kernel_rfl) (slc_ref (g := (nI .u8)) (l := [i_.Post]) (kd := .grow) (q := 1) (by kernel_rfl) (live_grow (by kernel_rfl)))) c5) fun f8 hf8 => ?_
      refine mops_en hf8 (by kernel_rfl) fun f9 hf9 => ?_
      refine k_c' (vs_vs (vs_cut (l := [⟨1, [], .ptr 0 0 0⟩, ⟨2, [], .ref 1 0 0 0⟩, ⟨3, [], .s (.int .i64 0)⟩, ⟨4, [], .ref 2 (((v_ + 1)) + 1) 0 ((l_ ++ [i_.Code]) ++ [i_.Post]).length⟩]) 4 (by kernel_rfl) (by kernel_rfl) (L' := [⟨0, .mem, 1, [.s (.int .i64 i_.Page), .s (.int .u8 i_.Code), .s (.int .i64 i_.Entry.Op), .s (.int .i64 i_.Entry.Mode), .s (.int .i64 i_.Entry.Reg), .s (.int .u8 i_.Post), .s (.int .u16 i_.Value), .s (.int .i64 i_.Len)]⟩, ⟨0, .grow, 1, cat (nI .u8) ([] : List Int)⟩, ⟨(((v_ + 1)) + 1), .grow, 1, cat (nI .u8) ((l_ ++ [i_.Code]) ++ [i_.Post])⟩, ⟨0, .grow, 1, cat (nI .u8) [i_.Code]⟩]) (by kernel_rfl) ⟨⟨rfl, rfl⟩, ⟨rfl, rfl⟩, ⟨rfl, rfl⟩, ⟨rfl, rfl⟩, trivial⟩ ⟨.inr (.inr rfl), .inr (.inr (statics_unders _ _ (cat_stat _))), .inr (.inr (statics_unders _ _ (cat_stat _))), .inr (.inr (statics_unders _ _ (cat_stat _))), trivial⟩ (FOk_of [1, 2, 3, 4] hf9 (by kernel_rfl)) fun f hf => ?_))
      exact k_un (hj2 ((l_ ++ [i_.Code]) ++ [i_.Post]) (((v_ + 1)) + 1) h _ hf)
    · have h := if_f h hc4
      refine k_skip ?_
      refine k_hp (L' := [⟨0, .mem, 1, [.s (.int .i64 i_.Page), .s (.int .u8 i_.Code), .s (.int .i64 i_.Entry.Op), .s (.int .i64 i_.Entry.Mode), .s (.int .i64 i_.Entry.Reg), .s (.int .u8 i_.Post), .s (.int .u16 i_.Value), .s (.int .i64 i_.Len)]⟩, ⟨0, .grow, 1, cat (nI .u8) ([] : List Int)⟩, ⟨(v_ + 1), .grow, 1, cat (nI .u8) (l_ ++ [i_.Code])⟩, ⟨0, .grow, 1, cat (nI .u8) [i_.Code]⟩]) (by kernel_rfl) ?_
      exact hj2 (l_ ++ [i_.Code]) (v_ + 1) h _ (FOk_of [1, 2, 3, 4] hf6 (by kernel_rfl))
  refine k_cond hf3 (t := ((i_.Page == 2) || (i_.Page == 3))) (by kernel_rfl) (fun hc1 => ?_) (fun hc1 => ?_)
  · have h := if_t h hc1
    refine k_reg ?_
    refine mops_sg 6 hf3 (by kernel_rfl) fun f4 hf4 => ?_
    obtain ⟨c2, h⟩ := as_ok h
    refine mops_adv rfl (v := .ref 2 1 0 (([] : List Int) ++ [(IntKind.wrap .u8 (IntKind.wrap .i64 (14 + i_.Page)))]).length) hf4 (by kernel_rfl) (e_app (g := (nI .u8)) (l := ([] : List Int)) (l' := [(IntKind.wrap .u8 (IntKind.wrap .i64 (14 + i_.Page)))]) (b := 2) (ver := 0) (n := 0) (by kernel_rfl) rfl (live_grow (by kernel_rfl)) (sll_ev (v := .ref 3 0 0 1) (by kernel_rfl) (sll_ref (B := ⟨0, .grow, 1, cat (nI .u8) [(IntKind.wrap .u8 (IntKind.wrap .i64 (14 + i_.Page)))]⟩) (by kernel_rfl) (live_grow (by kernel_rfl)))) (slc_ev (v := .ref 3 0 0 1) (by kernel_rfl) (slc_ref (g := (nI .u8)) (l := [(IntKind.wrap .u8 (IntKind.wrap .i64 (14 + i_.Page)))]) (kd := .grow) (q := 1) (by kernel_rfl) (live_grow (by kernel_rfl)))) c2) fun f5 hf5 => ?_
    refine mops_en hf5 (by kernel_rfl) fun f6 hf6 => ?_
    refine k_c' (vs_vs (vs_cut (l := [⟨1, [], .ptr 0 0 0⟩, ⟨2, [], .ref 1 0 0 0⟩, ⟨3, [], .s (.int .i64 0)⟩, ⟨4, [], .ref 2 1 0 (([] : List Int) ++ [(IntKind.wrap .u8 (IntKind.wrap .i64 (14 + i_.Page)))]).length⟩]) 3 (by kernel_rfl) (by kernel_rfl) (L' := [⟨0, .mem, 1, [.s (.int .i64 i_.Page), .s (.int .u8 i_.Code), .s (.int .i64 i_.Entry.Op), .s (.int .i64 i_.Entry.Mode), .s (.int .i64 i_.Entry.Reg), .s (.int .u8 i_.Post), .s (.int .u16 i_.Value), .s (.int .i64 i_.Len)]⟩, ⟨0, .grow, 1, cat (nI .u8) ([] : List Int)⟩, ⟨1, .grow, 1, cat (nI .u8) (([] : List Int) ++ [(IntKind.wrap .u8 (IntKind.wrap .i64 (14 + i_.Page)))])⟩]) (by kernel_rfl) ⟨⟨rfl, rfl⟩, ⟨rfl, rfl⟩, ⟨rfl, rfl⟩, ⟨rfl, rfl⟩, trivial⟩ ⟨.inr (.inr rfl), .inr (.inr (statics_unders _ _ (cat_stat _))), .inr (.inr (statics_unders _ _ (cat_stat _))), trivial⟩ (FOk_of [1, 2, 3, 4] hf6 (by kernel_rfl)) fun f hf => ?_))
    exact k_un (hj1 (([] : List Int) ++ [(IntKind.wrap .u8 (IntKind.wrap .i64 (14 + i_.Page)))]) (1) h _ hf)
  · have h := if_f h hc1
    refine k_skip ?_
    refine k_hp (L' := [⟨0, .mem, 1, [.s (.int .i64 i_.Page), .s (.int .u8 i_.Code), .s (.int .i64 i_.Entry.Op), .s (.int .i64 i_.Entry.Mode), .s (.int .i64 i_.Entry.Reg), .s (.int .u8 i_.Post), .s (.int .u16 i_.Value), .s (.int .i64 i_.Len)]⟩, ⟨0, .grow, 1, cat (nI .u8) ([] : List Int)⟩, ⟨0, .grow, 1, cat (nI .u8) ([] : List Int)⟩]) (by kernel_rfl) ?_
    exact hj1 ([] : List Int) (0) h _ (FOk_of [1, 2, 3, 4] hf3 (by kernel_rfl))
end Go.Proofs.YtmabdijipkmmkaaK
