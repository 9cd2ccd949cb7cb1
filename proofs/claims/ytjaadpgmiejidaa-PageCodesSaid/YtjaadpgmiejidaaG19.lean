/- The Go functions come to the functions over typed data. Printed by a program of this work. -/
import Derived.Test.YtjaadpgmiejidaaF
import Derived.Test.YtjaadpgmiejidaaProg
import Derived.Test.YtjaadpgmiejidaaG16
namespace Go.Proofs.YtjaadpgmiejidaaK
set_option linter.unusedVariables false
set_option linter.unusedSimpArgs false
set_option maxHeartbeats 4000000
open Go.RowKit
attribute [local irreducible] dwv mops lops lqops lwops kont iter run runK ex E1 vals val chain chB sel resF
def spinetref14_Of_i0 : List Op1 := [⟨(some 4), (.e (.zero [(.int .i64 0), (.int .i64 0), (.int .i64 0)])), none, []⟩]
def spinetref14_Of_i1 : List Op1 := [⟨(some 7), (.call 6 []), none, []⟩, ⟨(some 5), (.e (.mv (.t 7))), none, [0, 0, 0]⟩]
def spinetref14_Of_i2 : List Op1 := [⟨(some 6), (.e (.mv (.k (.int .i64 0)))), none, []⟩]
def spinetref14_Of_i3 : List Op1 := [⟨(some 8), (.e (.mv (.t 6))), none, []⟩, ⟨(some 9), (.e (.mv (.t 5))), none, []⟩, ⟨(some 10), (.e (.len (.t 9))), none, [1]⟩, ⟨(some 11), (.e (.bin .lss (.t 8) (.t 10))), none, [0, 2]⟩]
def spinetref14_Of_i4 : IR := (.cond (.t 11) .skip (.exit 0))
def spinetref14_Of_i5 : List Op1 := [⟨(some 14), (.e (.mv (.t 5))), none, []⟩, ⟨(some 15), (.e (.mv (.t 6))), none, []⟩, ⟨(some 16), (.e (.ias 5 (.t 14) (.t 15))), none, [0, 1]⟩, ⟨(some 17), (.e (.fld 0 (.t 16))), none, [2]⟩, ⟨(some 18), (.e (.load false 1 (.t 17))), none, [3]⟩, ⟨(some 19), (.e (.mv (.t 0))), none, []⟩, ⟨(some 20), (.e (.bin .eql (.t 18) (.t 19))), none, [4, 5]⟩, ⟨(some 21), (.e (.mv (.t 20))), none, [6]⟩, ⟨(some 22), (.e (.mv (.t 5))), (some (21, true)), [7]⟩, ⟨(some 23), (.e (.mv (.t 6))), (some (21, true)), [7]⟩, ⟨(some 24), (.e (.ias 5 (.t 22) (.t 23))), (some (21, true)), [8, 9, 7]⟩, ⟨(some 25), (.e (.fld 1 (.t 24))), (some (21, true)), [10, 7]⟩, ⟨(some 26), (.e (.load false 1 (.t 25))), (some (21, true)), [11, 7]⟩, ⟨(some 27), (.e (.mv (.t 1))), (some (21, true)), [7]⟩, ⟨(some 28), (.e (.bin .eql (.t 26) (.t 27))), (some (21, true)), [12, 13, 7]⟩, ⟨(some 29), (.e (.pick (.t 21) (.t 28) (.k (.bool false)))), none, [7, 14]⟩]
def spinetref14_Of_i6 : List Op1 := [⟨(some 30), (.e (.mv (.t 5))), none, []⟩, ⟨(some 31), (.e (.mv (.t 6))), none, []⟩, ⟨(some 32), (.e (.ias 5 (.t 30) (.t 31))), none, [0, 1]⟩, ⟨(some 33), (.e (.fld 2 (.t 32))), none, [2]⟩, ⟨(some 34), (.e (.load true 3 (.t 33))), none, [3]⟩, ⟨none, (.e (.store 3 (.t 4) (.t 34))), none, [4, 0, 1, 2, 3, 4]⟩]
def spinetref14_Of_i7 : IR := .ret
def spinetref14_Of_i8 : IR := (.cond (.t 29) (.seq (.reg false spinetref14_Of_i6) spinetref14_Of_i7) .skip)
def spinetref14_Of_i9 : List Op1 := [⟨(some 12), (.e (.mv (.t 6))), none, []⟩, ⟨(some 13), (.e (.bin .add (.t 12) (.k (.int .i64 1)))), none, [0]⟩, ⟨(some 6), (.e (.mv (.t 13))), none, [1, 0, 1]⟩]
def spinetref14_Of_i10 : IR := (.reg false spinetref14_Of_i9)
def spinetref14_Of_i11 : IR := (.seq (.block 1 (.seq (.reg false spinetref14_Of_i5) spinetref14_Of_i8)) spinetref14_Of_i10)
def spinetref14_Of_i12 : IR := (.seq (.seq (.reg false spinetref14_Of_i3) spinetref14_Of_i4) spinetref14_Of_i11)
def spinetref14_Of_i13 : IR := (.block 0 (.loop spinetref14_Of_i12))
def spinetref14_Of_i14 : List Op1 := [⟨(some 35), (.e (.build [(.int .i64 0), (.int .i64 0), (.int .i64 0)] [])), none, []⟩, ⟨none, (.e (.store 3 (.t 4) (.t 35))), none, [0, 0]⟩]
def spinetref14_Of_i15 : IR := .ret
def spinetref14_Of_i16 : IR := (.seq (.reg false spinetref14_Of_i14) spinetref14_Of_i15)
def spinetref14_Of_i17 : IR := (.seq (.seq (.reg false spinetref14_Of_i2) spinetref14_Of_i13) spinetref14_Of_i16)
def spinetref14_Of_i18 : IR := (.seq (.reg false spinetref14_Of_i1) spinetref14_Of_i17)
def spinetref14_Of_ir : IR := (.seq (.reg false spinetref14_Of_i0) spinetref14_Of_i18)
theorem spinetref14_Of_cfn : cFn Try.prog 9 = some (spinetref14_Of_ir, [(.c 4 true 3)], 36) := by kernel_rfl
def spinetref14_Of_V (r : (api_Entry)) : V := .agg [.s (.int .i64 r.Op), .s (.int .i64 r.Mode), .s (.int .i64 r.Reg)]
def spinetref14_Of_C (r : (api_Entry)) : X → Fr → Hp → Prop := FinL [(.c 4 true 3)] [] (spinetref14_Of_V r) []
theorem spinetref14_Of_ok (page_ : Int) (code_ : Int) (r : (api_Entry)) (h : spinetref14_Of page_ code_ = some r) : Pure Try.prog 9 [.s (.int .i64 page_), .s (.int .i64 code_)] (spinetref14_Of_V r) := by
  refine ConL.of spinetref14_Of_cfn (Nat.le_of_ble_eq_true (by kernel_rfl)) (Nat.le_of_ble_eq_true (by kernel_rfl)) ?_
  refine k_start ?_
  show dwv Try.prog [] spinetref14_Of_ir (kont Try.prog [] (spinetref14_Of_C r) []) (fr0 [.s (.int .i64 page_), .s (.int .i64 code_)]) []
  have hf : FOk (fr0 [.s (.int .i64 page_), .s (.int .i64 code_)]) [⟨0, [], .s (.int .i64 page_)⟩, ⟨1, [], .s (.int .i64 code_)⟩] := ⟨⟨fun _ => rfl, fun h => (h trivial).elim⟩, ⟨fun _ => rfl, fun h => (h trivial).elim⟩, trivial⟩
  generalize fr0 [.s (.int .i64 page_), .s (.int .i64 code_)] = f at hf ⊢
  unfold spinetref14_Of at h
  refine k_seq ?_
  refine k_reg ?_
  refine mops_end [0, 1, 4] hf (l' := [⟨0, [], .s (.int .i64 page_)⟩, ⟨1, [], .s (.int .i64 code_)⟩, ⟨4, [], .ptr 0 0 0⟩]) (L' := [⟨0, .mem, 1, [.s (.int .i64 0), .s (.int .i64 0), .s (.int .i64 0)]⟩]) (by kernel_rfl) fun f1 hf1 => ?_
  refine k_c ?_
  refine k_seq ?_
  refine k_reg ?_
  obtain ⟨r_, hx_r_, h⟩ := Option.bind_eq_some_iff.1 h
  refine mops_call (dst := (some 7)) (m := 6) (args := []) (aft := []) (by kernel_rfl) hf1 (av := []) (by kernel_rfl) (v := .sl false r_.length (cat spinetref14_Known.v r_)) (L' := [⟨0, .mem, 1, [.s (.int .i64 0), .s (.int .i64 0), .s (.int .i64 0)]⟩]) (CalL.pure (spinetref14_All_ok  r_ hx_r_) rfl (by simp [V.static, statics, cat_stat, spinetref14_All_V]) (Nat.le_of_ble_eq_true (by kernel_rfl))) (fun _ => rfl) fun f2 hf2 => ?_
  refine mops_end [0, 1, 4, 5] hf2 (l' := [⟨0, [], .s (.int .i64 page_)⟩, ⟨1, [], .s (.int .i64 code_)⟩, ⟨4, [], .ptr 0 0 0⟩, ⟨5, [], .sl false r_.length (cat spinetref14_Known.v r_)⟩]) (L' := [⟨0, .mem, 1, [.s (.int .i64 0), .s (.int .i64 0), .s (.int .i64 0)]⟩]) (by kernel_rfl) fun f3 hf3 => ?_
  refine k_c ?_
  refine k_seq ?_
  refine k_seq ?_
  refine k_reg ?_
  refine mops_end [0, 1, 4, 5, 6] hf3 (l' := [⟨0, [], .s (.int .i64 page_)⟩, ⟨1, [], .s (.int .i64 code_)⟩, ⟨4, [], .ptr 0 0 0⟩, ⟨5, [], .sl false r_.length (cat spinetref14_Known.v r_)⟩, ⟨6, [], .s (.int .i64 0)⟩]) (L' := [⟨0, .mem, 1, [.s (.int .i64 0), .s (.int .i64 0), .s (.int .i64 0)]⟩]) (by kernel_rfl) fun f4 hf4 => ?_
  refine k_c ?_
  refine k_block ?_
  obtain ⟨o0, hx0, h⟩ := Option.bind_eq_some_iff.1 h
  have hret0 : ∀ r0, .ret r0 = o0 → r0 = r := fun r0 e => by subst e; exact Option.some.inj h
  have hgo0 : .go () = o0 → ∀ f, FOk f [⟨4, [], .ptr 0 0 0⟩] → kont Try.prog [] (spinetref14_Of_C r) ((.c spinetref14_Of_i16) :: []) .normal f [⟨0, .mem, 1, [.s (.int .i64 0), .s (.int .i64 0), .s (.int .i64 0)]⟩] := by
    intro  e f hf
    subst e
    refine k_c ?_
    refine k_seq ?_
    refine k_reg ?_
    refine mops_end [4] hf (l' := [⟨4, [], .ptr 0 0 0⟩]) (L' := [⟨0, .mem, 1, [.s (.int .i64 0), .s (.int .i64 0), .s (.int .i64 0)]⟩]) (by kernel_rfl) fun f1 hf1 => ?_
    refine k_c ?_
    refine k_ret ?_
    obtain rfl := Option.some.inj h
    exact k_fin (fin_ret (.inl rfl) hf1 (vs := [.agg [.s (.int .i64 0), .s (.int .i64 0), .s (.int .i64 0)]]) (by kernel_rfl) (SettL.pure (FzL.stat rfl)))
  refine k_loop BIG ?_
  refine loop_ind (fun n f L => ∃ (i_1 : Int), spinetref14_Of_l0 page_ code_ r_ n i_1 = some o0 ∧ FOk f [⟨0, [], .s (.int .i64 page_)⟩, ⟨1, [], .s (.int .i64 code_)⟩, ⟨4, [], .ptr 0 0 0⟩, ⟨5, [], .sl false r_.length (cat spinetref14_Known.v r_)⟩, ⟨6, [], .s (.int .i64 i_1)⟩] ∧ L = [⟨0, .mem, 1, [.s (.int .i64 0), .s (.int .i64 0), .s (.int .i64 0)]⟩]) ?_ ?_ BIG _ _ ⟨(0), hx0, FOk_of [0, 1, 4, 5, 6] hf4 (by kernel_rfl), rfl⟩
  · rintro f L ⟨i_1, h, _⟩
    cases (show (none : Option _) = some _ from h)
  · rintro n0 R0 ih f L ⟨i_1, h, hf, rfl⟩
    rw [spinetref14_Of_l0] at h
    refine k_seq ?_
    refine k_seq ?_
    refine k_reg ?_
    refine mops_end [0, 1, 4, 5, 6, 8, 9, 10, 11] hf (l' := [⟨0, [], .s (.int .i64 page_)⟩, ⟨1, [], .s (.int .i64 code_)⟩, ⟨4, [], .ptr 0 0 0⟩, ⟨5, [], .sl false r_.length (cat spinetref14_Known.v r_)⟩, ⟨6, [], .s (.int .i64 i_1)⟩, ⟨8, [], .s (.int .i64 i_1)⟩, ⟨9, [], .sl false r_.length (cat spinetref14_Known.v r_)⟩, ⟨10, [], .s (.int .i64 (ln r_))⟩, ⟨11, [], .s (.bool (decide (i_1 < (ln r_))))⟩]) (L' := [⟨0, .mem, 1, [.s (.int .i64 0), .s (.int .i64 0), .s (.int .i64 0)]⟩]) (by kernel_rfl) fun f1 hf1 => ?_
    refine k_c ?_
    refine k_cond hf1 (t := (decide (i_1 < (ln r_)))) (by kernel_rfl) (fun hc1 => ?_) (fun hc1 => ?_)
    · have h := if_t h hc1
      refine k_skip ?_
      refine k_c ?_
      refine k_seq ?_
      refine k_block ?_
      refine k_seq ?_
      refine k_reg ?_
      refine mops_seg [0, 1, 4, 5, 6, 8, 9, 10, 11, 14, 15] 2 hf1 (l' := [⟨0, [], .s (.int .i64 page_)⟩, ⟨1, [], .s (.int .i64 code_)⟩, ⟨4, [], .ptr 0 0 0⟩, ⟨5, [], .sl false r_.length (cat spinetref14_Known.v r_)⟩, ⟨6, [], .s (.int .i64 i_1)⟩, ⟨8, [], .s (.int .i64 i_1)⟩, ⟨9, [], .sl false r_.length (cat spinetref14_Known.v r_)⟩, ⟨10, [], .s (.int .i64 (ln r_))⟩, ⟨11, [], .s (.bool (decide (i_1 < (ln r_))))⟩, ⟨14, [], .sl false r_.length (cat spinetref14_Known.v r_)⟩, ⟨15, [], .s (.int .i64 i_1)⟩]) (L' := [⟨0, .mem, 1, [.s (.int .i64 0), .s (.int .i64 0), .s (.int .i64 0)]⟩]) (by kernel_rfl) fun f2 hf2 => ?_
      obtain ⟨c2, h⟩ := as_ok h
      refine mops_adv (dst := (some 16)) (op := (.ias 5 (.t 14) (.t 15))) (aft := [0, 1]) (v := .ip ((cat spinetref14_Known.v r_).drop ((i_1 : Int).toNat * 5))) (by kernel_rfl) hf2 (by kernel_rfl) (e_ias (n := r_.length) (xv := .sl false r_.length (cat spinetref14_Known.v r_)) (k := .i64) (iv := i_1) (p := .ip ((cat spinetref14_Known.v r_).drop ((i_1 : Int).toNat * 5))) (by kernel_rfl) (by kernel_rfl) (by kernel_rfl) (by kernel_rfl) c2) fun f3 hf3 => ?_
      refine mops_seg [0, 1, 4, 5, 6, 8, 9, 10, 11, 14, 15, 16, 17] 1 hf3 (l' := [⟨0, [], .s (.int .i64 page_)⟩, ⟨1, [], .s (.int .i64 code_)⟩, ⟨4, [], .ptr 0 0 0⟩, ⟨5, [], .sl false r_.length (cat spinetref14_Known.v r_)⟩, ⟨6, [], .s (.int .i64 i_1)⟩, ⟨8, [], .s (.int .i64 i_1)⟩, ⟨9, [], .sl false r_.length (cat spinetref14_Known.v r_)⟩, ⟨10, [], .s (.int .i64 (ln r_))⟩, ⟨11, [], .s (.bool (decide (i_1 < (ln r_))))⟩, ⟨14, [], .sl false r_.length (cat spinetref14_Known.v r_)⟩, ⟨15, [], .s (.int .i64 i_1)⟩, ⟨16, [], .ip ((cat spinetref14_Known.v r_).drop ((i_1 : Int).toNat * 5))⟩, ⟨17, [], .ip (((cat spinetref14_Known.v r_).drop ((i_1 : Int).toNat * 5)).drop 0)⟩]) (L' := [⟨0, .mem, 1, [.s (.int .i64 0), .s (.int .i64 0), .s (.int .i64 0)]⟩]) (by kernel_rfl) fun f4 hf4 => ?_
      refine mops_adv (dst := (some 18)) (op := (.load false 1 (.t 17))) (aft := [3]) (v := .s (.int .i64 (gt r_ i_1).Page)) (by kernel_rfl) hf4 (by kernel_rfl) (e_load_ip (g := spinetref14_Known.v) (l := r_) (iv := i_1) [0] (by kernel_rfl) c2 (by kernel_rfl) (by kernel_rfl)) fun f5 hf5 => ?_
      refine mops_seg [0, 1, 4, 5, 6, 8, 9, 10, 11, 14, 15, 16, 17, 18, 19, 20, 21, 22, 23] 5 hf5 (l' := [⟨0, [], .s (.int .i64 page_)⟩, ⟨1, [], .s (.int .i64 code_)⟩, ⟨4, [], .ptr 0 0 0⟩, ⟨5, [], .sl false r_.length (cat spinetref14_Known.v r_)⟩, ⟨6, [], .s (.int .i64 i_1)⟩, ⟨8, [], .s (.int .i64 i_1)⟩, ⟨9, [], .sl false r_.length (cat spinetref14_Known.v r_)⟩, ⟨10, [], .s (.int .i64 (ln r_))⟩, ⟨11, [], .s (.bool (decide (i_1 < (ln r_))))⟩, ⟨14, [], .sl false r_.length (cat spinetref14_Known.v r_)⟩, ⟨15, [], .s (.int .i64 i_1)⟩, ⟨16, [], .ip ((cat spinetref14_Known.v r_).drop ((i_1 : Int).toNat * 5))⟩, ⟨17, [], .ip (((cat spinetref14_Known.v r_).drop ((i_1 : Int).toNat * 5)).drop 0)⟩, ⟨18, [], .s (.int .i64 (gt r_ i_1).Page)⟩, ⟨19, [], .s (.int .i64 page_)⟩, ⟨20, [], .s (.bool ((gt r_ i_1).Page == page_))⟩, ⟨21, [], .s (.bool ((gt r_ i_1).Page == page_))⟩, ⟨22, [(21, true)], .sl false r_.length (cat spinetref14_Known.v r_)⟩, ⟨23, [(21, true)], .s (.int .i64 i_1)⟩]) (L' := [⟨0, .mem, 1, [.s (.int .i64 0), .s (.int .i64 0), .s (.int .i64 0)]⟩]) (by kernel_rfl) fun f6 hf6 => ?_
      obtain ⟨c3, h⟩ := as_ok h
      refine mops_gadv (dst := (some 24)) (op := (.ias 5 (.t 22) (.t 23))) (aft := [8, 9, 7]) (t := 21) (w := true) (ch := [(21, true)]) (b := ((gt r_ i_1).Page == page_)) (v := .ip ((cat spinetref14_Known.v r_).drop ((i_1 : Int).toNat * 5))) (by kernel_rfl) hf6 (by kernel_rfl) (by kernel_rfl) (by kernel_rfl) (fun hb4 => e_ias (n := r_.length) (xv := .sl false r_.length (cat spinetref14_Known.v r_)) (k := .i64) (iv := i_1) (p := .ip ((cat spinetref14_Known.v r_).drop ((i_1 : Int).toNat * 5))) (by kernel_rfl) (by kernel_rfl) (by kernel_rfl) (by kernel_rfl) (c3 hb4)) fun f7 hf7 => ?_
      refine mops_seg [0, 1, 4, 5, 6, 8, 9, 10, 11, 14, 15, 16, 17, 18, 19, 20, 21, 22, 23, 24, 25] 1 hf7 (l' := [⟨0, [], .s (.int .i64 page_)⟩, ⟨1, [], .s (.int .i64 code_)⟩, ⟨4, [], .ptr 0 0 0⟩, ⟨5, [], .sl false r_.length (cat spinetref14_Known.v r_)⟩, ⟨6, [], .s (.int .i64 i_1)⟩, ⟨8, [], .s (.int .i64 i_1)⟩, ⟨9, [], .sl false r_.length (cat spinetref14_Known.v r_)⟩, ⟨10, [], .s (.int .i64 (ln r_))⟩, ⟨11, [], .s (.bool (decide (i_1 < (ln r_))))⟩, ⟨14, [], .sl false r_.length (cat spinetref14_Known.v r_)⟩, ⟨15, [], .s (.int .i64 i_1)⟩, ⟨16, [], .ip ((cat spinetref14_Known.v r_).drop ((i_1 : Int).toNat * 5))⟩, ⟨17, [], .ip (((cat spinetref14_Known.v r_).drop ((i_1 : Int).toNat * 5)).drop 0)⟩, ⟨18, [], .s (.int .i64 (gt r_ i_1).Page)⟩, ⟨19, [], .s (.int .i64 page_)⟩, ⟨20, [], .s (.bool ((gt r_ i_1).Page == page_))⟩, ⟨21, [], .s (.bool ((gt r_ i_1).Page == page_))⟩, ⟨22, [(21, true)], .sl false r_.length (cat spinetref14_Known.v r_)⟩, ⟨23, [(21, true)], .s (.int .i64 i_1)⟩, ⟨24, [(21, true)], .ip ((cat spinetref14_Known.v r_).drop ((i_1 : Int).toNat * 5))⟩, ⟨25, [(21, true)], .ip (((cat spinetref14_Known.v r_).drop ((i_1 : Int).toNat * 5)).drop 1)⟩]) (L' := [⟨0, .mem, 1, [.s (.int .i64 0), .s (.int .i64 0), .s (.int .i64 0)]⟩]) (by kernel_rfl) fun f8 hf8 => ?_
      refine mops_gadv (dst := (some 26)) (op := (.load false 1 (.t 25))) (aft := [11, 7]) (t := 21) (w := true) (ch := [(21, true)]) (b := ((gt r_ i_1).Page == page_)) (v := .s (.int .i64 (gt r_ i_1).Code)) (by kernel_rfl) hf8 (by kernel_rfl) (by kernel_rfl) (by kernel_rfl) (fun hb5 => e_load_ip (g := spinetref14_Known.v) (l := r_) (iv := i_1) [1] (by kernel_rfl) (c3 hb5) (by kernel_rfl) (by kernel_rfl)) fun f9 hf9 => ?_
      refine mops_end [0, 1, 4, 5, 6, 8, 9, 10, 11, 14, 15, 16, 17, 18, 19, 20, 21, 22, 23, 24, 25, 26, 27, 28, 29] hf9 (l' := [⟨0, [], .s (.int .i64 page_)⟩, ⟨1, [], .s (.int .i64 code_)⟩, ⟨4, [], .ptr 0 0 0⟩, ⟨5, [], .sl false r_.length (cat spinetref14_Known.v r_)⟩, ⟨6, [], .s (.int .i64 i_1)⟩, ⟨8, [], .s (.int .i64 i_1)⟩, ⟨9, [], .sl false r_.length (cat spinetref14_Known.v r_)⟩, ⟨10, [], .s (.int .i64 (ln r_))⟩, ⟨11, [], .s (.bool (decide (i_1 < (ln r_))))⟩, ⟨14, [], .sl false r_.length (cat spinetref14_Known.v r_)⟩, ⟨15, [], .s (.int .i64 i_1)⟩, ⟨16, [], .ip ((cat spinetref14_Known.v r_).drop ((i_1 : Int).toNat * 5))⟩, ⟨17, [], .ip (((cat spinetref14_Known.v r_).drop ((i_1 : Int).toNat * 5)).drop 0)⟩, ⟨18, [], .s (.int .i64 (gt r_ i_1).Page)⟩, ⟨19, [], .s (.int .i64 page_)⟩, ⟨20, [], .s (.bool ((gt r_ i_1).Page == page_))⟩, ⟨21, [], .s (.bool ((gt r_ i_1).Page == page_))⟩, ⟨22, [(21, true)], .sl false r_.length (cat spinetref14_Known.v r_)⟩, ⟨23, [(21, true)], .s (.int .i64 i_1)⟩, ⟨24, [(21, true)], .ip ((cat spinetref14_Known.v r_).drop ((i_1 : Int).toNat * 5))⟩, ⟨25, [(21, true)], .ip (((cat spinetref14_Known.v r_).drop ((i_1 : Int).toNat * 5)).drop 1)⟩, ⟨26, [(21, true)], .s (.int .i64 (gt r_ i_1).Code)⟩, ⟨27, [(21, true)], .s (.int .i64 code_)⟩, ⟨28, [(21, true)], .s (.bool ((gt r_ i_1).Code == code_))⟩, ⟨29, [], .s (.bool (((gt r_ i_1).Page == page_) && ((gt r_ i_1).Code == code_)))⟩]) (L' := [⟨0, .mem, 1, [.s (.int .i64 0), .s (.int .i64 0), .s (.int .i64 0)]⟩]) (by kernel_rfl) fun f10 hf10 => ?_
      refine k_c ?_
      refine k_cond hf10 (t := (((gt r_ i_1).Page == page_) && ((gt r_ i_1).Code == code_))) (by kernel_rfl) (fun hc6 => ?_) (fun hc6 => ?_)
      · have h := if_t h hc6
        refine k_seq ?_
        refine k_reg ?_
        refine mops_seg [0, 1, 4, 5, 6, 8, 9, 10, 11, 14, 15, 16, 17, 18, 19, 20, 21, 22, 23, 24, 25, 26, 27, 28, 29, 30, 31] 2 hf10 (l' := [⟨0, [], .s (.int .i64 page_)⟩, ⟨1, [], .s (.int .i64 code_)⟩, ⟨4, [], .ptr 0 0 0⟩, ⟨5, [], .sl false r_.length (cat spinetref14_Known.v r_)⟩, ⟨6, [], .s (.int .i64 i_1)⟩, ⟨8, [], .s (.int .i64 i_1)⟩, ⟨9, [], .sl false r_.length (cat spinetref14_Known.v r_)⟩, ⟨10, [], .s (.int .i64 (ln r_))⟩, ⟨11, [], .s (.bool (decide (i_1 < (ln r_))))⟩, ⟨14, [], .sl false r_.length (cat spinetref14_Known.v r_)⟩, ⟨15, [], .s (.int .i64 i_1)⟩, ⟨16, [], .ip ((cat spinetref14_Known.v r_).drop ((i_1 : Int).toNat * 5))⟩, ⟨17, [], .ip (((cat spinetref14_Known.v r_).drop ((i_1 : Int).toNat * 5)).drop 0)⟩, ⟨18, [], .s (.int .i64 (gt r_ i_1).Page)⟩, ⟨19, [], .s (.int .i64 page_)⟩, ⟨20, [], .s (.bool ((gt r_ i_1).Page == page_))⟩, ⟨21, [], .s (.bool ((gt r_ i_1).Page == page_))⟩, ⟨22, [(21, true)], .sl false r_.length (cat spinetref14_Known.v r_)⟩, ⟨23, [(21, true)], .s (.int .i64 i_1)⟩, ⟨24, [(21, true)], .ip ((cat spinetref14_Known.v r_).drop ((i_1 : Int).toNat * 5))⟩, ⟨25, [(21, true)], .ip (((cat spinetref14_Known.v r_).drop ((i_1 : Int).toNat * 5)).drop 1)⟩, ⟨26, [(21, true)], .s (.int .i64 (gt r_ i_1).Code)⟩, ⟨27, [(21, true)], .s (.int .i64 code_)⟩, ⟨28, [(21, true)], .s (.bool ((gt r_ i_1).Code == code_))⟩, ⟨29, [], .s (.bool (((gt r_ i_1).Page == page_) && ((gt r_ i_1).Code == code_)))⟩, ⟨30, [], .sl false r_.length (cat spinetref14_Known.v r_)⟩, ⟨31, [], .s (.int .i64 i_1)⟩]) (L' := [⟨0, .mem, 1, [.s (.int .i64 0), .s (.int .i64 0), .s (.int .i64 0)]⟩]) (by kernel_rfl) fun f11 hf11 => ?_
        obtain ⟨c7, h⟩ := as_ok h
        refine mops_adv (dst := (some 32)) (op := (.ias 5 (.t 30) (.t 31))) (aft := [0, 1]) (v := .ip ((cat spinetref14_Known.v r_).drop ((i_1 : Int).toNat * 5))) (by kernel_rfl) hf11 (by kernel_rfl) (e_ias (n := r_.length) (xv := .sl false r_.length (cat spinetref14_Known.v r_)) (k := .i64) (iv := i_1) (p := .ip ((cat spinetref14_Known.v r_).drop ((i_1 : Int).toNat * 5))) (by kernel_rfl) (by kernel_rfl) (by kernel_rfl) (by kernel_rfl) c7) fun f12 hf12 => ?_
        refine mops_seg [0, 1, 4, 5, 6, 8, 9, 10, 11, 14, 15, 16, 17, 18, 19, 20, 21, 22, 23, 24, 25, 26, 27, 28, 29, 30, 31, 32, 33] 1 hf12 (l' := [⟨0, [], .s (.int .i64 page_)⟩, ⟨1, [], .s (.int .i64 code_)⟩, ⟨4, [], .ptr 0 0 0⟩, ⟨5, [], .sl false r_.length (cat spinetref14_Known.v r_)⟩, ⟨6, [], .s (.int .i64 i_1)⟩, ⟨8, [], .s (.int .i64 i_1)⟩, ⟨9, [], .sl false r_.length (cat spinetref14_Known.v r_)⟩, ⟨10, [], .s (.int .i64 (ln r_))⟩, ⟨11, [], .s (.bool (decide (i_1 < (ln r_))))⟩, ⟨14, [], .sl false r_.length (cat spinetref14_Known.v r_)⟩, ⟨15, [], .s (.int .i64 i_1)⟩, ⟨16, [], .ip ((cat spinetref14_Known.v r_).drop ((i_1 : Int).toNat * 5))⟩, ⟨17, [], .ip (((cat spinetref14_Known.v r_).drop ((i_1 : Int).toNat * 5)).drop 0)⟩, ⟨18, [], .s (.int .i64 (gt r_ i_1).Page)⟩, ⟨19, [], .s (.int .i64 page_)⟩, ⟨20, [], .s (.bool ((gt r_ i_1).Page == page_))⟩, ⟨21, [], .s (.bool ((gt r_ i_1).Page == page_))⟩, ⟨22, [(21, true)], .sl false r_.length (cat spinetref14_Known.v r_)⟩, ⟨23, [(21, true)], .s (.int .i64 i_1)⟩, ⟨24, [(21, true)], .ip ((cat spinetref14_Known.v r_).drop ((i_1 : Int).toNat * 5))⟩, ⟨25, [(21, true)], .ip (((cat spinetref14_Known.v r_).drop ((i_1 : Int).toNat * 5)).drop 1)⟩, ⟨26, [(21, true)], .s (.int .i64 (gt r_ i_1).Code)⟩, ⟨27, [(21, true)], .s (.int .i64 code_)⟩, ⟨28, [(21, true)], .s (.bool ((gt r_ i_1).Code == code_))⟩, ⟨29, [], .s (.bool (((gt r_ i_1).Page == page_) && ((gt r_ i_1).Code == code_)))⟩, ⟨30, [], .sl false r_.length (cat spinetref14_Known.v r_)⟩, ⟨31, [], .s (.int .i64 i_1)⟩, ⟨32, [], .ip ((cat spinetref14_Known.v r_).drop ((i_1 : Int).toNat * 5))⟩, ⟨33, [], .ip (((cat spinetref14_Known.v r_).drop ((i_1 : Int).toNat * 5)).drop 2)⟩]) (L' := [⟨0, .mem, 1, [.s (.int .i64 0), .s (.int .i64 0), .s (.int .i64 0)]⟩]) (by kernel_rfl) fun f13 hf13 => ?_
        refine mops_adv (dst := (some 34)) (op := (.load true 3 (.t 33))) (aft := [3]) (v := .agg [.s (.int .i64 ((gt r_ i_1).Entry).Op), .s (.int .i64 ((gt r_ i_1).Entry).Mode), .s (.int .i64 ((gt r_ i_1).Entry).Reg)]) (by kernel_rfl) hf13 (by kernel_rfl) (e_load_ip (g := spinetref14_Known.v) (l := r_) (iv := i_1) [2] (by kernel_rfl) c7 (by kernel_rfl) (by kernel_rfl)) fun f14 hf14 => ?_
        refine mops_end [0, 1, 4, 5, 6, 8, 9, 10, 11, 14, 15, 16, 17, 18, 19, 20, 21, 22, 23, 24, 25, 26, 27, 28, 29, 30, 31, 32, 33, 34] hf14 (l' := [⟨0, [], .s (.int .i64 page_)⟩, ⟨1, [], .s (.int .i64 code_)⟩, ⟨4, [], .ptr 0 0 0⟩, ⟨5, [], .sl false r_.length (cat spinetref14_Known.v r_)⟩, ⟨6, [], .s (.int .i64 i_1)⟩, ⟨8, [], .s (.int .i64 i_1)⟩, ⟨9, [], .sl false r_.length (cat spinetref14_Known.v r_)⟩, ⟨10, [], .s (.int .i64 (ln r_))⟩, ⟨11, [], .s (.bool (decide (i_1 < (ln r_))))⟩, ⟨14, [], .sl false r_.length (cat spinetref14_Known.v r_)⟩, ⟨15, [], .s (.int .i64 i_1)⟩, ⟨16, [], .ip ((cat spinetref14_Known.v r_).drop ((i_1 : Int).toNat * 5))⟩, ⟨17, [], .ip (((cat spinetref14_Known.v r_).drop ((i_1 : Int).toNat * 5)).drop 0)⟩, ⟨18, [], .s (.int .i64 (gt r_ i_1).Page)⟩, ⟨19, [], .s (.int .i64 page_)⟩, ⟨20, [], .s (.bool ((gt r_ i_1).Page == page_))⟩, ⟨21, [], .s (.bool ((gt r_ i_1).Page == page_))⟩, ⟨22, [(21, true)], .sl false r_.length (cat spinetref14_Known.v r_)⟩, ⟨23, [(21, true)], .s (.int .i64 i_1)⟩, ⟨24, [(21, true)], .ip ((cat spinetref14_Known.v r_).drop ((i_1 : Int).toNat * 5))⟩, ⟨25, [(21, true)], .ip (((cat spinetref14_Known.v r_).drop ((i_1 : Int).toNat * 5)).drop 1)⟩, ⟨26, [(21, true)], .s (.int .i64 (gt r_ i_1).Code)⟩, ⟨27, [(21, true)], .s (.int .i64 code_)⟩, ⟨28, [(21, true)], .s (.bool ((gt r_ i_1).Code == code_))⟩, ⟨29, [], .s (.bool (((gt r_ i_1).Page == page_) && ((gt r_ i_1).Code == code_)))⟩, ⟨30, [], .sl false r_.length (cat spinetref14_Known.v r_)⟩, ⟨31, [], .s (.int .i64 i_1)⟩, ⟨32, [], .ip ((cat spinetref14_Known.v r_).drop ((i_1 : Int).toNat * 5))⟩, ⟨33, [], .ip (((cat spinetref14_Known.v r_).drop ((i_1 : Int).toNat * 5)).drop 2)⟩, ⟨34, [], .agg [.s (.int .i64 ((gt r_ i_1).Entry).Op), .s (.int .i64 ((gt r_ i_1).Entry).Mode), .s (.int .i64 ((gt r_ i_1).Entry).Reg)]⟩]) (L' := [⟨0, .mem, 1, [.s (.int .i64 ((gt r_ i_1).Entry).Op), .s (.int .i64 ((gt r_ i_1).Entry).Mode), .s (.int .i64 ((gt r_ i_1).Entry).Reg)]⟩]) (by kernel_rfl) fun f15 hf15 => ?_
        refine k_c ?_
        refine k_ret ?_
        refine x_br ?_
        refine x_c nofun ?_
        refine x_l nofun ?_
        refine x_br ?_
        refine x_c nofun ?_
        obtain rfl := hret0 _ (Option.some.inj h)
        exact k_fin (fin_ret (.inl rfl) hf15 (vs := [.agg [.s (.int .i64 ((gt r_ i_1).Entry).Op), .s (.int .i64 ((gt r_ i_1).Entry).Mode), .s (.int .i64 ((gt r_ i_1).Entry).Reg)]]) (by kernel_rfl) (SettL.pure (FzL.stat rfl)))
      · have h := if_f h hc6
        refine k_skip ?_
        refine k_b ?_
        refine k_c ?_
        refine k_reg ?_
        refine mops_end [0, 1, 4, 5, 6, 8, 9, 10, 11, 12, 13, 14, 15, 16, 17, 18, 19, 20, 21, 22, 23, 24, 25, 26, 27, 28, 29] hf10 (l' := [⟨0, [], .s (.int .i64 page_)⟩, ⟨1, [], .s (.int .i64 code_)⟩, ⟨4, [], .ptr 0 0 0⟩, ⟨5, [], .sl false r_.length (cat spinetref14_Known.v r_)⟩, ⟨6, [], .s (.int .i64 (IntKind.wrap .i64 (i_1 + 1)))⟩, ⟨8, [], .s (.int .i64 i_1)⟩, ⟨9, [], .sl false r_.length (cat spinetref14_Known.v r_)⟩, ⟨10, [], .s (.int .i64 (ln r_))⟩, ⟨11, [], .s (.bool (decide (i_1 < (ln r_))))⟩, ⟨12, [], .s (.int .i64 i_1)⟩, ⟨13, [], .s (.int .i64 (IntKind.wrap .i64 (i_1 + 1)))⟩, ⟨14, [], .sl false r_.length (cat spinetref14_Known.v r_)⟩, ⟨15, [], .s (.int .i64 i_1)⟩, ⟨16, [], .ip ((cat spinetref14_Known.v r_).drop ((i_1 : Int).toNat * 5))⟩, ⟨17, [], .ip (((cat spinetref14_Known.v r_).drop ((i_1 : Int).toNat * 5)).drop 0)⟩, ⟨18, [], .s (.int .i64 (gt r_ i_1).Page)⟩, ⟨19, [], .s (.int .i64 page_)⟩, ⟨20, [], .s (.bool ((gt r_ i_1).Page == page_))⟩, ⟨21, [], .s (.bool ((gt r_ i_1).Page == page_))⟩, ⟨22, [(21, true)], .sl false r_.length (cat spinetref14_Known.v r_)⟩, ⟨23, [(21, true)], .s (.int .i64 i_1)⟩, ⟨24, [(21, true)], .ip ((cat spinetref14_Known.v r_).drop ((i_1 : Int).toNat * 5))⟩, ⟨25, [(21, true)], .ip (((cat spinetref14_Known.v r_).drop ((i_1 : Int).toNat * 5)).drop 1)⟩, ⟨26, [(21, true)], .s (.int .i64 (gt r_ i_1).Code)⟩, ⟨27, [(21, true)], .s (.int .i64 code_)⟩, ⟨28, [(21, true)], .s (.bool ((gt r_ i_1).Code == code_))⟩, ⟨29, [], .s (.bool (((gt r_ i_1).Page == page_) && ((gt r_ i_1).Code == code_)))⟩]) (L' := [⟨0, .mem, 1, [.s (.int .i64 0), .s (.int .i64 0), .s (.int .i64 0)]⟩]) (by kernel_rfl) fun f11 hf11 => ?_
        refine k_l ?_
        exact ih _ _ ⟨(IntKind.wrap .i64 (i_1 + 1)), h, FOk_of [0, 1, 4, 5, 6] hf11 (by kernel_rfl), rfl⟩
    · have h := if_f h hc1
      refine k_exit ?_
      refine x_c nofun ?_
      refine x_l nofun ?_
      refine x_b ?_
      exact hgo0  (Option.some.inj h) _ (FOk_of [4] hf1 (by kernel_rfl))
end Go.Proofs.YtjaadpgmiejidaaK
