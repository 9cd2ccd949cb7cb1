/- The Go functions come to the functions over typed data. Printed by a program of this work. -/
import Derived.Test.YtjaadpgmiejidaaF
import Derived.Test.YtjaadpgmiejidaaProg
import Derived.Test.YtjaadpgmiejidaaG12
namespace Go.Proofs.YtjaadpgmiejidaaK
set_option linter.unusedVariables false
set_option linter.unusedSimpArgs false
set_option maxHeartbeats 4000000
open Go.RowKit
attribute [local irreducible] dwv mops lops lqops lwops kont iter run runK ex E1 vals val chain chB sel resF
def page_Find_i0 : List Op1 := [⟨(some 1), (.e (.box (.t 0))), none, []⟩, ⟨(some 2), (.e (.mv (.k (.int .i64 0)))), none, []⟩, ⟨(some 3), (.e (.mv (.k (.int .u8 0)))), none, [1]⟩, ⟨(some 4), (.e (.mv (.k (.bool false)))), none, [2]⟩]
def page_Find_i1 : List Op1 := [⟨(some 5), (.e (.mv (.k (.int .i64 1)))), none, []⟩]
def page_Find_i2 : List Op1 := [⟨(some 7), (.e (.mv (.t 5))), none, []⟩, ⟨(some 8), (.e (.bin .leq (.t 7) (.k (.int .i64 3)))), none, [0]⟩, ⟨(some 9), (.e (.mv (.t 8))), none, [1]⟩, ⟨(some 10), (.e (.fld 0 (.t 1))), (some (9, true)), [2]⟩, ⟨(some 11), (.e (.load false 1 (.t 10))), (some (9, true)), [3, 2]⟩, ⟨(some 12), (.e (.bin .neq (.t 11) (.k (.int .i64 0)))), (some (9, true)), [4, 2]⟩, ⟨(some 13), (.e (.pick (.t 9) (.t 12) (.k (.bool false)))), none, [2, 5]⟩]
def page_Find_i3 : IR := (.cond (.t 13) .skip (.exit 0))
def page_Find_i4 : List Op1 := [⟨(some 16), (.e (.mv (.k (.int .i64 0)))), none, []⟩]
def page_Find_i5 : List Op1 := [⟨(some 17), (.e (.bin .lss (.t 16) (.k (.int .i64 256)))), none, []⟩]
def page_Find_i6 : List Op1 := [⟨(some 18), (.e (.mv (.t 16))), none, []⟩, ⟨(some 6), (.e (.mv (.t 18))), none, [0, 0]⟩]
def page_Find_i7 : List Op1 := [⟨(some 19), (.e (.mv (.t 5))), none, []⟩, ⟨(some 20), (.e (.mv (.t 6))), none, []⟩, ⟨(some 21), (.e (.cint .u8 (.t 20))), none, [1]⟩, ⟨(some 22), (.call 8 [(.t 19), (.t 21)]), none, [0, 2]⟩, ⟨(some 23), (.e (.load true 3 (.t 1))), none, []⟩, ⟨(some 24), (.e (.eqa false [.int, .int, .int] (.t 22) (.t 23))), none, [3, 4]⟩]
def page_Find_i8 : List Op1 := [⟨(some 25), (.e (.mv (.t 5))), none, []⟩, ⟨(some 26), (.e (.mv (.t 6))), none, []⟩, ⟨(some 27), (.e (.cint .u8 (.t 26))), none, [1]⟩, ⟨(some 2), (.e (.mv (.t 25))), none, [0, 0]⟩, ⟨(some 3), (.e (.mv (.t 27))), none, [2, 3, 0, 1, 2, 3]⟩, ⟨(some 4), (.e (.mv (.k (.bool true)))), none, [4, 0, 1, 2, 3, 4]⟩]
def page_Find_i9 : IR := .ret
def page_Find_i10 : IR := (.cond (.t 24) (.seq (.reg false page_Find_i8) page_Find_i9) .skip)
def page_Find_i11 : IR := (.seq (.reg true page_Find_i7) page_Find_i10)
def page_Find_i12 : List Op1 := [⟨(some 28), (.e (.bin .add (.t 16) (.k (.int .i64 1)))), none, []⟩, ⟨(some 16), (.e (.mv (.t 28))), none, [0]⟩]
def page_Find_i13 : IR := (.reg false page_Find_i12)
def page_Find_i14 : IR := (.seq (.block 3 (.seq (.reg false page_Find_i6) page_Find_i11)) page_Find_i13)
def page_Find_i15 : IR := (.seq (.cond (.t 17) .skip (.exit 2)) page_Find_i14)
def page_Find_i16 : IR := (.seq (.reg false page_Find_i5) page_Find_i15)
def page_Find_i17 : IR := (.block 2 (.loop page_Find_i16))
def page_Find_i18 : List Op1 := [⟨(some 14), (.e (.mv (.t 5))), none, []⟩, ⟨(some 15), (.e (.bin .add (.t 14) (.k (.int .i64 1)))), none, [0]⟩, ⟨(some 5), (.e (.mv (.t 15))), none, [1, 0, 1]⟩]
def page_Find_i19 : IR := (.reg false page_Find_i18)
def page_Find_i20 : IR := (.seq (.block 1 (.seq (.reg false page_Find_i4) page_Find_i17)) page_Find_i19)
def page_Find_i21 : IR := (.seq (.seq (.reg false page_Find_i2) page_Find_i3) page_Find_i20)
def page_Find_i22 : IR := (.block 0 (.loop page_Find_i21))
def page_Find_i23 : List Op1 := [⟨(some 2), (.e (.mv (.k (.int .i64 0)))), none, []⟩, ⟨(some 3), (.e (.mv (.k (.int .u8 0)))), none, [0, 0]⟩, ⟨(some 4), (.e (.mv (.k (.bool false)))), none, [1, 0, 1]⟩]
def page_Find_i24 : IR := .ret
def page_Find_i25 : IR := (.seq (.reg false page_Find_i23) page_Find_i24)
def page_Find_i26 : IR := (.seq (.seq (.reg false page_Find_i1) page_Find_i22) page_Find_i25)
def page_Find_ir : IR := (.seq (.reg false page_Find_i0) page_Find_i26)
theorem page_Find_cfn : cFn Try.prog 5 = some (page_Find_ir, [(.t 2), (.t 3), (.t 4)], 29) := by kernel_rfl
def page_Find_V (r : (Int × Int × Bool)) : V := .tup [.s (.int .i64 r.1), .s (.int .u8 r.2.1), .s (.bool r.2.2)]
def page_Find_C (r : (Int × Int × Bool)) : X → Fr → Hp → Prop := FinL [(.t 2), (.t 3), (.t 4)] [] (page_Find_V r) []
theorem page_Find_ok (e_ : api_Entry) (r : (Int × Int × Bool)) (h : page_Find e_ = some r) : Pure Try.prog 5 [.agg [.s (.int .i64 e_.Op), .s (.int .i64 e_.Mode), .s (.int .i64 e_.Reg)]] (page_Find_V r) := by
  refine ConL.of page_Find_cfn (Nat.le_of_ble_eq_true (by kernel_rfl)) (Nat.le_of_ble_eq_true (by kernel_rfl)) ?_
  refine k_start ?_
  show dwv Try.prog [] page_Find_ir (kont Try.prog [] (page_Find_C r) []) (fr0 [.agg [.s (.int .i64 e_.Op), .s (.int .i64 e_.Mode), .s (.int .i64 e_.Reg)]]) []
  have hf : FOk (fr0 [.agg [.s (.int .i64 e_.Op), .s (.int .i64 e_.Mode), .s (.int .i64 e_.Reg)]]) [⟨0, [], .agg [.s (.int .i64 e_.Op), .s (.int .i64 e_.Mode), .s (.int .i64 e_.Reg)]⟩] := ⟨⟨fun _ => rfl, fun h => (h trivial).elim⟩, trivial⟩
  generalize fr0 [.agg [.s (.int .i64 e_.Op), .s (.int .i64 e_.Mode), .s (.int .i64 e_.Reg)]] = f at hf ⊢
  unfold page_Find at h
  refine k_seq ?_
  refine k_reg ?_
  refine mops_end [1, 2, 3, 4] hf (l' := [⟨1, [], .ptr 0 0 0⟩, ⟨2, [], .s (.int .i64 0)⟩, ⟨3, [], .s (.int .u8 0)⟩, ⟨4, [], .s (.bool false)⟩]) (L' := [⟨0, .mem, 1, [.s (.int .i64 e_.Op), .s (.int .i64 e_.Mode), .s (.int .i64 e_.Reg)]⟩]) (by kernel_rfl) fun f1 hf1 => ?_
  refine k_c ?_
  refine k_seq ?_
  refine k_seq ?_
  refine k_reg ?_
  refine mops_end [1, 2, 3, 4, 5] hf1 (l' := [⟨1, [], .ptr 0 0 0⟩, ⟨2, [], .s (.int .i64 0)⟩, ⟨3, [], .s (.int .u8 0)⟩, ⟨4, [], .s (.bool false)⟩, ⟨5, [], .s (.int .i64 1)⟩]) (L' := [⟨0, .mem, 1, [.s (.int .i64 e_.Op), .s (.int .i64 e_.Mode), .s (.int .i64 e_.Reg)]⟩]) (by kernel_rfl) fun f2 hf2 => ?_
  refine k_c ?_
  refine k_block ?_
  obtain ⟨o0, hx0, h⟩ := Option.bind_eq_some_iff.1 h
  have hret0 : ∀ r0, .ret r0 = o0 → r0 = r := fun r0 e => by subst e; exact Option.some.inj h
  have hgo0 : .go () = o0 → ∀ f, FOk f [⟨2, [], .s (.int .i64 0)⟩, ⟨3, [], .s (.int .u8 0)⟩, ⟨4, [], .s (.bool false)⟩] → kont Try.prog [] (page_Find_C r) ((.c page_Find_i25) :: []) .normal f [⟨0, .mem, 1, [.s (.int .i64 e_.Op), .s (.int .i64 e_.Mode), .s (.int .i64 e_.Reg)]⟩] := by
    intro  e f hf
    subst e
    refine k_c ?_
    refine k_seq ?_
    refine k_reg ?_
    refine mops_end [2, 3, 4] hf (l' := [⟨2, [], .s (.int .i64 0)⟩, ⟨3, [], .s (.int .u8 0)⟩, ⟨4, [], .s (.bool false)⟩]) (L' := [⟨0, .mem, 1, [.s (.int .i64 e_.Op), .s (.int .i64 e_.Mode), .s (.int .i64 e_.Reg)]⟩]) (by kernel_rfl) fun f1 hf1 => ?_
    refine k_c ?_
    refine k_ret ?_
    obtain rfl := Option.some.inj h
    exact k_fin (fin_ret (.inl rfl) hf1 (vs := [.s (.int .i64 0), .s (.int .u8 0), .s (.bool false)]) (by kernel_rfl) (SettL.pure (FzL.tup (FzsL.cons (FzL.stat rfl) (FzsL.cons (FzL.stat rfl) (FzsL.cons (FzL.stat rfl) FzsL.nil))))))
  refine k_loop BIG ?_
  refine loop_ind (fun n f L => ∃ (page_1 : Int), page_Find_l2 e_ n page_1 = some o0 ∧ FOk f [⟨1, [], .ptr 0 0 0⟩, ⟨2, [], .s (.int .i64 0)⟩, ⟨3, [], .s (.int .u8 0)⟩, ⟨4, [], .s (.bool false)⟩, ⟨5, [], .s (.int .i64 page_1)⟩] ∧ L = [⟨0, .mem, 1, [.s (.int .i64 e_.Op), .s (.int .i64 e_.Mode), .s (.int .i64 e_.Reg)]⟩]) ?_ ?_ BIG _ _ ⟨(1), hx0, FOk_of [1, 2, 3, 4, 5] hf2 (by kernel_rfl), rfl⟩
  · rintro f L ⟨page_1, h, _⟩
    cases (show (none : Option _) = some _ from h)
  · rintro n0 R0 ih f L ⟨page_1, h, hf, rfl⟩
    rw [page_Find_l2] at h
    refine k_seq ?_
    refine k_seq ?_
    refine k_reg ?_
    refine mops_end [1, 2, 3, 4, 5, 7, 8, 9, 10, 11, 12, 13] hf (l' := [⟨1, [], .ptr 0 0 0⟩, ⟨2, [], .s (.int .i64 0)⟩, ⟨3, [], .s (.int .u8 0)⟩, ⟨4, [], .s (.bool false)⟩, ⟨5, [], .s (.int .i64 page_1)⟩, ⟨7, [], .s (.int .i64 page_1)⟩, ⟨8, [], .s (.bool (decide (page_1 ≤ 3)))⟩, ⟨9, [], .s (.bool (decide (page_1 ≤ 3)))⟩, ⟨10, [(9, true)], .ptr 0 0 0⟩, ⟨11, [(9, true)], .s (.int .i64 e_.Op)⟩, ⟨12, [(9, true)], .s (.bool (e_.Op != 0))⟩, ⟨13, [], .s (.bool ((decide (page_1 ≤ 3)) && (e_.Op != 0)))⟩]) (L' := [⟨0, .mem, 1, [.s (.int .i64 e_.Op), .s (.int .i64 e_.Mode), .s (.int .i64 e_.Reg)]⟩]) (by kernel_rfl) fun f1 hf1 => ?_
    refine k_c ?_
    refine k_cond hf1 (t := ((decide (page_1 ≤ 3)) && (e_.Op != 0))) (by kernel_rfl) (fun hc1 => ?_) (fun hc1 => ?_)
    · have h := if_t h hc1
      refine k_skip ?_
      refine k_c ?_
      refine k_seq ?_
      refine k_block ?_
      refine k_seq ?_
      refine k_reg ?_
      refine mops_end [1, 2, 3, 4, 5, 7, 8, 9, 10, 11, 12, 13, 16] hf1 (l' := [⟨1, [], .ptr 0 0 0⟩, ⟨2, [], .s (.int .i64 0)⟩, ⟨3, [], .s (.int .u8 0)⟩, ⟨4, [], .s (.bool false)⟩, ⟨5, [], .s (.int .i64 page_1)⟩, ⟨7, [], .s (.int .i64 page_1)⟩, ⟨8, [], .s (.bool (decide (page_1 ≤ 3)))⟩, ⟨9, [], .s (.bool (decide (page_1 ≤ 3)))⟩, ⟨10, [(9, true)], .ptr 0 0 0⟩, ⟨11, [(9, true)], .s (.int .i64 e_.Op)⟩, ⟨12, [(9, true)], .s (.bool (e_.Op != 0))⟩, ⟨13, [], .s (.bool ((decide (page_1 ≤ 3)) && (e_.Op != 0)))⟩, ⟨16, [], .s (.int .i64 0)⟩]) (L' := [⟨0, .mem, 1, [.s (.int .i64 e_.Op), .s (.int .i64 e_.Mode), .s (.int .i64 e_.Reg)]⟩]) (by kernel_rfl) fun f2 hf2 => ?_
      refine k_c ?_
      refine k_block ?_
      obtain ⟨o1, hx1, h⟩ := Option.bind_eq_some_iff.1 h
      have hret1 : ∀ r0, .ret r0 = o1 → r0 = r := fun r0 e => by subst e; exact hret0 _ (Option.some.inj h)
      have hgo1 : ∀ (t_10 : Int) (t_11 : Bool), .go (t_10, t_11) = o1 → ∀ f, FOk f [⟨1, [], .ptr 0 0 0⟩, ⟨2, [], .s (.int .i64 0)⟩, ⟨3, [], .s (.int .u8 0)⟩, ⟨4, [], .s (.bool false)⟩, ⟨5, [], .s (.int .i64 page_1)⟩, ⟨7, [], .s (.int .i64 page_1)⟩, ⟨8, [], .s (.bool (decide (page_1 ≤ 3)))⟩, ⟨9, [], .s (.bool (decide (page_1 ≤ 3)))⟩, ⟨13, [], .s (.bool ((decide (page_1 ≤ 3)) && (e_.Op != 0)))⟩, ⟨16, [], .s (.int .i64 t_10)⟩, ⟨17, [], .s (.bool t_11)⟩] → kont Try.prog [] (page_Find_C r) ((.c page_Find_i19) :: (.l R0) :: (.b 0) :: (.c page_Find_i25) :: []) .normal f [⟨0, .mem, 1, [.s (.int .i64 e_.Op), .s (.int .i64 e_.Mode), .s (.int .i64 e_.Reg)]⟩] := by
        intro t_10 t_11 e f hf
        subst e
        refine k_c ?_
        refine k_reg ?_
        refine mops_end [1, 2, 3, 4, 5, 7, 8, 9, 13, 14, 15, 16, 17] hf (l' := [⟨1, [], .ptr 0 0 0⟩, ⟨2, [], .s (.int .i64 0)⟩, ⟨3, [], .s (.int .u8 0)⟩, ⟨4, [], .s (.bool false)⟩, ⟨5, [], .s (.int .i64 (IntKind.wrap .i64 (page_1 + 1)))⟩, ⟨7, [], .s (.int .i64 page_1)⟩, ⟨8, [], .s (.bool (decide (page_1 ≤ 3)))⟩, ⟨9, [], .s (.bool (decide (page_1 ≤ 3)))⟩, ⟨13, [], .s (.bool ((decide (page_1 ≤ 3)) && (e_.Op != 0)))⟩, ⟨14, [], .s (.int .i64 page_1)⟩, ⟨15, [], .s (.int .i64 (IntKind.wrap .i64 (page_1 + 1)))⟩, ⟨16, [], .s (.int .i64 t_10)⟩, ⟨17, [], .s (.bool t_11)⟩]) (L' := [⟨0, .mem, 1, [.s (.int .i64 e_.Op), .s (.int .i64 e_.Mode), .s (.int .i64 e_.Reg)]⟩]) (by kernel_rfl) fun f1 hf1 => ?_
        refine k_l ?_
        exact ih _ _ ⟨(IntKind.wrap .i64 (page_1 + 1)), h, FOk_of [1, 2, 3, 4, 5] hf1 (by kernel_rfl), rfl⟩
      refine k_loop BIG ?_
      refine loop_ind (fun n f L => ∃ (t_9 : Int), page_Find_l3 e_ page_1 n t_9 = some o1 ∧ FOk f [⟨1, [], .ptr 0 0 0⟩, ⟨2, [], .s (.int .i64 0)⟩, ⟨3, [], .s (.int .u8 0)⟩, ⟨4, [], .s (.bool false)⟩, ⟨5, [], .s (.int .i64 page_1)⟩, ⟨7, [], .s (.int .i64 page_1)⟩, ⟨8, [], .s (.bool (decide (page_1 ≤ 3)))⟩, ⟨9, [], .s (.bool (decide (page_1 ≤ 3)))⟩, ⟨13, [], .s (.bool ((decide (page_1 ≤ 3)) && (e_.Op != 0)))⟩, ⟨16, [], .s (.int .i64 t_9)⟩] ∧ L = [⟨0, .mem, 1, [.s (.int .i64 e_.Op), .s (.int .i64 e_.Mode), .s (.int .i64 e_.Reg)]⟩]) ?_ ?_ BIG _ _ ⟨(0), hx1, FOk_of [1, 2, 3, 4, 5, 7, 8, 9, 13, 16] hf2 (by kernel_rfl), rfl⟩
      · rintro f L ⟨t_9, h, _⟩
        cases (show (none : Option _) = some _ from h)
      · rintro n1 R1 ih f L ⟨t_9, h, hf, rfl⟩
        rw [page_Find_l3] at h
        refine k_seq ?_
        refine k_reg ?_
        refine mops_end [1, 2, 3, 4, 5, 7, 8, 9, 13, 16, 17] hf (l' := [⟨1, [], .ptr 0 0 0⟩, ⟨2, [], .s (.int .i64 0)⟩, ⟨3, [], .s (.int .u8 0)⟩, ⟨4, [], .s (.bool false)⟩, ⟨5, [], .s (.int .i64 page_1)⟩, ⟨7, [], .s (.int .i64 page_1)⟩, ⟨8, [], .s (.bool (decide (page_1 ≤ 3)))⟩, ⟨9, [], .s (.bool (decide (page_1 ≤ 3)))⟩, ⟨13, [], .s (.bool ((decide (page_1 ≤ 3)) && (e_.Op != 0)))⟩, ⟨16, [], .s (.int .i64 t_9)⟩, ⟨17, [], .s (.bool (decide (t_9 < 256)))⟩]) (L' := [⟨0, .mem, 1, [.s (.int .i64 e_.Op), .s (.int .i64 e_.Mode), .s (.int .i64 e_.Reg)]⟩]) (by kernel_rfl) fun f1 hf1 => ?_
        refine k_c ?_
        refine k_seq ?_
        refine k_cond hf1 (t := (decide (t_9 < 256))) (by kernel_rfl) (fun hc2 => ?_) (fun hc2 => ?_)
        · have h := if_t h hc2
          refine k_skip ?_
          refine k_c ?_
          refine k_seq ?_
          refine k_block ?_
          refine k_seq ?_
          refine k_reg ?_
          refine mops_end [1, 2, 3, 4, 5, 6, 7, 8, 9, 13, 16, 17, 18] hf1 (l' := [⟨1, [], .ptr 0 0 0⟩, ⟨2, [], .s (.int .i64 0)⟩, ⟨3, [], .s (.int .u8 0)⟩, ⟨4, [], .s (.bool false)⟩, ⟨5, [], .s (.int .i64 page_1)⟩, ⟨6, [], .s (.int .i64 t_9)⟩, ⟨7, [], .s (.int .i64 page_1)⟩, ⟨8, [], .s (.bool (decide (page_1 ≤ 3)))⟩, ⟨9, [], .s (.bool (decide (page_1 ≤ 3)))⟩, ⟨13, [], .s (.bool ((decide (page_1 ≤ 3)) && (e_.Op != 0)))⟩, ⟨16, [], .s (.int .i64 t_9)⟩, ⟨17, [], .s (.bool (decide (t_9 < 256)))⟩, ⟨18, [], .s (.int .i64 t_9)⟩]) (L' := [⟨0, .mem, 1, [.s (.int .i64 e_.Op), .s (.int .i64 e_.Mode), .s (.int .i64 e_.Reg)]⟩]) (by kernel_rfl) fun f2 hf2 => ?_
          refine k_c ?_
          refine k_seq ?_
          refine k_regq ?_
          refine mops_seg [1, 2, 3, 4, 5, 6, 7, 8, 9, 13, 16, 17, 18, 19, 20, 21] 3 hf2 (l' := [⟨1, [], .ptr 0 0 0⟩, ⟨2, [], .s (.int .i64 0)⟩, ⟨3, [], .s (.int .u8 0)⟩, ⟨4, [], .s (.bool false)⟩, ⟨5, [], .s (.int .i64 page_1)⟩, ⟨6, [], .s (.int .i64 t_9)⟩, ⟨7, [], .s (.int .i64 page_1)⟩, ⟨8, [], .s (.bool (decide (page_1 ≤ 3)))⟩, ⟨9, [], .s (.bool (decide (page_1 ≤ 3)))⟩, ⟨13, [], .s (.bool ((decide (page_1 ≤ 3)) && (e_.Op != 0)))⟩, ⟨16, [], .s (.int .i64 t_9)⟩, ⟨17, [], .s (.bool (decide (t_9 < 256)))⟩, ⟨18, [], .s (.int .i64 t_9)⟩, ⟨19, [], .s (.int .i64 page_1)⟩, ⟨20, [], .s (.int .i64 t_9)⟩, ⟨21, [], .s (.int .u8 (IntKind.wrap .u8 t_9))⟩]) (L' := [⟨0, .mem, 1, [.s (.int .i64 e_.Op), .s (.int .i64 e_.Mode), .s (.int .i64 e_.Reg)]⟩]) (by kernel_rfl) fun f3 hf3 => ?_
          obtain ⟨r_8, hx_r_8, h⟩ := Option.bind_eq_some_iff.1 h
          refine mops_call (dst := (some 22)) (m := 8) (args := [(.t 19), (.t 21)]) (aft := [0, 2]) (by kernel_rfl) hf3 (av := [.s (.int .i64 page_1), .s (.int .u8 (IntKind.wrap .u8 t_9))]) (by kernel_rfl) (v := .agg [.s (.int .i64 r_8.Op), .s (.int .i64 r_8.Mode), .s (.int .i64 r_8.Reg)]) (L' := [⟨0, .mem, 1, [.s (.int .i64 e_.Op), .s (.int .i64 e_.Mode), .s (.int .i64 e_.Reg)]⟩]) (CalL.pure (page_Of_ok page_1 (IntKind.wrap .u8 t_9) r_8 hx_r_8) rfl rfl (Nat.le_of_ble_eq_true (by kernel_rfl))) (fun _ => rfl) fun f4 hf4 => ?_
          refine mops_end [1, 2, 3, 4, 5, 6, 7, 8, 9, 13, 16, 17, 18, 19, 20, 21, 22, 23, 24] hf4 (l' := [⟨1, [], .ptr 0 0 0⟩, ⟨2, [], .s (.int .i64 0)⟩, ⟨3, [], .s (.int .u8 0)⟩, ⟨4, [], .s (.bool false)⟩, ⟨5, [], .s (.int .i64 page_1)⟩, ⟨6, [], .s (.int .i64 t_9)⟩, ⟨7, [], .s (.int .i64 page_1)⟩, ⟨8, [], .s (.bool (decide (page_1 ≤ 3)))⟩, ⟨9, [], .s (.bool (decide (page_1 ≤ 3)))⟩, ⟨13, [], .s (.bool ((decide (page_1 ≤ 3)) && (e_.Op != 0)))⟩, ⟨16, [], .s (.int .i64 t_9)⟩, ⟨17, [], .s (.bool (decide (t_9 < 256)))⟩, ⟨18, [], .s (.int .i64 t_9)⟩, ⟨19, [], .s (.int .i64 page_1)⟩, ⟨20, [], .s (.int .i64 t_9)⟩, ⟨21, [], .s (.int .u8 (IntKind.wrap .u8 t_9))⟩, ⟨22, [], .agg [.s (.int .i64 r_8.Op), .s (.int .i64 r_8.Mode), .s (.int .i64 r_8.Reg)]⟩, ⟨23, [], .agg [.s (.int .i64 e_.Op), .s (.int .i64 e_.Mode), .s (.int .i64 e_.Reg)]⟩, ⟨24, [], .s (.bool ((r_8.Op == e_.Op) && ((r_8.Mode == e_.Mode) && ((r_8.Reg == e_.Reg) && true))))⟩]) (L' := [⟨0, .mem, 1, [.s (.int .i64 e_.Op), .s (.int .i64 e_.Mode), .s (.int .i64 e_.Reg)]⟩]) (by kernel_rfl) fun f5 hf5 => ?_
          refine k_c ?_
          refine k_cond hf5 (t := ((r_8.Op == e_.Op) && ((r_8.Mode == e_.Mode) && ((r_8.Reg == e_.Reg) && true)))) (by kernel_rfl) (fun hc3 => ?_) (fun hc3 => ?_)
          · have h := if_t h hc3
            refine k_seq ?_
            refine k_reg ?_
            refine mops_end [1, 2, 3, 4, 5, 6, 7, 8, 9, 13, 16, 17, 18, 19, 20, 21, 22, 23, 24, 25, 26, 27] hf5 (l' := [⟨1, [], .ptr 0 0 0⟩, ⟨2, [], .s (.int .i64 page_1)⟩, ⟨3, [], .s (.int .u8 (IntKind.wrap .u8 t_9))⟩, ⟨4, [], .s (.bool true)⟩, ⟨5, [], .s (.int .i64 page_1)⟩, ⟨6, [], .s (.int .i64 t_9)⟩, ⟨7, [], .s (.int .i64 page_1)⟩, ⟨8, [], .s (.bool (decide (page_1 ≤ 3)))⟩, ⟨9, [], .s (.bool (decide (page_1 ≤ 3)))⟩, ⟨13, [], .s (.bool ((decide (page_1 ≤ 3)) && (e_.Op != 0)))⟩, ⟨16, [], .s (.int .i64 t_9)⟩, ⟨17, [], .s (.bool (decide (t_9 < 256)))⟩, ⟨18, [], .s (.int .i64 t_9)⟩, ⟨19, [], .s (.int .i64 page_1)⟩, ⟨20, [], .s (.int .i64 t_9)⟩, ⟨21, [], .s (.int .u8 (IntKind.wrap .u8 t_9))⟩, ⟨22, [], .agg [.s (.int .i64 r_8.Op), .s (.int .i64 r_8.Mode), .s (.int .i64 r_8.Reg)]⟩, ⟨23, [], .agg [.s (.int .i64 e_.Op), .s (.int .i64 e_.Mode), .s (.int .i64 e_.Reg)]⟩, ⟨24, [], .s (.bool ((r_8.Op == e_.Op) && ((r_8.Mode == e_.Mode) && ((r_8.Reg == e_.Reg) && true))))⟩, ⟨25, [], .s (.int .i64 page_1)⟩, ⟨26, [], .s (.int .i64 t_9)⟩, ⟨27, [], .s (.int .u8 (IntKind.wrap .u8 t_9))⟩]) (L' := [⟨0, .mem, 1, [.s (.int .i64 e_.Op), .s (.int .i64 e_.Mode), .s (.int .i64 e_.Reg)]⟩]) (by kernel_rfl) fun f6 hf6 => ?_
            refine k_c ?_
            refine k_ret ?_
            refine x_br ?_
            refine x_c nofun ?_
            refine x_l nofun ?_
            refine x_br ?_
            refine x_br ?_
            refine x_c nofun ?_
            refine x_l nofun ?_
            refine x_br ?_
            refine x_c nofun ?_
            obtain rfl := hret1 _ (Option.some.inj h)
            exact k_fin (fin_ret (.inl rfl) hf6 (vs := [.s (.int .i64 page_1), .s (.int .u8 (IntKind.wrap .u8 t_9)), .s (.bool true)]) (by kernel_rfl) (SettL.pure (FzL.tup (FzsL.cons (FzL.stat rfl) (FzsL.cons (FzL.stat rfl) (FzsL.cons (FzL.stat rfl) FzsL.nil))))))
          · have h := if_f h hc3
            refine k_skip ?_
            refine k_b ?_
            refine k_c ?_
            refine k_reg ?_
            refine mops_end [1, 2, 3, 4, 5, 6, 7, 8, 9, 13, 16, 17, 18, 19, 20, 21, 22, 23, 24, 28] hf5 (l' := [⟨1, [], .ptr 0 0 0⟩, ⟨2, [], .s (.int .i64 0)⟩, ⟨3, [], .s (.int .u8 0)⟩, ⟨4, [], .s (.bool false)⟩, ⟨5, [], .s (.int .i64 page_1)⟩, ⟨6, [], .s (.int .i64 t_9)⟩, ⟨7, [], .s (.int .i64 page_1)⟩, ⟨8, [], .s (.bool (decide (page_1 ≤ 3)))⟩, ⟨9, [], .s (.bool (decide (page_1 ≤ 3)))⟩, ⟨13, [], .s (.bool ((decide (page_1 ≤ 3)) && (e_.Op != 0)))⟩, ⟨16, [], .s (.int .i64 (IntKind.wrap .i64 (t_9 + 1)))⟩, ⟨17, [], .s (.bool (decide (t_9 < 256)))⟩, ⟨18, [], .s (.int .i64 t_9)⟩, ⟨19, [], .s (.int .i64 page_1)⟩, ⟨20, [], .s (.int .i64 t_9)⟩, ⟨21, [], .s (.int .u8 (IntKind.wrap .u8 t_9))⟩, ⟨22, [], .agg [.s (.int .i64 r_8.Op), .s (.int .i64 r_8.Mode), .s (.int .i64 r_8.Reg)]⟩, ⟨23, [], .agg [.s (.int .i64 e_.Op), .s (.int .i64 e_.Mode), .s (.int .i64 e_.Reg)]⟩, ⟨24, [], .s (.bool ((r_8.Op == e_.Op) && ((r_8.Mode == e_.Mode) && ((r_8.Reg == e_.Reg) && true))))⟩, ⟨28, [], .s (.int .i64 (IntKind.wrap .i64 (t_9 + 1)))⟩]) (L' := [⟨0, .mem, 1, [.s (.int .i64 e_.Op), .s (.int .i64 e_.Mode), .s (.int .i64 e_.Reg)]⟩]) (by kernel_rfl) fun f6 hf6 => ?_
            refine k_l ?_
            exact ih _ _ ⟨(IntKind.wrap .i64 (t_9 + 1)), h, FOk_of [1, 2, 3, 4, 5, 7, 8, 9, 13, 16] hf6 (by kernel_rfl), rfl⟩
        · have h := if_f h hc2
          refine k_exit ?_
          refine x_c nofun ?_
          refine x_l nofun ?_
          refine x_b ?_
          refine k_b ?_
          exact hgo1 t_9 (decide (t_9 < 256)) (Option.some.inj h) _ (FOk_of [1, 2, 3, 4, 5, 7, 8, 9, 13, 16, 17] hf1 (by kernel_rfl))
    · have h := if_f h hc1
      refine k_exit ?_
      refine x_c nofun ?_
      refine x_l nofun ?_
      refine x_b ?_
      exact hgo0  (Option.some.inj h) _ (FOk_of [2, 3, 4] hf1 (by kernel_rfl))
end Go.Proofs.YtjaadpgmiejidaaK
