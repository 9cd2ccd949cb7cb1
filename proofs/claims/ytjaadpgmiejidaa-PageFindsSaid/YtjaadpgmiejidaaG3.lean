/- The Go functions come to the functions over typed data. Printed by a program of this work. -/
import Derived.Test.YtjaadpgmiejidaaF
import Derived.Test.YtjaadpgmiejidaaProg
namespace Go.Proofs.YtjaadpgmiejidaaK
set_option linter.unusedVariables false
set_option linter.unusedSimpArgs false
set_option maxHeartbeats 4000000
open Go.RowKit
attribute [local irreducible] dwv mops lops lqops lwops kont iter run runK ex E1 vals val chain chB sel resF
def page_thirties_i0 : List Op1 := [⟨(some 2), (.e (.zero [(.int .i64 0), (.int .i64 0), (.int .i64 0)])), none, []⟩]
def page_thirties_i1 : List Op1 := [⟨(some 3), (.e (.mv (.t 0))), none, []⟩]
def page_thirties_i2 : List Op1 := [⟨(some 5), (.e (.bin .eql (.t 3) (.k (.int .u8 0)))), none, []⟩, ⟨(some 4), (.e (.mv (.t 5))), none, [0]⟩]
def page_thirties_i3 : List Op1 := [⟨(some 6), (.e (.bin .eql (.t 3) (.k (.int .u8 1)))), none, []⟩, ⟨(some 4), (.e (.mv (.t 6))), none, [0]⟩]
def page_thirties_i4 : List Op1 := [⟨(some 7), (.e (.bin .eql (.t 3) (.k (.int .u8 2)))), none, []⟩, ⟨(some 4), (.e (.mv (.t 7))), none, [0]⟩]
def page_thirties_i5 : List Op1 := [⟨(some 8), (.e (.bin .eql (.t 3) (.k (.int .u8 3)))), none, []⟩, ⟨(some 4), (.e (.mv (.t 8))), none, [0]⟩]
def page_thirties_i6 : IR := (.cond (.t 4) .skip (.reg false page_thirties_i5))
def page_thirties_i7 : IR := (.cond (.t 4) .skip (.seq (.reg false page_thirties_i4) page_thirties_i6))
def page_thirties_i8 : IR := (.cond (.t 4) .skip (.seq (.reg false page_thirties_i3) page_thirties_i7))
def page_thirties_i9 : List Op1 := [⟨(some 9), (.e (.build [(.int .i64 0), (.int .i64 0), (.int .i64 0), (.int .i64 0)] [(0, (1, (.k (.int .i64 1)))), (1, (1, (.k (.int .i64 2)))), (2, (1, (.k (.int .i64 4)))), (3, (1, (.k (.int .i64 3))))])), none, []⟩, ⟨(some 10), (.e (.mv (.t 0))), none, []⟩, ⟨(some 11), (.e (.ixa false 4 1 (.t 9) (.t 10))), none, [0, 1]⟩, ⟨(some 12), (.e (.build [(.int .i64 0), (.int .i64 0), (.int .i64 0)] [(0, (1, (.k (.int .i64 29)))), (1, (1, (.k (.int .i64 4)))), (2, (1, (.t 11)))])), none, [2]⟩, ⟨none, (.e (.store 3 (.t 2) (.t 12))), none, [3, 0, 1, 2, 3]⟩]
def page_thirties_i10 : IR := .ret
def page_thirties_i11 : List Op1 := [⟨(some 14), (.e (.bin .eql (.t 3) (.k (.int .u8 4)))), none, []⟩, ⟨(some 13), (.e (.mv (.t 14))), none, [0]⟩]
def page_thirties_i12 : List Op1 := [⟨(some 15), (.e (.bin .eql (.t 3) (.k (.int .u8 6)))), none, []⟩, ⟨(some 13), (.e (.mv (.t 15))), none, [0]⟩]
def page_thirties_i13 : IR := (.cond (.t 13) .skip (.reg false page_thirties_i12))
def page_thirties_i14 : List Op1 := [⟨(some 16), (.e (.mv (.t 0))), none, []⟩, ⟨(some 17), (.e (.bin .sub (.t 16) (.k (.int .u8 4)))), none, [0]⟩, ⟨(some 18), (.e (.cint .i64 (.t 17))), none, [1]⟩, ⟨(some 19), (.e (.bin .quo (.t 18) (.k (.int .i64 2)))), none, [2]⟩, ⟨(some 20), (.e (.bin .sub (.k (.int .i64 4)) (.t 19))), none, [3]⟩, ⟨(some 21), (.e (.build [(.int .i64 0), (.int .i64 0), (.int .i64 0)] [(0, (1, (.k (.int .i64 30)))), (1, (1, (.k (.int .i64 9)))), (2, (1, (.t 20)))])), none, [4]⟩, ⟨none, (.e (.store 3 (.t 2) (.t 21))), none, [5, 0, 1, 2, 3, 4, 5]⟩]
def page_thirties_i15 : IR := .ret
def page_thirties_i16 : List Op1 := [⟨(some 23), (.e (.bin .eql (.t 3) (.k (.int .u8 5)))), none, []⟩, ⟨(some 22), (.e (.mv (.t 23))), none, [0]⟩]
def page_thirties_i17 : List Op1 := [⟨(some 24), (.e (.bin .eql (.t 3) (.k (.int .u8 7)))), none, []⟩, ⟨(some 22), (.e (.mv (.t 24))), none, [0]⟩]
def page_thirties_i18 : IR := (.cond (.t 22) .skip (.reg false page_thirties_i17))
def page_thirties_i19 : List Op1 := [⟨(some 25), (.e (.mv (.t 0))), none, []⟩, ⟨(some 26), (.e (.bin .sub (.t 25) (.k (.int .u8 5)))), none, [0]⟩, ⟨(some 27), (.e (.cint .i64 (.t 26))), none, [1]⟩, ⟨(some 28), (.e (.bin .quo (.t 27) (.k (.int .i64 2)))), none, [2]⟩, ⟨(some 29), (.e (.bin .sub (.k (.int .i64 4)) (.t 28))), none, [3]⟩, ⟨(some 30), (.e (.build [(.int .i64 0), (.int .i64 0), (.int .i64 0)] [(0, (1, (.k (.int .i64 31)))), (1, (1, (.k (.int .i64 9)))), (2, (1, (.t 29)))])), none, [4]⟩, ⟨none, (.e (.store 3 (.t 2) (.t 30))), none, [5, 0, 1, 2, 3, 4, 5]⟩]
def page_thirties_i20 : IR := .ret
def page_thirties_i21 : List Op1 := [⟨(some 32), (.e (.bin .eql (.t 3) (.k (.int .u8 9)))), none, []⟩, ⟨(some 31), (.e (.mv (.t 32))), none, [0]⟩]
def page_thirties_i22 : List Op1 := [⟨(some 33), (.e (.build [(.int .i64 0), (.int .i64 0), (.int .i64 0)] [(0, (1, (.k (.int .i64 48))))])), none, []⟩, ⟨none, (.e (.store 3 (.t 2) (.t 33))), none, [0, 0]⟩]
def page_thirties_i23 : IR := .ret
def page_thirties_i24 : List Op1 := [⟨(some 35), (.e (.bin .eql (.t 3) (.k (.int .u8 10)))), none, []⟩, ⟨(some 34), (.e (.mv (.t 35))), none, [0]⟩]
def page_thirties_i25 : List Op1 := [⟨(some 36), (.e (.build [(.int .i64 0), (.int .i64 0), (.int .i64 0)] [(0, (1, (.k (.int .i64 1))))])), none, []⟩, ⟨none, (.e (.store 3 (.t 2) (.t 36))), none, [0, 0]⟩]
def page_thirties_i26 : IR := .ret
def page_thirties_i27 : List Op1 := [⟨(some 38), (.e (.bin .eql (.t 3) (.k (.int .u8 11)))), none, []⟩, ⟨(some 37), (.e (.mv (.t 38))), none, [0]⟩]
def page_thirties_i28 : List Op1 := [⟨(some 39), (.e (.build [(.int .i64 0), (.int .i64 0), (.int .i64 0)] [(0, (1, (.k (.int .i64 49))))])), none, []⟩, ⟨none, (.e (.store 3 (.t 2) (.t 39))), none, [0, 0]⟩]
def page_thirties_i29 : IR := .ret
def page_thirties_i30 : List Op1 := [⟨(some 41), (.e (.bin .eql (.t 3) (.k (.int .u8 12)))), none, []⟩, ⟨(some 40), (.e (.mv (.t 41))), none, [0]⟩]
def page_thirties_i31 : List Op1 := [⟨(some 42), (.e (.build [(.int .i64 0), (.int .i64 0), (.int .i64 0)] [(0, (1, (.k (.int .i64 41)))), (1, (1, (.k (.int .i64 1))))])), none, []⟩, ⟨none, (.e (.store 3 (.t 2) (.t 42))), none, [0, 0]⟩]
def page_thirties_i32 : IR := .ret
def page_thirties_i33 : List Op1 := [⟨(some 44), (.e (.bin .eql (.t 3) (.k (.int .u8 13)))), none, []⟩, ⟨(some 43), (.e (.mv (.t 44))), none, [0]⟩]
def page_thirties_i34 : List Op1 := [⟨(some 45), (.e (.build [(.int .i64 0), (.int .i64 0), (.int .i64 0)] [(0, (1, (.k (.int .i64 50))))])), none, []⟩, ⟨none, (.e (.store 3 (.t 2) (.t 45))), none, [0, 0]⟩]
def page_thirties_i35 : IR := .ret
def page_thirties_i36 : List Op1 := [⟨(some 47), (.e (.bin .eql (.t 3) (.k (.int .u8 15)))), none, []⟩, ⟨(some 46), (.e (.mv (.t 47))), none, [0]⟩]
def page_thirties_i37 : List Op1 := [⟨(some 48), (.e (.build [(.int .i64 0), (.int .i64 0), (.int .i64 0)] [(0, (1, (.k (.int .i64 51)))), (2, (1, (.k (.int .i64 1))))])), none, []⟩, ⟨none, (.e (.store 3 (.t 2) (.t 48))), none, [0, 0]⟩]
def page_thirties_i38 : IR := .ret
def page_thirties_i39 : IR := (.cond (.t 46) (.seq (.reg false page_thirties_i37) page_thirties_i38) .skip)
def page_thirties_i40 : IR := (.cond (.t 43) (.seq (.reg false page_thirties_i34) page_thirties_i35) (.seq (.reg false page_thirties_i36) page_thirties_i39))
def page_thirties_i41 : IR := (.cond (.t 40) (.seq (.reg false page_thirties_i31) page_thirties_i32) (.seq (.reg false page_thirties_i33) page_thirties_i40))
def page_thirties_i42 : IR := (.cond (.t 37) (.seq (.reg false page_thirties_i28) page_thirties_i29) (.seq (.reg false page_thirties_i30) page_thirties_i41))
def page_thirties_i43 : IR := (.cond (.t 34) (.seq (.reg false page_thirties_i25) page_thirties_i26) (.seq (.reg false page_thirties_i27) page_thirties_i42))
def page_thirties_i44 : IR := (.cond (.t 31) (.seq (.reg false page_thirties_i22) page_thirties_i23) (.seq (.reg false page_thirties_i24) page_thirties_i43))
def page_thirties_i45 : IR := (.cond (.t 22) (.seq (.reg false page_thirties_i19) page_thirties_i20) (.seq (.reg false page_thirties_i21) page_thirties_i44))
def page_thirties_i46 : IR := (.cond (.t 13) (.seq (.reg false page_thirties_i14) page_thirties_i15) (.seq (.seq (.reg false page_thirties_i16) page_thirties_i18) page_thirties_i45))
def page_thirties_i47 : IR := (.cond (.t 4) (.seq (.reg false page_thirties_i9) page_thirties_i10) (.seq (.seq (.reg false page_thirties_i11) page_thirties_i13) page_thirties_i46))
def page_thirties_i48 : IR := (.block 0 (.seq (.seq (.reg false page_thirties_i2) page_thirties_i8) page_thirties_i47))
def page_thirties_i49 : List Op1 := [⟨(some 49), (.e (.build [(.int .i64 0), (.int .i64 0), (.int .i64 0)] [])), none, []⟩, ⟨none, (.e (.store 3 (.t 2) (.t 49))), none, [0, 0]⟩]
def page_thirties_i50 : IR := .ret
def page_thirties_i51 : IR := (.seq (.reg false page_thirties_i49) page_thirties_i50)
def page_thirties_i52 : IR := (.seq (.seq (.reg false page_thirties_i1) page_thirties_i48) page_thirties_i51)
def page_thirties_ir : IR := (.seq (.reg false page_thirties_i0) page_thirties_i52)
theorem page_thirties_cfn : cFn Try.prog 18 = some (page_thirties_ir, [(.c 2 true 3)], 50) := by kernel_rfl
def page_thirties_V (r : (api_Entry)) : V := .agg [.s (.int .i64 r.Op), .s (.int .i64 r.Mode), .s (.int .i64 r.Reg)]
def page_thirties_C (r : (api_Entry)) : X → Fr → Hp → Prop := FinL [(.c 2 true 3)] [] (page_thirties_V r) []
theorem page_thirties_ok (low_ : Int) (r : (api_Entry)) (h : page_thirties low_ = some r) : Pure Try.prog 18 [.s (.int .u8 low_)] (page_thirties_V r) := by
  refine ConL.of page_thirties_cfn (Nat.le_of_ble_eq_true (by kernel_rfl)) (Nat.le_of_ble_eq_true (by kernel_rfl)) ?_
  refine k_start ?_
  show dwv Try.prog [] page_thirties_ir (kont Try.prog [] (page_thirties_C r) []) (fr0 [.s (.int .u8 low_)]) []
  have hf : FOk (fr0 [.s (.int .u8 low_)]) [⟨0, [], .s (.int .u8 low_)⟩] := ⟨⟨fun _ => rfl, fun h => (h trivial).elim⟩, trivial⟩
  generalize fr0 [.s (.int .u8 low_)] = f at hf ⊢
  unfold page_thirties at h
  refine k_seq ?_
  refine k_reg ?_
  refine mops_end [0, 2] hf (l' := [⟨0, [], .s (.int .u8 low_)⟩, ⟨2, [], .ptr 0 0 0⟩]) (L' := [⟨0, .mem, 1, [.s (.int .i64 0), .s (.int .i64 0), .s (.int .i64 0)]⟩]) (by kernel_rfl) fun f1 hf1 => ?_
  refine k_c ?_
  refine k_seq ?_
  refine k_seq ?_
  refine k_reg ?_
  refine mops_end [0, 2, 3] hf1 (l' := [⟨0, [], .s (.int .u8 low_)⟩, ⟨2, [], .ptr 0 0 0⟩, ⟨3, [], .s (.int .u8 low_)⟩]) (L' := [⟨0, .mem, 1, [.s (.int .i64 0), .s (.int .i64 0), .s (.int .i64 0)]⟩]) (by kernel_rfl) fun f2 hf2 => ?_
  refine k_c ?_
  refine k_block ?_
  refine k_seq ?_
  refine k_seq ?_
  refine k_reg ?_
  refine mops_end [0, 2, 3, 4] hf2 (l' := [⟨0, [], .s (.int .u8 low_)⟩, ⟨2, [], .ptr 0 0 0⟩, ⟨3, [], .s (.int .u8 low_)⟩, ⟨4, [], .s (.bool (low_ == 0))⟩]) (L' := [⟨0, .mem, 1, [.s (.int .i64 0), .s (.int .i64 0), .s (.int .i64 0)]⟩]) (by kernel_rfl) fun f3 hf3 => ?_
  refine k_c ?_
  have hj1 : ∀ (t_ : Bool), page_thirties_j2 low_ t_ = some r → ∀ f, FOk f [⟨0, [], .s (.int .u8 low_)⟩, ⟨2, [], .ptr 0 0 0⟩, ⟨3, [], .s (.int .u8 low_)⟩, ⟨4, [], .s (.bool t_)⟩] → kont Try.prog [] (page_thirties_C r) ((.c page_thirties_i47) :: (.b 0) :: (.c page_thirties_i51) :: []) .normal f [⟨0, .mem, 1, [.s (.int .i64 0), .s (.int .i64 0), .s (.int .i64 0)]⟩] := by
    intro t_ h f hf
    unfold page_thirties_j2 at h
    refine k_c ?_
    refine k_cond hf (t := t_) (by kernel_rfl) (fun hc4 => ?_) (fun hc4 => ?_)
    · have h := if_t h hc4
      refine k_seq ?_
      refine k_reg ?_
      refine mops_seg [2, 9, 10] 2 hf (l' := [⟨2, [], .ptr 0 0 0⟩, ⟨9, [], .agg [.s (.int .i64 1), .s (.int .i64 2), .s (.int .i64 4), .s (.int .i64 3)]⟩, ⟨10, [], .s (.int .u8 low_)⟩]) (L' := [⟨0, .mem, 1, [.s (.int .i64 0), .s (.int .i64 0), .s (.int .i64 0)]⟩]) (by kernel_rfl) fun f1 hf1 => ?_
      obtain ⟨c5, h⟩ := as_ok h
      refine mops_adv (dst := (some 11)) (op := (.ixa false 4 1 (.t 9) (.t 10))) (aft := [0, 1]) (v := .s (.int .i64 (gt [1, 2, 4, 3] low_))) (by kernel_rfl) hf1 (by kernel_rfl) (e_ixa (g := (nI .i64)) (l := [1, 2, 4, 3]) (n := 4) (k := .u8) (iv := low_) (by kernel_rfl) (by kernel_rfl) c5 (by kernel_rfl) (by kernel_rfl)) fun f2 hf2 => ?_
      refine mops_end [2] hf2 (l' := [⟨2, [], .ptr 0 0 0⟩]) (L' := [⟨0, .mem, 1, [.s (.int .i64 29), .s (.int .i64 4), .s (.int .i64 (gt [1, 2, 4, 3] low_))]⟩]) (by kernel_rfl) fun f3 hf3 => ?_
      refine k_c ?_
      refine k_ret ?_
      refine x_br ?_
      refine x_c nofun ?_
      obtain rfl := Option.some.inj h
      exact k_fin (fin_ret (.inl rfl) hf3 (vs := [.agg [.s (.int .i64 29), .s (.int .i64 4), .s (.int .i64 (gt [1, 2, 4, 3] low_))]]) (by kernel_rfl) (SettL.pure (FzL.stat rfl)))
    · have h := if_f h hc4
      refine k_seq ?_
      refine k_seq ?_
      refine k_reg ?_
      refine mops_end [0, 2, 3, 13] hf (l' := [⟨0, [], .s (.int .u8 low_)⟩, ⟨2, [], .ptr 0 0 0⟩, ⟨3, [], .s (.int .u8 low_)⟩, ⟨13, [], .s (.bool (low_ == 4))⟩]) (L' := [⟨0, .mem, 1, [.s (.int .i64 0), .s (.int .i64 0), .s (.int .i64 0)]⟩]) (by kernel_rfl) fun f1 hf1 => ?_
      refine k_c ?_
      have hj2 : ∀ (t_1 : Bool), page_thirties_j1 low_ t_1 = some r → ∀ f, FOk f [⟨0, [], .s (.int .u8 low_)⟩, ⟨2, [], .ptr 0 0 0⟩, ⟨3, [], .s (.int .u8 low_)⟩, ⟨13, [], .s (.bool t_1)⟩] → kont Try.prog [] (page_thirties_C r) ((.c page_thirties_i46) :: (.b 0) :: (.c page_thirties_i51) :: []) .normal f [⟨0, .mem, 1, [.s (.int .i64 0), .s (.int .i64 0), .s (.int .i64 0)]⟩] := by
        intro t_1 h f hf
        unfold page_thirties_j1 at h
        refine k_c ?_
        refine k_cond hf (t := t_1) (by kernel_rfl) (fun hc7 => ?_) (fun hc7 => ?_)
        · have h := if_t h hc7
          refine k_seq ?_
          refine k_reg ?_
          refine mops_end [2] hf (l' := [⟨2, [], .ptr 0 0 0⟩]) (L' := [⟨0, .mem, 1, [.s (.int .i64 30), .s (.int .i64 9), .s (.int .i64 (IntKind.wrap .i64 (4 - (IntKind.wrap .i64 (Int.tdiv (IntKind.wrap .i64 (IntKind.wrap .u8 (low_ - 4))) 2)))))]⟩]) (by kernel_rfl) fun f1 hf1 => ?_
          refine k_c ?_
          refine k_ret ?_
          refine x_br ?_
          refine x_c nofun ?_
          obtain rfl := Option.some.inj h
          exact k_fin (fin_ret (.inl rfl) hf1 (vs := [.agg [.s (.int .i64 30), .s (.int .i64 9), .s (.int .i64 (IntKind.wrap .i64 (4 - (IntKind.wrap .i64 (Int.tdiv (IntKind.wrap .i64 (IntKind.wrap .u8 (low_ - 4))) 2)))))]]) (by kernel_rfl) (SettL.pure (FzL.stat rfl)))
        · have h := if_f h hc7
          refine k_seq ?_
          refine k_seq ?_
          refine k_reg ?_
          refine mops_end [0, 2, 3, 22] hf (l' := [⟨0, [], .s (.int .u8 low_)⟩, ⟨2, [], .ptr 0 0 0⟩, ⟨3, [], .s (.int .u8 low_)⟩, ⟨22, [], .s (.bool (low_ == 5))⟩]) (L' := [⟨0, .mem, 1, [.s (.int .i64 0), .s (.int .i64 0), .s (.int .i64 0)]⟩]) (by kernel_rfl) fun f1 hf1 => ?_
          refine k_c ?_
          have hj3 : ∀ (t_2 : Bool), page_thirties_j0 low_ t_2 = some r → ∀ f, FOk f [⟨0, [], .s (.int .u8 low_)⟩, ⟨2, [], .ptr 0 0 0⟩, ⟨3, [], .s (.int .u8 low_)⟩, ⟨22, [], .s (.bool t_2)⟩] → kont Try.prog [] (page_thirties_C r) ((.c page_thirties_i45) :: (.b 0) :: (.c page_thirties_i51) :: []) .normal f [⟨0, .mem, 1, [.s (.int .i64 0), .s (.int .i64 0), .s (.int .i64 0)]⟩] := by
            intro t_2 h f hf
            unfold page_thirties_j0 at h
            refine k_c ?_
            refine k_cond hf (t := t_2) (by kernel_rfl) (fun hc9 => ?_) (fun hc9 => ?_)
            · have h := if_t h hc9
              refine k_seq ?_
              refine k_reg ?_
              refine mops_end [2] hf (l' := [⟨2, [], .ptr 0 0 0⟩]) (L' := [⟨0, .mem, 1, [.s (.int .i64 31), .s (.int .i64 9), .s (.int .i64 (IntKind.wrap .i64 (4 - (IntKind.wrap .i64 (Int.tdiv (IntKind.wrap .i64 (IntKind.wrap .u8 (low_ - 5))) 2)))))]⟩]) (by kernel_rfl) fun f1 hf1 => ?_
              refine k_c ?_
              refine k_ret ?_
              refine x_br ?_
              refine x_c nofun ?_
              obtain rfl := Option.some.inj h
              exact k_fin (fin_ret (.inl rfl) hf1 (vs := [.agg [.s (.int .i64 31), .s (.int .i64 9), .s (.int .i64 (IntKind.wrap .i64 (4 - (IntKind.wrap .i64 (Int.tdiv (IntKind.wrap .i64 (IntKind.wrap .u8 (low_ - 5))) 2)))))]]) (by kernel_rfl) (SettL.pure (FzL.stat rfl)))
            · have h := if_f h hc9
              refine k_seq ?_
              refine k_reg ?_
              refine mops_end [2, 3, 31] hf (l' := [⟨2, [], .ptr 0 0 0⟩, ⟨3, [], .s (.int .u8 low_)⟩, ⟨31, [], .s (.bool (low_ == 9))⟩]) (L' := [⟨0, .mem, 1, [.s (.int .i64 0), .s (.int .i64 0), .s (.int .i64 0)]⟩]) (by kernel_rfl) fun f1 hf1 => ?_
              refine k_c ?_
              refine k_cond hf1 (t := (low_ == 9)) (by kernel_rfl) (fun hc10 => ?_) (fun hc10 => ?_)
              · have h := if_t h hc10
                refine k_seq ?_
                refine k_reg ?_
                refine mops_end [2] hf1 (l' := [⟨2, [], .ptr 0 0 0⟩]) (L' := [⟨0, .mem, 1, [.s (.int .i64 48), .s (.int .i64 0), .s (.int .i64 0)]⟩]) (by kernel_rfl) fun f2 hf2 => ?_
                refine k_c ?_
                refine k_ret ?_
                refine x_br ?_
                refine x_c nofun ?_
                obtain rfl := Option.some.inj h
                exact k_fin (fin_ret (.inl rfl) hf2 (vs := [.agg [.s (.int .i64 48), .s (.int .i64 0), .s (.int .i64 0)]]) (by kernel_rfl) (SettL.pure (FzL.stat rfl)))
              · have h := if_f h hc10
                refine k_seq ?_
                refine k_reg ?_
                refine mops_end [2, 3, 34] hf1 (l' := [⟨2, [], .ptr 0 0 0⟩, ⟨3, [], .s (.int .u8 low_)⟩, ⟨34, [], .s (.bool (low_ == 10))⟩]) (L' := [⟨0, .mem, 1, [.s (.int .i64 0), .s (.int .i64 0), .s (.int .i64 0)]⟩]) (by kernel_rfl) fun f2 hf2 => ?_
                refine k_c ?_
                refine k_cond hf2 (t := (low_ == 10)) (by kernel_rfl) (fun hc11 => ?_) (fun hc11 => ?_)
                · have h := if_t h hc11
                  refine k_seq ?_
                  refine k_reg ?_
                  refine mops_end [2] hf2 (l' := [⟨2, [], .ptr 0 0 0⟩]) (L' := [⟨0, .mem, 1, [.s (.int .i64 1), .s (.int .i64 0), .s (.int .i64 0)]⟩]) (by kernel_rfl) fun f3 hf3 => ?_
                  refine k_c ?_
                  refine k_ret ?_
                  refine x_br ?_
                  refine x_c nofun ?_
                  obtain rfl := Option.some.inj h
                  exact k_fin (fin_ret (.inl rfl) hf3 (vs := [.agg [.s (.int .i64 1), .s (.int .i64 0), .s (.int .i64 0)]]) (by kernel_rfl) (SettL.pure (FzL.stat rfl)))
                · have h := if_f h hc11
                  refine k_seq ?_
                  refine k_reg ?_
                  refine mops_end [2, 3, 37] hf2 (l' := [⟨2, [], .ptr 0 0 0⟩, ⟨3, [], .s (.int .u8 low_)⟩, ⟨37, [], .s (.bool (low_ == 11))⟩]) (L' := [⟨0, .mem, 1, [.s (.int .i64 0), .s (.int .i64 0), .s (.int .i64 0)]⟩]) (by kernel_rfl) fun f3 hf3 => ?_
                  refine k_c ?_
                  refine k_cond hf3 (t := (low_ == 11)) (by kernel_rfl) (fun hc12 => ?_) (fun hc12 => ?_)
                  · have h := if_t h hc12
                    refine k_seq ?_
                    refine k_reg ?_
                    refine mops_end [2] hf3 (l' := [⟨2, [], .ptr 0 0 0⟩]) (L' := [⟨0, .mem, 1, [.s (.int .i64 49), .s (.int .i64 0), .s (.int .i64 0)]⟩]) (by kernel_rfl) fun f4 hf4 => ?_
                    refine k_c ?_
                    refine k_ret ?_
                    refine x_br ?_
                    refine x_c nofun ?_
                    obtain rfl := Option.some.inj h
                    exact k_fin (fin_ret (.inl rfl) hf4 (vs := [.agg [.s (.int .i64 49), .s (.int .i64 0), .s (.int .i64 0)]]) (by kernel_rfl) (SettL.pure (FzL.stat rfl)))
                  · have h := if_f h hc12
                    refine k_seq ?_
                    refine k_reg ?_
                    refine mops_end [2, 3, 40] hf3 (l' := [⟨2, [], .ptr 0 0 0⟩, ⟨3, [], .s (.int .u8 low_)⟩, ⟨40, [], .s (.bool (low_ == 12))⟩]) (L' := [⟨0, .mem, 1, [.s (.int .i64 0), .s (.int .i64 0), .s (.int .i64 0)]⟩]) (by kernel_rfl) fun f4 hf4 => ?_
                    refine k_c ?_
                    refine k_cond hf4 (t := (low_ == 12)) (by kernel_rfl) (fun hc13 => ?_) (fun hc13 => ?_)
                    · have h := if_t h hc13
                      refine k_seq ?_
                      refine k_reg ?_
                      refine mops_end [2] hf4 (l' := [⟨2, [], .ptr 0 0 0⟩]) (L' := [⟨0, .mem, 1, [.s (.int .i64 41), .s (.int .i64 1), .s (.int .i64 0)]⟩]) (by kernel_rfl) fun f5 hf5 => ?_
                      refine k_c ?_
                      refine k_ret ?_
                      refine x_br ?_
                      refine x_c nofun ?_
                      obtain rfl := Option.some.inj h
                      exact k_fin (fin_ret (.inl rfl) hf5 (vs := [.agg [.s (.int .i64 41), .s (.int .i64 1), .s (.int .i64 0)]]) (by kernel_rfl) (SettL.pure (FzL.stat rfl)))
                    · have h := if_f h hc13
                      refine k_seq ?_
                      refine k_reg ?_
                      refine mops_end [2, 3, 43] hf4 (l' := [⟨2, [], .ptr 0 0 0⟩, ⟨3, [], .s (.int .u8 low_)⟩, ⟨43, [], .s (.bool (low_ == 13))⟩]) (L' := [⟨0, .mem, 1, [.s (.int .i64 0), .s (.int .i64 0), .s (.int .i64 0)]⟩]) (by kernel_rfl) fun f5 hf5 => ?_
                      refine k_c ?_
                      refine k_cond hf5 (t := (low_ == 13)) (by kernel_rfl) (fun hc14 => ?_) (fun hc14 => ?_)
                      · have h := if_t h hc14
                        refine k_seq ?_
                        refine k_reg ?_
                        refine mops_end [2] hf5 (l' := [⟨2, [], .ptr 0 0 0⟩]) (L' := [⟨0, .mem, 1, [.s (.int .i64 50), .s (.int .i64 0), .s (.int .i64 0)]⟩]) (by kernel_rfl) fun f6 hf6 => ?_
                        refine k_c ?_
                        refine k_ret ?_
                        refine x_br ?_
                        refine x_c nofun ?_
                        obtain rfl := Option.some.inj h
                        exact k_fin (fin_ret (.inl rfl) hf6 (vs := [.agg [.s (.int .i64 50), .s (.int .i64 0), .s (.int .i64 0)]]) (by kernel_rfl) (SettL.pure (FzL.stat rfl)))
                      · have h := if_f h hc14
                        refine k_seq ?_
                        refine k_reg ?_
                        refine mops_end [2, 46] hf5 (l' := [⟨2, [], .ptr 0 0 0⟩, ⟨46, [], .s (.bool (low_ == 15))⟩]) (L' := [⟨0, .mem, 1, [.s (.int .i64 0), .s (.int .i64 0), .s (.int .i64 0)]⟩]) (by kernel_rfl) fun f6 hf6 => ?_
                        refine k_c ?_
                        refine k_cond hf6 (t := (low_ == 15)) (by kernel_rfl) (fun hc15 => ?_) (fun hc15 => ?_)
                        · have h := if_t h hc15
                          refine k_seq ?_
                          refine k_reg ?_
                          refine mops_end [2] hf6 (l' := [⟨2, [], .ptr 0 0 0⟩]) (L' := [⟨0, .mem, 1, [.s (.int .i64 51), .s (.int .i64 0), .s (.int .i64 1)]⟩]) (by kernel_rfl) fun f7 hf7 => ?_
                          refine k_c ?_
                          refine k_ret ?_
                          refine x_br ?_
                          refine x_c nofun ?_
                          obtain rfl := Option.some.inj h
                          exact k_fin (fin_ret (.inl rfl) hf7 (vs := [.agg [.s (.int .i64 51), .s (.int .i64 0), .s (.int .i64 1)]]) (by kernel_rfl) (SettL.pure (FzL.stat rfl)))
                        · have h := if_f h hc15
                          refine k_skip ?_
                          refine k_b ?_
                          refine k_c ?_
                          refine k_seq ?_
                          refine k_reg ?_
                          refine mops_end [2] hf6 (l' := [⟨2, [], .ptr 0 0 0⟩]) (L' := [⟨0, .mem, 1, [.s (.int .i64 0), .s (.int .i64 0), .s (.int .i64 0)]⟩]) (by kernel_rfl) fun f7 hf7 => ?_
                          refine k_c ?_
                          refine k_ret ?_
                          obtain rfl := Option.some.inj h
                          exact k_fin (fin_ret (.inl rfl) hf7 (vs := [.agg [.s (.int .i64 0), .s (.int .i64 0), .s (.int .i64 0)]]) (by kernel_rfl) (SettL.pure (FzL.stat rfl)))
          refine k_cond hf1 (t := (low_ == 5)) (by kernel_rfl) (fun hc8 => ?_) (fun hc8 => ?_)
          · have h := if_t h hc8
            refine k_skip ?_
            exact hj3 (low_ == 5) h _ (FOk_of [0, 2, 3, 22] hf1 (by kernel_rfl))
          · have h := if_f h hc8
            refine k_reg ?_
            refine mops_end [0, 2, 3, 22] hf1 (l' := [⟨0, [], .s (.int .u8 low_)⟩, ⟨2, [], .ptr 0 0 0⟩, ⟨3, [], .s (.int .u8 low_)⟩, ⟨22, [], .s (.bool (low_ == 7))⟩]) (L' := [⟨0, .mem, 1, [.s (.int .i64 0), .s (.int .i64 0), .s (.int .i64 0)]⟩]) (by kernel_rfl) fun f2 hf2 => ?_
            exact hj3 (low_ == 7) h _ (FOk_of [0, 2, 3, 22] hf2 (by kernel_rfl))
      refine k_cond hf1 (t := (low_ == 4)) (by kernel_rfl) (fun hc6 => ?_) (fun hc6 => ?_)
      · have h := if_t h hc6
        refine k_skip ?_
        exact hj2 (low_ == 4) h _ (FOk_of [0, 2, 3, 13] hf1 (by kernel_rfl))
      · have h := if_f h hc6
        refine k_reg ?_
        refine mops_end [0, 2, 3, 13] hf1 (l' := [⟨0, [], .s (.int .u8 low_)⟩, ⟨2, [], .ptr 0 0 0⟩, ⟨3, [], .s (.int .u8 low_)⟩, ⟨13, [], .s (.bool (low_ == 6))⟩]) (L' := [⟨0, .mem, 1, [.s (.int .i64 0), .s (.int .i64 0), .s (.int .i64 0)]⟩]) (by kernel_rfl) fun f2 hf2 => ?_
        exact hj2 (low_ == 6) h _ (FOk_of [0, 2, 3, 13] hf2 (by kernel_rfl))
  refine k_cond hf3 (t := (low_ == 0)) (by kernel_rfl) (fun hc1 => ?_) (fun hc1 => ?_)
  · have h := if_t h hc1
    refine k_skip ?_
    exact hj1 (low_ == 0) h _ (FOk_of [0, 2, 3, 4] hf3 (by kernel_rfl))
  · have h := if_f h hc1
    refine k_seq ?_
    refine k_reg ?_
    refine mops_end [0, 2, 3, 4] hf3 (l' := [⟨0, [], .s (.int .u8 low_)⟩, ⟨2, [], .ptr 0 0 0⟩, ⟨3, [], .s (.int .u8 low_)⟩, ⟨4, [], .s (.bool (low_ == 1))⟩]) (L' := [⟨0, .mem, 1, [.s (.int .i64 0), .s (.int .i64 0), .s (.int .i64 0)]⟩]) (by kernel_rfl) fun f4 hf4 => ?_
    refine k_c ?_
    refine k_cond hf4 (t := (low_ == 1)) (by kernel_rfl) (fun hc2 => ?_) (fun hc2 => ?_)
    · have h := if_t h hc2
      refine k_skip ?_
      exact hj1 (low_ == 1) h _ (FOk_of [0, 2, 3, 4] hf4 (by kernel_rfl))
    · have h := if_f h hc2
      refine k_seq ?_
      refine k_reg ?_
      refine mops_end [0, 2, 3, 4] hf4 (l' := [⟨0, [], .s (.int .u8 low_)⟩, ⟨2, [], .ptr 0 0 0⟩, ⟨3, [], .s (.int .u8 low_)⟩, ⟨4, [], .s (.bool (low_ == 2))⟩]) (L' := [⟨0, .mem, 1, [.s (.int .i64 0), .s (.int .i64 0), .s (.int .i64 0)]⟩]) (by kernel_rfl) fun f5 hf5 => ?_
      refine k_c ?_
      refine k_cond hf5 (t := (low_ == 2)) (by kernel_rfl) (fun hc3 => ?_) (fun hc3 => ?_)
      · have h := if_t h hc3
        refine k_skip ?_
        exact hj1 (low_ == 2) h _ (FOk_of [0, 2, 3, 4] hf5 (by kernel_rfl))
      · have h := if_f h hc3
        refine k_reg ?_
        refine mops_end [0, 2, 3, 4] hf5 (l' := [⟨0, [], .s (.int .u8 low_)⟩, ⟨2, [], .ptr 0 0 0⟩, ⟨3, [], .s (.int .u8 low_)⟩, ⟨4, [], .s (.bool (low_ == 3))⟩]) (L' := [⟨0, .mem, 1, [.s (.int .i64 0), .s (.int .i64 0), .s (.int .i64 0)]⟩]) (by kernel_rfl) fun f6 hf6 => ?_
        exact hj1 (low_ == 3) h _ (FOk_of [0, 2, 3, 4] hf6 (by kernel_rfl))
end Go.Proofs.YtjaadpgmiejidaaK
