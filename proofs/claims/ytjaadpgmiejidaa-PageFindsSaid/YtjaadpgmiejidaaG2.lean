/- The Go functions come to the functions over typed data. Printed by a program of this work. -/
import Derived.Test.YtjaadpgmiejidaaF
import Derived.Test.YtjaadpgmiejidaaProg
namespace Go.Proofs.YtjaadpgmiejidaaK
set_option linter.unusedVariables false
set_option linter.unusedSimpArgs false
set_option maxHeartbeats 4000000
open Go.RowKit
attribute [local irreducible] dwv mops lops lqops lwops kont iter run runK ex E1 vals val chain chB sel resF
def page_tens_i0 : List Op1 := [⟨(some 2), (.e (.zero [(.int .i64 0), (.int .i64 0), (.int .i64 0)])), none, []⟩]
def page_tens_i1 : List Op1 := [⟨(some 3), (.e (.mv (.t 0))), none, []⟩]
def page_tens_i2 : List Op1 := [⟨(some 5), (.e (.bin .eql (.t 3) (.k (.int .u8 2)))), none, []⟩, ⟨(some 4), (.e (.mv (.t 5))), none, [0]⟩]
def page_tens_i3 : List Op1 := [⟨(some 6), (.e (.build [(.int .i64 0), (.int .i64 0), (.int .i64 0)] [(0, (1, (.k (.int .i64 39))))])), none, []⟩, ⟨none, (.e (.store 3 (.t 2) (.t 6))), none, [0, 0]⟩]
def page_tens_i4 : IR := .ret
def page_tens_i5 : List Op1 := [⟨(some 8), (.e (.bin .eql (.t 3) (.k (.int .u8 3)))), none, []⟩, ⟨(some 7), (.e (.mv (.t 8))), none, [0]⟩]
def page_tens_i6 : List Op1 := [⟨(some 9), (.e (.build [(.int .i64 0), (.int .i64 0), (.int .i64 0)] [(0, (1, (.k (.int .i64 40))))])), none, []⟩, ⟨none, (.e (.store 3 (.t 2) (.t 9))), none, [0, 0]⟩]
def page_tens_i7 : IR := .ret
def page_tens_i8 : List Op1 := [⟨(some 11), (.e (.bin .eql (.t 3) (.k (.int .u8 6)))), none, []⟩, ⟨(some 10), (.e (.mv (.t 11))), none, [0]⟩]
def page_tens_i9 : List Op1 := [⟨(some 12), (.e (.build [(.int .i64 0), (.int .i64 0), (.int .i64 0)] [(0, (1, (.k (.int .i64 36)))), (1, (1, (.k (.int .i64 7))))])), none, []⟩, ⟨none, (.e (.store 3 (.t 2) (.t 12))), none, [0, 0]⟩]
def page_tens_i10 : IR := .ret
def page_tens_i11 : List Op1 := [⟨(some 14), (.e (.bin .eql (.t 3) (.k (.int .u8 7)))), none, []⟩, ⟨(some 13), (.e (.mv (.t 14))), none, [0]⟩]
def page_tens_i12 : List Op1 := [⟨(some 15), (.e (.build [(.int .i64 0), (.int .i64 0), (.int .i64 0)] [(0, (1, (.k (.int .i64 38)))), (1, (1, (.k (.int .i64 7))))])), none, []⟩, ⟨none, (.e (.store 3 (.t 2) (.t 15))), none, [0, 0]⟩]
def page_tens_i13 : IR := .ret
def page_tens_i14 : List Op1 := [⟨(some 17), (.e (.bin .eql (.t 3) (.k (.int .u8 9)))), none, []⟩, ⟨(some 16), (.e (.mv (.t 17))), none, [0]⟩]
def page_tens_i15 : List Op1 := [⟨(some 18), (.e (.build [(.int .i64 0), (.int .i64 0), (.int .i64 0)] [(0, (1, (.k (.int .i64 42))))])), none, []⟩, ⟨none, (.e (.store 3 (.t 2) (.t 18))), none, [0, 0]⟩]
def page_tens_i16 : IR := .ret
def page_tens_i17 : List Op1 := [⟨(some 20), (.e (.bin .eql (.t 3) (.k (.int .u8 10)))), none, []⟩, ⟨(some 19), (.e (.mv (.t 20))), none, [0]⟩]
def page_tens_i18 : List Op1 := [⟨(some 21), (.e (.build [(.int .i64 0), (.int .i64 0), (.int .i64 0)] [(0, (1, (.k (.int .i64 43)))), (1, (1, (.k (.int .i64 1))))])), none, []⟩, ⟨none, (.e (.store 3 (.t 2) (.t 21))), none, [0, 0]⟩]
def page_tens_i19 : IR := .ret
def page_tens_i20 : List Op1 := [⟨(some 23), (.e (.bin .eql (.t 3) (.k (.int .u8 12)))), none, []⟩, ⟨(some 22), (.e (.mv (.t 23))), none, [0]⟩]
def page_tens_i21 : List Op1 := [⟨(some 24), (.e (.build [(.int .i64 0), (.int .i64 0), (.int .i64 0)] [(0, (1, (.k (.int .i64 44)))), (1, (1, (.k (.int .i64 1))))])), none, []⟩, ⟨none, (.e (.store 3 (.t 2) (.t 24))), none, [0, 0]⟩]
def page_tens_i22 : IR := .ret
def page_tens_i23 : List Op1 := [⟨(some 26), (.e (.bin .eql (.t 3) (.k (.int .u8 13)))), none, []⟩, ⟨(some 25), (.e (.mv (.t 26))), none, [0]⟩]
def page_tens_i24 : List Op1 := [⟨(some 27), (.e (.build [(.int .i64 0), (.int .i64 0), (.int .i64 0)] [(0, (1, (.k (.int .i64 45))))])), none, []⟩, ⟨none, (.e (.store 3 (.t 2) (.t 27))), none, [0, 0]⟩]
def page_tens_i25 : IR := .ret
def page_tens_i26 : List Op1 := [⟨(some 29), (.e (.bin .eql (.t 3) (.k (.int .u8 14)))), none, []⟩, ⟨(some 28), (.e (.mv (.t 29))), none, [0]⟩]
def page_tens_i27 : List Op1 := [⟨(some 30), (.e (.build [(.int .i64 0), (.int .i64 0), (.int .i64 0)] [(0, (1, (.k (.int .i64 46)))), (1, (1, (.k (.int .i64 8))))])), none, []⟩, ⟨none, (.e (.store 3 (.t 2) (.t 30))), none, [0, 0]⟩]
def page_tens_i28 : IR := .ret
def page_tens_i29 : List Op1 := [⟨(some 32), (.e (.bin .eql (.t 3) (.k (.int .u8 15)))), none, []⟩, ⟨(some 31), (.e (.mv (.t 32))), none, [0]⟩]
def page_tens_i30 : List Op1 := [⟨(some 33), (.e (.build [(.int .i64 0), (.int .i64 0), (.int .i64 0)] [(0, (1, (.k (.int .i64 47)))), (1, (1, (.k (.int .i64 8))))])), none, []⟩, ⟨none, (.e (.store 3 (.t 2) (.t 33))), none, [0, 0]⟩]
def page_tens_i31 : IR := .ret
def page_tens_i32 : IR := (.cond (.t 31) (.seq (.reg false page_tens_i30) page_tens_i31) .skip)
def page_tens_i33 : IR := (.cond (.t 28) (.seq (.reg false page_tens_i27) page_tens_i28) (.seq (.reg false page_tens_i29) page_tens_i32))
def page_tens_i34 : IR := (.cond (.t 25) (.seq (.reg false page_tens_i24) page_tens_i25) (.seq (.reg false page_tens_i26) page_tens_i33))
def page_tens_i35 : IR := (.cond (.t 22) (.seq (.reg false page_tens_i21) page_tens_i22) (.seq (.reg false page_tens_i23) page_tens_i34))
def page_tens_i36 : IR := (.cond (.t 19) (.seq (.reg false page_tens_i18) page_tens_i19) (.seq (.reg false page_tens_i20) page_tens_i35))
def page_tens_i37 : IR := (.cond (.t 16) (.seq (.reg false page_tens_i15) page_tens_i16) (.seq (.reg false page_tens_i17) page_tens_i36))
def page_tens_i38 : IR := (.cond (.t 13) (.seq (.reg false page_tens_i12) page_tens_i13) (.seq (.reg false page_tens_i14) page_tens_i37))
def page_tens_i39 : IR := (.cond (.t 10) (.seq (.reg false page_tens_i9) page_tens_i10) (.seq (.reg false page_tens_i11) page_tens_i38))
def page_tens_i40 : IR := (.cond (.t 7) (.seq (.reg false page_tens_i6) page_tens_i7) (.seq (.reg false page_tens_i8) page_tens_i39))
def page_tens_i41 : IR := (.cond (.t 4) (.seq (.reg false page_tens_i3) page_tens_i4) (.seq (.reg false page_tens_i5) page_tens_i40))
def page_tens_i42 : IR := (.block 0 (.seq (.reg false page_tens_i2) page_tens_i41))
def page_tens_i43 : List Op1 := [⟨(some 34), (.e (.build [(.int .i64 0), (.int .i64 0), (.int .i64 0)] [])), none, []⟩, ⟨none, (.e (.store 3 (.t 2) (.t 34))), none, [0, 0]⟩]
def page_tens_i44 : IR := .ret
def page_tens_i45 : IR := (.seq (.reg false page_tens_i43) page_tens_i44)
def page_tens_i46 : IR := (.seq (.seq (.reg false page_tens_i1) page_tens_i42) page_tens_i45)
def page_tens_ir : IR := (.seq (.reg false page_tens_i0) page_tens_i46)
theorem page_tens_cfn : cFn Try.prog 17 = some (page_tens_ir, [(.c 2 true 3)], 35) := by kernel_rfl
def page_tens_V (r : (api_Entry)) : V := .agg [.s (.int .i64 r.Op), .s (.int .i64 r.Mode), .s (.int .i64 r.Reg)]
def page_tens_C (r : (api_Entry)) : X → Fr → Hp → Prop := FinL [(.c 2 true 3)] [] (page_tens_V r) []
theorem page_tens_ok (low_ : Int) (r : (api_Entry)) (h : page_tens low_ = some r) : Pure Try.prog 17 [.s (.int .u8 low_)] (page_tens_V r) := by
  refine ConL.of page_tens_cfn (Nat.le_of_ble_eq_true (by kernel_rfl)) (Nat.le_of_ble_eq_true (by kernel_rfl)) ?_
  refine k_start ?_
  show dwv Try.prog [] page_tens_ir (kont Try.prog [] (page_tens_C r) []) (fr0 [.s (.int .u8 low_)]) []
  have hf : FOk (fr0 [.s (.int .u8 low_)]) [⟨0, [], .s (.int .u8 low_)⟩] := ⟨⟨fun _ => rfl, fun h => (h trivial).elim⟩, trivial⟩
  generalize fr0 [.s (.int .u8 low_)] = f at hf ⊢
  unfold page_tens at h
  refine k_seq ?_
  refine k_reg ?_
  refine mops_end [0, 2] hf (l' := [⟨0, [], .s (.int .u8 low_)⟩, ⟨2, [], .ptr 0 0 0⟩]) (L' := [⟨0, .mem, 1, [.s (.int .i64 0), .s (.int .i64 0), .s (.int .i64 0)]⟩]) (by kernel_rfl) fun f1 hf1 => ?_
  refine k_c ?_
  refine k_seq ?_
  refine k_seq ?_
  refine k_reg ?_
  refine mops_end [2, 3] hf1 (l' := [⟨2, [], .ptr 0 0 0⟩, ⟨3, [], .s (.int .u8 low_)⟩]) (L' := [⟨0, .mem, 1, [.s (.int .i64 0), .s (.int .i64 0), .s (.int .i64 0)]⟩]) (by kernel_rfl) fun f2 hf2 => ?_
  refine k_c ?_
  refine k_block ?_
  refine k_seq ?_
  refine k_reg ?_
  refine mops_end [2, 3, 4] hf2 (l' := [⟨2, [], .ptr 0 0 0⟩, ⟨3, [], .s (.int .u8 low_)⟩, ⟨4, [], .s (.bool (low_ == 2))⟩]) (L' := [⟨0, .mem, 1, [.s (.int .i64 0), .s (.int .i64 0), .s (.int .i64 0)]⟩]) (by kernel_rfl) fun f3 hf3 => ?_
  refine k_c ?_
  refine k_cond hf3 (t := (low_ == 2)) (by kernel_rfl) (fun hc1 => ?_) (fun hc1 => ?_)
  · have h := if_t h hc1
    refine k_seq ?_
    refine k_reg ?_
    refine mops_end [2] hf3 (l' := [⟨2, [], .ptr 0 0 0⟩]) (L' := [⟨0, .mem, 1, [.s (.int .i64 39), .s (.int .i64 0), .s (.int .i64 0)]⟩]) (by kernel_rfl) fun f4 hf4 => ?_
    refine k_c ?_
    refine k_ret ?_
    refine x_br ?_
    refine x_c nofun ?_
    obtain rfl := Option.some.inj h
    exact k_fin (fin_ret (.inl rfl) hf4 (vs := [.agg [.s (.int .i64 39), .s (.int .i64 0), .s (.int .i64 0)]]) (by kernel_rfl) (SettL.pure (FzL.stat rfl)))
  · have h := if_f h hc1
    refine k_seq ?_
    refine k_reg ?_
    refine mops_end [2, 3, 7] hf3 (l' := [⟨2, [], .ptr 0 0 0⟩, ⟨3, [], .s (.int .u8 low_)⟩, ⟨7, [], .s (.bool (low_ == 3))⟩]) (L' := [⟨0, .mem, 1, [.s (.int .i64 0), .s (.int .i64 0), .s (.int .i64 0)]⟩]) (by kernel_rfl) fun f4 hf4 => ?_
    refine k_c ?_
    refine k_cond hf4 (t := (low_ == 3)) (by kernel_rfl) (fun hc2 => ?_) (fun hc2 => ?_)
    · have h := if_t h hc2
      refine k_seq ?_
      refine k_reg ?_
      refine mops_end [2] hf4 (l' := [⟨2, [], .ptr 0 0 0⟩]) (L' := [⟨0, .mem, 1, [.s (.int .i64 40), .s (.int .i64 0), .s (.int .i64 0)]⟩]) (by kernel_rfl) fun f5 hf5 => ?_
      refine k_c ?_
      refine k_ret ?_
      refine x_br ?_
      refine x_c nofun ?_
      obtain rfl := Option.some.inj h
      exact k_fin (fin_ret (.inl rfl) hf5 (vs := [.agg [.s (.int .i64 40), .s (.int .i64 0), .s (.int .i64 0)]]) (by kernel_rfl) (SettL.pure (FzL.stat rfl)))
    · have h := if_f h hc2
      refine k_seq ?_
      refine k_reg ?_
      refine mops_end [2, 3, 10] hf4 (l' := [⟨2, [], .ptr 0 0 0⟩, ⟨3, [], .s (.int .u8 low_)⟩, ⟨10, [], .s (.bool (low_ == 6))⟩]) (L' := [⟨0, .mem, 1, [.s (.int .i64 0), .s (.int .i64 0), .s (.int .i64 0)]⟩]) (by kernel_rfl) fun f5 hf5 => ?_
      refine k_c ?_
      refine k_cond hf5 (t := (low_ == 6)) (by kernel_rfl) (fun hc3 => ?_) (fun hc3 => ?_)
      · have h := if_t h hc3
        refine k_seq ?_
        refine k_reg ?_
        refine mops_end [2] hf5 (l' := [⟨2, [], .ptr 0 0 0⟩]) (L' := [⟨0, .mem, 1, [.s (.int .i64 36), .s (.int .i64 7), .s (.int .i64 0)]⟩]) (by kernel_rfl) fun f6 hf6 => ?_
        refine k_c ?_
        refine k_ret ?_
        refine x_br ?_
        refine x_c nofun ?_
        obtain rfl := Option.some.inj h
        exact k_fin (fin_ret (.inl rfl) hf6 (vs := [.agg [.s (.int .i64 36), .s (.int .i64 7), .s (.int .i64 0)]]) (by kernel_rfl) (SettL.pure (FzL.stat rfl)))
      · have h := if_f h hc3
        refine k_seq ?_
        refine k_reg ?_
        refine mops_end [2, 3, 13] hf5 (l' := [⟨2, [], .ptr 0 0 0⟩, ⟨3, [], .s (.int .u8 low_)⟩, ⟨13, [], .s (.bool (low_ == 7))⟩]) (L' := [⟨0, .mem, 1, [.s (.int .i64 0), .s (.int .i64 0), .s (.int .i64 0)]⟩]) (by kernel_rfl) fun f6 hf6 => ?_
        refine k_c ?_
        refine k_cond hf6 (t := (low_ == 7)) (by kernel_rfl) (fun hc4 => ?_) (fun hc4 => ?_)
        · have h := if_t h hc4
          refine k_seq ?_
          refine k_reg ?_
          refine mops_end [2] hf6 (l' := [⟨2, [], .ptr 0 0 0⟩]) (L' := [⟨0, .mem, 1, [.s (.int .i64 38), .s (.int .i64 7), .s (.int .i64 0)]⟩]) (by kernel_rfl) fun f7 hf7 => ?_
          refine k_c ?_
          refine k_ret ?_
          refine x_br ?_
          refine x_c nofun ?_
          obtain rfl := Option.some.inj h
          exact k_fin (fin_ret (.inl rfl) hf7 (vs := [.agg [.s (.int .i64 38), .s (.int .i64 7), .s (.int .i64 0)]]) (by kernel_rfl) (SettL.pure (FzL.stat rfl)))
        · have h := if_f h hc4
          refine k_seq ?_
          refine k_reg ?_
          refine mops_end [2, 3, 16] hf6 (l' := [⟨2, [], .ptr 0 0 0⟩, ⟨3, [], .s (.int .u8 low_)⟩, ⟨16, [], .s (.bool (low_ == 9))⟩]) (L' := [⟨0, .mem, 1, [.s (.int .i64 0), .s (.int .i64 0), .s (.int .i64 0)]⟩]) (by kernel_rfl) fun f7 hf7 => ?_
          refine k_c ?_
          refine k_cond hf7 (t := (low_ == 9)) (by kernel_rfl) (fun hc5 => ?_) (fun hc5 => ?_)
          · have h := if_t h hc5
            refine k_seq ?_
            refine k_reg ?_
            refine mops_end [2] hf7 (l' := [⟨2, [], .ptr 0 0 0⟩]) (L' := [⟨0, .mem, 1, [.s (.int .i64 42), .s (.int .i64 0), .s (.int .i64 0)]⟩]) (by kernel_rfl) fun f8 hf8 => ?_
            refine k_c ?_
            refine k_ret ?_
            refine x_br ?_
            refine x_c nofun ?_
            obtain rfl := Option.some.inj h
            exact k_fin (fin_ret (.inl rfl) hf8 (vs := [.agg [.s (.int .i64 42), .s (.int .i64 0), .s (.int .i64 0)]]) (by kernel_rfl) (SettL.pure (FzL.stat rfl)))
          · have h := if_f h hc5
            refine k_seq ?_
            refine k_reg ?_
            refine mops_end [2, 3, 19] hf7 (l' := [⟨2, [], .ptr 0 0 0⟩, ⟨3, [], .s (.int .u8 low_)⟩, ⟨19, [], .s (.bool (low_ == 10))⟩]) (L' := [⟨0, .mem, 1, [.s (.int .i64 0), .s (.int .i64 0), .s (.int .i64 0)]⟩]) (by kernel_rfl) fun f8 hf8 => ?_
            refine k_c ?_
            refine k_cond hf8 (t := (low_ == 10)) (by kernel_rfl) (fun hc6 => ?_) (fun hc6 => ?_)
            · have h := if_t h hc6
              refine k_seq ?_
              refine k_reg ?_
              refine mops_end [2] hf8 (l' := [⟨2, [], .ptr 0 0 0⟩]) (L' := [⟨0, .mem, 1, [.s (.int .i64 43), .s (.int .i64 1), .s (.int .i64 0)]⟩]) (by kernel_rfl) fun f9 hf9 => ?_
              refine k_c ?_
              refine k_ret ?_
              refine x_br ?_
              refine x_c nofun ?_
              obtain rfl := Option.some.inj h
              exact k_fin (fin_ret (.inl rfl) hf9 (vs := [.agg [.s (.int .i64 43), .s (.int .i64 1), .s (.int .i64 0)]]) (by kernel_rfl) (SettL.pure (FzL.stat rfl)))
            · have h := if_f h hc6
              refine k_seq ?_
              refine k_reg ?_
              refine mops_end [2, 3, 22] hf8 (l' := [⟨2, [], .ptr 0 0 0⟩, ⟨3, [], .s (.int .u8 low_)⟩, ⟨22, [], .s (.bool (low_ == 12))⟩]) (L' := [⟨0, .mem, 1, [.s (.int .i64 0), .s (.int .i64 0), .s (.int .i64 0)]⟩]) (by kernel_rfl) fun f9 hf9 => ?_
              refine k_c ?_
              refine k_cond hf9 (t := (low_ == 12)) (by kernel_rfl) (fun hc7 => ?_) (fun hc7 => ?_)
              · have h := if_t h hc7
                refine k_seq ?_
                refine k_reg ?_
                refine mops_end [2] hf9 (l' := [⟨2, [], .ptr 0 0 0⟩]) (L' := [⟨0, .mem, 1, [.s (.int .i64 44), .s (.int .i64 1), .s (.int .i64 0)]⟩]) (by kernel_rfl) fun f10 hf10 => ?_
                refine k_c ?_
                refine k_ret ?_
                refine x_br ?_
                refine x_c nofun ?_
                obtain rfl := Option.some.inj h
                exact k_fin (fin_ret (.inl rfl) hf10 (vs := [.agg [.s (.int .i64 44), .s (.int .i64 1), .s (.int .i64 0)]]) (by kernel_rfl) (SettL.pure (FzL.stat rfl)))
              · have h := if_f h hc7
                refine k_seq ?_
                refine k_reg ?_
                refine mops_end [2, 3, 25] hf9 (l' := [⟨2, [], .ptr 0 0 0⟩, ⟨3, [], .s (.int .u8 low_)⟩, ⟨25, [], .s (.bool (low_ == 13))⟩]) (L' := [⟨0, .mem, 1, [.s (.int .i64 0), .s (.int .i64 0), .s (.int .i64 0)]⟩]) (by kernel_rfl) fun f10 hf10 => ?_
                refine k_c ?_
                refine k_cond hf10 (t := (low_ == 13)) (by kernel_rfl) (fun hc8 => ?_) (fun hc8 => ?_)
                · have h := if_t h hc8
                  refine k_seq ?_
                  refine k_reg ?_
                  refine mops_end [2] hf10 (l' := [⟨2, [], .ptr 0 0 0⟩]) (L' := [⟨0, .mem, 1, [.s (.int .i64 45), .s (.int .i64 0), .s (.int .i64 0)]⟩]) (by kernel_rfl) fun f11 hf11 => ?_
                  refine k_c ?_
                  refine k_ret ?_
                  refine x_br ?_
                  refine x_c nofun ?_
                  obtain rfl := Option.some.inj h
                  exact k_fin (fin_ret (.inl rfl) hf11 (vs := [.agg [.s (.int .i64 45), .s (.int .i64 0), .s (.int .i64 0)]]) (by kernel_rfl) (SettL.pure (FzL.stat rfl)))
                · have h := if_f h hc8
                  refine k_seq ?_
                  refine k_reg ?_
                  refine mops_end [2, 3, 28] hf10 (l' := [⟨2, [], .ptr 0 0 0⟩, ⟨3, [], .s (.int .u8 low_)⟩, ⟨28, [], .s (.bool (low_ == 14))⟩]) (L' := [⟨0, .mem, 1, [.s (.int .i64 0), .s (.int .i64 0), .s (.int .i64 0)]⟩]) (by kernel_rfl) fun f11 hf11 => ?_
                  refine k_c ?_
                  refine k_cond hf11 (t := (low_ == 14)) (by kernel_rfl) (fun hc9 => ?_) (fun hc9 => ?_)
                  · have h := if_t h hc9
                    refine k_seq ?_
                    refine k_reg ?_
                    refine mops_end [2] hf11 (l' := [⟨2, [], .ptr 0 0 0⟩]) (L' := [⟨0, .mem, 1, [.s (.int .i64 46), .s (.int .i64 8), .s (.int .i64 0)]⟩]) (by kernel_rfl) fun f12 hf12 => ?_
                    refine k_c ?_
                    refine k_ret ?_
                    refine x_br ?_
                    refine x_c nofun ?_
                    obtain rfl := Option.some.inj h
                    exact k_fin (fin_ret (.inl rfl) hf12 (vs := [.agg [.s (.int .i64 46), .s (.int .i64 8), .s (.int .i64 0)]]) (by kernel_rfl) (SettL.pure (FzL.stat rfl)))
                  · have h := if_f h hc9
                    refine k_seq ?_
                    refine k_reg ?_
                    refine mops_end [2, 31] hf11 (l' := [⟨2, [], .ptr 0 0 0⟩, ⟨31, [], .s (.bool (low_ == 15))⟩]) (L' := [⟨0, .mem, 1, [.s (.int .i64 0), .s (.int .i64 0), .s (.int .i64 0)]⟩]) (by kernel_rfl) fun f12 hf12 => ?_
                    refine k_c ?_
                    refine k_cond hf12 (t := (low_ == 15)) (by kernel_rfl) (fun hc10 => ?_) (fun hc10 => ?_)
                    · have h := if_t h hc10
                      refine k_seq ?_
                      refine k_reg ?_
                      refine mops_end [2] hf12 (l' := [⟨2, [], .ptr 0 0 0⟩]) (L' := [⟨0, .mem, 1, [.s (.int .i64 47), .s (.int .i64 8), .s (.int .i64 0)]⟩]) (by kernel_rfl) fun f13 hf13 => ?_
                      refine k_c ?_
                      refine k_ret ?_
                      refine x_br ?_
                      refine x_c nofun ?_
                      obtain rfl := Option.some.inj h
                      exact k_fin (fin_ret (.inl rfl) hf13 (vs := [.agg [.s (.int .i64 47), .s (.int .i64 8), .s (.int .i64 0)]]) (by kernel_rfl) (SettL.pure (FzL.stat rfl)))
                    · have h := if_f h hc10
                      refine k_skip ?_
                      refine k_b ?_
                      refine k_c ?_
                      refine k_seq ?_
                      refine k_reg ?_
                      refine mops_end [2] hf12 (l' := [⟨2, [], .ptr 0 0 0⟩]) (L' := [⟨0, .mem, 1, [.s (.int .i64 0), .s (.int .i64 0), .s (.int .i64 0)]⟩]) (by kernel_rfl) fun f13 hf13 => ?_
                      refine k_c ?_
                      refine k_ret ?_
                      obtain rfl := Option.some.inj h
                      exact k_fin (fin_ret (.inl rfl) hf13 (vs := [.agg [.s (.int .i64 0), .s (.int .i64 0), .s (.int .i64 0)]]) (by kernel_rfl) (SettL.pure (FzL.stat rfl)))
end Go.Proofs.YtjaadpgmiejidaaK
