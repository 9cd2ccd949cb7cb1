/- The Go functions come to the functions over typed data. Printed by a program of this work. -/
import Derived.Test.YtjaadpgmiejidaaF
import Derived.Test.YtjaadpgmiejidaaProg
namespace Go.Proofs.YtjaadpgmiejidaaK
set_option linter.unusedVariables false
set_option linter.unusedSimpArgs false
set_option maxHeartbeats 4000000
open Go.RowKit
attribute [local irreducible] dwv mops lops lqops lwops kont iter run runK ex E1 vals val chain chB sel resF
def page_change_i0 : List Op1 := [⟨(some 2), (.e (.mv (.k (.int .i64 0)))), none, []⟩]
def page_change_i1 : List Op1 := [⟨(some 3), (.e (.mv (.t 0))), none, []⟩]
def page_change_i2 : List Op1 := [⟨(some 5), (.e (.bin .eql (.t 3) (.k (.int .u8 0)))), none, []⟩, ⟨(some 4), (.e (.mv (.t 5))), none, [0]⟩]
def page_change_i3 : List Op1 := [⟨(some 2), (.e (.mv (.k (.int .i64 13)))), none, []⟩]
def page_change_i4 : IR := .ret
def page_change_i5 : List Op1 := [⟨(some 7), (.e (.bin .eql (.t 3) (.k (.int .u8 3)))), none, []⟩, ⟨(some 6), (.e (.mv (.t 7))), none, [0]⟩]
def page_change_i6 : List Op1 := [⟨(some 2), (.e (.mv (.k (.int .i64 14)))), none, []⟩]
def page_change_i7 : IR := .ret
def page_change_i8 : List Op1 := [⟨(some 9), (.e (.bin .eql (.t 3) (.k (.int .u8 4)))), none, []⟩, ⟨(some 8), (.e (.mv (.t 9))), none, [0]⟩]
def page_change_i9 : List Op1 := [⟨(some 2), (.e (.mv (.k (.int .i64 15)))), none, []⟩]
def page_change_i10 : IR := .ret
def page_change_i11 : List Op1 := [⟨(some 11), (.e (.bin .eql (.t 3) (.k (.int .u8 6)))), none, []⟩, ⟨(some 10), (.e (.mv (.t 11))), none, [0]⟩]
def page_change_i12 : List Op1 := [⟨(some 2), (.e (.mv (.k (.int .i64 16)))), none, []⟩]
def page_change_i13 : IR := .ret
def page_change_i14 : List Op1 := [⟨(some 13), (.e (.bin .eql (.t 3) (.k (.int .u8 7)))), none, []⟩, ⟨(some 12), (.e (.mv (.t 13))), none, [0]⟩]
def page_change_i15 : List Op1 := [⟨(some 2), (.e (.mv (.k (.int .i64 17)))), none, []⟩]
def page_change_i16 : IR := .ret
def page_change_i17 : List Op1 := [⟨(some 15), (.e (.bin .eql (.t 3) (.k (.int .u8 8)))), none, []⟩, ⟨(some 14), (.e (.mv (.t 15))), none, [0]⟩]
def page_change_i18 : List Op1 := [⟨(some 2), (.e (.mv (.k (.int .i64 18)))), none, []⟩]
def page_change_i19 : IR := .ret
def page_change_i20 : List Op1 := [⟨(some 17), (.e (.bin .eql (.t 3) (.k (.int .u8 9)))), none, []⟩, ⟨(some 16), (.e (.mv (.t 17))), none, [0]⟩]
def page_change_i21 : List Op1 := [⟨(some 2), (.e (.mv (.k (.int .i64 19)))), none, []⟩]
def page_change_i22 : IR := .ret
def page_change_i23 : List Op1 := [⟨(some 19), (.e (.bin .eql (.t 3) (.k (.int .u8 10)))), none, []⟩, ⟨(some 18), (.e (.mv (.t 19))), none, [0]⟩]
def page_change_i24 : List Op1 := [⟨(some 2), (.e (.mv (.k (.int .i64 20)))), none, []⟩]
def page_change_i25 : IR := .ret
def page_change_i26 : List Op1 := [⟨(some 21), (.e (.bin .eql (.t 3) (.k (.int .u8 12)))), none, []⟩, ⟨(some 20), (.e (.mv (.t 21))), none, [0]⟩]
def page_change_i27 : List Op1 := [⟨(some 2), (.e (.mv (.k (.int .i64 21)))), none, []⟩]
def page_change_i28 : IR := .ret
def page_change_i29 : List Op1 := [⟨(some 23), (.e (.bin .eql (.t 3) (.k (.int .u8 13)))), none, []⟩, ⟨(some 22), (.e (.mv (.t 23))), none, [0]⟩]
def page_change_i30 : List Op1 := [⟨(some 2), (.e (.mv (.k (.int .i64 22)))), none, []⟩]
def page_change_i31 : IR := .ret
def page_change_i32 : List Op1 := [⟨(some 25), (.e (.bin .eql (.t 3) (.k (.int .u8 15)))), none, []⟩, ⟨(some 24), (.e (.mv (.t 25))), none, [0]⟩]
def page_change_i33 : List Op1 := [⟨(some 2), (.e (.mv (.k (.int .i64 23)))), none, []⟩]
def page_change_i34 : IR := .ret
def page_change_i35 : IR := (.cond (.t 24) (.seq (.reg false page_change_i33) page_change_i34) .skip)
def page_change_i36 : IR := (.cond (.t 22) (.seq (.reg false page_change_i30) page_change_i31) (.seq (.reg false page_change_i32) page_change_i35))
def page_change_i37 : IR := (.cond (.t 20) (.seq (.reg false page_change_i27) page_change_i28) (.seq (.reg false page_change_i29) page_change_i36))
def page_change_i38 : IR := (.cond (.t 18) (.seq (.reg false page_change_i24) page_change_i25) (.seq (.reg false page_change_i26) page_change_i37))
def page_change_i39 : IR := (.cond (.t 16) (.seq (.reg false page_change_i21) page_change_i22) (.seq (.reg false page_change_i23) page_change_i38))
def page_change_i40 : IR := (.cond (.t 14) (.seq (.reg false page_change_i18) page_change_i19) (.seq (.reg false page_change_i20) page_change_i39))
def page_change_i41 : IR := (.cond (.t 12) (.seq (.reg false page_change_i15) page_change_i16) (.seq (.reg false page_change_i17) page_change_i40))
def page_change_i42 : IR := (.cond (.t 10) (.seq (.reg false page_change_i12) page_change_i13) (.seq (.reg false page_change_i14) page_change_i41))
def page_change_i43 : IR := (.cond (.t 8) (.seq (.reg false page_change_i9) page_change_i10) (.seq (.reg false page_change_i11) page_change_i42))
def page_change_i44 : IR := (.cond (.t 6) (.seq (.reg false page_change_i6) page_change_i7) (.seq (.reg false page_change_i8) page_change_i43))
def page_change_i45 : IR := (.cond (.t 4) (.seq (.reg false page_change_i3) page_change_i4) (.seq (.reg false page_change_i5) page_change_i44))
def page_change_i46 : IR := (.block 0 (.seq (.reg false page_change_i2) page_change_i45))
def page_change_i47 : List Op1 := [⟨(some 2), (.e (.mv (.k (.int .i64 0)))), none, []⟩]
def page_change_i48 : IR := .ret
def page_change_i49 : IR := (.seq (.reg false page_change_i47) page_change_i48)
def page_change_i50 : IR := (.seq (.seq (.reg false page_change_i1) page_change_i46) page_change_i49)
def page_change_ir : IR := (.seq (.reg false page_change_i0) page_change_i50)
theorem page_change_cfn : cFn Try.prog 23 = some (page_change_ir, [(.t 2)], 26) := by kernel_rfl
def page_change_V (r : (Int)) : V := .s (.int .i64 r)
def page_change_C (r : (Int)) : X → Fr → Hp → Prop := FinL [(.t 2)] [] (page_change_V r) []
theorem page_change_ok (low_ : Int) (r : (Int)) (h : page_change low_ = some r) : Pure Try.prog 23 [.s (.int .u8 low_)] (page_change_V r) := by
  refine ConL.of page_change_cfn (Nat.le_of_ble_eq_true (by kernel_rfl)) (Nat.le_of_ble_eq_true (by kernel_rfl)) ?_
  refine k_start ?_
  show dwv Try.prog [] page_change_ir (kont Try.prog [] (page_change_C r) []) (fr0 [.s (.int .u8 low_)]) []
  have hf : FOk (fr0 [.s (.int .u8 low_)]) [⟨0, [], .s (.int .u8 low_)⟩] := ⟨⟨fun _ => rfl, fun h => (h trivial).elim⟩, trivial⟩
  generalize fr0 [.s (.int .u8 low_)] = f at hf ⊢
  unfold page_change at h
  refine k_seq ?_
  refine k_reg ?_
  refine mops_end [0, 2] hf (l' := [⟨0, [], .s (.int .u8 low_)⟩, ⟨2, [], .s (.int .i64 0)⟩]) (L' := []) (by kernel_rfl) fun f1 hf1 => ?_
  refine k_c ?_
  refine k_seq ?_
  refine k_seq ?_
  refine k_reg ?_
  refine mops_end [2, 3] hf1 (l' := [⟨2, [], .s (.int .i64 0)⟩, ⟨3, [], .s (.int .u8 low_)⟩]) (L' := []) (by kernel_rfl) fun f2 hf2 => ?_
  refine k_c ?_
  refine k_block ?_
  refine k_seq ?_
  refine k_reg ?_
  refine mops_end [2, 3, 4] hf2 (l' := [⟨2, [], .s (.int .i64 0)⟩, ⟨3, [], .s (.int .u8 low_)⟩, ⟨4, [], .s (.bool (low_ == 0))⟩]) (L' := []) (by kernel_rfl) fun f3 hf3 => ?_
  refine k_c ?_
  refine k_cond hf3 (t := (low_ == 0)) (by kernel_rfl) (fun hc1 => ?_) (fun hc1 => ?_)
  · have h := if_t h hc1
    refine k_seq ?_
    refine k_reg ?_
    refine mops_end [2] hf3 (l' := [⟨2, [], .s (.int .i64 13)⟩]) (L' := []) (by kernel_rfl) fun f4 hf4 => ?_
    refine k_c ?_
    refine k_ret ?_
    refine x_br ?_
    refine x_c nofun ?_
    obtain rfl := Option.some.inj h
    exact k_fin (fin_ret (.inl rfl) hf4 (vs := [.s (.int .i64 13)]) (by kernel_rfl) (SettL.pure (FzL.stat rfl)))
  · have h := if_f h hc1
    refine k_seq ?_
    refine k_reg ?_
    refine mops_end [2, 3, 6] hf3 (l' := [⟨2, [], .s (.int .i64 0)⟩, ⟨3, [], .s (.int .u8 low_)⟩, ⟨6, [], .s (.bool (low_ == 3))⟩]) (L' := []) (by kernel_rfl) fun f4 hf4 => ?_
    refine k_c ?_
    refine k_cond hf4 (t := (low_ == 3)) (by kernel_rfl) (fun hc2 => ?_) (fun hc2 => ?_)
    · have h := if_t h hc2
      refine k_seq ?_
      refine k_reg ?_
      refine mops_end [2] hf4 (l' := [⟨2, [], .s (.int .i64 14)⟩]) (L' := []) (by kernel_rfl) fun f5 hf5 => ?_
      refine k_c ?_
      refine k_ret ?_
      refine x_br ?_
      refine x_c nofun ?_
      obtain rfl := Option.some.inj h
      exact k_fin (fin_ret (.inl rfl) hf5 (vs := [.s (.int .i64 14)]) (by kernel_rfl) (SettL.pure (FzL.stat rfl)))
    · have h := if_f h hc2
      refine k_seq ?_
      refine k_reg ?_
      refine mops_end [2, 3, 8] hf4 (l' := [⟨2, [], .s (.int .i64 0)⟩, ⟨3, [], .s (.int .u8 low_)⟩, ⟨8, [], .s (.bool (low_ == 4))⟩]) (L' := []) (by kernel_rfl) fun f5 hf5 => ?_
      refine k_c ?_
      refine k_cond hf5 (t := (low_ == 4)) (by kernel_rfl) (fun hc3 => ?_) (fun hc3 => ?_)
      · have h := if_t h hc3
        refine k_seq ?_
        refine k_reg ?_
        refine mops_end [2] hf5 (l' := [⟨2, [], .s (.int .i64 15)⟩]) (L' := []) (by kernel_rfl) fun f6 hf6 => ?_
        refine k_c ?_
        refine k_ret ?_
        refine x_br ?_
        refine x_c nofun ?_
        obtain rfl := Option.some.inj h
        exact k_fin (fin_ret (.inl rfl) hf6 (vs := [.s (.int .i64 15)]) (by kernel_rfl) (SettL.pure (FzL.stat rfl)))
      · have h := if_f h hc3
        refine k_seq ?_
        refine k_reg ?_
        refine mops_end [2, 3, 10] hf5 (l' := [⟨2, [], .s (.int .i64 0)⟩, ⟨3, [], .s (.int .u8 low_)⟩, ⟨10, [], .s (.bool (low_ == 6))⟩]) (L' := []) (by kernel_rfl) fun f6 hf6 => ?_
        refine k_c ?_
        refine k_cond hf6 (t := (low_ == 6)) (by kernel_rfl) (fun hc4 => ?_) (fun hc4 => ?_)
        · have h := if_t h hc4
          refine k_seq ?_
          refine k_reg ?_
          refine mops_end [2] hf6 (l' := [⟨2, [], .s (.int .i64 16)⟩]) (L' := []) (by kernel_rfl) fun f7 hf7 => ?_
          refine k_c ?_
          refine k_ret ?_
          refine x_br ?_
          refine x_c nofun ?_
          obtain rfl := Option.some.inj h
          exact k_fin (fin_ret (.inl rfl) hf7 (vs := [.s (.int .i64 16)]) (by kernel_rfl) (SettL.pure (FzL.stat rfl)))
        · have h := if_f h hc4
          refine k_seq ?_
          refine k_reg ?_
          refine mops_end [2, 3, 12] hf6 (l' := [⟨2, [], .s (.int .i64 0)⟩, ⟨3, [], .s (.int .u8 low_)⟩, ⟨12, [], .s (.bool (low_ == 7))⟩]) (L' := []) (by kernel_rfl) fun f7 hf7 => ?_
          refine k_c ?_
          refine k_cond hf7 (t := (low_ == 7)) (by kernel_rfl) (fun hc5 => ?_) (fun hc5 => ?_)
          · have h := if_t h hc5
            refine k_seq ?_
            refine k_reg ?_
            refine mops_end [2] hf7 (l' := [⟨2, [], .s (.int .i64 17)⟩]) (L' := []) (by kernel_rfl) fun f8 hf8 => ?_
            refine k_c ?_
            refine k_ret ?_
            refine x_br ?_
            refine x_c nofun ?_
            obtain rfl := Option.some.inj h
            exact k_fin (fin_ret (.inl rfl) hf8 (vs := [.s (.int .i64 17)]) (by kernel_rfl) (SettL.pure (FzL.stat rfl)))
          · have h := if_f h hc5
            refine k_seq ?_
            refine k_reg ?_
            refine mops_end [2, 3, 14] hf7 (l' := [⟨2, [], .s (.int .i64 0)⟩, ⟨3, [], .s (.int .u8 low_)⟩, ⟨14, [], .s (.bool (low_ == 8))⟩]) (L' := []) (by kernel_rfl) fun f8 hf8 => ?_
            refine k_c ?_
            refine k_cond hf8 (t := (low_ == 8)) (by kernel_rfl) (fun hc6 => ?_) (fun hc6 => ?_)
            · have h := if_t h hc6
              refine k_seq ?_
              refine k_reg ?_
              refine mops_end [2] hf8 (l' := [⟨2, [], .s (.int .i64 18)⟩]) (L' := []) (by kernel_rfl) fun f9 hf9 => ?_
              refine k_c ?_
              refine k_ret ?_
              refine x_br ?_
              refine x_c nofun ?_
              obtain rfl := Option.some.inj h
              exact k_fin (fin_ret (.inl rfl) hf9 (vs := [.s (.int .i64 18)]) (by kernel_rfl) (SettL.pure (FzL.stat rfl)))
            · have h := if_f h hc6
              refine k_seq ?_
              refine k_reg ?_
              refine mops_end [2, 3, 16] hf8 (l' := [⟨2, [], .s (.int .i64 0)⟩, ⟨3, [], .s (.int .u8 low_)⟩, ⟨16, [], .s (.bool (low_ == 9))⟩]) (L' := []) (by kernel_rfl) fun f9 hf9 => ?_
              refine k_c ?_
              refine k_cond hf9 (t := (low_ == 9)) (by kernel_rfl) (fun hc7 => ?_) (fun hc7 => ?_)
              · have h := if_t h hc7
                refine k_seq ?_
                refine k_reg ?_
                refine mops_end [2] hf9 (l' := [⟨2, [], .s (.int .i64 19)⟩]) (L' := []) (by kernel_rfl) fun f10 hf10 => ?_
                refine k_c ?_
                refine k_ret ?_
                refine x_br ?_
                refine x_c nofun ?_
                obtain rfl := Option.some.inj h
                exact k_fin (fin_ret (.inl rfl) hf10 (vs := [.s (.int .i64 19)]) (by kernel_rfl) (SettL.pure (FzL.stat rfl)))
              · have h := if_f h hc7
                refine k_seq ?_
                refine k_reg ?_
                refine mops_end [2, 3, 18] hf9 (l' := [⟨2, [], .s (.int .i64 0)⟩, ⟨3, [], .s (.int .u8 low_)⟩, ⟨18, [], .s (.bool (low_ == 10))⟩]) (L' := []) (by kernel_rfl) fun f10 hf10 => ?_
                refine k_c ?_
                refine k_cond hf10 (t := (low_ == 10)) (by kernel_rfl) (fun hc8 => ?_) (fun hc8 => ?_)
                · have h := if_t h hc8
                  refine k_seq ?_
                  refine k_reg ?_
                  refine mops_end [2] hf10 (l' := [⟨2, [], .s (.int .i64 20)⟩]) (L' := []) (by kernel_rfl) fun f11 hf11 => ?_
                  refine k_c ?_
                  refine k_ret ?_
                  refine x_br ?_
                  refine x_c nofun ?_
                  obtain rfl := Option.some.inj h
                  exact k_fin (fin_ret (.inl rfl) hf11 (vs := [.s (.int .i64 20)]) (by kernel_rfl) (SettL.pure (FzL.stat rfl)))
                · have h := if_f h hc8
                  refine k_seq ?_
                  refine k_reg ?_
                  refine mops_end [2, 3, 20] hf10 (l' := [⟨2, [], .s (.int .i64 0)⟩, ⟨3, [], .s (.int .u8 low_)⟩, ⟨20, [], .s (.bool (low_ == 12))⟩]) (L' := []) (by kernel_rfl) fun f11 hf11 => ?_
                  refine k_c ?_
                  refine k_cond hf11 (t := (low_ == 12)) (by kernel_rfl) (fun hc9 => ?_) (fun hc9 => ?_)
                  · have h := if_t h hc9
                    refine k_seq ?_
                    refine k_reg ?_
                    refine mops_end [2] hf11 (l' := [⟨2, [], .s (.int .i64 21)⟩]) (L' := []) (by kernel_rfl) fun f12 hf12 => ?_
                    refine k_c ?_
                    refine k_ret ?_
                    refine x_br ?_
                    refine x_c nofun ?_
                    obtain rfl := Option.some.inj h
                    exact k_fin (fin_ret (.inl rfl) hf12 (vs := [.s (.int .i64 21)]) (by kernel_rfl) (SettL.pure (FzL.stat rfl)))
                  · have h := if_f h hc9
                    refine k_seq ?_
                    refine k_reg ?_
                    refine mops_end [2, 3, 22] hf11 (l' := [⟨2, [], .s (.int .i64 0)⟩, ⟨3, [], .s (.int .u8 low_)⟩, ⟨22, [], .s (.bool (low_ == 13))⟩]) (L' := []) (by kernel_rfl) fun f12 hf12 => ?_
                    refine k_c ?_
                    refine k_cond hf12 (t := (low_ == 13)) (by kernel_rfl) (fun hc10 => ?_) (fun hc10 => ?_)
                    · have h := if_t h hc10
                      refine k_seq ?_
                      refine k_reg ?_
                      refine mops_end [2] hf12 (l' := [⟨2, [], .s (.int .i64 22)⟩]) (L' := []) (by kernel_rfl) fun f13 hf13 => ?_
                      refine k_c ?_
                      refine k_ret ?_
                      refine x_br ?_
                      refine x_c nofun ?_
                      obtain rfl := Option.some.inj h
                      exact k_fin (fin_ret (.inl rfl) hf13 (vs := [.s (.int .i64 22)]) (by kernel_rfl) (SettL.pure (FzL.stat rfl)))
                    · have h := if_f h hc10
                      refine k_seq ?_
                      refine k_reg ?_
                      refine mops_end [2, 24] hf12 (l' := [⟨2, [], .s (.int .i64 0)⟩, ⟨24, [], .s (.bool (low_ == 15))⟩]) (L' := []) (by kernel_rfl) fun f13 hf13 => ?_
                      refine k_c ?_
                      refine k_cond hf13 (t := (low_ == 15)) (by kernel_rfl) (fun hc11 => ?_) (fun hc11 => ?_)
                      · have h := if_t h hc11
                        refine k_seq ?_
                        refine k_reg ?_
                        refine mops_end [2] hf13 (l' := [⟨2, [], .s (.int .i64 23)⟩]) (L' := []) (by kernel_rfl) fun f14 hf14 => ?_
                        refine k_c ?_
                        refine k_ret ?_
                        refine x_br ?_
                        refine x_c nofun ?_
                        obtain rfl := Option.some.inj h
                        exact k_fin (fin_ret (.inl rfl) hf14 (vs := [.s (.int .i64 23)]) (by kernel_rfl) (SettL.pure (FzL.stat rfl)))
                      · have h := if_f h hc11
                        refine k_skip ?_
                        refine k_b ?_
                        refine k_c ?_
                        refine k_seq ?_
                        refine k_reg ?_
                        refine mops_end [2] hf13 (l' := [⟨2, [], .s (.int .i64 0)⟩]) (L' := []) (by kernel_rfl) fun f14 hf14 => ?_
                        refine k_c ?_
                        refine k_ret ?_
                        obtain rfl := Option.some.inj h
                        exact k_fin (fin_ret (.inl rfl) hf14 (vs := [.s (.int .i64 0)]) (by kernel_rfl) (SettL.pure (FzL.stat rfl)))
end Go.Proofs.YtjaadpgmiejidaaK
