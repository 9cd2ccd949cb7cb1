/- The Go functions come to the functions over typed data. Printed by a program of this work. -/
import Derived.Test.YtfcegejpdlbkdaaF
import Derived.Test.YtfcegejpdlbkdaaProg
import Derived.Test.YtfcegejpdlbkdaaRp
import Derived.Test.YtfcegejpdlbkdaaG0
import Derived.Test.YtfcegejpdlbkdaaG1
namespace Go.Proofs.YtfcegejpdlbkdaaK
set_option linter.unusedVariables false
set_option linter.unusedSimpArgs false
set_option maxHeartbeats 4000000
open Go.RowKit
attribute [local irreducible] dwv mops lops lqops lwops kont iter run runK rk okK ex E1 vals val chain chB sel resF
@[irreducible] noncomputable def i16 : Nat → List Op1 := rg Try.prog 16 []
noncomputable def a16_0 : IR := (.seq (.block 1 (.seq (.reg false (i16 4)) (.cond (.t 29) (.seq (.reg false (i16 5)) .ret) .skip))) (.reg false (i16 6)))
noncomputable def a16_1 : IR := (.block 0 (.loop (.seq (.seq (.reg false (i16 3)) (.cond (.t 11) .skip (.exit 0))) a16_0)))
noncomputable def a16_2 : IR := (.seq (.reg false (i16 1)) (.seq (.seq (.reg false (i16 2)) a16_1) (.seq (.reg false (i16 7)) .ret)))
noncomputable def spinetref14_Of_ir : IR := (.seq (.reg false (i16 0)) a16_2)
theorem spinetref14_Of_cfn : cFn Try.prog 16 = some (spinetref14_Of_ir, [(.c 4 true 3)], 36) := by kernel_rfl
def spinetref14_Of_V (r : (api_Entry)) : V := .agg [.s (.int .i64 r.Op), .s (.int .i64 r.Mode), .s (.int .i64 r.Reg)]
def spinetref14_Of_C (r : (api_Entry)) : X → Fr → Hp → Prop := FinL [(.c 4 true 3)] [] (spinetref14_Of_V r) []
abbrev k16_0 : List V := [.s (.int .i64 0), .s (.int .i64 0), .s (.int .i64 0)]
theorem spinetref14_Of_ok (page_ : Int) (code_ : Int) (r : (api_Entry)) (h : spinetref14_Of page_ code_ = some r) : Pure Try.prog 16 [.s (.int .i64 page_), .s (.int .i64 code_)] (spinetref14_Of_V r) := by
 refine CS spinetref14_Of_cfn (spinetref14_Of_C r) fun f hf => ?_
 unfold spinetref14_Of at h
 refine Kq <| Kr <| En hf fun f1 hf1 => Kc <| Kq <| Kr ?_
 obtain ⟨r_, hx_r_, h⟩ := Bs h
 refine Ca hf1 (av := []) (v := .sl false r_.length (cat spinetref14_Known.v r_)) (CalL.pure (spinetref14_All_ok  r_ hx_r_) rfl (by simp [V.static, statics, cat_stat, spinetref14_All_V]) (Nat.le_of_ble_eq_true (by kernel_rfl))) (fun _ => rfl) fun f2 hf2 => En hf2 fun f3 hf3 => Kc <| Kq <| Kq <| Kr <| En hf3 fun f4 hf4 => Kc <| Kb ?_
 obtain ⟨o0, hx0, h⟩ := Bs h
 have hret0 : ∀ r0, .ret r0 = o0 → r0 = r := fun r0 e => by subst e; exact Option.some.inj h
 have hgo0 : .go () = o0 → ∀ f, FOk f [⟨4, [], .ptr 0 0 0⟩] → kont Try.prog [] (spinetref14_Of_C r) ((.c (.seq (.reg false (i16 7)) .ret)) :: []) .normal f [⟨0, .mem, 1, k16_0⟩] := by
  intro  e f hf
  subst e
  refine Kc <| Kq <| Kr <| En hf fun f1 hf1 => ?_
  obtain rfl := Oi h
  exact Kc <| Kt <| Fp hf1
 refine k_loop BIG <| loop_ind (fun n f L => ∃ (i_1 : Int), spinetref14_Of_l0 page_ code_ r_ n i_1 = some o0 ∧ FOk f [⟨0, [], .s (.int .i64 page_)⟩, ⟨1, [], .s (.int .i64 code_)⟩, ⟨4, [], .ptr 0 0 0⟩, ⟨5, [], .sl false r_.length (cat spinetref14_Known.v r_)⟩, ⟨6, [], .s (.int .i64 i_1)⟩] ∧ L = [⟨0, .mem, 1, k16_0⟩]) ?_ ?_ BIG _ _ ⟨(0), hx0, FOk_of [0, 1, 4, 5, 6] hf4 (by kernel_rfl), (by kernel_rfl)⟩
 ·rintro f L ⟨i_1, h, _⟩
  cases (show (none : Option _) = some _ from h)
 ·rintro n0 R0 ih f L ⟨i_1, h, hf, rfl⟩
  rw [spinetref14_Of_l0] at h
  refine Kq <| Kq <| Kr <| En hf fun f1 hf1 => Kc <| Kf hf1 h (fun hc1 h => ?_) fun hc1 h => ?_
  ·refine Ks <| Kc <| Kq <| Kb <| Kq <| Kr <| Sg 2 hf1 fun f2 hf2 => ?_
   obtain ⟨c2, h⟩ := as_ok h
   refine Ad (.ias 5 (.t 14) (.t 15)) (.ip ((cat spinetref14_Known.v r_).drop ((i_1 : Int).toNat * 5))) hf2 (e_ias (n := r_.length) (xv := .sl false r_.length (cat spinetref14_Known.v r_)) (k := .i64) (iv := i_1) (p := .ip ((cat spinetref14_Known.v r_).drop ((i_1 : Int).toNat * 5))) (by kernel_rfl) (by kernel_rfl) (by kernel_rfl) (by kernel_rfl) c2) fun f3 hf3 => Sg 1 hf3 fun f4 hf4 => Ad (.load false 1 (.t 17)) (.s (.int .i64 (gt r_ i_1).Page)) hf4 (e_load_ip (g := spinetref14_Known.v) (l := r_) (iv := i_1) [0] (by kernel_rfl) c2 (by kernel_rfl) (by kernel_rfl)) fun f5 hf5 => Sg 5 hf5 fun f6 hf6 => ?_
   obtain ⟨c3, h⟩ := as_ok h
   refine mops_gadv (dst := (some 24)) (op := (.ias 5 (.t 22) (.t 23))) (aft := [8, 9, 7]) (t := 21) (w := true) (ch := [(21, true)]) (b := ((gt r_ i_1).Page == page_)) (v := .ip ((cat spinetref14_Known.v r_).drop ((i_1 : Int).toNat * 5))) (by kernel_rfl) hf6 (by kernel_rfl) (by kernel_rfl) (by kernel_rfl) (fun hb4 => e_ias (n := r_.length) (xv := .sl false r_.length (cat spinetref14_Known.v r_)) (k := .i64) (iv := i_1) (p := .ip ((cat spinetref14_Known.v r_).drop ((i_1 : Int).toNat * 5))) (by kernel_rfl) (by kernel_rfl) (by kernel_rfl) (by kernel_rfl) (c3 hb4)) fun f7 hf7 => Sg 1 hf7 fun f8 hf8 => mops_gadv (dst := (some 26)) (op := (.load false 1 (.t 25))) (aft := [11, 7]) (t := 21) (w := true) (ch := [(21, true)]) (b := ((gt r_ i_1).Page == page_)) (v := .s (.int .i64 (gt r_ i_1).Code)) (by kernel_rfl) hf8 (by kernel_rfl) (by kernel_rfl) (by kernel_rfl) (fun hb5 => e_load_ip (g := spinetref14_Known.v) (l := r_) (iv := i_1) [1] (by kernel_rfl) (c3 hb5) (by kernel_rfl) (by kernel_rfl)) fun f9 hf9 => En hf9 fun f10 hf10 => Kc <| Kf hf10 h (fun hc6 h => ?_) fun hc6 h => ?_
   ·refine Kq <| Kr <| Sg 2 hf10 fun f11 hf11 => ?_
    obtain ⟨c7, h⟩ := as_ok h
    refine Ad (.ias 5 (.t 30) (.t 31)) (.ip ((cat spinetref14_Known.v r_).drop ((i_1 : Int).toNat * 5))) hf11 (e_ias (n := r_.length) (xv := .sl false r_.length (cat spinetref14_Known.v r_)) (k := .i64) (iv := i_1) (p := .ip ((cat spinetref14_Known.v r_).drop ((i_1 : Int).toNat * 5))) (by kernel_rfl) (by kernel_rfl) (by kernel_rfl) (by kernel_rfl) c7) fun f12 hf12 => Sg 1 hf12 fun f13 hf13 => Ad (.load true 3 (.t 33)) (.agg [.s (.int .i64 ((gt r_ i_1).Entry).Op), .s (.int .i64 ((gt r_ i_1).Entry).Mode), .s (.int .i64 ((gt r_ i_1).Entry).Reg)]) hf13 (e_load_ip (g := spinetref14_Known.v) (l := r_) (iv := i_1) [2] (by kernel_rfl) c7 (by kernel_rfl) (by kernel_rfl)) fun f14 hf14 => En hf14 fun f15 hf15 => Kc <| Kt <| Xr <| Xc <| Xl <| Xr <| Xc ?_
    obtain rfl := hret0 _ (Option.some.inj h)
    exact Fp hf15
   ·exact Ks <| Kv <| Kc <| Kr <| En hf10 fun f11 hf11 => Kl <| ih _ _ ⟨(IntKind.wrap .i64 (i_1 + 1)), h, FOk_of [0, 1, 4, 5, 6] hf11 (by kernel_rfl), (by kernel_rfl)⟩
  ·exact Kx <| Xc <| Xl <| Xb <| Kh (hgo0  (Option.some.inj h) _ (Of [4] hf1))
@[irreducible] noncomputable def i20 : Nat → List Op1 := rg Try.prog 20 []
noncomputable def a20_0 : IR := (.cond (.t 21) (.reg false (i20 7)) (.seq (.reg false (i20 8)) (.cond (.t 35) (.reg false (i20 9)) .skip)))
noncomputable def a20_1 : IR := (.seq (.seq (.reg false (i20 4)) (.cond (.t 18) (.reg false (i20 5)) .skip)) (.seq (.block 0 (.seq (.reg false (i20 6)) a20_0)) (.seq (.reg true (i20 10)) .ret)))
noncomputable def a20_2 : IR := (.seq (.seq (.reg false (i20 1)) (.cond (.t 12) (.seq (.reg false (i20 2)) .ret) .skip)) (.seq (.reg false (i20 3)) a20_1))
noncomputable def post_Post_Code_ir : IR := (.seq (.reg false (i20 0)) a20_2)
theorem post_Post_Code_cfn : cFn Try.prog 20 = some (post_Post_Code_ir, [(.t 2), (.t 3)], 61) := by kernel_rfl
def post_Post_Code_V (r : (Int × Bool)) : V := .tup [.s (.int .u8 r.1), .s (.bool r.2)]
def post_Post_Code_C (r : (Int × Bool)) : X → Fr → Hp → Prop := FinL [(.t 2), (.t 3)] [] (post_Post_Code_V r) []
theorem post_Post_Code_ok (p_ : post_Post) (r : (Int × Bool)) (h : post_Post_Code p_ = some r) : Pure Try.prog 20 [.agg [.s (.int .i64 p_.Kind), .s (.int .i64 p_.Reg), .s (.int .u16 p_.Off), .s (.bool p_.Indirect)]] (post_Post_Code_V r) := by
 refine CS post_Post_Code_cfn (post_Post_Code_C r) fun f hf => ?_
 unfold post_Post_Code at h
 refine Kq <| Kr <| En hf fun f1 hf1 => Kc <| Kq <| Kq <| Kr <| En hf1 fun f2 hf2 => Kc <| Kf hf2 h (fun hc1 h => ?_) fun hc1 h => ?_
 ·refine Kq <| Kr <| En hf2 fun f3 hf3 => ?_
  obtain rfl := Oi h
  exact Kc <| Kt <| Xc <| k_fin (fin_ret (.inl rfl) hf3 (vs := [.s (.int .u8 0), .s (.bool false)]) (by kernel_rfl) (SettL.pure (FzL.tup (FzsL.cons (FzL.stat rfl) (FzsL.cons (FzL.stat rfl) FzsL.nil)))))
 ·refine Ks <| Kc <| Kq <| Kr <| Sg 2 hf2 fun f3 hf3 => ?_
  obtain ⟨r_, hx_r_, h⟩ := Bs h
  refine Cp (post_low_ok _ _ hx_r_) hf3 fun f4 hf4 => En hf4 fun f5 hf5 => Kc <| Kq <| Kq <| Kr <| En hf5 fun f6 hf6 => Kc ?_
  have hj1 : ∀ (b_ : Int), post_Post_Code_j1 p_ b_ = some r → ∀ f, FOk f [⟨1, [], .ptr 0 0 0⟩, ⟨2, [], .s (.int .u8 0)⟩, ⟨3, [], .s (.bool false)⟩, ⟨4, [], .s (.int .u8 b_)⟩] → kont Try.prog [] (post_Post_Code_C r) ((.c (.seq (.block 0 (.seq (.reg false (i20 6)) a20_0)) (.seq (.reg true (i20 10)) .ret))) :: []) .normal f [⟨0, .mem, 1, [.s (.int .i64 p_.Kind), .s (.int .i64 p_.Reg), .s (.int .u16 p_.Off), .s (.bool p_.Indirect)]⟩] := by
   intro b_ h f hf
   unfold post_Post_Code_j1 at h
   refine Kc <| Kq <| Kb <| Kq <| Kr <| En hf fun f1 hf1 => Kc ?_
   have hj2 : ∀ (b_1 : Int), post_Post_Code_j0 p_ b_1 = some r → ∀ f, FOk f [⟨1, [], .ptr 0 0 0⟩, ⟨2, [], .s (.int .u8 0)⟩, ⟨3, [], .s (.bool false)⟩, ⟨4, [], .s (.int .u8 b_1)⟩] → kont Try.prog [] (post_Post_Code_C r) ((.c (.seq (.reg true (i20 10)) .ret)) :: []) .normal f [⟨0, .mem, 1, [.s (.int .i64 p_.Kind), .s (.int .i64 p_.Reg), .s (.int .u16 p_.Off), .s (.bool p_.Indirect)]⟩] := by
    intro b_1 h f hf
    unfold post_Post_Code_j0 at h
    refine Kc <| Kq <| Kd <| Sg 2 hf fun f1 hf1 => ?_
    obtain ⟨r_1, hx_r_1, h⟩ := Bs h
    refine Cp (post_Of_ok _ _ hx_r_1) hf1 fun f2 hf2 => En hf2 fun f3 hf3 => ?_
    obtain rfl := Oi h
    exact Kc <| Kt <| k_fin (fin_ret (.inl rfl) hf3 (vs := [.s (.int .u8 b_1), .s (.bool ((r_1.Kind == p_.Kind) && ((r_1.Reg == p_.Reg) && ((r_1.Off == p_.Off) && ((r_1.Indirect == p_.Indirect) && true)))))]) (by kernel_rfl) (SettL.pure (FzL.tup (FzsL.cons (FzL.stat rfl) (FzsL.cons (FzL.stat rfl) FzsL.nil)))))
   refine Kf hf1 h (fun hc3 h => ?_) fun hc3 h => ?_
   ·exact Kr <| En hf1 fun f2 hf2 => Kv <| Kh (hj2 (bits .or .u8 (IntKind.wrap .u8 ((IntKind.wrap .u8 (IntKind.wrap .i64 (p_.Reg - 1))) * 2 ^ (5))) (IntKind.wrap .u8 (bits .and .u16 p_.Off 31))) h _ (Of [1, 2, 3, 4] hf2))
   ·refine Kq <| Kr <| En hf1 fun f2 hf2 => Kc <| Kf hf2 h (fun hc4 h => ?_) fun hc4 h => ?_
    ·exact Kr <| En hf2 fun f3 hf3 => Kv <| Kh (hj2 (bits .or .u8 b_ (IntKind.wrap .u8 ((IntKind.wrap .u8 (IntKind.wrap .i64 (p_.Reg - 1))) * 2 ^ (5)))) h _ (Of [1, 2, 3, 4] hf3))
    ·exact Ks <| Kv <| Kh (hj2 b_ h _ (Of [1, 2, 3, 4] hf2))
  refine Kf hf6 h (fun hc2 h => ?_) fun hc2 h => ?_
  ·exact Kr <| En hf6 fun f7 hf7 => Kh (hj1 (bits .or .u8 (bits .or .u8 128 r_) 16) h _ (Of [1, 2, 3, 4] hf7))
  ·exact Ks <| Kh (hj1 (bits .or .u8 128 r_) h _ (Of [1, 2, 3, 4] hf6))
@[irreducible] noncomputable def i40 : Nat → List Op1 := rg Try.prog 40 []
noncomputable def a40_0 : IR := (.cond (.t 10) .skip (.seq (.reg false (i40 6)) (.cond (.t 10) .skip (.reg false (i40 7)))))
noncomputable def a40_1 : IR := (.cond (.t 14) (.seq (.reg false (i40 10)) .ret) (.seq (.reg false (i40 11)) (.cond (.t 16) (.seq (.reg false (i40 12)) .ret) .skip)))
noncomputable def a40_2 : IR := (.cond (.t 7) (.seq (.reg false (i40 4)) .ret) (.seq (.seq (.reg false (i40 5)) a40_0) (.cond (.t 10) (.seq (.reg false (i40 8)) .ret) (.seq (.reg false (i40 9)) a40_1))))
noncomputable def a40_3 : IR := (.block 0 (.seq (.seq (.reg false (i40 2)) (.cond (.t 7) .skip (.reg false (i40 3)))) a40_2))
noncomputable def inst_behind_ir : IR := (.seq (.reg false (i40 0)) (.seq (.seq (.reg false (i40 1)) a40_3) (.seq (.reg false (i40 13)) .ret)))
theorem inst_behind_cfn : cFn Try.prog 40 = some (inst_behind_ir, [(.t 4), (.t 5)], 21) := by kernel_rfl
def inst_behind_V (r : (Int × Bool)) : V := .tup [.s (.int .i64 r.1), .s (.bool r.2)]
def inst_behind_C (r : (Int × Bool)) : X → Fr → Hp → Prop := FinL [(.t 4), (.t 5)] [] (inst_behind_V r) []
theorem inst_behind_ok (mode_ : Int) (b_ : Int) (r : (Int × Bool)) (h : inst_behind mode_ b_ = some r) : Pure Try.prog 40 [.s (.int .i64 mode_), .s (.int .u8 b_)] (inst_behind_V r) := by
 refine CS inst_behind_cfn (inst_behind_C r) fun f hf => ?_
 unfold inst_behind at h
 refine Kq <| Kr <| En hf fun f1 hf1 => Kc <| Kq <| Kq <| Kr <| En hf1 fun f2 hf2 => Kc <| Kb <| Kq <| Kq <| Kr <| En hf2 fun f3 hf3 => Kc ?_
 have hj1 : ∀ (t_ : Bool), inst_behind_j1 mode_ b_ t_ = some r → ∀ f, FOk f [⟨1, [], .s (.int .u8 b_)⟩, ⟨4, [], .s (.int .i64 0)⟩, ⟨5, [], .s (.bool false)⟩, ⟨6, [], .s (.int .i64 mode_)⟩, ⟨7, [], .s (.bool t_)⟩] → kont Try.prog [] (inst_behind_C r) ((.c a40_2) :: (.b 0) :: (.c (.seq (.reg false (i40 13)) .ret)) :: []) .normal f [] := by
  intro t_ h f hf
  unfold inst_behind_j1 at h
  refine Kc <| Kf hf h (fun hc2 h => ?_) fun hc2 h => ?_
  ·refine Kq <| Kr <| En hf fun f1 hf1 => ?_
   obtain rfl := Oi h
   exact Kc <| Kt <| Xr <| Xc <| k_fin (fin_ret (.inl rfl) hf1 (vs := [.s (.int .i64 1), .s (.bool false)]) (by kernel_rfl) (SettL.pure (FzL.tup (FzsL.cons (FzL.stat rfl) (FzsL.cons (FzL.stat rfl) FzsL.nil)))))
  ·refine Kq <| Kq <| Kr <| En hf fun f1 hf1 => Kc ?_
   have hj2 : ∀ (t_1 : Bool), inst_behind_j0 mode_ b_ t_1 = some r → ∀ f, FOk f [⟨1, [], .s (.int .u8 b_)⟩, ⟨4, [], .s (.int .i64 0)⟩, ⟨5, [], .s (.bool false)⟩, ⟨6, [], .s (.int .i64 mode_)⟩, ⟨10, [], .s (.bool t_1)⟩] → kont Try.prog [] (inst_behind_C r) ((.c (.cond (.t 10) (.seq (.reg false (i40 8)) .ret) (.seq (.reg false (i40 9)) a40_1))) :: (.b 0) :: (.c (.seq (.reg false (i40 13)) .ret)) :: []) .normal f [] := by
    intro t_1 h f hf
    unfold inst_behind_j0 at h
    refine Kc <| Kf hf h (fun hc5 h => ?_) fun hc5 h => ?_
    ·refine Kq <| Kr <| En hf fun f1 hf1 => ?_
     obtain rfl := Oi h
     exact Kc <| Kt <| Xr <| Xc <| k_fin (fin_ret (.inl rfl) hf1 (vs := [.s (.int .i64 2), .s (.bool false)]) (by kernel_rfl) (SettL.pure (FzL.tup (FzsL.cons (FzL.stat rfl) (FzsL.cons (FzL.stat rfl) FzsL.nil)))))
    ·refine Kq <| Kr <| En hf fun f1 hf1 => Kc <| Kf hf1 h (fun hc6 h => ?_) fun hc6 h => ?_
     ·refine Kq <| Kr <| En hf1 fun f2 hf2 => ?_
      obtain rfl := Oi h
      exact Kc <| Kt <| Xr <| Xc <| k_fin (fin_ret (.inl rfl) hf2 (vs := [.s (.int .i64 1), .s (.bool true)]) (by kernel_rfl) (SettL.pure (FzL.tup (FzsL.cons (FzL.stat rfl) (FzsL.cons (FzL.stat rfl) FzsL.nil)))))
     ·refine Kq <| Kr <| En hf1 fun f2 hf2 => Kc <| Kf hf2 h (fun hc7 h => ?_) fun hc7 h => ?_
      ·refine Kq <| Kr <| Sg 1 hf2 fun f3 hf3 => ?_
       obtain ⟨r_, hx_r_, h⟩ := Bs h
       refine Cp (post_Of_ok _ _ hx_r_) hf3 fun f4 hf4 => ?_
       obtain ⟨r_1, hx_r_1, h⟩ := Bs h
       refine Cp (post_Post_Bytes_ok _ _ hx_r_1) hf4 fun f5 hf5 => En hf5 fun f6 hf6 => ?_
       obtain rfl := Oi h
       exact Kc <| Kt <| Xr <| Xc <| k_fin (fin_ret (.inl rfl) hf6 (vs := [.s (.int .i64 r_1), .s (.bool true)]) (by kernel_rfl) (SettL.pure (FzL.tup (FzsL.cons (FzL.stat rfl) (FzsL.cons (FzL.stat rfl) FzsL.nil)))))
      ·refine Ks <| Kv <| Kc <| Kq <| Kr <| En hf2 fun f3 hf3 => ?_
       obtain rfl := Oi h
       exact Kc <| Kt <| k_fin (fin_ret (.inl rfl) hf3 (vs := [.s (.int .i64 0), .s (.bool false)]) (by kernel_rfl) (SettL.pure (FzL.tup (FzsL.cons (FzL.stat rfl) (FzsL.cons (FzL.stat rfl) FzsL.nil)))))
   refine Kf hf1 h (fun hc3 h => ?_) fun hc3 h => ?_
   ·exact Ks <| Kh (hj2 (mode_ == 2) h _ (Of [1, 4, 5, 6, 10] hf1))
   ·refine Kq <| Kr <| En hf1 fun f2 hf2 => Kc <| Kf hf2 h (fun hc4 h => ?_) fun hc4 h => ?_
    ·exact Ks <| Kh (hj2 (mode_ == 5) h _ (Of [1, 4, 5, 6, 10] hf2))
    ·exact Kr <| En hf2 fun f3 hf3 => Kh (hj2 (mode_ == 7) h _ (Of [1, 4, 5, 6, 10] hf3))
 refine Kf hf3 h (fun hc1 h => ?_) fun hc1 h => ?_
 ·exact Ks <| Kh (hj1 (mode_ == 1) h _ (Of [1, 4, 5, 6, 7] hf3))
 ·exact Kr <| En hf3 fun f4 hf4 => Kh (hj1 (mode_ == 3) h _ (Of [1, 4, 5, 6, 7] hf4))
@[irreducible] noncomputable def i73 : Nat → List Op1 := rg Try.prog 73 []
noncomputable def a73_0 : IR := (.cond (.t 35) (.seq (.reg false (i73 16)) .ret) (.seq (.reg false (i73 17)) (.cond (.t 39) (.seq (.reg false (i73 18)) .ret) .skip)))
noncomputable def a73_1 : IR := (.cond (.t 27) (.seq (.reg false (i73 12)) .ret) (.seq (.reg false (i73 13)) (.cond (.t 31) (.seq (.reg false (i73 14)) .ret) (.seq (.reg false (i73 15)) a73_0))))
noncomputable def a73_2 : IR := (.cond (.t 18) (.seq (.reg false (i73 8)) .ret) (.seq (.reg false (i73 9)) (.cond (.t 23) (.seq (.reg false (i73 10)) .ret) (.seq (.reg false (i73 11)) a73_1))))
noncomputable def a73_3 : IR := (.cond (.t 10) (.seq (.reg false (i73 4)) .ret) (.seq (.reg false (i73 5)) (.cond (.t 14) (.seq (.reg false (i73 6)) .ret) (.seq (.reg false (i73 7)) a73_2))))
noncomputable def a73_4 : IR := (.seq (.seq (.reg false (i73 2)) (.block 0 (.seq (.reg false (i73 3)) a73_3))) (.seq (.reg false (i73 19)) .ret))
noncomputable def page_first_ir : IR := (.seq (.reg false (i73 0)) (.seq (.reg false (i73 1)) a73_4))
theorem page_first_cfn : cFn Try.prog 73 = some (page_first_ir, [(.c 2 true 3)], 46) := by kernel_rfl
def page_first_V (r : (api_Entry)) : V := .agg [.s (.int .i64 r.Op), .s (.int .i64 r.Mode), .s (.int .i64 r.Reg)]
def page_first_C (r : (api_Entry)) : X → Fr → Hp → Prop := FinL [(.c 2 true 3)] [] (page_first_V r) []
theorem page_first_ok (code_ : Int) (r : (api_Entry)) (h : page_first code_ = some r) : Pure Try.prog 73 [.s (.int .u8 code_)] (page_first_V r) := by
 refine CS page_first_cfn (page_first_C r) fun f hf => ?_
 unfold page_first at h
 refine Kq <| Kr <| En hf fun f1 hf1 => Kc <| Kq <| Kr <| En hf1 fun f2 hf2 => Kc <| Kq <| Kq <| Kr <| En hf2 fun f3 hf3 => Kc <| Kb <| Kq <| Kr <| En hf3 fun f4 hf4 => Kc <| Kf hf4 h (fun hc1 h => ?_) fun hc1 h => ?_
 ·refine Kq <| Kr <| Sg 1 hf4 fun f5 hf5 => ?_
  obtain ⟨r_, hx_r_, h⟩ := Bs h
  refine Cp (page_memory_ok _ _ _ hx_r_) hf5 fun f6 hf6 => En hf6 fun f7 hf7 => ?_
  obtain rfl := Oi h
  exact Kc <| Kt <| Xr <| Xc <| Fp hf7
 ·refine Kq <| Kr <| En hf4 fun f5 hf5 => Kc <| Kf hf5 h (fun hc2 h => ?_) fun hc2 h => ?_
  ·refine Kq <| Kr <| Sg 1 hf5 fun f6 hf6 => ?_
   obtain ⟨r_1, hx_r_1, h⟩ := Bs h
   refine Cp (page_tens_ok _ _ hx_r_1) hf6 fun f7 hf7 => En hf7 fun f8 hf8 => ?_
   obtain rfl := Oi h
   exact Kc <| Kt <| Xr <| Xc <| Fp hf8
  ·refine Kq <| Kr <| En hf5 fun f6 hf6 => Kc <| Kf hf6 h (fun hc3 h => ?_) fun hc3 h => ?_
   ·refine Kq <| Kr <| En hf6 fun f7 hf7 => ?_
    obtain rfl := Oi h
    exact Kc <| Kt <| Xr <| Xc <| Fp hf7
   ·refine Kq <| Kr <| En hf6 fun f7 hf7 => Kc <| Kf hf7 h (fun hc4 h => ?_) fun hc4 h => ?_
    ·refine Kq <| Kr <| Sg 1 hf7 fun f8 hf8 => ?_
     obtain ⟨r_2, hx_r_2, h⟩ := Bs h
     refine Cp (page_thirties_ok _ _ hx_r_2) hf8 fun f9 hf9 => En hf9 fun f10 hf10 => ?_
     obtain rfl := Oi h
     exact Kc <| Kt <| Xr <| Xc <| Fp hf10
    ·refine Kq <| Kr <| En hf7 fun f8 hf8 => Kc <| Kf hf8 h (fun hc5 h => ?_) fun hc5 h => ?_
     ·refine Kq <| Kr <| Sg 1 hf8 fun f9 hf9 => ?_
      obtain ⟨r_3, hx_r_3, h⟩ := Bs h
      refine Cp (page_inside_ok _ _ _ hx_r_3) hf9 fun f10 hf10 => En hf10 fun f11 hf11 => ?_
      obtain rfl := Oi h
      exact Kc <| Kt <| Xr <| Xc <| Fp hf11
     ·refine Kq <| Kr <| En hf8 fun f9 hf9 => Kc <| Kf hf9 h (fun hc6 h => ?_) fun hc6 h => ?_
      ·refine Kq <| Kr <| Sg 1 hf9 fun f10 hf10 => ?_
       obtain ⟨r_4, hx_r_4, h⟩ := Bs h
       refine Cp (page_inside_ok _ _ _ hx_r_4) hf10 fun f11 hf11 => En hf11 fun f12 hf12 => ?_
       obtain rfl := Oi h
       exact Kc <| Kt <| Xr <| Xc <| Fp hf12
      ·refine Kq <| Kr <| En hf9 fun f10 hf10 => Kc <| Kf hf10 h (fun hc7 h => ?_) fun hc7 h => ?_
       ·refine Kq <| Kr <| Sg 1 hf10 fun f11 hf11 => ?_
        obtain ⟨r_5, hx_r_5, h⟩ := Bs h
        refine Cp (page_memory_ok _ _ _ hx_r_5) hf11 fun f12 hf12 => En hf12 fun f13 hf13 => ?_
        obtain rfl := Oi h
        exact Kc <| Kt <| Xr <| Xc <| Fp hf13
       ·refine Kq <| Kr <| En hf10 fun f11 hf11 => Kc <| Kf hf11 h (fun hc8 h => ?_) fun hc8 h => ?_
        ·refine Kq <| Kr <| Sg 1 hf11 fun f12 hf12 => ?_
         obtain ⟨r_6, hx_r_6, h⟩ := Bs h
         refine Cp (page_memory_ok _ _ _ hx_r_6) hf12 fun f13 hf13 => En hf13 fun f14 hf14 => ?_
         obtain rfl := Oi h
         exact Kc <| Kt <| Xr <| Xc <| Fp hf14
        ·refine Ks <| Kv <| Kc <| Kq <| Kr <| Sg 2 hf11 fun f12 hf12 => ?_
         obtain ⟨r_7, hx_r_7, h⟩ := Bs h
         refine Cp (page_columns_ok _ _ _ hx_r_7) hf12 fun f13 hf13 => En hf13 fun f14 hf14 => ?_
         obtain rfl := Oi h
         exact Kc <| Kt <| Fp hf14
@[irreducible] noncomputable def i63 : Nat → List Op1 := rg Try.prog 63 [60, 76]
noncomputable def a63_0 : IR := (.cond (.t 12) (.seq (.reg false (i63 4)) .ret) (.seq (.reg false (i63 5)) (.cond (.t 21) (.seq (.reg false (i63 6)) .ret) .skip)))
noncomputable def a63_1 : IR := (.seq (.block 0 (.seq (.reg false (i63 1)) (.cond (.t 7) (.seq (.reg false (i63 2)) .ret) (.seq (.reg false (i63 3)) a63_0)))) (.seq (.reg false (i63 7)) .ret))
noncomputable def inst_reader_value_ir : IR := (.seq (.reg false (i63 0)) a63_1)
theorem inst_reader_value_cfn : cFn Try.prog 63 [60, 76] = some (inst_reader_value_ir, [(.t 6)], 27) := by kernel_rfl
def inst_reader_value_V (r : (Int × inst_reader)) : V := .s (.int .u16 r.1)
def inst_reader_value_L (r_ : inst_reader) : Hp := [⟨0, .mem, 1, [.sl false r_.b.length (cat (nI .u8) r_.b), .s (.int .i64 r_.n), .s (.bool r_.short)]⟩]
def inst_reader_value_C (r_ : inst_reader) (r : (Int × inst_reader)) : X → Fr → Hp → Prop := FinL [(.t 6)] (inst_reader_value_L r_) (inst_reader_value_V r) [⟨0, .mem, 1, [.sl false r.2.b.length (cat (nI .u8) r.2.b), .s (.int .i64 r.2.n), .s (.bool r.2.short)]⟩]
theorem inst_reader_value_ok (r_ : inst_reader) (bytes_ : Int) (signed_ : Bool) (r : (Int × inst_reader)) (h : inst_reader_value r_ bytes_ signed_ = some r) : ConL Try.prog 63 [.ptr 0 0 0, .s (.int .i64 bytes_), .s (.bool signed_)] [⟨0, .mem, 1, [.sl false r_.b.length (cat (nI .u8) r_.b), .s (.int .i64 r_.n), .s (.bool r_.short)]⟩] (inst_reader_value_V r) [⟨0, .mem, 1, [.sl false r.2.b.length (cat (nI .u8) r.2.b), .s (.int .i64 r.2.n), .s (.bool r.2.short)]⟩] := by
 refine CS inst_reader_value_cfn (inst_reader_value_C r_ r) fun f hf => ?_
 unfold inst_reader_value at h
 refine Kq <| Kr <| En hf fun f1 hf1 => Kc <| Kq <| Kb <| Kq <| Kr <| En hf1 fun f2 hf2 => Kc <| Kf hf2 h (fun hc1 h => ?_) fun hc1 h => ?_
 ·refine Kq <| Kr <| Sg 1 hf2 fun f3 hf3 => ?_
  obtain ⟨r_1, hx_r_1, h⟩ := Bs h
  refine Ca hf3 (av := [.ptr 0 0 0]) (v := .s (.int .u16 r_1.1)) (L' := [⟨0, .mem, 1, [.sl false r_1.2.b.length (cat (nI .u8) r_1.2.b), .s (.int .i64 r_1.2.n), .s (.bool r_1.2.short)]⟩]) (CalL.borrow (M := [⟨0, .mem, 1, [.sl false r_.b.length (cat (nI .u8) r_.b), .s (.int .i64 r_.n), .s (.bool r_.short)]⟩]) (M' := [⟨0, .mem, 1, [.sl false r_1.2.b.length (cat (nI .u8) r_1.2.b), .s (.int .i64 r_1.2.n), .s (.bool r_1.2.short)]⟩]) [0] (inst_reader_word_ok r_ r_1 hx_r_1) (by kernel_rfl) (RNs.cons (RN.ptr (by kernel_rfl)) RNs.nil) (RN.stat rfl) (RBs.cons (RNs.stat (by simp [statics, V.static, cat_stat])) RBs.nil) (RBs.cons (RNs.stat (by simp [statics, V.static, cat_stat])) RBs.nil) (by kernel_rfl) (by kernel_rfl)) (by intro h; cases h) fun f4 hf4 => En hf4 fun f5 hf5 => ?_
  obtain rfl := Oi h
  exact Kc <| Kt <| Xr <| Xc <| k_fin (fin_ret (.inl rfl) hf5 (vs := [.s (.int .u16 r_1.1)]) (by kernel_rfl) (SettL.cutb (L' := [⟨0, .mem, 1, [.sl false r_1.2.b.length (cat (nI .u8) r_1.2.b), .s (.int .i64 r_1.2.n), .s (.bool r_1.2.short)]⟩]) 1 (by kernel_rfl) (by kernel_rfl) (by kernel_rfl) ⟨.inr (.inr (statics_unders _ _ (by simp [V.static, statics, cat_stat]))), trivial⟩ (FzL.stat rfl)))
 ·refine Kq <| Kr <| En hf2 fun f3 hf3 => Kc <| Kf hf3 h (fun hc2 h => ?_) fun hc2 h => ?_
  ·refine Kq <| Kr <| Sg 1 hf3 fun f4 hf4 => ?_
   obtain ⟨r_2, hx_r_2, h⟩ := Bs h
   refine Ca hf4 (av := [.ptr 0 0 0]) (v := .s (.int .u8 r_2.1)) (L' := [⟨0, .mem, 1, [.sl false r_2.2.b.length (cat (nI .u8) r_2.2.b), .s (.int .i64 r_2.2.n), .s (.bool r_2.2.short)]⟩]) (CalL.borrow (M := [⟨0, .mem, 1, [.sl false r_.b.length (cat (nI .u8) r_.b), .s (.int .i64 r_.n), .s (.bool r_.short)]⟩]) (M' := [⟨0, .mem, 1, [.sl false r_2.2.b.length (cat (nI .u8) r_2.2.b), .s (.int .i64 r_2.2.n), .s (.bool r_2.2.short)]⟩]) [0] (inst_reader_next_ok r_ r_2 hx_r_2) (by kernel_rfl) (RNs.cons (RN.ptr (by kernel_rfl)) RNs.nil) (RN.stat rfl) (RBs.cons (RNs.stat (by simp [statics, V.static, cat_stat])) RBs.nil) (RBs.cons (RNs.stat (by simp [statics, V.static, cat_stat])) RBs.nil) (by kernel_rfl) (by kernel_rfl)) (by intro h; cases h) fun f5 hf5 => ?_
   obtain ⟨r_3, hx_r_3, h⟩ := Bs h
   refine Cp (octet_Sign_ok _ _ hx_r_3) hf5 fun f6 hf6 => En hf6 fun f7 hf7 => ?_
   obtain rfl := Oi h
   exact Kc <| Kt <| Xr <| Xc <| k_fin (fin_ret (.inl rfl) hf7 (vs := [.s (.int .u16 r_3)]) (by kernel_rfl) (SettL.cutb (L' := [⟨0, .mem, 1, [.sl false r_2.2.b.length (cat (nI .u8) r_2.2.b), .s (.int .i64 r_2.2.n), .s (.bool r_2.2.short)]⟩]) 1 (by kernel_rfl) (by kernel_rfl) (by kernel_rfl) ⟨.inr (.inr (statics_unders _ _ (by simp [V.static, statics, cat_stat]))), trivial⟩ (FzL.stat rfl)))
  ·refine Kq <| Kr <| En hf3 fun f4 hf4 => Kc <| Kf hf4 h (fun hc3 h => ?_) fun hc3 h => ?_
   ·refine Kq <| Kr <| Sg 1 hf4 fun f5 hf5 => ?_
    obtain ⟨r_4, hx_r_4, h⟩ := Bs h
    refine Ca hf5 (av := [.ptr 0 0 0]) (v := .s (.int .u8 r_4.1)) (L' := [⟨0, .mem, 1, [.sl false r_4.2.b.length (cat (nI .u8) r_4.2.b), .s (.int .i64 r_4.2.n), .s (.bool r_4.2.short)]⟩]) (CalL.borrow (M := [⟨0, .mem, 1, [.sl false r_.b.length (cat (nI .u8) r_.b), .s (.int .i64 r_.n), .s (.bool r_.short)]⟩]) (M' := [⟨0, .mem, 1, [.sl false r_4.2.b.length (cat (nI .u8) r_4.2.b), .s (.int .i64 r_4.2.n), .s (.bool r_4.2.short)]⟩]) [0] (inst_reader_next_ok r_ r_4 hx_r_4) (by kernel_rfl) (RNs.cons (RN.ptr (by kernel_rfl)) RNs.nil) (RN.stat rfl) (RBs.cons (RNs.stat (by simp [statics, V.static, cat_stat])) RBs.nil) (RBs.cons (RNs.stat (by simp [statics, V.static, cat_stat])) RBs.nil) (by kernel_rfl) (by kernel_rfl)) (by intro h; cases h) fun f6 hf6 => En hf6 fun f7 hf7 => ?_
    obtain rfl := Oi h
    exact Kc <| Kt <| Xr <| Xc <| k_fin (fin_ret (.inl rfl) hf7 (vs := [.s (.int .u16 (IntKind.wrap .u16 r_4.1))]) (by kernel_rfl) (SettL.cutb (L' := [⟨0, .mem, 1, [.sl false r_4.2.b.length (cat (nI .u8) r_4.2.b), .s (.int .i64 r_4.2.n), .s (.bool r_4.2.short)]⟩]) 1 (by kernel_rfl) (by kernel_rfl) (by kernel_rfl) ⟨.inr (.inr (statics_unders _ _ (by simp [V.static, statics, cat_stat]))), trivial⟩ (FzL.stat rfl)))
   ·refine Ks <| Kv <| Kc <| Kq <| Kr <| En hf4 fun f5 hf5 => ?_
    obtain rfl := Oi h
    exact Kc <| Kt <| k_fin (fin_ret (.inl rfl) hf5 (vs := [.s (.int .u16 0)]) (by kernel_rfl) (SettL.cutb (L' := [⟨0, .mem, 1, [.sl false r_.b.length (cat (nI .u8) r_.b), .s (.int .i64 r_.n), .s (.bool r_.short)]⟩]) 1 (by kernel_rfl) (by kernel_rfl) (by kernel_rfl) ⟨.inr (.inr (statics_unders _ _ (by simp [V.static, statics, cat_stat]))), trivial⟩ (FzL.stat rfl)))
@[irreducible] noncomputable def i10 : Nat → List Op1 := rg Try.prog 10 []
noncomputable def dis_Byte_ir : IR := (.seq (.reg false (i10 0)) (.seq (.reg false (i10 1)) .ret))
theorem dis_Byte_cfn : cFn Try.prog 10 = some (dis_Byte_ir, [(.t 2)], 7) := by kernel_rfl
def dis_Byte_V (r : (ByteArray)) : V := .s (.string r)
def dis_Byte_C (r : (ByteArray)) : X → Fr → Hp → Prop := FinL [(.t 2)] [] (dis_Byte_V r) []
theorem dis_Byte_ok (b_ : Int) (r : (ByteArray)) (h : dis_Byte b_ = some r) : Pure Try.prog 10 [.s (.int .u8 b_)] (dis_Byte_V r) := by
 refine CS dis_Byte_cfn (dis_Byte_C r) fun f hf => ?_
 unfold dis_Byte at h
 refine Kq <| Kr <| En hf fun f1 hf1 => Kc <| Kq <| Kr <| Sg 2 hf1 fun f2 hf2 => ?_
 obtain ⟨r_, hx_r_, h⟩ := Bs h
 refine Ca hf2 (av := [.sl true [b_].length (cat (nI .u8) [b_])]) (v := .s (.string r_)) (CalL.purew (digit_Pairs_ok [b_] r_ hx_r_) (Wks.cons Wk.slf Wks.nil) (by simp [V.static, statics, cat_stat]) rfl (by kernel_rfl)) (fun _ => rfl) fun f3 hf3 => ?_
 obtain ⟨c1, h⟩ := as_ok h
 refine Ad (.bin .add (.k (.string ⟨#[36]⟩)) (.t 5)) (.s (.string ((⟨#[36]⟩ : ByteArray) ++ r_))) hf3 (e_sadd (t := (⟨#[36]⟩ : ByteArray)) (t' := r_) (by kernel_rfl) (by kernel_rfl) c1) fun f4 hf4 => En hf4 fun f5 hf5 => ?_
 obtain rfl := Oi h
 exact Kc <| Kt <| Fp hf5
@[irreducible] noncomputable def i23 : Nat → List Op1 := rg Try.prog 23 []
noncomputable def a23_0 : IR := (.cond (.t 54) (.seq (.reg false (i23 9)) .ret) (.seq (.reg false (i23 10)) (.cond (.t 63) (.seq (.reg false (i23 11)) .ret) .skip)))
noncomputable def a23_1 : IR := (.cond (.t 31) (.seq (.reg false (i23 5)) .ret) (.seq (.reg false (i23 6)) (.cond (.t 38) (.seq (.reg false (i23 7)) .ret) (.seq (.reg false (i23 8)) a23_0))))
noncomputable def a23_2 : IR := (.seq (.block 0 (.seq (.seq (.reg false (i23 1)) (.cond (.t 5) .skip (.reg false (i23 2)))) (.cond (.t 5) (.seq (.reg false (i23 3)) .ret) (.seq (.reg false (i23 4)) a23_1)))) (.seq (.reg false (i23 12)) .ret))
noncomputable def ops_Name_ir : IR := (.seq (.reg false (i23 0)) a23_2)
theorem ops_Name_cfn : cFn Try.prog 23 = some (ops_Name_ir, [(.t 4)], 72) := by kernel_rfl
def ops_Name_V (r : (ByteArray)) : V := .s (.string r)
def ops_Name_C (r : (ByteArray)) : X → Fr → Hp → Prop := FinL [(.t 4)] [] (ops_Name_V r) []
theorem ops_Name_ok (op_ : Int) (reg_ : Int) (r : (ByteArray)) (h : ops_Name op_ reg_ = some r) : Pure Try.prog 23 [.s (.int .i64 op_), .s (.int .i64 reg_)] (ops_Name_V r) := by
 refine CS ops_Name_cfn (ops_Name_C r) fun f hf => ?_
 unfold ops_Name at h
 refine Kq <| Kr <| En hf fun f1 hf1 => Kc <| Kq <| Kb <| Kq <| Kq <| Kr <| En hf1 fun f2 hf2 => Kc ?_
 have hj1 : ∀ (t_ : Bool), ops_Name_j0 op_ reg_ t_ = some r → ∀ f, FOk f [⟨0, [], .s (.int .i64 op_)⟩, ⟨1, [], .s (.int .i64 reg_)⟩, ⟨4, [], .s (.string (⟨#[]⟩ : ByteArray))⟩, ⟨5, [], .s (.bool t_)⟩] → kont Try.prog [] (ops_Name_C r) ((.c (.cond (.t 5) (.seq (.reg false (i23 3)) .ret) (.seq (.reg false (i23 4)) a23_1))) :: (.b 0) :: (.c (.seq (.reg false (i23 12)) .ret)) :: []) .normal f [] := by
  intro t_ h f hf
  unfold ops_Name_j0 at h
  refine Kc <| Kf hf h (fun hc2 h => ?_) fun hc2 h => ?_
  ·refine Kq <| Kr <| Sg 1 hf fun f1 hf1 => ?_
   obtain ⟨r_, hx_r_, h⟩ := Bs h
   refine Cp (ops_stem_ok _ _ hx_r_) hf1 fun f2 hf2 => Sg 1 hf2 fun f3 hf3 => ?_
   obtain ⟨r_1, hx_r_1, h⟩ := Bs h
   refine Cp (cond_Name_ok _ _ hx_r_1) hf3 fun f4 hf4 => ?_
   obtain ⟨c3, h⟩ := as_ok h
   refine Ad (.bin .add (.t 27) (.t 29)) (.s (.string (r_ ++ r_1))) hf4 (e_sadd (t := r_) (t' := r_1) (by kernel_rfl) (by kernel_rfl) c3) fun f5 hf5 => En hf5 fun f6 hf6 => ?_
   obtain rfl := Oi h
   exact Kc <| Kt <| Xr <| Xc <| Fp hf6
  ·refine Kq <| Kr <| En hf fun f1 hf1 => Kc <| Kf hf1 h (fun hc4 h => ?_) fun hc4 h => ?_
   ·refine Kq <| Kr <| En hf1 fun f2 hf2 => ?_
    obtain rfl := Oi h
    exact Kc <| Kt <| Xr <| Xc <| Fp hf2
   ·refine Kq <| Kr <| En hf1 fun f2 hf2 => Kc <| Kf hf2 h (fun hc5 h => ?_) fun hc5 h => ?_
    ·refine Kq <| Kr <| Sg 3 hf2 fun f3 hf3 => ?_
     obtain ⟨c6, h⟩ := as_ok h
     refine Ad (.sstr (.k (.string ⟨#[49, 50, 51]⟩)) (some (.t 50)) (some (.t 51))) (.s (.string ((⟨#[49, 50, 51]⟩ : ByteArray).extract ((IntKind.wrap .i64 (reg_ - 1)) : Int).toNat (reg_ : Int).toNat))) hf3 (e_sstr (t := (⟨#[49, 50, 51]⟩ : ByteArray)) (by kernel_rfl) (b_ss (k := .i64) (k' := .i64) (iv := (IntKind.wrap .i64 (reg_ - 1))) (jv := reg_) (by kernel_rfl) (by kernel_rfl) c6)) fun f4 hf4 => ?_
     obtain ⟨c7, h⟩ := as_ok h
     refine Ad (.bin .add (.k (.string ⟨#[83, 87, 73]⟩)) (.t 52)) (.s (.string ((⟨#[83, 87, 73]⟩ : ByteArray) ++ ((⟨#[49, 50, 51]⟩ : ByteArray).extract ((IntKind.wrap .i64 (reg_ - 1)) : Int).toNat (reg_ : Int).toNat)))) hf4 (e_sadd (t := (⟨#[83, 87, 73]⟩ : ByteArray)) (t' := ((⟨#[49, 50, 51]⟩ : ByteArray).extract ((IntKind.wrap .i64 (reg_ - 1)) : Int).toNat (reg_ : Int).toNat)) (by kernel_rfl) (by kernel_rfl) c7) fun f5 hf5 => En hf5 fun f6 hf6 => ?_
     obtain rfl := Oi h
     exact Kc <| Kt <| Xr <| Xc <| Fp hf6
    ·refine Kq <| Kr <| Sg 2 hf2 fun f3 hf3 => ?_
     obtain ⟨r_2, hx_r_2, h⟩ := Bs h
     refine Cp (ops_own_ok _ _ _ hx_r_2) hf3 fun f4 hf4 => En hf4 fun f5 hf5 => Kc <| Kf hf5 h (fun hc8 h => ?_) fun hc8 h => ?_
     ·refine Kq <| Kr <| Sg 1 hf5 fun f6 hf6 => ?_
      obtain ⟨r_3, hx_r_3, h⟩ := Bs h
      refine Cp (ops_stem_ok _ _ hx_r_3) hf6 fun f7 hf7 => Sg 1 hf7 fun f8 hf8 => ?_
      obtain ⟨r_4, hx_r_4, h⟩ := Bs h
      refine Cp (ops_Reg_ok _ _ hx_r_4) hf8 fun f9 hf9 => ?_
      obtain ⟨c9, h⟩ := as_ok h
      refine Ad (.bin .add (.t 59) (.t 61)) (.s (.string (r_3 ++ r_4))) hf9 (e_sadd (t := r_3) (t' := r_4) (by kernel_rfl) (by kernel_rfl) c9) fun f10 hf10 => En hf10 fun f11 hf11 => ?_
      obtain rfl := Oi h
      exact Kc <| Kt <| Xr <| Xc <| Fp hf11
     ·refine Kq <| Kr <| Sg 4 hf5 fun f6 hf6 => ?_
      obtain ⟨r_5, hx_r_5, h⟩ := Bs h
      refine mops_gcall (dst := (some 68)) (m := 48) (args := [(.t 67)]) (aft := [3, 2, 2]) (t := 66) (w := true) (ch := [(66, true)]) (b := (reg_ == 0)) (by kernel_rfl) hf6 (by kernel_rfl) (by kernel_rfl) (av := [.s (.int .i64 op_)]) (by kernel_rfl) (v := .s (.bool r_5)) (by kernel_rfl) (fun hb10 => (CalL.pure (ops_plain_ok op_ r_5 (if_t hx_r_5 hb10)) rfl rfl (Nat.le_of_ble_eq_true (by kernel_rfl)))) fun f7 hf7 => En hf7 fun f8 hf8 => Kc <| Kf hf8 h (fun hc11 h => ?_) fun hc11 h => ?_
      ·refine Kq <| Kr <| Sg 1 hf8 fun f9 hf9 => ?_
       obtain ⟨r_6, hx_r_6, h⟩ := Bs h
       refine Cp (ops_stem_ok _ _ hx_r_6) hf9 fun f10 hf10 => En hf10 fun f11 hf11 => ?_
       obtain rfl := Oi h
       exact Kc <| Kt <| Xr <| Xc <| Fp hf11
      ·refine Ks <| Kv <| Kc <| Kq <| Kr <| En hf8 fun f9 hf9 => ?_
       obtain rfl := Oi h
       exact Kc <| Kt <| Fp hf9
 refine Kf hf2 h (fun hc1 h => ?_) fun hc1 h => ?_
 ·exact Ks <| Kh (hj1 (((op_ == 34) && (decide (0 ≤ reg_))) && (decide (reg_ < 16))) h _ (Of [0, 1, 4, 5] hf2))
 ·exact Kr <| En hf2 fun f3 hf3 => Kh (hj1 (((op_ == 35) && (decide (0 < reg_))) && (decide (reg_ < 16))) h _ (Of [0, 1, 4, 5] hf3))
@[irreducible] noncomputable def i12 : Nat → List Op1 := rg Try.prog 12 []
noncomputable def dis_Word_ir : IR := (.seq (.reg false (i12 0)) (.seq (.reg false (i12 1)) .ret))
theorem dis_Word_cfn : cFn Try.prog 12 = some (dis_Word_ir, [(.t 2)], 7) := by kernel_rfl
def dis_Word_V (r : (ByteArray)) : V := .s (.string r)
def dis_Word_C (r : (ByteArray)) : X → Fr → Hp → Prop := FinL [(.t 2)] [] (dis_Word_V r) []
theorem dis_Word_ok (w_ : Int) (r : (ByteArray)) (h : dis_Word w_ = some r) : Pure Try.prog 12 [.s (.int .u16 w_)] (dis_Word_V r) := by
 refine CS dis_Word_cfn (dis_Word_C r) fun f hf => ?_
 unfold dis_Word at h
 refine Kq <| Kr <| En hf fun f1 hf1 => Kc <| Kq <| Kr <| Sg 2 hf1 fun f2 hf2 => ?_
 obtain ⟨r_, hx_r_, h⟩ := Bs h
 refine Cp (digit_Hex_ok _ _ _ hx_r_) hf2 fun f3 hf3 => ?_
 obtain ⟨c1, h⟩ := as_ok h
 refine Ad (.bin .add (.k (.string ⟨#[36]⟩)) (.t 5)) (.s (.string ((⟨#[36]⟩ : ByteArray) ++ r_))) hf3 (e_sadd (t := (⟨#[36]⟩ : ByteArray)) (t' := r_) (by kernel_rfl) (by kernel_rfl) c1) fun f4 hf4 => En hf4 fun f5 hf5 => ?_
 obtain rfl := Oi h
 exact Kc <| Kt <| Fp hf5
@[irreducible] noncomputable def i13 : Nat → List Op1 := rg Try.prog 13 []
noncomputable def a13_0 : IR := (.seq (.seq (.reg false (i13 1)) (.seq (.reg false (i13 2)) (.cond (.t 7) (.seq (.reg false (i13 3)) .ret) .skip))) (.seq (.reg false (i13 4)) .ret))
noncomputable def dis_Reg_ir : IR := (.seq (.reg false (i13 0)) a13_0)
theorem dis_Reg_cfn : cFn Try.prog 13 = some (dis_Reg_ir, [(.t 2)], 13) := by kernel_rfl
def dis_Reg_V (r : (ByteArray)) : V := .s (.string r)
def dis_Reg_C (r : (ByteArray)) : X → Fr → Hp → Prop := FinL [(.t 2)] [] (dis_Reg_V r) []
theorem dis_Reg_ok (code_ : Int) (r : (ByteArray)) (h : dis_Reg code_ = some r) : Pure Try.prog 13 [.s (.int .i64 code_)] (dis_Reg_V r) := by
 refine CS dis_Reg_cfn (dis_Reg_C r) fun f hf => ?_
 unfold dis_Reg at h
 refine Kq <| Kr <| En hf fun f1 hf1 => Kc <| Kq <| Kq <| Kr <| Sg 1 hf1 fun f2 hf2 => ?_
 obtain ⟨r_, hx_r_, h⟩ := Bs h
 refine Cp (ops_Reg_ok _ _ hx_r_) hf2 fun f3 hf3 => En hf3 fun f4 hf4 => Kc <| Kq <| Kr <| En hf4 fun f5 hf5 => Kc <| Kf hf5 h (fun hc1 h => ?_) fun hc1 h => ?_
 ·refine Kq <| Kr <| En hf5 fun f6 hf6 => ?_
  obtain rfl := Oi h
  exact Kc <| Kt <| Xc <| Fp hf6
 ·refine Ks <| Kc <| Kq <| Kr <| Sg 2 hf5 fun f6 hf6 => ?_
  obtain ⟨r_1, hx_r_1, h⟩ := Bs h
  refine Cp (digit_Dec_ok _ _ hx_r_1) hf6 fun f7 hf7 => ?_
  obtain ⟨c2, h⟩ := as_ok h
  refine Ad (.bin .add (.k (.string ⟨#[82]⟩)) (.t 11)) (.s (.string ((⟨#[82]⟩ : ByteArray) ++ r_1))) hf7 (e_sadd (t := (⟨#[82]⟩ : ByteArray)) (t' := r_1) (by kernel_rfl) (by kernel_rfl) c2) fun f8 hf8 => En hf8 fun f9 hf9 => ?_
  obtain rfl := Oi h
  exact Kc <| Kt <| Fp hf9
@[irreducible] noncomputable def i70 : Nat → List Op1 := rg Try.prog 70 []
noncomputable def a70_0 : IR := (.seq (.seq (.reg false (i70 1)) (.cond (.t 4) (.seq (.reg false (i70 2)) .ret) .skip)) (.seq (.reg false (i70 3)) .ret))
noncomputable def dis_signed_ir : IR := (.seq (.reg false (i70 0)) a70_0)
theorem dis_signed_cfn : cFn Try.prog 70 = some (dis_signed_ir, [(.t 2)], 13) := by kernel_rfl
def dis_signed_V (r : (ByteArray)) : V := .s (.string r)
def dis_signed_C (r : (ByteArray)) : X → Fr → Hp → Prop := FinL [(.t 2)] [] (dis_signed_V r) []
theorem dis_signed_ok (w_ : Int) (r : (ByteArray)) (h : dis_signed w_ = some r) : Pure Try.prog 70 [.s (.int .u16 w_)] (dis_signed_V r) := by
 refine CS dis_signed_cfn (dis_signed_C r) fun f hf => ?_
 unfold dis_signed at h
 refine Kq <| Kr <| En hf fun f1 hf1 => Kc <| Kq <| Kq <| Kr <| En hf1 fun f2 hf2 => Kc <| Kf hf2 h (fun hc1 h => ?_) fun hc1 h => ?_
 ·refine Kq <| Kr <| Sg 3 hf2 fun f3 hf3 => ?_
  obtain ⟨r_, hx_r_, h⟩ := Bs h
  refine Cp (digit_Dec_ok _ _ hx_r_) hf3 fun f4 hf4 => ?_
  obtain ⟨c2, h⟩ := as_ok h
  refine Ad (.bin .add (.k (.string ⟨#[45]⟩)) (.t 8)) (.s (.string ((⟨#[45]⟩ : ByteArray) ++ r_))) hf4 (e_sadd (t := (⟨#[45]⟩ : ByteArray)) (t' := r_) (by kernel_rfl) (by kernel_rfl) c2) fun f5 hf5 => En hf5 fun f6 hf6 => ?_
  obtain rfl := Oi h
  exact Kc <| Kt <| Xc <| Fp hf6
 ·refine Ks <| Kc <| Kq <| Kr <| Sg 2 hf2 fun f3 hf3 => ?_
  obtain ⟨r_1, hx_r_1, h⟩ := Bs h
  refine Cp (digit_Dec_ok _ _ hx_r_1) hf3 fun f4 hf4 => En hf4 fun f5 hf5 => ?_
  obtain rfl := Oi h
  exact Kc <| Kt <| Fp hf5
@[irreducible] noncomputable def i25 : Nat → List Op1 := rg Try.prog 25 []
@[irreducible] noncomputable def i27 : Nat → List Op1 := rg Try.prog 27 []
end Go.Proofs.YtfcegejpdlbkdaaK
