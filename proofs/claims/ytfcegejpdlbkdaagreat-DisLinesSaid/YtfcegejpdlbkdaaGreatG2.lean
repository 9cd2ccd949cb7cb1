/- The Go functions come to the functions over typed data. Printed by a program of this work. -/
import Derived.Test.YtfcegejpdlbkdaaGreatF
import Derived.Test.YtfcegejpdlbkdaaGreatProg
import Derived.Test.YtfcegejpdlbkdaaGreatRp
import Derived.Test.YtfcegejpdlbkdaaGreatG0
import Derived.Test.YtfcegejpdlbkdaaGreatG1
namespace Go.Proofs.YtfcegejpdlbkdaaGreatK
set_option linter.unusedVariables false
set_option linter.unusedSimpArgs false
set_option maxHeartbeats 4000000
open Go.RowKit
attribute [local irreducible] dwv mops lops lqops lwops kont iter run runK rk okK ex E1 vals val chain chB sel resF
@[irreducible] noncomputable def i39:Nat→List Op1:=rg Tryz.prog 39 []
noncomputable def a39_0:IR:=(.cond (.t 10) .skip (.seq (.reg false (i39 6)) (.cond (.t 10) .skip (.reg false (i39 7)))))
noncomputable def a39_1:IR:=(.cond (.t 14) (.seq (.reg false (i39 10)) .ret) (.seq (.reg false (i39 11)) (.cond (.t 16) (.seq (.reg false (i39 12)) .ret) .skip)))
noncomputable def a39_2:IR:=(.cond (.t 7) (.seq (.reg false (i39 4)) .ret) (.seq (.seq (.reg false (i39 5)) a39_0) (.cond (.t 10) (.seq (.reg false (i39 8)) .ret) (.seq (.reg false (i39 9)) a39_1))))
noncomputable def a39_3:IR:=(.block 0 (.seq (.seq (.reg false (i39 2)) (.cond (.t 7) .skip (.reg false (i39 3)))) a39_2))
noncomputable def inst_behind_ir:IR:=(.seq (.reg false (i39 0)) (.seq (.seq (.reg false (i39 1)) a39_3) (.seq (.reg false (i39 13)) .ret)))
theorem inst_behind_cfn:cFn Tryz.prog 39=some (inst_behind_ir,[(.t 4),(.t 5)],21):=by kernel_rfl
def inst_behind_V (r:(Int × Bool)):V:=.tup [.s (.int .i64 r.1),.s (.bool r.2)]
def inst_behind_C (r:(Int × Bool)):X→Fr→Hp→Prop:=FinL [(.t 4),(.t 5)] [] (inst_behind_V r) []
theorem inst_behind_ok (mode_:Int) (b_:Int) (r:(Int × Bool)) (h:inst_behind mode_ b_=some r):Pure Tryz.prog 39 [.s (.int .i64 mode_),.s (.int .u8 b_)] (inst_behind_V r):=by
 refine CS inst_behind_cfn (inst_behind_C r) fun f hf => ?_
 unfold inst_behind at h
 refine Kq<|Kr<|En hf fun f1 hf1=>Kc<|Kq<|Kq<|Kr<|En hf1 fun f2 hf2=>Kc<|Kb<|Kq<|Kq<|Kr<|En hf2 fun f3 hf3=>Kc ?_
 have hj1:∀ (t_:Bool),inst_behind_j1 mode_ b_ t_=some r→∀ f,FOk f [⟨1,[],.s (.int .u8 b_)⟩,⟨4,[],.s (.int .i64 0)⟩,⟨5,[],.s (.bool false)⟩,⟨6,[],.s (.int .i64 mode_)⟩,⟨7,[],.s (.bool t_)⟩]→kont Tryz.prog [] (inst_behind_C r) ((.c a39_2)::(.b 0)::(.c (.seq (.reg false (i39 13)) .ret))::[]) .normal f []:=by
  intro t_ h f hf
  unfold inst_behind_j1 at h
  refine Kc<|Kf hf h (fun hc2 h => ?_) fun hc2 h => ?_
  ·refine Kq<|Kr<|En hf fun f1 hf1 => ?_
   obtain rfl:=Oi h
   exact Kc<|Kt<|Xr<|Xc<|k_fin (fin_ret (.inl rfl) hf1 (vs:=[.s (.int .i64 1),.s (.bool false)]) (by kernel_rfl) (SettL.pure (FzL.tup (FzsL.cons (FzL.stat rfl) (FzsL.cons (FzL.stat rfl) FzsL.nil)))))
  ·refine Kq<|Kq<|Kr<|En hf fun f1 hf1=>Kc ?_
   have hj2:∀ (t_1:Bool),inst_behind_j0 mode_ b_ t_1=some r→∀ f,FOk f [⟨1,[],.s (.int .u8 b_)⟩,⟨4,[],.s (.int .i64 0)⟩,⟨5,[],.s (.bool false)⟩,⟨6,[],.s (.int .i64 mode_)⟩,⟨10,[],.s (.bool t_1)⟩]→kont Tryz.prog [] (inst_behind_C r) ((.c (.cond (.t 10) (.seq (.reg false (i39 8)) .ret) (.seq (.reg false (i39 9)) a39_1)))::(.b 0)::(.c (.seq (.reg false (i39 13)) .ret))::[]) .normal f []:=by
    intro t_1 h f hf
    unfold inst_behind_j0 at h
    refine Kc<|Kf hf h (fun hc5 h => ?_) fun hc5 h => ?_
    ·refine Kq<|Kr<|En hf fun f1 hf1 => ?_
     obtain rfl:=Oi h
     exact Kc<|Kt<|Xr<|Xc<|k_fin (fin_ret (.inl rfl) hf1 (vs:=[.s (.int .i64 2),.s (.bool false)]) (by kernel_rfl) (SettL.pure (FzL.tup (FzsL.cons (FzL.stat rfl) (FzsL.cons (FzL.stat rfl) FzsL.nil)))))
    ·refine Kq<|Kr<|En hf fun f1 hf1=>Kc<|Kf hf1 h (fun hc6 h => ?_) fun hc6 h => ?_
     ·refine Kq<|Kr<|En hf1 fun f2 hf2 => ?_
      obtain rfl:=Oi h
      exact Kc<|Kt<|Xr<|Xc<|k_fin (fin_ret (.inl rfl) hf2 (vs:=[.s (.int .i64 1),.s (.bool true)]) (by kernel_rfl) (SettL.pure (FzL.tup (FzsL.cons (FzL.stat rfl) (FzsL.cons (FzL.stat rfl) FzsL.nil)))))
     ·refine Kq<|Kr<|En hf1 fun f2 hf2=>Kc<|Kf hf2 h (fun hc7 h => ?_) fun hc7 h => ?_
      ·refine Kq<|Kr<|Sg 1 hf2 fun f3 hf3 => ?_
       obtain ⟨r_,hx_r_,h⟩:=Bs h
       refine Cp (post_Of_ok _ _ hx_r_) hf3 fun f4 hf4 => ?_
       obtain ⟨r_1,hx_r_1,h⟩:=Bs h
       refine Cp (post_Post_Bytes_ok _ _ hx_r_1) hf4 fun f5 hf5=>En hf5 fun f6 hf6 => ?_
       obtain rfl:=Oi h
       exact Kc<|Kt<|Xr<|Xc<|k_fin (fin_ret (.inl rfl) hf6 (vs:=[.s (.int .i64 r_1),.s (.bool true)]) (by kernel_rfl) (SettL.pure (FzL.tup (FzsL.cons (FzL.stat rfl) (FzsL.cons (FzL.stat rfl) FzsL.nil)))))
      ·refine Ks<|Kv<|Kc<|Kq<|Kr<|En hf2 fun f3 hf3 => ?_
       obtain rfl:=Oi h
       exact Kc<|Kt<|k_fin (fin_ret (.inl rfl) hf3 (vs:=[.s (.int .i64 0),.s (.bool false)]) (by kernel_rfl) (SettL.pure (FzL.tup (FzsL.cons (FzL.stat rfl) (FzsL.cons (FzL.stat rfl) FzsL.nil)))))
   refine Kf hf1 h (fun hc3 h => ?_) fun hc3 h => ?_
   ·exact Ks<|Kh (hj2 (mode_ == 2) h _ (Of [1,4,5,6,10] hf1))
   ·refine Kq<|Kr<|En hf1 fun f2 hf2=>Kc<|Kf hf2 h (fun hc4 h => ?_) fun hc4 h => ?_
    ·exact Ks<|Kh (hj2 (mode_ == 5) h _ (Of [1,4,5,6,10] hf2))
    ·exact Kr<|En hf2 fun f3 hf3=>Kh (hj2 (mode_ == 7) h _ (Of [1,4,5,6,10] hf3))
 refine Kf hf3 h (fun hc1 h => ?_) fun hc1 h => ?_
 ·exact Ks<|Kh (hj1 (mode_ == 1) h _ (Of [1,4,5,6,7] hf3))
 ·exact Kr<|En hf3 fun f4 hf4=>Kh (hj1 (mode_ == 3) h _ (Of [1,4,5,6,7] hf4))
@[irreducible] noncomputable def i82:Nat→List Op1:=rg Tryz.prog 82 []
noncomputable def a82_0:IR:=(.cond (.t 35) (.seq (.reg false (i82 16)) .ret) (.seq (.reg false (i82 17)) (.cond (.t 39) (.seq (.reg false (i82 18)) .ret) .skip)))
noncomputable def a82_1:IR:=(.cond (.t 27) (.seq (.reg false (i82 12)) .ret) (.seq (.reg false (i82 13)) (.cond (.t 31) (.seq (.reg false (i82 14)) .ret) (.seq (.reg false (i82 15)) a82_0))))
noncomputable def a82_2:IR:=(.cond (.t 18) (.seq (.reg false (i82 8)) .ret) (.seq (.reg false (i82 9)) (.cond (.t 23) (.seq (.reg false (i82 10)) .ret) (.seq (.reg false (i82 11)) a82_1))))
noncomputable def a82_3:IR:=(.cond (.t 10) (.seq (.reg false (i82 4)) .ret) (.seq (.reg false (i82 5)) (.cond (.t 14) (.seq (.reg false (i82 6)) .ret) (.seq (.reg false (i82 7)) a82_2))))
noncomputable def a82_4:IR:=(.seq (.seq (.reg false (i82 2)) (.block 0 (.seq (.reg false (i82 3)) a82_3))) (.seq (.reg false (i82 19)) .ret))
noncomputable def page_first_ir:IR:=(.seq (.reg false (i82 0)) (.seq (.reg false (i82 1)) a82_4))
theorem page_first_cfn:cFn Tryz.prog 82=some (page_first_ir,[(.c 2 true 3)],46):=by kernel_rfl
def page_first_V (r:(api_Entry)):V:=.agg [.s (.int .i64 r.Op),.s (.int .i64 r.Mode),.s (.int .i64 r.Reg)]
def page_first_C (r:(api_Entry)):X→Fr→Hp→Prop:=FinL [(.c 2 true 3)] [] (page_first_V r) []
theorem page_first_ok (code_:Int) (r:(api_Entry)) (h:page_first code_=some r):Pure Tryz.prog 82 [.s (.int .u8 code_)] (page_first_V r):=by
 refine CS page_first_cfn (page_first_C r) fun f hf => ?_
 unfold page_first at h
 refine Kq<|Kr<|En hf fun f1 hf1=>Kc<|Kq<|Kr<|En hf1 fun f2 hf2=>Kc<|Kq<|Kq<|Kr<|En hf2 fun f3 hf3=>Kc<|Kb<|Kq<|Kr<|En hf3 fun f4 hf4=>Kc<|Kf hf4 h (fun hc1 h => ?_) fun hc1 h => ?_
 ·refine Kq<|Kr<|Sg 1 hf4 fun f5 hf5 => ?_
  obtain ⟨r_,hx_r_,h⟩:=Bs h
  refine Cp (page_memory_ok _ _ _ hx_r_) hf5 fun f6 hf6=>En hf6 fun f7 hf7 => ?_
  obtain rfl:=Oi h
  exact Kc<|Kt<|Xr<|Xc<|Fp hf7
 ·refine Kq<|Kr<|En hf4 fun f5 hf5=>Kc<|Kf hf5 h (fun hc2 h => ?_) fun hc2 h => ?_
  ·refine Kq<|Kr<|Sg 1 hf5 fun f6 hf6 => ?_
   obtain ⟨r_1,hx_r_1,h⟩:=Bs h
   refine Cp (page_tens_ok _ _ hx_r_1) hf6 fun f7 hf7=>En hf7 fun f8 hf8 => ?_
   obtain rfl:=Oi h
   exact Kc<|Kt<|Xr<|Xc<|Fp hf8
  ·refine Kq<|Kr<|En hf5 fun f6 hf6=>Kc<|Kf hf6 h (fun hc3 h => ?_) fun hc3 h => ?_
   ·refine Kq<|Kr<|En hf6 fun f7 hf7 => ?_
    obtain rfl:=Oi h
    exact Kc<|Kt<|Xr<|Xc<|Fp hf7
   ·refine Kq<|Kr<|En hf6 fun f7 hf7=>Kc<|Kf hf7 h (fun hc4 h => ?_) fun hc4 h => ?_
    ·refine Kq<|Kr<|Sg 1 hf7 fun f8 hf8 => ?_
     obtain ⟨r_2,hx_r_2,h⟩:=Bs h
     refine Cp (page_thirties_ok _ _ hx_r_2) hf8 fun f9 hf9=>En hf9 fun f10 hf10 => ?_
     obtain rfl:=Oi h
     exact Kc<|Kt<|Xr<|Xc<|Fp hf10
    ·refine Kq<|Kr<|En hf7 fun f8 hf8=>Kc<|Kf hf8 h (fun hc5 h => ?_) fun hc5 h => ?_
     ·refine Kq<|Kr<|Sg 1 hf8 fun f9 hf9 => ?_
      obtain ⟨r_3,hx_r_3,h⟩:=Bs h
      refine Cp (page_inside_ok _ _ _ hx_r_3) hf9 fun f10 hf10=>En hf10 fun f11 hf11 => ?_
      obtain rfl:=Oi h
      exact Kc<|Kt<|Xr<|Xc<|Fp hf11
     ·refine Kq<|Kr<|En hf8 fun f9 hf9=>Kc<|Kf hf9 h (fun hc6 h => ?_) fun hc6 h => ?_
      ·refine Kq<|Kr<|Sg 1 hf9 fun f10 hf10 => ?_
       obtain ⟨r_4,hx_r_4,h⟩:=Bs h
       refine Cp (page_inside_ok _ _ _ hx_r_4) hf10 fun f11 hf11=>En hf11 fun f12 hf12 => ?_
       obtain rfl:=Oi h
       exact Kc<|Kt<|Xr<|Xc<|Fp hf12
      ·refine Kq<|Kr<|En hf9 fun f10 hf10=>Kc<|Kf hf10 h (fun hc7 h => ?_) fun hc7 h => ?_
       ·refine Kq<|Kr<|Sg 1 hf10 fun f11 hf11 => ?_
        obtain ⟨r_5,hx_r_5,h⟩:=Bs h
        refine Cp (page_memory_ok _ _ _ hx_r_5) hf11 fun f12 hf12=>En hf12 fun f13 hf13 => ?_
        obtain rfl:=Oi h
        exact Kc<|Kt<|Xr<|Xc<|Fp hf13
       ·refine Kq<|Kr<|En hf10 fun f11 hf11=>Kc<|Kf hf11 h (fun hc8 h => ?_) fun hc8 h => ?_
        ·refine Kq<|Kr<|Sg 1 hf11 fun f12 hf12 => ?_
         obtain ⟨r_6,hx_r_6,h⟩:=Bs h
         refine Cp (page_memory_ok _ _ _ hx_r_6) hf12 fun f13 hf13=>En hf13 fun f14 hf14 => ?_
         obtain rfl:=Oi h
         exact Kc<|Kt<|Xr<|Xc<|Fp hf14
        ·refine Ks<|Kv<|Kc<|Kq<|Kr<|Sg 2 hf11 fun f12 hf12 => ?_
         obtain ⟨r_7,hx_r_7,h⟩:=Bs h
         refine Cp (page_columns_ok _ _ _ hx_r_7) hf12 fun f13 hf13=>En hf13 fun f14 hf14 => ?_
         obtain rfl:=Oi h
         exact Kc<|Kt<|Fp hf14
@[irreducible] noncomputable def i61:Nat→List Op1:=rg Tryz.prog 61 [58,85]
noncomputable def a61_0:IR:=(.cond (.t 12) (.seq (.reg false (i61 4)) .ret) (.seq (.reg false (i61 5)) (.cond (.t 21) (.seq (.reg false (i61 6)) .ret) .skip)))
noncomputable def a61_1:IR:=(.seq (.block 0 (.seq (.reg false (i61 1)) (.cond (.t 7) (.seq (.reg false (i61 2)) .ret) (.seq (.reg false (i61 3)) a61_0)))) (.seq (.reg false (i61 7)) .ret))
noncomputable def inst_reader_value_ir:IR:=(.seq (.reg false (i61 0)) a61_1)
theorem inst_reader_value_cfn:cFn Tryz.prog 61 [58,85]=some (inst_reader_value_ir,[(.t 6)],27):=by kernel_rfl
def inst_reader_value_V (r:(Int × inst_reader)):V:=.s (.int .u16 r.1)
def inst_reader_value_L (r_:inst_reader):Hp:=[⟨0,.mem,1,[.sl false r_.b.length (cat (nI .u8) r_.b),.s (.int .i64 r_.n),.s (.bool r_.short)]⟩]
def inst_reader_value_C (r_:inst_reader) (r:(Int × inst_reader)):X→Fr→Hp→Prop:=FinL [(.t 6)] (inst_reader_value_L r_) (inst_reader_value_V r) [⟨0,.mem,1,[.sl false r.2.b.length (cat (nI .u8) r.2.b),.s (.int .i64 r.2.n),.s (.bool r.2.short)]⟩]
theorem inst_reader_value_ok (r_:inst_reader) (bytes_:Int) (signed_:Bool) (r:(Int × inst_reader)) (h:inst_reader_value r_ bytes_ signed_=some r):ConL Tryz.prog 61 [.ptr 0 0 0,.s (.int .i64 bytes_),.s (.bool signed_)] [⟨0,.mem,1,[.sl false r_.b.length (cat (nI .u8) r_.b),.s (.int .i64 r_.n),.s (.bool r_.short)]⟩] (inst_reader_value_V r) [⟨0,.mem,1,[.sl false r.2.b.length (cat (nI .u8) r.2.b),.s (.int .i64 r.2.n),.s (.bool r.2.short)]⟩]:=by
 refine CS inst_reader_value_cfn (inst_reader_value_C r_ r) fun f hf => ?_
 unfold inst_reader_value at h
 refine Kq<|Kr<|En hf fun f1 hf1=>Kc<|Kq<|Kb<|Kq<|Kr<|En hf1 fun f2 hf2=>Kc<|Kf hf2 h (fun hc1 h => ?_) fun hc1 h => ?_
 ·refine Kq<|Kr<|Sg 1 hf2 fun f3 hf3 => ?_
  obtain ⟨r_1,hx_r_1,h⟩:=Bs h
  refine Ca hf3 (av:=[.ptr 0 0 0]) (v:=.s (.int .u16 r_1.1)) (L':=[⟨0,.mem,1,[.sl false r_1.2.b.length (cat (nI .u8) r_1.2.b),.s (.int .i64 r_1.2.n),.s (.bool r_1.2.short)]⟩]) (CalL.borrow (M:=[⟨0,.mem,1,[.sl false r_.b.length (cat (nI .u8) r_.b),.s (.int .i64 r_.n),.s (.bool r_.short)]⟩]) (M':=[⟨0,.mem,1,[.sl false r_1.2.b.length (cat (nI .u8) r_1.2.b),.s (.int .i64 r_1.2.n),.s (.bool r_1.2.short)]⟩]) [0] (inst_reader_word_ok r_ r_1 hx_r_1) (by kernel_rfl) (RNs.cons (RN.ptr (by kernel_rfl)) RNs.nil) (RN.stat rfl) (RBs.cons (RNs.stat (by simp [statics,V.static,cat_stat])) RBs.nil) (RBs.cons (RNs.stat (by simp [statics,V.static,cat_stat])) RBs.nil) (by kernel_rfl) (by kernel_rfl)) (by intro h; cases h) fun f4 hf4=>En hf4 fun f5 hf5 => ?_
  obtain rfl:=Oi h
  exact Kc<|Kt<|Xr<|Xc<|k_fin (fin_ret (.inl rfl) hf5 (vs:=[.s (.int .u16 r_1.1)]) (by kernel_rfl) (SettL.cutb (L':=[⟨0,.mem,1,[.sl false r_1.2.b.length (cat (nI .u8) r_1.2.b),.s (.int .i64 r_1.2.n),.s (.bool r_1.2.short)]⟩]) 1 (by kernel_rfl) (by kernel_rfl) (by kernel_rfl) ⟨.inr (.inr (statics_unders _ _ (by simp [V.static,statics,cat_stat]))),trivial⟩ (FzL.stat rfl)))
 ·refine Kq<|Kr<|En hf2 fun f3 hf3=>Kc<|Kf hf3 h (fun hc2 h => ?_) fun hc2 h => ?_
  ·refine Kq<|Kr<|Sg 1 hf3 fun f4 hf4 => ?_
   obtain ⟨r_2,hx_r_2,h⟩:=Bs h
   refine Ca hf4 (av:=[.ptr 0 0 0]) (v:=.s (.int .u8 r_2.1)) (L':=[⟨0,.mem,1,[.sl false r_2.2.b.length (cat (nI .u8) r_2.2.b),.s (.int .i64 r_2.2.n),.s (.bool r_2.2.short)]⟩]) (CalL.borrow (M:=[⟨0,.mem,1,[.sl false r_.b.length (cat (nI .u8) r_.b),.s (.int .i64 r_.n),.s (.bool r_.short)]⟩]) (M':=[⟨0,.mem,1,[.sl false r_2.2.b.length (cat (nI .u8) r_2.2.b),.s (.int .i64 r_2.2.n),.s (.bool r_2.2.short)]⟩]) [0] (inst_reader_next_ok r_ r_2 hx_r_2) (by kernel_rfl) (RNs.cons (RN.ptr (by kernel_rfl)) RNs.nil) (RN.stat rfl) (RBs.cons (RNs.stat (by simp [statics,V.static,cat_stat])) RBs.nil) (RBs.cons (RNs.stat (by simp [statics,V.static,cat_stat])) RBs.nil) (by kernel_rfl) (by kernel_rfl)) (by intro h; cases h) fun f5 hf5 => ?_
   obtain ⟨r_3,hx_r_3,h⟩:=Bs h
   refine Cp (octet_Sign_ok _ _ hx_r_3) hf5 fun f6 hf6=>En hf6 fun f7 hf7 => ?_
   obtain rfl:=Oi h
   exact Kc<|Kt<|Xr<|Xc<|k_fin (fin_ret (.inl rfl) hf7 (vs:=[.s (.int .u16 r_3)]) (by kernel_rfl) (SettL.cutb (L':=[⟨0,.mem,1,[.sl false r_2.2.b.length (cat (nI .u8) r_2.2.b),.s (.int .i64 r_2.2.n),.s (.bool r_2.2.short)]⟩]) 1 (by kernel_rfl) (by kernel_rfl) (by kernel_rfl) ⟨.inr (.inr (statics_unders _ _ (by simp [V.static,statics,cat_stat]))),trivial⟩ (FzL.stat rfl)))
  ·refine Kq<|Kr<|En hf3 fun f4 hf4=>Kc<|Kf hf4 h (fun hc3 h => ?_) fun hc3 h => ?_
   ·refine Kq<|Kr<|Sg 1 hf4 fun f5 hf5 => ?_
    obtain ⟨r_4,hx_r_4,h⟩:=Bs h
    refine Ca hf5 (av:=[.ptr 0 0 0]) (v:=.s (.int .u8 r_4.1)) (L':=[⟨0,.mem,1,[.sl false r_4.2.b.length (cat (nI .u8) r_4.2.b),.s (.int .i64 r_4.2.n),.s (.bool r_4.2.short)]⟩]) (CalL.borrow (M:=[⟨0,.mem,1,[.sl false r_.b.length (cat (nI .u8) r_.b),.s (.int .i64 r_.n),.s (.bool r_.short)]⟩]) (M':=[⟨0,.mem,1,[.sl false r_4.2.b.length (cat (nI .u8) r_4.2.b),.s (.int .i64 r_4.2.n),.s (.bool r_4.2.short)]⟩]) [0] (inst_reader_next_ok r_ r_4 hx_r_4) (by kernel_rfl) (RNs.cons (RN.ptr (by kernel_rfl)) RNs.nil) (RN.stat rfl) (RBs.cons (RNs.stat (by simp [statics,V.static,cat_stat])) RBs.nil) (RBs.cons (RNs.stat (by simp [statics,V.static,cat_stat])) RBs.nil) (by kernel_rfl) (by kernel_rfl)) (by intro h; cases h) fun f6 hf6=>En hf6 fun f7 hf7 => ?_
    obtain rfl:=Oi h
    exact Kc<|Kt<|Xr<|Xc<|k_fin (fin_ret (.inl rfl) hf7 (vs:=[.s (.int .u16 (IntKind.wrap .u16 r_4.1))]) (by kernel_rfl) (SettL.cutb (L':=[⟨0,.mem,1,[.sl false r_4.2.b.length (cat (nI .u8) r_4.2.b),.s (.int .i64 r_4.2.n),.s (.bool r_4.2.short)]⟩]) 1 (by kernel_rfl) (by kernel_rfl) (by kernel_rfl) ⟨.inr (.inr (statics_unders _ _ (by simp [V.static,statics,cat_stat]))),trivial⟩ (FzL.stat rfl)))
   ·refine Ks<|Kv<|Kc<|Kq<|Kr<|En hf4 fun f5 hf5 => ?_
    obtain rfl:=Oi h
    exact Kc<|Kt<|k_fin (fin_ret (.inl rfl) hf5 (vs:=[.s (.int .u16 0)]) (by kernel_rfl) (SettL.cutb (L':=[⟨0,.mem,1,[.sl false r_.b.length (cat (nI .u8) r_.b),.s (.int .i64 r_.n),.s (.bool r_.short)]⟩]) 1 (by kernel_rfl) (by kernel_rfl) (by kernel_rfl) ⟨.inr (.inr (statics_unders _ _ (by simp [V.static,statics,cat_stat]))),trivial⟩ (FzL.stat rfl)))
@[irreducible] noncomputable def i27:Nat→List Op1:=rg Tryz.prog 27 []
noncomputable def a27_0:IR:=(.cond (.t 12) (.seq (.reg false (i27 3)) .ret) (.seq (.reg false (i27 4)) (.cond (.t 14) (.seq (.reg false (i27 5)) .ret) .skip)))
noncomputable def a27_1:IR:=(.cond (.t 43) .skip (.seq (.reg false (i27 18)) (.cond (.t 43) .skip (.reg false (i27 19)))))
noncomputable def a27_2:IR:=(.cond (.t 43) .skip (.seq (.reg false (i27 16)) (.cond (.t 43) .skip (.seq (.reg false (i27 17)) a27_1))))
noncomputable def a27_3:IR:=(.cond (.t 76) (.seq (.reg false (i27 27)) .ret) (.seq (.reg false (i27 28)) (.cond (.t 85) (.seq (.reg false (i27 29)) .ret) .skip)))
noncomputable def a27_4:IR:=(.cond (.t 58) (.seq (.reg false (i27 23)) .ret) (.seq (.reg false (i27 24)) (.cond (.t 67) (.seq (.reg false (i27 25)) .ret) (.seq (.reg false (i27 26)) a27_3))))
noncomputable def a27_5:IR:=(.cond (.t 43) (.block 2 (.seq (.reg false (i27 20)) (.cond (.t 49) (.seq (.reg false (i27 21)) .ret) (.seq (.reg false (i27 22)) a27_4)))) .skip)
noncomputable def a27_6:IR:=(.cond (.t 96) (.seq (.reg false (i27 32)) (.seq (.reg false (i27 33)) (.cond (.t 104) (.reg false (i27 34)) .skip))) .skip)
noncomputable def a27_7:IR:=(.seq (.seq (.reg false (i27 38)) (.cond (.t 113) .skip (.exit 3))) (.block 4 (.seq (.reg false (i27 39)) (.reg false (i27 40)))))
noncomputable def a27_8:IR:=(.seq (.reg false (i27 37)) (.seq (.block 3 (.loop a27_7)) (.seq (.reg false (i27 41)) .ret)))
noncomputable def a27_9:IR:=(.seq (.seq (.reg false (i27 31)) a27_6) (.seq (.reg false (i27 35)) (.seq (.reg false (i27 36)) a27_8)))
noncomputable def a27_10:IR:=(.seq (.seq (.reg false (i27 14)) (.block 1 (.seq (.seq (.reg false (i27 15)) a27_2) a27_5))) (.seq (.reg false (i27 30)) a27_9))
noncomputable def a27_11:IR:=(.seq (.seq (.reg false (i27 12)) (.cond (.t 40) (.seq (.reg false (i27 13)) .ret) .skip)) a27_10)
noncomputable def a27_12:IR:=(.seq (.seq (.reg false (i27 9)) (.cond (.t 34) (.reg false (i27 10)) .skip)) (.seq (.reg false (i27 11)) a27_11))
noncomputable def a27_13:IR:=(.seq (.seq (.reg false (i27 6)) (.cond (.t 18) (.reg false (i27 7)) .skip)) (.seq (.reg false (i27 8)) a27_12))
noncomputable def strings_Repeat_ir:IR:=(.seq (.reg false (i27 0)) (.seq (.seq (.reg false (i27 1)) (.block 0 (.seq (.reg false (i27 2)) a27_0))) a27_13))
theorem strings_Repeat_cfn:cFn Tryz.prog 27=some (strings_Repeat_ir,[(.t 4)],125):=by kernel_rfl
def strings_Repeat_V (r:(ByteArray)):V:=.s (.string r)
def strings_Repeat_C (r:(ByteArray)):X→Fr→Hp→Prop:=FinL [(.t 4)] [] (strings_Repeat_V r) []
theorem strings_Repeat_ok (s_:ByteArray) (count_:Int) (r:(ByteArray)) (h:strings_Repeat s_ count_=some r):Pure Tryz.prog 27 [.s (.string s_),.s (.int .i64 count_)] (strings_Repeat_V r):=by
 refine CS strings_Repeat_cfn (strings_Repeat_C r) fun f hf => ?_
 unfold strings_Repeat at h
 refine Kq<|Kr<|En hf fun f1 hf1=>Kc<|Kq<|Kq<|Kr<|En hf1 fun f2 hf2=>Kc<|Kb<|Kq<|Kr<|En hf2 fun f3 hf3=>Kc<|Kf hf3 h (fun hc1 h => ?_) fun hc1 h => ?_
 ·refine Kq<|Kr<|En hf3 fun f4 hf4 => ?_
  obtain rfl:=Oi h
  exact Kc<|Kt<|Xr<|Xc<|Fp hf4
 ·refine Kq<|Kr<|En hf3 fun f4 hf4=>Kc<|Kf hf4 h (fun hc2 h => ?_) fun hc2 h => ?_
  ·refine Kq<|Kr<|En hf4 fun f5 hf5 => ?_
   obtain rfl:=Oi h
   exact Kc<|Kt<|Xr<|Xc<|Fp hf5
  ·refine Ks<|Kv<|Kc<|Kq<|Kq<|Kr<|En hf4 fun f5 hf5=>Kc<|Kf hf5 h (fun hc3 h => ?_) fun hc3 h => ?_
   ·cases h
   ·refine Ks<|Kc<|Kq<|Kr<|Sg 5 hf5 fun f6 hf6 => ?_
    obtain ⟨r_,hx_r_,h⟩:=Bs h
    refine Cp (math_bits_Mul_ok _ _ _ hx_r_) hf6 fun f7 hf7=>En hf7 fun f8 hf8=>Kc<|Kq<|Kq<|Kr<|En hf8 fun f9 hf9=>Kc<|Kf hf9 h (fun hc4 h => ?_) fun hc4 h => ?_
    ·cases h
    ·refine Ks<|Kc<|Kq<|Kr<|En hf9 fun f10 hf10=>Kc<|Kq<|Kq<|Kr<|En hf10 fun f11 hf11=>Kc<|Kf hf11 h (fun hc5 h => ?_) fun hc5 h => ?_
     ·refine Kq<|Kr<|mops_end [0,4,7] hf11 (l':=[⟨0,[],.s (.string s_)⟩,⟨4,[],.s (.string (⟨#[]⟩:ByteArray))⟩,⟨7,[],.s (.int .i64 (IntKind.wrap .i64 r_.2))⟩]) (L':=[]) (by kernel_rfl) fun f12 hf12 => ?_
      obtain rfl:=Oi h
      exact Kc<|Kt<|Xc<|Fp hf12
     ·refine Ks<|Kc<|Kq<|Kq<|Kr<|mops_seg [0,4,7,41] 1 hf11 (l':=[⟨0,[],.s (.string s_)⟩,⟨4,[],.s (.string (⟨#[]⟩:ByteArray))⟩,⟨7,[],.s (.int .i64 (IntKind.wrap .i64 r_.2))⟩,⟨41,[],.s (.string s_)⟩]) (L':=[]) (by kernel_rfl) fun f12 hf12 => ?_
      obtain ⟨c6,h⟩:=as_ok h
      refine Ad (.ixs (.t 41) (.k (.int .i64 0))) (.s (.int .u8 (bt s_ (0)))) hf12 (e_ixs (t:=s_) (k:=.i64) (iv:=0) (by kernel_rfl) (by kernel_rfl) c6) fun f13 hf13=>En hf13 fun f14 hf14=>Kc<|Kb<|Kq<|Kq<|Kr<|En hf14 fun f15 hf15=>Kc<|Kf hf15 h (fun hc7 h => ?_) fun hc7 h => ?_
      ·refine Ks<|Kc<|Kf hf15 h (fun hc8 h => ?_) fun hc8 h => ?_
       ·refine Kb<|Kq<|Kr<|Sg 4 hf15 fun f16 hf16 => ?_
        obtain ⟨r_1,hx_r_1,h⟩:=Bs h
        refine mops_gcall (dst:=(some 54)) (m:=44) (args:=[(.k (.string ⟨#[32,32,32,32,32,32,32,32,32,32,32,32,32,32,32,32,32,32,32,32,32,32,32,32,32,32,32,32,32,32,32,32,32,32,32,32,32,32,32,32,32,32,32,32,32,32,32,32,32,32,32,32,32,32,32,32,32,32,32,32,32,32,32,32,32,32,32,32,32,32,32,32,32,32,32,32,32,32,32,32,32,32,32,32,32,32,32,32,32,32,32,32,32,32,32,32,32,32,32,32,32,32,32,32,32,32,32,32,32,32,32,32,32,32,32,32,32,32,32,32,32,32,32,32,32,32,32,32]⟩)),(.t 53)]) (aft:=[3,2,2]) (t:=52) (w:=true) (ch:=[(52,true)]) (b:=(decide ((IntKind.wrap .i64 r_.2)≤128))) (by kernel_rfl) hf16 (by kernel_rfl) (by kernel_rfl) (av:=[.s (.string (⟨#[32,32,32,32,32,32,32,32,32,32,32,32,32,32,32,32,32,32,32,32,32,32,32,32,32,32,32,32,32,32,32,32,32,32,32,32,32,32,32,32,32,32,32,32,32,32,32,32,32,32,32,32,32,32,32,32,32,32,32,32,32,32,32,32,32,32,32,32,32,32,32,32,32,32,32,32,32,32,32,32,32,32,32,32,32,32,32,32,32,32,32,32,32,32,32,32,32,32,32,32,32,32,32,32,32,32,32,32,32,32,32,32,32,32,32,32,32,32,32,32,32,32,32,32,32,32,32,32]⟩:ByteArray)),.s (.string s_)]) (by kernel_rfl) (v:=.s (.bool r_1)) (by kernel_rfl) (fun hb9=>(CalL.pure (strings_HasPrefix_ok (⟨#[32,32,32,32,32,32,32,32,32,32,32,32,32,32,32,32,32,32,32,32,32,32,32,32,32,32,32,32,32,32,32,32,32,32,32,32,32,32,32,32,32,32,32,32,32,32,32,32,32,32,32,32,32,32,32,32,32,32,32,32,32,32,32,32,32,32,32,32,32,32,32,32,32,32,32,32,32,32,32,32,32,32,32,32,32,32,32,32,32,32,32,32,32,32,32,32,32,32,32,32,32,32,32,32,32,32,32,32,32,32,32,32,32,32,32,32,32,32,32,32,32,32,32,32,32,32,32,32]⟩:ByteArray) s_ r_1 (if_t hx_r_1 hb9)) rfl rfl (Nat.le_of_ble_eq_true (by kernel_rfl)))) fun f17 hf17=>En hf17 fun f18 hf18=>Kc<|Kf hf18 h (fun hc10 h => ?_) fun hc10 h => ?_
        ·refine Kq<|Kr<|Sg 1 hf18 fun f19 hf19 => ?_
         obtain ⟨c11,h⟩:=as_ok h
         refine Ad (.sstr (.k (.string ⟨#[32,32,32,32,32,32,32,32,32,32,32,32,32,32,32,32,32,32,32,32,32,32,32,32,32,32,32,32,32,32,32,32,32,32,32,32,32,32,32,32,32,32,32,32,32,32,32,32,32,32,32,32,32,32,32,32,32,32,32,32,32,32,32,32,32,32,32,32,32,32,32,32,32,32,32,32,32,32,32,32,32,32,32,32,32,32,32,32,32,32,32,32,32,32,32,32,32,32,32,32,32,32,32,32,32,32,32,32,32,32,32,32,32,32,32,32,32,32,32,32,32,32,32,32,32,32,32,32]⟩)) none (some (.t 56))) (.s (.string ((⟨#[32,32,32,32,32,32,32,32,32,32,32,32,32,32,32,32,32,32,32,32,32,32,32,32,32,32,32,32,32,32,32,32,32,32,32,32,32,32,32,32,32,32,32,32,32,32,32,32,32,32,32,32,32,32,32,32,32,32,32,32,32,32,32,32,32,32,32,32,32,32,32,32,32,32,32,32,32,32,32,32,32,32,32,32,32,32,32,32,32,32,32,32,32,32,32,32,32,32,32,32,32,32,32,32,32,32,32,32,32,32,32,32,32,32,32,32,32,32,32,32,32,32,32,32,32,32,32,32]⟩:ByteArray).extract 0 ((IntKind.wrap .i64 r_.2):Int).toNat))) hf19 (e_sstr (t:=(⟨#[32,32,32,32,32,32,32,32,32,32,32,32,32,32,32,32,32,32,32,32,32,32,32,32,32,32,32,32,32,32,32,32,32,32,32,32,32,32,32,32,32,32,32,32,32,32,32,32,32,32,32,32,32,32,32,32,32,32,32,32,32,32,32,32,32,32,32,32,32,32,32,32,32,32,32,32,32,32,32,32,32,32,32,32,32,32,32,32,32,32,32,32,32,32,32,32,32,32,32,32,32,32,32,32,32,32,32,32,32,32,32,32,32,32,32,32,32,32,32,32,32,32,32,32,32,32,32,32]⟩:ByteArray)) (by kernel_rfl) (b_ns (k:=.i64) (iv:=(IntKind.wrap .i64 r_.2)) (by kernel_rfl) c11)) fun f20 hf20=>En hf20 fun f21 hf21 => ?_
         obtain rfl:=Oi h
         exact Kc<|Kt<|Xr<|Xr<|Xc<|Fp hf21
        ·cases h
       ·cases h
      ·cases h
@[irreducible] noncomputable def i69:Nat→List Op1:=rg Tryz.prog 69 []
noncomputable def a69_0:IR:=(.cond (.t 21) (.reg false (i69 7)) (.seq (.reg false (i69 8)) (.cond (.t 35) (.reg false (i69 9)) .skip)))
noncomputable def a69_1:IR:=(.seq (.seq (.reg false (i69 4)) (.cond (.t 18) (.reg false (i69 5)) .skip)) (.seq (.block 0 (.seq (.reg false (i69 6)) a69_0)) (.seq (.reg true (i69 10)) .ret)))
noncomputable def a69_2:IR:=(.seq (.seq (.reg false (i69 1)) (.cond (.t 12) (.seq (.reg false (i69 2)) .ret) .skip)) (.seq (.reg false (i69 3)) a69_1))
noncomputable def post_Post_Code_ir:IR:=(.seq (.reg false (i69 0)) a69_2)
theorem post_Post_Code_cfn:cFn Tryz.prog 69=some (post_Post_Code_ir,[(.t 2),(.t 3)],61):=by kernel_rfl
def post_Post_Code_V (r:(Int × Bool)):V:=.tup [.s (.int .u8 r.1),.s (.bool r.2)]
def post_Post_Code_C (r:(Int × Bool)):X→Fr→Hp→Prop:=FinL [(.t 2),(.t 3)] [] (post_Post_Code_V r) []
theorem post_Post_Code_ok (p_:post_Post) (r:(Int × Bool)) (h:post_Post_Code p_=some r):Pure Tryz.prog 69 [.agg [.s (.int .i64 p_.Kind),.s (.int .i64 p_.Reg),.s (.int .u16 p_.Off),.s (.bool p_.Indirect)]] (post_Post_Code_V r):=by
 refine CS post_Post_Code_cfn (post_Post_Code_C r) fun f hf => ?_
 unfold post_Post_Code at h
 refine Kq<|Kr<|En hf fun f1 hf1=>Kc<|Kq<|Kq<|Kr<|En hf1 fun f2 hf2=>Kc<|Kf hf2 h (fun hc1 h => ?_) fun hc1 h => ?_
 ·refine Kq<|Kr<|En hf2 fun f3 hf3 => ?_
  obtain rfl:=Oi h
  exact Kc<|Kt<|Xc<|k_fin (fin_ret (.inl rfl) hf3 (vs:=[.s (.int .u8 0),.s (.bool false)]) (by kernel_rfl) (SettL.pure (FzL.tup (FzsL.cons (FzL.stat rfl) (FzsL.cons (FzL.stat rfl) FzsL.nil)))))
 ·refine Ks<|Kc<|Kq<|Kr<|Sg 2 hf2 fun f3 hf3 => ?_
  obtain ⟨r_,hx_r_,h⟩:=Bs h
  refine Cp (post_low_ok _ _ hx_r_) hf3 fun f4 hf4=>En hf4 fun f5 hf5=>Kc<|Kq<|Kq<|Kr<|En hf5 fun f6 hf6=>Kc ?_
  have hj1:∀ (b_:Int),post_Post_Code_j1 p_ b_=some r→∀ f,FOk f [⟨1,[],.ptr 0 0 0⟩,⟨2,[],.s (.int .u8 0)⟩,⟨3,[],.s (.bool false)⟩,⟨4,[],.s (.int .u8 b_)⟩]→kont Tryz.prog [] (post_Post_Code_C r) ((.c (.seq (.block 0 (.seq (.reg false (i69 6)) a69_0)) (.seq (.reg true (i69 10)) .ret)))::[]) .normal f [⟨0,.mem,1,[.s (.int .i64 p_.Kind),.s (.int .i64 p_.Reg),.s (.int .u16 p_.Off),.s (.bool p_.Indirect)]⟩]:=by
   intro b_ h f hf
   unfold post_Post_Code_j1 at h
   refine Kc<|Kq<|Kb<|Kq<|Kr<|En hf fun f1 hf1=>Kc ?_
   have hj2:∀ (b_1:Int),post_Post_Code_j0 p_ b_1=some r→∀ f,FOk f [⟨1,[],.ptr 0 0 0⟩,⟨2,[],.s (.int .u8 0)⟩,⟨3,[],.s (.bool false)⟩,⟨4,[],.s (.int .u8 b_1)⟩]→kont Tryz.prog [] (post_Post_Code_C r) ((.c (.seq (.reg true (i69 10)) .ret))::[]) .normal f [⟨0,.mem,1,[.s (.int .i64 p_.Kind),.s (.int .i64 p_.Reg),.s (.int .u16 p_.Off),.s (.bool p_.Indirect)]⟩]:=by
    intro b_1 h f hf
    unfold post_Post_Code_j0 at h
    refine Kc<|Kq<|Kd<|Sg 2 hf fun f1 hf1 => ?_
    obtain ⟨r_1,hx_r_1,h⟩:=Bs h
    refine Cp (post_Of_ok _ _ hx_r_1) hf1 fun f2 hf2=>En hf2 fun f3 hf3 => ?_
    obtain rfl:=Oi h
    exact Kc<|Kt<|k_fin (fin_ret (.inl rfl) hf3 (vs:=[.s (.int .u8 b_1),.s (.bool ((r_1.Kind == p_.Kind)&&((r_1.Reg == p_.Reg)&&((r_1.Off == p_.Off)&&((r_1.Indirect == p_.Indirect)&&true)))))]) (by kernel_rfl) (SettL.pure (FzL.tup (FzsL.cons (FzL.stat rfl) (FzsL.cons (FzL.stat rfl) FzsL.nil)))))
   refine Kf hf1 h (fun hc3 h => ?_) fun hc3 h => ?_
   ·exact Kr<|En hf1 fun f2 hf2=>Kv<|Kh (hj2 (bits .or .u8 (IntKind.wrap .u8 ((IntKind.wrap .u8 (IntKind.wrap .i64 (p_.Reg - 1)))*2 ^ (5))) (IntKind.wrap .u8 (bits .and .u16 p_.Off 31))) h _ (Of [1,2,3,4] hf2))
   ·refine Kq<|Kr<|En hf1 fun f2 hf2=>Kc<|Kf hf2 h (fun hc4 h => ?_) fun hc4 h => ?_
    ·exact Kr<|En hf2 fun f3 hf3=>Kv<|Kh (hj2 (bits .or .u8 b_ (IntKind.wrap .u8 ((IntKind.wrap .u8 (IntKind.wrap .i64 (p_.Reg - 1)))*2 ^ (5)))) h _ (Of [1,2,3,4] hf3))
    ·exact Ks<|Kv<|Kh (hj2 b_ h _ (Of [1,2,3,4] hf2))
  refine Kf hf6 h (fun hc2 h => ?_) fun hc2 h => ?_
  ·exact Kr<|En hf6 fun f7 hf7=>Kh (hj1 (bits .or .u8 (bits .or .u8 128 r_) 16) h _ (Of [1,2,3,4] hf7))
  ·exact Ks<|Kh (hj1 (bits .or .u8 128 r_) h _ (Of [1,2,3,4] hf6))
@[irreducible] noncomputable def i70:Nat→List Op1:=rg Tryz.prog 70 []
noncomputable def dis_Byte_ir:IR:=(.seq (.reg false (i70 0)) (.seq (.reg false (i70 1)) .ret))
theorem dis_Byte_cfn:cFn Tryz.prog 70=some (dis_Byte_ir,[(.t 2)],7):=by kernel_rfl
def dis_Byte_V (r:(ByteArray)):V:=.s (.string r)
def dis_Byte_C (r:(ByteArray)):X→Fr→Hp→Prop:=FinL [(.t 2)] [] (dis_Byte_V r) []
theorem dis_Byte_ok (b_:Int) (r:(ByteArray)) (h:dis_Byte b_=some r):Pure Tryz.prog 70 [.s (.int .u8 b_)] (dis_Byte_V r):=by
 refine CS dis_Byte_cfn (dis_Byte_C r) fun f hf => ?_
 unfold dis_Byte at h
 refine Kq<|Kr<|En hf fun f1 hf1=>Kc<|Kq<|Kr<|Sg 2 hf1 fun f2 hf2 => ?_
 obtain ⟨r_,hx_r_,h⟩:=Bs h
 refine Ca hf2 (av:=[.sl true [b_].length (cat (nI .u8) [b_])]) (v:=.s (.string r_)) (CalL.purew (digit_Pairs_ok [b_] r_ hx_r_) (Wks.cons Wk.slf Wks.nil) (by simp [V.static,statics,cat_stat]) rfl (by kernel_rfl)) (fun _=>rfl) fun f3 hf3 => ?_
 obtain ⟨c1,h⟩:=as_ok h
 refine Ad (.bin .add (.k (.string ⟨#[36]⟩)) (.t 5)) (.s (.string ((⟨#[36]⟩:ByteArray)++r_))) hf3 (e_sadd (t:=(⟨#[36]⟩:ByteArray)) (t':=r_) (by kernel_rfl) (by kernel_rfl) c1) fun f4 hf4=>En hf4 fun f5 hf5 => ?_
 obtain rfl:=Oi h
 exact Kc<|Kt<|Fp hf5
@[irreducible] noncomputable def i51:Nat→List Op1:=rg Tryz.prog 51 []
noncomputable def a51_0:IR:=(.cond (.t 54) (.seq (.reg false (i51 9)) .ret) (.seq (.reg false (i51 10)) (.cond (.t 63) (.seq (.reg false (i51 11)) .ret) .skip)))
noncomputable def a51_1:IR:=(.cond (.t 31) (.seq (.reg false (i51 5)) .ret) (.seq (.reg false (i51 6)) (.cond (.t 38) (.seq (.reg false (i51 7)) .ret) (.seq (.reg false (i51 8)) a51_0))))
noncomputable def a51_2:IR:=(.seq (.block 0 (.seq (.seq (.reg false (i51 1)) (.cond (.t 5) .skip (.reg false (i51 2)))) (.cond (.t 5) (.seq (.reg false (i51 3)) .ret) (.seq (.reg false (i51 4)) a51_1)))) (.seq (.reg false (i51 12)) .ret))
noncomputable def ops_Name_ir:IR:=(.seq (.reg false (i51 0)) a51_2)
theorem ops_Name_cfn:cFn Tryz.prog 51=some (ops_Name_ir,[(.t 4)],72):=by kernel_rfl
def ops_Name_V (r:(ByteArray)):V:=.s (.string r)
def ops_Name_C (r:(ByteArray)):X→Fr→Hp→Prop:=FinL [(.t 4)] [] (ops_Name_V r) []
theorem ops_Name_ok (op_:Int) (reg_:Int) (r:(ByteArray)) (h:ops_Name op_ reg_=some r):Pure Tryz.prog 51 [.s (.int .i64 op_),.s (.int .i64 reg_)] (ops_Name_V r):=by
 refine CS ops_Name_cfn (ops_Name_C r) fun f hf => ?_
 unfold ops_Name at h
 refine Kq<|Kr<|En hf fun f1 hf1=>Kc<|Kq<|Kb<|Kq<|Kq<|Kr<|En hf1 fun f2 hf2=>Kc ?_
 have hj1:∀ (t_:Bool),ops_Name_j0 op_ reg_ t_=some r→∀ f,FOk f [⟨0,[],.s (.int .i64 op_)⟩,⟨1,[],.s (.int .i64 reg_)⟩,⟨4,[],.s (.string (⟨#[]⟩:ByteArray))⟩,⟨5,[],.s (.bool t_)⟩]→kont Tryz.prog [] (ops_Name_C r) ((.c (.cond (.t 5) (.seq (.reg false (i51 3)) .ret) (.seq (.reg false (i51 4)) a51_1)))::(.b 0)::(.c (.seq (.reg false (i51 12)) .ret))::[]) .normal f []:=by
  intro t_ h f hf
  unfold ops_Name_j0 at h
  refine Kc<|Kf hf h (fun hc2 h => ?_) fun hc2 h => ?_
  ·refine Kq<|Kr<|Sg 1 hf fun f1 hf1 => ?_
   obtain ⟨r_,hx_r_,h⟩:=Bs h
   refine Cp (ops_stem_ok _ _ hx_r_) hf1 fun f2 hf2=>Sg 1 hf2 fun f3 hf3 => ?_
   obtain ⟨r_1,hx_r_1,h⟩:=Bs h
   refine Cp (cond_Name_ok _ _ hx_r_1) hf3 fun f4 hf4 => ?_
   obtain ⟨c3,h⟩:=as_ok h
   refine Ad (.bin .add (.t 27) (.t 29)) (.s (.string (r_++r_1))) hf4 (e_sadd (t:=r_) (t':=r_1) (by kernel_rfl) (by kernel_rfl) c3) fun f5 hf5=>En hf5 fun f6 hf6 => ?_
   obtain rfl:=Oi h
   exact Kc<|Kt<|Xr<|Xc<|Fp hf6
  ·refine Kq<|Kr<|En hf fun f1 hf1=>Kc<|Kf hf1 h (fun hc4 h => ?_) fun hc4 h => ?_
   ·refine Kq<|Kr<|En hf1 fun f2 hf2 => ?_
    obtain rfl:=Oi h
    exact Kc<|Kt<|Xr<|Xc<|Fp hf2
   ·refine Kq<|Kr<|En hf1 fun f2 hf2=>Kc<|Kf hf2 h (fun hc5 h => ?_) fun hc5 h => ?_
    ·refine Kq<|Kr<|Sg 3 hf2 fun f3 hf3 => ?_
     obtain ⟨c6,h⟩:=as_ok h
     refine Ad (.sstr (.k (.string ⟨#[49,50,51]⟩)) (some (.t 50)) (some (.t 51))) (.s (.string ((⟨#[49,50,51]⟩:ByteArray).extract ((IntKind.wrap .i64 (reg_ - 1)):Int).toNat (reg_:Int).toNat))) hf3 (e_sstr (t:=(⟨#[49,50,51]⟩:ByteArray)) (by kernel_rfl) (b_ss (k:=.i64) (k':=.i64) (iv:=(IntKind.wrap .i64 (reg_ - 1))) (jv:=reg_) (by kernel_rfl) (by kernel_rfl) c6)) fun f4 hf4 => ?_
     obtain ⟨c7,h⟩:=as_ok h
     refine Ad (.bin .add (.k (.string ⟨#[83,87,73]⟩)) (.t 52)) (.s (.string ((⟨#[83,87,73]⟩:ByteArray)++((⟨#[49,50,51]⟩:ByteArray).extract ((IntKind.wrap .i64 (reg_ - 1)):Int).toNat (reg_:Int).toNat)))) hf4 (e_sadd (t:=(⟨#[83,87,73]⟩:ByteArray)) (t':=((⟨#[49,50,51]⟩:ByteArray).extract ((IntKind.wrap .i64 (reg_ - 1)):Int).toNat (reg_:Int).toNat)) (by kernel_rfl) (by kernel_rfl) c7) fun f5 hf5=>En hf5 fun f6 hf6 => ?_
     obtain rfl:=Oi h
     exact Kc<|Kt<|Xr<|Xc<|Fp hf6
    ·refine Kq<|Kr<|Sg 2 hf2 fun f3 hf3 => ?_
     obtain ⟨r_2,hx_r_2,h⟩:=Bs h
     refine Cp (ops_own_ok _ _ _ hx_r_2) hf3 fun f4 hf4=>En hf4 fun f5 hf5=>Kc<|Kf hf5 h (fun hc8 h => ?_) fun hc8 h => ?_
     ·refine Kq<|Kr<|Sg 1 hf5 fun f6 hf6 => ?_
      obtain ⟨r_3,hx_r_3,h⟩:=Bs h
      refine Cp (ops_stem_ok _ _ hx_r_3) hf6 fun f7 hf7=>Sg 1 hf7 fun f8 hf8 => ?_
      obtain ⟨r_4,hx_r_4,h⟩:=Bs h
      refine Cp (ops_Reg_ok _ _ hx_r_4) hf8 fun f9 hf9 => ?_
      obtain ⟨c9,h⟩:=as_ok h
      refine Ad (.bin .add (.t 59) (.t 61)) (.s (.string (r_3++r_4))) hf9 (e_sadd (t:=r_3) (t':=r_4) (by kernel_rfl) (by kernel_rfl) c9) fun f10 hf10=>En hf10 fun f11 hf11 => ?_
      obtain rfl:=Oi h
      exact Kc<|Kt<|Xr<|Xc<|Fp hf11
     ·refine Kq<|Kr<|Sg 4 hf5 fun f6 hf6 => ?_
      obtain ⟨r_5,hx_r_5,h⟩:=Bs h
      refine mops_gcall (dst:=(some 68)) (m:=76) (args:=[(.t 67)]) (aft:=[3,2,2]) (t:=66) (w:=true) (ch:=[(66,true)]) (b:=(reg_ == 0)) (by kernel_rfl) hf6 (by kernel_rfl) (by kernel_rfl) (av:=[.s (.int .i64 op_)]) (by kernel_rfl) (v:=.s (.bool r_5)) (by kernel_rfl) (fun hb10=>(CalL.pure (ops_plain_ok op_ r_5 (if_t hx_r_5 hb10)) rfl rfl (Nat.le_of_ble_eq_true (by kernel_rfl)))) fun f7 hf7=>En hf7 fun f8 hf8=>Kc<|Kf hf8 h (fun hc11 h => ?_) fun hc11 h => ?_
      ·refine Kq<|Kr<|Sg 1 hf8 fun f9 hf9 => ?_
       obtain ⟨r_6,hx_r_6,h⟩:=Bs h
       refine Cp (ops_stem_ok _ _ hx_r_6) hf9 fun f10 hf10=>En hf10 fun f11 hf11 => ?_
       obtain rfl:=Oi h
       exact Kc<|Kt<|Xr<|Xc<|Fp hf11
      ·refine Ks<|Kv<|Kc<|Kq<|Kr<|En hf8 fun f9 hf9 => ?_
       obtain rfl:=Oi h
       exact Kc<|Kt<|Fp hf9
 refine Kf hf2 h (fun hc1 h => ?_) fun hc1 h => ?_
 ·exact Ks<|Kh (hj1 (((op_ == 34)&&(decide (0≤reg_)))&&(decide (reg_ < 16))) h _ (Of [0,1,4,5] hf2))
 ·exact Kr<|En hf2 fun f3 hf3=>Kh (hj1 (((op_ == 35)&&(decide (0 < reg_)))&&(decide (reg_ < 16))) h _ (Of [0,1,4,5] hf3))
@[irreducible] noncomputable def i77:Nat→List Op1:=rg Tryz.prog 77 []
noncomputable def dis_Word_ir:IR:=(.seq (.reg false (i77 0)) (.seq (.reg false (i77 1)) .ret))
theorem dis_Word_cfn:cFn Tryz.prog 77=some (dis_Word_ir,[(.t 2)],7):=by kernel_rfl
def dis_Word_V (r:(ByteArray)):V:=.s (.string r)
def dis_Word_C (r:(ByteArray)):X→Fr→Hp→Prop:=FinL [(.t 2)] [] (dis_Word_V r) []
theorem dis_Word_ok (w_:Int) (r:(ByteArray)) (h:dis_Word w_=some r):Pure Tryz.prog 77 [.s (.int .u16 w_)] (dis_Word_V r):=by
 refine CS dis_Word_cfn (dis_Word_C r) fun f hf => ?_
 unfold dis_Word at h
 refine Kq<|Kr<|En hf fun f1 hf1=>Kc<|Kq<|Kr<|Sg 2 hf1 fun f2 hf2 => ?_
 obtain ⟨r_,hx_r_,h⟩:=Bs h
 refine Cp (digit_Hex_ok _ _ _ hx_r_) hf2 fun f3 hf3 => ?_
 obtain ⟨c1,h⟩:=as_ok h
 refine Ad (.bin .add (.k (.string ⟨#[36]⟩)) (.t 5)) (.s (.string ((⟨#[36]⟩:ByteArray)++r_))) hf3 (e_sadd (t:=(⟨#[36]⟩:ByteArray)) (t':=r_) (by kernel_rfl) (by kernel_rfl) c1) fun f4 hf4=>En hf4 fun f5 hf5 => ?_
 obtain rfl:=Oi h
 exact Kc<|Kt<|Fp hf5
@[irreducible] noncomputable def i79:Nat→List Op1:=rg Tryz.prog 79 []
noncomputable def a79_0:IR:=(.seq (.seq (.reg false (i79 1)) (.seq (.reg false (i79 2)) (.cond (.t 7) (.seq (.reg false (i79 3)) .ret) .skip))) (.seq (.reg false (i79 4)) .ret))
noncomputable def dis_Reg_ir:IR:=(.seq (.reg false (i79 0)) a79_0)
theorem dis_Reg_cfn:cFn Tryz.prog 79=some (dis_Reg_ir,[(.t 2)],13):=by kernel_rfl
def dis_Reg_V (r:(ByteArray)):V:=.s (.string r)
def dis_Reg_C (r:(ByteArray)):X→Fr→Hp→Prop:=FinL [(.t 2)] [] (dis_Reg_V r) []
theorem dis_Reg_ok (code_:Int) (r:(ByteArray)) (h:dis_Reg code_=some r):Pure Tryz.prog 79 [.s (.int .i64 code_)] (dis_Reg_V r):=by
 refine CS dis_Reg_cfn (dis_Reg_C r) fun f hf => ?_
 unfold dis_Reg at h
 refine Kq<|Kr<|En hf fun f1 hf1=>Kc<|Kq<|Kq<|Kr<|Sg 1 hf1 fun f2 hf2 => ?_
 obtain ⟨r_,hx_r_,h⟩:=Bs h
 refine Cp (ops_Reg_ok _ _ hx_r_) hf2 fun f3 hf3=>En hf3 fun f4 hf4=>Kc<|Kq<|Kr<|En hf4 fun f5 hf5=>Kc<|Kf hf5 h (fun hc1 h => ?_) fun hc1 h => ?_
 ·refine Kq<|Kr<|En hf5 fun f6 hf6 => ?_
  obtain rfl:=Oi h
  exact Kc<|Kt<|Xc<|Fp hf6
 ·refine Ks<|Kc<|Kq<|Kr<|Sg 2 hf5 fun f6 hf6 => ?_
  obtain ⟨r_1,hx_r_1,h⟩:=Bs h
  refine Cp (digit_Dec_ok _ _ hx_r_1) hf6 fun f7 hf7 => ?_
  obtain ⟨c2,h⟩:=as_ok h
  refine Ad (.bin .add (.k (.string ⟨#[82]⟩)) (.t 11)) (.s (.string ((⟨#[82]⟩:ByteArray)++r_1))) hf7 (e_sadd (t:=(⟨#[82]⟩:ByteArray)) (t':=r_1) (by kernel_rfl) (by kernel_rfl) c2) fun f8 hf8=>En hf8 fun f9 hf9 => ?_
  obtain rfl:=Oi h
  exact Kc<|Kt<|Fp hf9
@[irreducible] noncomputable def i95:Nat→List Op1:=rg Tryz.prog 95 []
noncomputable def a95_0:IR:=(.seq (.seq (.reg false (i95 1)) (.cond (.t 4) (.seq (.reg false (i95 2)) .ret) .skip)) (.seq (.reg false (i95 3)) .ret))
noncomputable def dis_signed_ir:IR:=(.seq (.reg false (i95 0)) a95_0)
theorem dis_signed_cfn:cFn Tryz.prog 95=some (dis_signed_ir,[(.t 2)],13):=by kernel_rfl
def dis_signed_V (r:(ByteArray)):V:=.s (.string r)
def dis_signed_C (r:(ByteArray)):X→Fr→Hp→Prop:=FinL [(.t 2)] [] (dis_signed_V r) []
theorem dis_signed_ok (w_:Int) (r:(ByteArray)) (h:dis_signed w_=some r):Pure Tryz.prog 95 [.s (.int .u16 w_)] (dis_signed_V r):=by
 refine CS dis_signed_cfn (dis_signed_C r) fun f hf => ?_
 unfold dis_signed at h
 refine Kq<|Kr<|En hf fun f1 hf1=>Kc<|Kq<|Kq<|Kr<|En hf1 fun f2 hf2=>Kc<|Kf hf2 h (fun hc1 h => ?_) fun hc1 h => ?_
 ·refine Kq<|Kr<|Sg 3 hf2 fun f3 hf3 => ?_
  obtain ⟨r_,hx_r_,h⟩:=Bs h
  refine Cp (digit_Dec_ok _ _ hx_r_) hf3 fun f4 hf4 => ?_
  obtain ⟨c2,h⟩:=as_ok h
  refine Ad (.bin .add (.k (.string ⟨#[45]⟩)) (.t 8)) (.s (.string ((⟨#[45]⟩:ByteArray)++r_))) hf4 (e_sadd (t:=(⟨#[45]⟩:ByteArray)) (t':=r_) (by kernel_rfl) (by kernel_rfl) c2) fun f5 hf5=>En hf5 fun f6 hf6 => ?_
  obtain rfl:=Oi h
  exact Kc<|Kt<|Xc<|Fp hf6
 ·refine Ks<|Kc<|Kq<|Kr<|Sg 2 hf2 fun f3 hf3 => ?_
  obtain ⟨r_1,hx_r_1,h⟩:=Bs h
  refine Cp (digit_Dec_ok _ _ hx_r_1) hf3 fun f4 hf4=>En hf4 fun f5 hf5 => ?_
  obtain rfl:=Oi h
  exact Kc<|Kt<|Fp hf5
@[irreducible] noncomputable def i14:Nat→List Op1:=rg Tryz.prog 14 []
noncomputable def a14_0:IR:=(.seq (.block 1 (.seq (.reg false (i14 4)) (.cond (.t 29) (.seq (.reg false (i14 5)) .ret) .skip))) (.reg false (i14 6)))
noncomputable def a14_1:IR:=(.block 0 (.loop (.seq (.seq (.reg false (i14 3)) (.cond (.t 11) .skip (.exit 0))) a14_0)))
noncomputable def a14_2:IR:=(.seq (.reg false (i14 1)) (.seq (.seq (.reg false (i14 2)) a14_1) (.seq (.reg false (i14 7)) .ret)))
noncomputable def spinetref14_Of_ir:IR:=(.seq (.reg false (i14 0)) a14_2)
theorem spinetref14_Of_cfn:cFn Tryz.prog 14=some (spinetref14_Of_ir,[(.c 4 true 3)],36):=by kernel_rfl
def spinetref14_Of_V (r:(api_Entry)):V:=.agg [.s (.int .i64 r.Op),.s (.int .i64 r.Mode),.s (.int .i64 r.Reg)]
def spinetref14_Of_C (r:(api_Entry)):X→Fr→Hp→Prop:=FinL [(.c 4 true 3)] [] (spinetref14_Of_V r) []
abbrev k14_0:List V:=[.s (.int .i64 0),.s (.int .i64 0),.s (.int .i64 0)]
theorem spinetref14_Of_ok (page_:Int) (code_:Int) (r:(api_Entry)) (h:spinetref14_Of page_ code_=some r):Pure Tryz.prog 14 [.s (.int .i64 page_),.s (.int .i64 code_)] (spinetref14_Of_V r):=by
 refine CS spinetref14_Of_cfn (spinetref14_Of_C r) fun f hf => ?_
 unfold spinetref14_Of at h
 refine Kq<|Kr<|En hf fun f1 hf1=>Kc<|Kq<|Kr ?_
 obtain ⟨r_,hx_r_,h⟩:=Bs h
 refine Ca hf1 (av:=[]) (v:=.sl false r_.length (cat spinetref14_Known.v r_)) (CalL.pure (spinetref14_All_ok  r_ hx_r_) rfl (by simp [V.static,statics,cat_stat,spinetref14_All_V]) (Nat.le_of_ble_eq_true (by kernel_rfl))) (fun _=>rfl) fun f2 hf2=>En hf2 fun f3 hf3=>Kc<|Kq<|Kq<|Kr<|En hf3 fun f4 hf4=>Kc<|Kb ?_
 obtain ⟨o0,hx0,h⟩:=Bs h
 have hret0:∀ r0,.ret r0=o0→r0=r:=fun r0 e=>by subst e; exact Option.some.inj h
 have hgo0:.go ()=o0→∀ f,FOk f [⟨4,[],.ptr 0 0 0⟩]→kont Tryz.prog [] (spinetref14_Of_C r) ((.c (.seq (.reg false (i14 7)) .ret))::[]) .normal f [⟨0,.mem,1,k14_0⟩]:=by
  intro  e f hf
  subst e
  refine Kc<|Kq<|Kr<|En hf fun f1 hf1 => ?_
  obtain rfl:=Oi h
  exact Kc<|Kt<|Fp hf1
 refine k_loop BIG<|loop_ind (fun n f L=>∃ (i_1:Int),spinetref14_Of_l0 page_ code_ r_ n i_1=some o0∧FOk f [⟨0,[],.s (.int .i64 page_)⟩,⟨1,[],.s (.int .i64 code_)⟩,⟨4,[],.ptr 0 0 0⟩,⟨5,[],.sl false r_.length (cat spinetref14_Known.v r_)⟩,⟨6,[],.s (.int .i64 i_1)⟩]∧L=[⟨0,.mem,1,k14_0⟩]) ?_ ?_ BIG _ _ ⟨(0),hx0,FOk_of [0,1,4,5,6] hf4 (by kernel_rfl),(by kernel_rfl)⟩
 ·rintro f L ⟨i_1,h,_⟩
  cases (show (none:Option _)=some _ from h)
 ·rintro n0 R0 ih f L ⟨i_1,h,hf,rfl⟩
  rw [spinetref14_Of_l0] at h
  refine Kq<|Kq<|Kr<|En hf fun f1 hf1=>Kc<|Kf hf1 h (fun hc1 h => ?_) fun hc1 h => ?_
  ·refine Ks<|Kc<|Kq<|Kb<|Kq<|Kr<|Sg 2 hf1 fun f2 hf2 => ?_
   obtain ⟨c2,h⟩:=as_ok h
   refine Ad (.ias 5 (.t 14) (.t 15)) (.ip ((cat spinetref14_Known.v r_).drop ((i_1:Int).toNat*5))) hf2 (e_ias (n:=r_.length) (xv:=.sl false r_.length (cat spinetref14_Known.v r_)) (k:=.i64) (iv:=i_1) (p:=.ip ((cat spinetref14_Known.v r_).drop ((i_1:Int).toNat*5))) (by kernel_rfl) (by kernel_rfl) (by kernel_rfl) (by kernel_rfl) c2) fun f3 hf3=>Sg 1 hf3 fun f4 hf4=>Ad (.load false 1 (.t 17)) (.s (.int .i64 (gt r_ i_1).Page)) hf4 (e_load_ip (g:=spinetref14_Known.v) (l:=r_) (iv:=i_1) [0] (by kernel_rfl) c2 (by kernel_rfl) (by kernel_rfl)) fun f5 hf5=>Sg 5 hf5 fun f6 hf6 => ?_
   obtain ⟨c3,h⟩:=as_ok h
   refine mops_gadv (dst:=(some 24)) (op:=(.ias 5 (.t 22) (.t 23))) (aft:=[8,9,7]) (t:=21) (w:=true) (ch:=[(21,true)]) (b:=((gt r_ i_1).Page == page_)) (v:=.ip ((cat spinetref14_Known.v r_).drop ((i_1:Int).toNat*5))) (by kernel_rfl) hf6 (by kernel_rfl) (by kernel_rfl) (by kernel_rfl) (fun hb4=>e_ias (n:=r_.length) (xv:=.sl false r_.length (cat spinetref14_Known.v r_)) (k:=.i64) (iv:=i_1) (p:=.ip ((cat spinetref14_Known.v r_).drop ((i_1:Int).toNat*5))) (by kernel_rfl) (by kernel_rfl) (by kernel_rfl) (by kernel_rfl) (c3 hb4)) fun f7 hf7=>Sg 1 hf7 fun f8 hf8=>mops_gadv (dst:=(some 26)) (op:=(.load false 1 (.t 25))) (aft:=[11,7]) (t:=21) (w:=true) (ch:=[(21,true)]) (b:=((gt r_ i_1).Page == page_)) (v:=.s (.int .i64 (gt r_ i_1).Code)) (by kernel_rfl) hf8 (by kernel_rfl) (by kernel_rfl) (by kernel_rfl) (fun hb5=>e_load_ip (g:=spinetref14_Known.v) (l:=r_) (iv:=i_1) [1] (by kernel_rfl) (c3 hb5) (by kernel_rfl) (by kernel_rfl)) fun f9 hf9=>En hf9 fun f10 hf10=>Kc<|Kf hf10 h (fun hc6 h => ?_) fun hc6 h => ?_
   ·refine Kq<|Kr<|Sg 2 hf10 fun f11 hf11 => ?_
    obtain ⟨c7,h⟩:=as_ok h
    refine Ad (.ias 5 (.t 30) (.t 31)) (.ip ((cat spinetref14_Known.v r_).drop ((i_1:Int).toNat*5))) hf11 (e_ias (n:=r_.length) (xv:=.sl false r_.length (cat spinetref14_Known.v r_)) (k:=.i64) (iv:=i_1) (p:=.ip ((cat spinetref14_Known.v r_).drop ((i_1:Int).toNat*5))) (by kernel_rfl) (by kernel_rfl) (by kernel_rfl) (by kernel_rfl) c7) fun f12 hf12=>Sg 1 hf12 fun f13 hf13=>Ad (.load true 3 (.t 33)) (.agg [.s (.int .i64 ((gt r_ i_1).Entry).Op),.s (.int .i64 ((gt r_ i_1).Entry).Mode),.s (.int .i64 ((gt r_ i_1).Entry).Reg)]) hf13 (e_load_ip (g:=spinetref14_Known.v) (l:=r_) (iv:=i_1) [2] (by kernel_rfl) c7 (by kernel_rfl) (by kernel_rfl)) fun f14 hf14=>En hf14 fun f15 hf15=>Kc<|Kt<|Xr<|Xc<|Xl<|Xr<|Xc ?_
    obtain rfl:=hret0 _ (Option.some.inj h)
    exact Fp hf15
   ·exact Ks<|Kv<|Kc<|Kr<|En hf10 fun f11 hf11=>Kl<|ih _ _ ⟨(IntKind.wrap .i64 (i_1+1)),h,FOk_of [0,1,4,5,6] hf11 (by kernel_rfl),(by kernel_rfl)⟩
  ·exact Kx<|Xc<|Xl<|Xb<|Kh (hgo0  (Option.some.inj h) _ (Of [4] hf1))
@[irreducible] noncomputable def i19:Nat→List Op1:=rg Tryz.prog 19 []
noncomputable def a19_0:IR:=(.seq (.seq (.reg false (i19 4)) (.cond (.t 65) (.seq (.reg false (i19 5)) .ret) .skip)) (.seq (.reg false (i19 6)) .ret))
noncomputable def spinetref42_indexed_ir:IR:=(.seq (.reg false (i19 0)) (.seq (.reg false (i19 1)) (.seq (.reg false (i19 2)) (.seq (.reg false (i19 3)) a19_0))))
theorem spinetref42_indexed_cfn:cFn Tryz.prog 19=some (spinetref42_indexed_ir,[(.t 4)],76):=by kernel_rfl
def spinetref42_indexed_V (r:(ByteArray)):V:=.s (.string r)
def spinetref42_indexed_C (r:(ByteArray)):X→Fr→Hp→Prop:=FinL [(.t 4)] [] (spinetref42_indexed_V r) []
theorem spinetref42_indexed_ok (post_:Int) (value_:Int) (r:(ByteArray)) (h:spinetref42_indexed post_ value_=some r):Pure Tryz.prog 19 [.s (.int .u8 post_),.s (.int .u16 value_)] (spinetref42_indexed_V r):=by
 refine CS spinetref42_indexed_cfn (spinetref42_indexed_C r) fun f hf => ?_
 unfold spinetref42_indexed at h
 refine Kq<|Kr<|En hf fun f1 hf1=>Kc<|Kq<|Kr<|Sg 1 hf1 fun f2 hf2 => ?_
 obtain ⟨r_,hx_r_,h⟩:=Bs h
 refine Cp (spinetref15_Of_ok _ _ hx_r_) hf2 fun f3 hf3=>En hf3 fun f4 hf4=>Kc<|Kq<|Kr<|Sg 2 hf4 fun f5 hf5 => ?_
 obtain ⟨r_1,hx_r_1,h⟩:=Bs h
 refine Cp (spinetref13_Reg_ok _ _ hx_r_1) hf5 fun f6 hf6=>En hf6 fun f7 hf7=>Kc<|Kq<|Kr<|Sg 1 hf7 fun f8 hf8 => ?_
 obtain ⟨c1,h⟩:=as_ok h
 refine Ad (.bin .add (.k (.string ⟨#[44]⟩)) (.t 13)) (.s (.string ((⟨#[44]⟩:ByteArray)++r_1))) hf8 (e_sadd (t:=(⟨#[44]⟩:ByteArray)) (t':=r_1) (by kernel_rfl) (by kernel_rfl) c1) fun f9 hf9=>Sg 3 hf9 fun f10 hf10 => ?_
 obtain ⟨r_2,hx_r_2,h⟩:=Bs h
 refine Cp (spinetref42_Signed_ok _ _ hx_r_2) hf10 fun f11 hf11 => ?_
 obtain ⟨c2,h⟩:=as_ok h
 refine Ad (.bin .add (.t 18) (.k (.string ⟨#[44]⟩))) (.s (.string (r_2++(⟨#[44]⟩:ByteArray)))) hf11 (e_sadd (t:=r_2) (t':=(⟨#[44]⟩:ByteArray)) (by kernel_rfl) (by kernel_rfl) c2) fun f12 hf12=>Sg 1 hf12 fun f13 hf13 => ?_
 obtain ⟨c3,h⟩:=as_ok h
 refine Ad (.bin .add (.t 19) (.t 20)) (.s (.string ((r_2++(⟨#[44]⟩:ByteArray))++r_1))) hf13 (e_sadd (t:=(r_2++(⟨#[44]⟩:ByteArray))) (t':=r_1) (by kernel_rfl) (by kernel_rfl) c3) fun f14 hf14=>Sg 1 hf14 fun f15 hf15 => ?_
 obtain ⟨r_3,hx_r_3,h⟩:=Bs h
 refine Cp (spinetref42_Signed_ok _ _ hx_r_3) hf15 fun f16 hf16 => ?_
 obtain ⟨c4,h⟩:=as_ok h
 refine Ad (.bin .add (.k (.string ⟨#[60]⟩)) (.t 23)) (.s (.string ((⟨#[60]⟩:ByteArray)++r_3))) hf16 (e_sadd (t:=(⟨#[60]⟩:ByteArray)) (t':=r_3) (by kernel_rfl) (by kernel_rfl) c4) fun f17 hf17 => ?_
 obtain ⟨c5,h⟩:=as_ok h
 refine Ad (.bin .add (.t 24) (.k (.string ⟨#[44]⟩))) (.s (.string (((⟨#[60]⟩:ByteArray)++r_3)++(⟨#[44]⟩:ByteArray)))) hf17 (e_sadd (t:=((⟨#[60]⟩:ByteArray)++r_3)) (t':=(⟨#[44]⟩:ByteArray)) (by kernel_rfl) (by kernel_rfl) c5) fun f18 hf18=>Sg 1 hf18 fun f19 hf19 => ?_
 obtain ⟨c6,h⟩:=as_ok h
 refine Ad (.bin .add (.t 25) (.t 26)) (.s (.string ((((⟨#[60]⟩:ByteArray)++r_3)++(⟨#[44]⟩:ByteArray))++r_1))) hf19 (e_sadd (t:=(((⟨#[60]⟩:ByteArray)++r_3)++(⟨#[44]⟩:ByteArray))) (t':=r_1) (by kernel_rfl) (by kernel_rfl) c6) fun f20 hf20=>Sg 2 hf20 fun f21 hf21 => ?_
 obtain ⟨r_4,hx_r_4,h⟩:=Bs h
 refine Cp (spinetref42_Hex_ok _ _ _ hx_r_4) hf21 fun f22 hf22 => ?_
 obtain ⟨c7,h⟩:=as_ok h
 refine Ad (.bin .add (.k (.string ⟨#[62]⟩)) (.t 30)) (.s (.string ((⟨#[62]⟩:ByteArray)++r_4))) hf22 (e_sadd (t:=(⟨#[62]⟩:ByteArray)) (t':=r_4) (by kernel_rfl) (by kernel_rfl) c7) fun f23 hf23 => ?_
 obtain ⟨c8,h⟩:=as_ok h
 refine Ad (.bin .add (.t 31) (.k (.string ⟨#[44]⟩))) (.s (.string (((⟨#[62]⟩:ByteArray)++r_4)++(⟨#[44]⟩:ByteArray)))) hf23 (e_sadd (t:=((⟨#[62]⟩:ByteArray)++r_4)) (t':=(⟨#[44]⟩:ByteArray)) (by kernel_rfl) (by kernel_rfl) c8) fun f24 hf24=>mops_seg [1,4,5,6,14,21,27,32,33] 1 hf24 (l':=[⟨1,[],.s (.int .u16 value_)⟩,⟨4,[],.s (.string (⟨#[]⟩:ByteArray))⟩,⟨5,[],.ptr 0 0 0⟩,⟨6,[],.s (.string r_1)⟩,⟨14,[],.s (.string ((⟨#[44]⟩:ByteArray)++r_1))⟩,⟨21,[],.s (.string ((r_2++(⟨#[44]⟩:ByteArray))++r_1))⟩,⟨27,[],.s (.string ((((⟨#[60]⟩:ByteArray)++r_3)++(⟨#[44]⟩:ByteArray))++r_1))⟩,⟨32,[],.s (.string (((⟨#[62]⟩:ByteArray)++r_4)++(⟨#[44]⟩:ByteArray)))⟩,⟨33,[],.s (.string r_1)⟩]) (L':=[⟨0,.mem,1,[.s (.int .i64 r_.Kind),.s (.int .i64 r_.Reg),.s (.int .i64 r_.Off),.s (.bool r_.Indirect),.s (.int .i64 r_.Bytes),.s (.int .i64 r_.Idle)]⟩]) (by kernel_rfl) fun f25 hf25 => ?_
 obtain ⟨c9,h⟩:=as_ok h
 refine Ad (.bin .add (.t 32) (.t 33)) (.s (.string ((((⟨#[62]⟩:ByteArray)++r_4)++(⟨#[44]⟩:ByteArray))++r_1))) hf25 (e_sadd (t:=(((⟨#[62]⟩:ByteArray)++r_4)++(⟨#[44]⟩:ByteArray))) (t':=r_1) (by kernel_rfl) (by kernel_rfl) c9) fun f26 hf26=>Sg 1 hf26 fun f27 hf27 => ?_
 obtain ⟨c10,h⟩:=as_ok h
 refine Ad (.bin .add (.k (.string ⟨#[65,44]⟩)) (.t 35)) (.s (.string ((⟨#[65,44]⟩:ByteArray)++r_1))) hf27 (e_sadd (t:=(⟨#[65,44]⟩:ByteArray)) (t':=r_1) (by kernel_rfl) (by kernel_rfl) c10) fun f28 hf28=>Sg 1 hf28 fun f29 hf29 => ?_
 obtain ⟨c11,h⟩:=as_ok h
 refine Ad (.bin .add (.k (.string ⟨#[66,44]⟩)) (.t 37)) (.s (.string ((⟨#[66,44]⟩:ByteArray)++r_1))) hf29 (e_sadd (t:=(⟨#[66,44]⟩:ByteArray)) (t':=r_1) (by kernel_rfl) (by kernel_rfl) c11) fun f30 hf30=>Sg 1 hf30 fun f31 hf31 => ?_
 obtain ⟨c12,h⟩:=as_ok h
 refine Ad (.bin .add (.k (.string ⟨#[68,44]⟩)) (.t 39)) (.s (.string ((⟨#[68,44]⟩:ByteArray)++r_1))) hf31 (e_sadd (t:=(⟨#[68,44]⟩:ByteArray)) (t':=r_1) (by kernel_rfl) (by kernel_rfl) c12) fun f32 hf32=>Sg 1 hf32 fun f33 hf33 => ?_
 obtain ⟨c13,h⟩:=as_ok h
 refine Ad (.bin .add (.k (.string ⟨#[44]⟩)) (.t 41)) (.s (.string ((⟨#[44]⟩:ByteArray)++r_1))) hf33 (e_sadd (t:=(⟨#[44]⟩:ByteArray)) (t':=r_1) (by kernel_rfl) (by kernel_rfl) c13) fun f34 hf34 => ?_
 obtain ⟨c14,h⟩:=as_ok h
 refine Ad (.bin .add (.t 42) (.k (.string ⟨#[43]⟩))) (.s (.string (((⟨#[44]⟩:ByteArray)++r_1)++(⟨#[43]⟩:ByteArray)))) hf34 (e_sadd (t:=((⟨#[44]⟩:ByteArray)++r_1)) (t':=(⟨#[43]⟩:ByteArray)) (by kernel_rfl) (by kernel_rfl) c14) fun f35 hf35=>Sg 1 hf35 fun f36 hf36 => ?_
 obtain ⟨c15,h⟩:=as_ok h
 refine Ad (.bin .add (.k (.string ⟨#[44]⟩)) (.t 44)) (.s (.string ((⟨#[44]⟩:ByteArray)++r_1))) hf36 (e_sadd (t:=(⟨#[44]⟩:ByteArray)) (t':=r_1) (by kernel_rfl) (by kernel_rfl) c15) fun f37 hf37 => ?_
 obtain ⟨c16,h⟩:=as_ok h
 refine Ad (.bin .add (.t 45) (.k (.string ⟨#[43,43]⟩))) (.s (.string (((⟨#[44]⟩:ByteArray)++r_1)++(⟨#[43,43]⟩:ByteArray)))) hf37 (e_sadd (t:=((⟨#[44]⟩:ByteArray)++r_1)) (t':=(⟨#[43,43]⟩:ByteArray)) (by kernel_rfl) (by kernel_rfl) c16) fun f38 hf38=>Sg 1 hf38 fun f39 hf39 => ?_
 obtain ⟨c17,h⟩:=as_ok h
 refine Ad (.bin .add (.k (.string ⟨#[44,45]⟩)) (.t 47)) (.s (.string ((⟨#[44,45]⟩:ByteArray)++r_1))) hf39 (e_sadd (t:=(⟨#[44,45]⟩:ByteArray)) (t':=r_1) (by kernel_rfl) (by kernel_rfl) c17) fun f40 hf40=>Sg 1 hf40 fun f41 hf41 => ?_
 obtain ⟨c18,h⟩:=as_ok h
 refine Ad (.bin .add (.k (.string ⟨#[44,45,45]⟩)) (.t 49)) (.s (.string ((⟨#[44,45,45]⟩:ByteArray)++r_1))) hf41 (e_sadd (t:=(⟨#[44,45,45]⟩:ByteArray)) (t':=r_1) (by kernel_rfl) (by kernel_rfl) c18) fun f42 hf42=>Sg 1 hf42 fun f43 hf43 => ?_
 obtain ⟨r_5,hx_r_5,h⟩:=Bs h
 refine Cp (spinetref42_Signed_ok _ _ hx_r_5) hf43 fun f44 hf44 => ?_
 obtain ⟨c19,h⟩:=as_ok h
 refine Ad (.bin .add (.k (.string ⟨#[60]⟩)) (.t 52)) (.s (.string ((⟨#[60]⟩:ByteArray)++r_5))) hf44 (e_sadd (t:=(⟨#[60]⟩:ByteArray)) (t':=r_5) (by kernel_rfl) (by kernel_rfl) c19) fun f45 hf45 => ?_
 obtain ⟨c20,h⟩:=as_ok h
 refine Ad (.bin .add (.t 53) (.k (.string ⟨#[44,80,67]⟩))) (.s (.string (((⟨#[60]⟩:ByteArray)++r_5)++(⟨#[44,80,67]⟩:ByteArray)))) hf45 (e_sadd (t:=((⟨#[60]⟩:ByteArray)++r_5)) (t':=(⟨#[44,80,67]⟩:ByteArray)) (by kernel_rfl) (by kernel_rfl) c20) fun f46 hf46=>Sg 2 hf46 fun f47 hf47 => ?_
 obtain ⟨r_6,hx_r_6,h⟩:=Bs h
 refine Cp (spinetref42_Hex_ok _ _ _ hx_r_6) hf47 fun f48 hf48 => ?_
 obtain ⟨c21,h⟩:=as_ok h
 refine Ad (.bin .add (.k (.string ⟨#[62]⟩)) (.t 57)) (.s (.string ((⟨#[62]⟩:ByteArray)++r_6))) hf48 (e_sadd (t:=(⟨#[62]⟩:ByteArray)) (t':=r_6) (by kernel_rfl) (by kernel_rfl) c21) fun f49 hf49 => ?_
 obtain ⟨c22,h⟩:=as_ok h
 refine Ad (.bin .add (.t 58) (.k (.string ⟨#[44,80,67]⟩))) (.s (.string (((⟨#[62]⟩:ByteArray)++r_6)++(⟨#[44,80,67]⟩:ByteArray)))) hf49 (e_sadd (t:=((⟨#[62]⟩:ByteArray)++r_6)) (t':=(⟨#[44,80,67]⟩:ByteArray)) (by kernel_rfl) (by kernel_rfl) c22) fun f50 hf50=>Sg 2 hf50 fun f51 hf51 => ?_
 obtain ⟨r_7,hx_r_7,h⟩:=Bs h
 refine Cp (spinetref42_Hex_ok _ _ _ hx_r_7) hf51 fun f52 hf52=>mops_end [4,5,7] hf52 (l':=[⟨4,[],.s (.string (⟨#[]⟩:ByteArray))⟩,⟨5,[],.ptr 0 0 0⟩,⟨7,[],.ptr 1 0 0⟩]) (L':=[⟨0,.mem,1,[.s (.int .i64 r_.Kind),.s (.int .i64 r_.Reg),.s (.int .i64 r_.Off),.s (.bool r_.Indirect),.s (.int .i64 r_.Bytes),.s (.int .i64 r_.Idle)]⟩,⟨0,.mem,1,[.s (.string ((⟨#[44]⟩:ByteArray)++r_1)),.s (.string ((r_2++(⟨#[44]⟩:ByteArray))++r_1)),.s (.string ((((⟨#[60]⟩:ByteArray)++r_3)++(⟨#[44]⟩:ByteArray))++r_1)),.s (.string ((((⟨#[62]⟩:ByteArray)++r_4)++(⟨#[44]⟩:ByteArray))++r_1)),.s (.string ((⟨#[65,44]⟩:ByteArray)++r_1)),.s (.string ((⟨#[66,44]⟩:ByteArray)++r_1)),.s (.string ((⟨#[68,44]⟩:ByteArray)++r_1)),.s (.string (((⟨#[44]⟩:ByteArray)++r_1)++(⟨#[43]⟩:ByteArray))),.s (.string (((⟨#[44]⟩:ByteArray)++r_1)++(⟨#[43,43]⟩:ByteArray))),.s (.string ((⟨#[44,45]⟩:ByteArray)++r_1)),.s (.string ((⟨#[44,45,45]⟩:ByteArray)++r_1)),.s (.string (((⟨#[60]⟩:ByteArray)++r_5)++(⟨#[44,80,67]⟩:ByteArray))),.s (.string (((⟨#[62]⟩:ByteArray)++r_6)++(⟨#[44,80,67]⟩:ByteArray))),.s (.string r_7)]⟩]) (by kernel_rfl) fun f53 hf53=>Kc<|Kq<|Kq<|Kr<|En hf53 fun f54 hf54=>Kc<|Kf hf54 h (fun hc23 h => ?_) fun hc23 h => ?_
 ·refine Kq<|Kr<|Sg 2 hf54 fun f55 hf55 => ?_
  obtain ⟨c24,h⟩:=as_ok h
  refine Ad (.iaa 14 1 (.t 7) (.t 67)) (.ptr 1 0 (0+(r_.Kind:Int).toNat*1)) hf55 (e_iaa (n:=14) (xv:=.ptr 1 0 0) (k:=.i64) (iv:=r_.Kind) (p:=.ptr 1 0 (0+(r_.Kind:Int).toNat*1)) (by kernel_rfl) (by kernel_rfl) (by kernel_rfl) (by kernel_rfl) c24) fun f56 hf56=>Ad (.load false 1 (.t 68)) (.s (.string (gt [((⟨#[44]⟩:ByteArray)++r_1),((r_2++(⟨#[44]⟩:ByteArray))++r_1),((((⟨#[60]⟩:ByteArray)++r_3)++(⟨#[44]⟩:ByteArray))++r_1),((((⟨#[62]⟩:ByteArray)++r_4)++(⟨#[44]⟩:ByteArray))++r_1),((⟨#[65,44]⟩:ByteArray)++r_1),((⟨#[66,44]⟩:ByteArray)++r_1),((⟨#[68,44]⟩:ByteArray)++r_1),(((⟨#[44]⟩:ByteArray)++r_1)++(⟨#[43]⟩:ByteArray)),(((⟨#[44]⟩:ByteArray)++r_1)++(⟨#[43,43]⟩:ByteArray)),((⟨#[44,45]⟩:ByteArray)++r_1),((⟨#[44,45,45]⟩:ByteArray)++r_1),(((⟨#[60]⟩:ByteArray)++r_5)++(⟨#[44,80,67]⟩:ByteArray)),(((⟨#[62]⟩:ByteArray)++r_6)++(⟨#[44,80,67]⟩:ByteArray)),r_7] r_.Kind))) hf56 (e_load_pe (g:=nS) (l:=[((⟨#[44]⟩:ByteArray)++r_1),((r_2++(⟨#[44]⟩:ByteArray))++r_1),((((⟨#[60]⟩:ByteArray)++r_3)++(⟨#[44]⟩:ByteArray))++r_1),((((⟨#[62]⟩:ByteArray)++r_4)++(⟨#[44]⟩:ByteArray))++r_1),((⟨#[65,44]⟩:ByteArray)++r_1),((⟨#[66,44]⟩:ByteArray)++r_1),((⟨#[68,44]⟩:ByteArray)++r_1),(((⟨#[44]⟩:ByteArray)++r_1)++(⟨#[43]⟩:ByteArray)),(((⟨#[44]⟩:ByteArray)++r_1)++(⟨#[43,43]⟩:ByteArray)),((⟨#[44,45]⟩:ByteArray)++r_1),((⟨#[44,45,45]⟩:ByteArray)++r_1),(((⟨#[60]⟩:ByteArray)++r_5)++(⟨#[44,80,67]⟩:ByteArray)),(((⟨#[62]⟩:ByteArray)++r_6)++(⟨#[44,80,67]⟩:ByteArray)),r_7]) (iv:=r_.Kind) (kd:=.mem) (q:=1) (b:=1) (ver:=0) [] (by kernel_rfl) (live_mem (by kernel_rfl)) (arr_h (l:=[((⟨#[44]⟩:ByteArray)++r_1),((r_2++(⟨#[44]⟩:ByteArray))++r_1),((((⟨#[60]⟩:ByteArray)++r_3)++(⟨#[44]⟩:ByteArray))++r_1),((((⟨#[62]⟩:ByteArray)++r_4)++(⟨#[44]⟩:ByteArray))++r_1),((⟨#[65,44]⟩:ByteArray)++r_1),((⟨#[66,44]⟩:ByteArray)++r_1),((⟨#[68,44]⟩:ByteArray)++r_1),(((⟨#[44]⟩:ByteArray)++r_1)++(⟨#[43]⟩:ByteArray)),(((⟨#[44]⟩:ByteArray)++r_1)++(⟨#[43,43]⟩:ByteArray)),((⟨#[44,45]⟩:ByteArray)++r_1),((⟨#[44,45,45]⟩:ByteArray)++r_1),(((⟨#[60]⟩:ByteArray)++r_5)++(⟨#[44,80,67]⟩:ByteArray)),(((⟨#[62]⟩:ByteArray)++r_6)++(⟨#[44,80,67]⟩:ByteArray)),r_7]) c24 (by kernel_rfl)) (by kernel_rfl) (by kernel_rfl)) fun f57 hf57 => ?_
  obtain ⟨c25,h⟩:=as_ok h
  refine Ad (.bin .add (.k (.string ⟨#[91]⟩)) (.t 69)) (.s (.string ((⟨#[91]⟩:ByteArray)++(gt [((⟨#[44]⟩:ByteArray)++r_1),((r_2++(⟨#[44]⟩:ByteArray))++r_1),((((⟨#[60]⟩:ByteArray)++r_3)++(⟨#[44]⟩:ByteArray))++r_1),((((⟨#[62]⟩:ByteArray)++r_4)++(⟨#[44]⟩:ByteArray))++r_1),((⟨#[65,44]⟩:ByteArray)++r_1),((⟨#[66,44]⟩:ByteArray)++r_1),((⟨#[68,44]⟩:ByteArray)++r_1),(((⟨#[44]⟩:ByteArray)++r_1)++(⟨#[43]⟩:ByteArray)),(((⟨#[44]⟩:ByteArray)++r_1)++(⟨#[43,43]⟩:ByteArray)),((⟨#[44,45]⟩:ByteArray)++r_1),((⟨#[44,45,45]⟩:ByteArray)++r_1),(((⟨#[60]⟩:ByteArray)++r_5)++(⟨#[44,80,67]⟩:ByteArray)),(((⟨#[62]⟩:ByteArray)++r_6)++(⟨#[44,80,67]⟩:ByteArray)),r_7] r_.Kind)))) hf57 (e_sadd (t:=(⟨#[91]⟩:ByteArray)) (t':=(gt [((⟨#[44]⟩:ByteArray)++r_1),((r_2++(⟨#[44]⟩:ByteArray))++r_1),((((⟨#[60]⟩:ByteArray)++r_3)++(⟨#[44]⟩:ByteArray))++r_1),((((⟨#[62]⟩:ByteArray)++r_4)++(⟨#[44]⟩:ByteArray))++r_1),((⟨#[65,44]⟩:ByteArray)++r_1),((⟨#[66,44]⟩:ByteArray)++r_1),((⟨#[68,44]⟩:ByteArray)++r_1),(((⟨#[44]⟩:ByteArray)++r_1)++(⟨#[43]⟩:ByteArray)),(((⟨#[44]⟩:ByteArray)++r_1)++(⟨#[43,43]⟩:ByteArray)),((⟨#[44,45]⟩:ByteArray)++r_1),((⟨#[44,45,45]⟩:ByteArray)++r_1),(((⟨#[60]⟩:ByteArray)++r_5)++(⟨#[44,80,67]⟩:ByteArray)),(((⟨#[62]⟩:ByteArray)++r_6)++(⟨#[44,80,67]⟩:ByteArray)),r_7] r_.Kind)) (by kernel_rfl) (by kernel_rfl) c25) fun f58 hf58 => ?_
  obtain ⟨c26,h⟩:=as_ok h
  refine Ad (.bin .add (.t 70) (.k (.string ⟨#[93]⟩))) (.s (.string (((⟨#[91]⟩:ByteArray)++(gt [((⟨#[44]⟩:ByteArray)++r_1),((r_2++(⟨#[44]⟩:ByteArray))++r_1),((((⟨#[60]⟩:ByteArray)++r_3)++(⟨#[44]⟩:ByteArray))++r_1),((((⟨#[62]⟩:ByteArray)++r_4)++(⟨#[44]⟩:ByteArray))++r_1),((⟨#[65,44]⟩:ByteArray)++r_1),((⟨#[66,44]⟩:ByteArray)++r_1),((⟨#[68,44]⟩:ByteArray)++r_1),(((⟨#[44]⟩:ByteArray)++r_1)++(⟨#[43]⟩:ByteArray)),(((⟨#[44]⟩:ByteArray)++r_1)++(⟨#[43,43]⟩:ByteArray)),((⟨#[44,45]⟩:ByteArray)++r_1),((⟨#[44,45,45]⟩:ByteArray)++r_1),(((⟨#[60]⟩:ByteArray)++r_5)++(⟨#[44,80,67]⟩:ByteArray)),(((⟨#[62]⟩:ByteArray)++r_6)++(⟨#[44,80,67]⟩:ByteArray)),r_7] r_.Kind))++(⟨#[93]⟩:ByteArray)))) hf58 (e_sadd (t:=((⟨#[91]⟩:ByteArray)++(gt [((⟨#[44]⟩:ByteArray)++r_1),((r_2++(⟨#[44]⟩:ByteArray))++r_1),((((⟨#[60]⟩:ByteArray)++r_3)++(⟨#[44]⟩:ByteArray))++r_1),((((⟨#[62]⟩:ByteArray)++r_4)++(⟨#[44]⟩:ByteArray))++r_1),((⟨#[65,44]⟩:ByteArray)++r_1),((⟨#[66,44]⟩:ByteArray)++r_1),((⟨#[68,44]⟩:ByteArray)++r_1),(((⟨#[44]⟩:ByteArray)++r_1)++(⟨#[43]⟩:ByteArray)),(((⟨#[44]⟩:ByteArray)++r_1)++(⟨#[43,43]⟩:ByteArray)),((⟨#[44,45]⟩:ByteArray)++r_1),((⟨#[44,45,45]⟩:ByteArray)++r_1),(((⟨#[60]⟩:ByteArray)++r_5)++(⟨#[44,80,67]⟩:ByteArray)),(((⟨#[62]⟩:ByteArray)++r_6)++(⟨#[44,80,67]⟩:ByteArray)),r_7] r_.Kind))) (t':=(⟨#[93]⟩:ByteArray)) (by kernel_rfl) (by kernel_rfl) c26) fun f59 hf59=>En hf59 fun f60 hf60 => ?_
  obtain rfl:=Oi h
  exact Kc<|Kt<|Xc<|Fp hf60
 ·refine Ks<|Kc<|Kq<|Kr<|Sg 2 hf54 fun f55 hf55 => ?_
  obtain ⟨c27,h⟩:=as_ok h
  refine Ad (.iaa 14 1 (.t 7) (.t 73)) (.ptr 1 0 (0+(r_.Kind:Int).toNat*1)) hf55 (e_iaa (n:=14) (xv:=.ptr 1 0 0) (k:=.i64) (iv:=r_.Kind) (p:=.ptr 1 0 (0+(r_.Kind:Int).toNat*1)) (by kernel_rfl) (by kernel_rfl) (by kernel_rfl) (by kernel_rfl) c27) fun f56 hf56=>Ad (.load false 1 (.t 74)) (.s (.string (gt [((⟨#[44]⟩:ByteArray)++r_1),((r_2++(⟨#[44]⟩:ByteArray))++r_1),((((⟨#[60]⟩:ByteArray)++r_3)++(⟨#[44]⟩:ByteArray))++r_1),((((⟨#[62]⟩:ByteArray)++r_4)++(⟨#[44]⟩:ByteArray))++r_1),((⟨#[65,44]⟩:ByteArray)++r_1),((⟨#[66,44]⟩:ByteArray)++r_1),((⟨#[68,44]⟩:ByteArray)++r_1),(((⟨#[44]⟩:ByteArray)++r_1)++(⟨#[43]⟩:ByteArray)),(((⟨#[44]⟩:ByteArray)++r_1)++(⟨#[43,43]⟩:ByteArray)),((⟨#[44,45]⟩:ByteArray)++r_1),((⟨#[44,45,45]⟩:ByteArray)++r_1),(((⟨#[60]⟩:ByteArray)++r_5)++(⟨#[44,80,67]⟩:ByteArray)),(((⟨#[62]⟩:ByteArray)++r_6)++(⟨#[44,80,67]⟩:ByteArray)),r_7] r_.Kind))) hf56 (e_load_pe (g:=nS) (l:=[((⟨#[44]⟩:ByteArray)++r_1),((r_2++(⟨#[44]⟩:ByteArray))++r_1),((((⟨#[60]⟩:ByteArray)++r_3)++(⟨#[44]⟩:ByteArray))++r_1),((((⟨#[62]⟩:ByteArray)++r_4)++(⟨#[44]⟩:ByteArray))++r_1),((⟨#[65,44]⟩:ByteArray)++r_1),((⟨#[66,44]⟩:ByteArray)++r_1),((⟨#[68,44]⟩:ByteArray)++r_1),(((⟨#[44]⟩:ByteArray)++r_1)++(⟨#[43]⟩:ByteArray)),(((⟨#[44]⟩:ByteArray)++r_1)++(⟨#[43,43]⟩:ByteArray)),((⟨#[44,45]⟩:ByteArray)++r_1),((⟨#[44,45,45]⟩:ByteArray)++r_1),(((⟨#[60]⟩:ByteArray)++r_5)++(⟨#[44,80,67]⟩:ByteArray)),(((⟨#[62]⟩:ByteArray)++r_6)++(⟨#[44,80,67]⟩:ByteArray)),r_7]) (iv:=r_.Kind) (kd:=.mem) (q:=1) (b:=1) (ver:=0) [] (by kernel_rfl) (live_mem (by kernel_rfl)) (arr_h (l:=[((⟨#[44]⟩:ByteArray)++r_1),((r_2++(⟨#[44]⟩:ByteArray))++r_1),((((⟨#[60]⟩:ByteArray)++r_3)++(⟨#[44]⟩:ByteArray))++r_1),((((⟨#[62]⟩:ByteArray)++r_4)++(⟨#[44]⟩:ByteArray))++r_1),((⟨#[65,44]⟩:ByteArray)++r_1),((⟨#[66,44]⟩:ByteArray)++r_1),((⟨#[68,44]⟩:ByteArray)++r_1),(((⟨#[44]⟩:ByteArray)++r_1)++(⟨#[43]⟩:ByteArray)),(((⟨#[44]⟩:ByteArray)++r_1)++(⟨#[43,43]⟩:ByteArray)),((⟨#[44,45]⟩:ByteArray)++r_1),((⟨#[44,45,45]⟩:ByteArray)++r_1),(((⟨#[60]⟩:ByteArray)++r_5)++(⟨#[44,80,67]⟩:ByteArray)),(((⟨#[62]⟩:ByteArray)++r_6)++(⟨#[44,80,67]⟩:ByteArray)),r_7]) c27 (by kernel_rfl)) (by kernel_rfl) (by kernel_rfl)) fun f57 hf57=>En hf57 fun f58 hf58 => ?_
  obtain rfl:=Oi h
  exact Kc<|Kt<|Fp hf58
@[irreducible] noncomputable def i22:Nat→List Op1:=rg Tryz.prog 22 []
noncomputable def a22_0:IR:=(.seq (.block 1 (.seq (.reg false (i22 4)) (.cond (.t 29) (.seq (.reg false (i22 5)) .ret) .skip))) (.reg false (i22 6)))
noncomputable def a22_1:IR:=(.block 0 (.loop (.seq (.seq (.reg false (i22 3)) (.cond (.t 11) .skip (.exit 0))) a22_0)))
noncomputable def a22_2:IR:=(.seq (.reg false (i22 1)) (.seq (.seq (.reg false (i22 2)) a22_1) (.seq (.reg false (i22 7)) .ret)))
noncomputable def spinetref13_Name_ir:IR:=(.seq (.reg false (i22 0)) a22_2)
theorem spinetref13_Name_cfn:cFn Tryz.prog 22=some (spinetref13_Name_ir,[(.t 4)],35):=by kernel_rfl
def spinetref13_Name_V (r:(ByteArray)):V:=.s (.string r)
def spinetref13_Name_C (r:(ByteArray)):X→Fr→Hp→Prop:=FinL [(.t 4)] [] (spinetref13_Name_V r) []
theorem spinetref13_Name_ok (op_:Int) (reg_:Int) (r:(ByteArray)) (h:spinetref13_Name op_ reg_=some r):Pure Tryz.prog 22 [.s (.int .i64 op_),.s (.int .i64 reg_)] (spinetref13_Name_V r):=by
 refine CS spinetref13_Name_cfn (spinetref13_Name_C r) fun f hf => ?_
 unfold spinetref13_Name at h
 refine Kq<|Kr<|En hf fun f1 hf1=>Kc<|Kq<|Kr ?_
 obtain ⟨r_,hx_r_,h⟩:=Bs h
 refine Ca hf1 (av:=[]) (v:=.sl false r_.length (cat spinetref13_Row.v r_)) (CalL.pure (spinetref13_Rows_ok  r_ hx_r_) rfl (by simp [V.static,statics,cat_stat,spinetref13_Rows_V]) (Nat.le_of_ble_eq_true (by kernel_rfl))) (fun _=>rfl) fun f2 hf2=>En hf2 fun f3 hf3=>Kc<|Kq<|Kq<|Kr<|En hf3 fun f4 hf4=>Kc<|Kb ?_
 obtain ⟨o0,hx0,h⟩:=Bs h
 have hret0:∀ r0,.ret r0=o0→r0=r:=fun r0 e=>by subst e; exact Option.some.inj h
 have hgo0:.go ()=o0→∀ f,FOk f [⟨4,[],.s (.string (⟨#[]⟩:ByteArray))⟩]→kont Tryz.prog [] (spinetref13_Name_C r) ((.c (.seq (.reg false (i22 7)) .ret))::[]) .normal f []:=by
  intro  e f hf
  subst e
  refine Kc<|Kq<|Kr<|En hf fun f1 hf1 => ?_
  obtain rfl:=Oi h
  exact Kc<|Kt<|Fp hf1
 refine k_loop BIG<|loop_ind (fun n f L=>∃ (i_1:Int),spinetref13_Name_l0 op_ reg_ r_ n i_1=some o0∧FOk f [⟨0,[],.s (.int .i64 op_)⟩,⟨1,[],.s (.int .i64 reg_)⟩,⟨4,[],.s (.string (⟨#[]⟩:ByteArray))⟩,⟨5,[],.sl false r_.length (cat spinetref13_Row.v r_)⟩,⟨6,[],.s (.int .i64 i_1)⟩]∧L=[]) ?_ ?_ BIG _ _ ⟨(0),hx0,FOk_of [0,1,4,5,6] hf4 (by kernel_rfl),(by kernel_rfl)⟩
 ·rintro f L ⟨i_1,h,_⟩
  cases (show (none:Option _)=some _ from h)
 ·rintro n0 R0 ih f L ⟨i_1,h,hf,rfl⟩
  rw [spinetref13_Name_l0] at h
  refine Kq<|Kq<|Kr<|En hf fun f1 hf1=>Kc<|Kf hf1 h (fun hc1 h => ?_) fun hc1 h => ?_
  ·refine Ks<|Kc<|Kq<|Kb<|Kq<|Kr<|Sg 2 hf1 fun f2 hf2 => ?_
   obtain ⟨c2,h⟩:=as_ok h
   refine Ad (.ias 3 (.t 14) (.t 15)) (.ip ((cat spinetref13_Row.v r_).drop ((i_1:Int).toNat*3))) hf2 (e_ias (n:=r_.length) (xv:=.sl false r_.length (cat spinetref13_Row.v r_)) (k:=.i64) (iv:=i_1) (p:=.ip ((cat spinetref13_Row.v r_).drop ((i_1:Int).toNat*3))) (by kernel_rfl) (by kernel_rfl) (by kernel_rfl) (by kernel_rfl) c2) fun f3 hf3=>Sg 1 hf3 fun f4 hf4=>Ad (.load false 1 (.t 17)) (.s (.int .i64 (gt r_ i_1).Op)) hf4 (e_load_ip (g:=spinetref13_Row.v) (l:=r_) (iv:=i_1) [1] (by kernel_rfl) c2 (by kernel_rfl) (by kernel_rfl)) fun f5 hf5=>Sg 5 hf5 fun f6 hf6 => ?_
   obtain ⟨c3,h⟩:=as_ok h
   refine mops_gadv (dst:=(some 24)) (op:=(.ias 3 (.t 22) (.t 23))) (aft:=[8,9,7]) (t:=21) (w:=true) (ch:=[(21,true)]) (b:=((gt r_ i_1).Op == op_)) (v:=.ip ((cat spinetref13_Row.v r_).drop ((i_1:Int).toNat*3))) (by kernel_rfl) hf6 (by kernel_rfl) (by kernel_rfl) (by kernel_rfl) (fun hb4=>e_ias (n:=r_.length) (xv:=.sl false r_.length (cat spinetref13_Row.v r_)) (k:=.i64) (iv:=i_1) (p:=.ip ((cat spinetref13_Row.v r_).drop ((i_1:Int).toNat*3))) (by kernel_rfl) (by kernel_rfl) (by kernel_rfl) (by kernel_rfl) (c3 hb4)) fun f7 hf7=>Sg 1 hf7 fun f8 hf8=>mops_gadv (dst:=(some 26)) (op:=(.load false 1 (.t 25))) (aft:=[11,7]) (t:=21) (w:=true) (ch:=[(21,true)]) (b:=((gt r_ i_1).Op == op_)) (v:=.s (.int .i64 (gt r_ i_1).Reg)) (by kernel_rfl) hf8 (by kernel_rfl) (by kernel_rfl) (by kernel_rfl) (fun hb5=>e_load_ip (g:=spinetref13_Row.v) (l:=r_) (iv:=i_1) [2] (by kernel_rfl) (c3 hb5) (by kernel_rfl) (by kernel_rfl)) fun f9 hf9=>En hf9 fun f10 hf10=>Kc<|Kf hf10 h (fun hc6 h => ?_) fun hc6 h => ?_
   ·refine Kq<|Kr<|Sg 2 hf10 fun f11 hf11 => ?_
    obtain ⟨c7,h⟩:=as_ok h
    refine Ad (.ias 3 (.t 30) (.t 31)) (.ip ((cat spinetref13_Row.v r_).drop ((i_1:Int).toNat*3))) hf11 (e_ias (n:=r_.length) (xv:=.sl false r_.length (cat spinetref13_Row.v r_)) (k:=.i64) (iv:=i_1) (p:=.ip ((cat spinetref13_Row.v r_).drop ((i_1:Int).toNat*3))) (by kernel_rfl) (by kernel_rfl) (by kernel_rfl) (by kernel_rfl) c7) fun f12 hf12=>Sg 1 hf12 fun f13 hf13=>Ad (.load false 1 (.t 33)) (.s (.string (gt r_ i_1).Name)) hf13 (e_load_ip (g:=spinetref13_Row.v) (l:=r_) (iv:=i_1) [0] (by kernel_rfl) c7 (by kernel_rfl) (by kernel_rfl)) fun f14 hf14=>En hf14 fun f15 hf15=>Kc<|Kt<|Xr<|Xc<|Xl<|Xr<|Xc ?_
    obtain rfl:=hret0 _ (Option.some.inj h)
    exact Fp hf15
   ·exact Ks<|Kv<|Kc<|Kr<|En hf10 fun f11 hf11=>Kl<|ih _ _ ⟨(IntKind.wrap .i64 (i_1+1)),h,FOk_of [0,1,4,5,6] hf11 (by kernel_rfl),(by kernel_rfl)⟩
  ·exact Kx<|Xc<|Xl<|Xb<|Kh (hgo0  (Option.some.inj h) _ (Of [4] hf1))
end Go.Proofs.YtfcegejpdlbkdaaGreatK
