/- The Go functions come to the functions over typed data. Printed by a program of this work. -/
import Derived.Test.YtfcegejpdlbkdaaGreatF
import Derived.Test.YtfcegejpdlbkdaaGreatProg
import Derived.Test.YtfcegejpdlbkdaaGreatRp
import Derived.Test.YtfcegejpdlbkdaaGreatG0
namespace Go.Proofs.YtfcegejpdlbkdaaGreatK
set_option linter.unusedVariables false
set_option linter.unusedSimpArgs false
set_option maxHeartbeats 4000000
open Go.RowKit
attribute [local irreducible] dwv mops lops lqops lwops kont iter run runK rk okK ex E1 vals val chain chB sel resF
@[irreducible] noncomputable def i62:Nat→List Op1:=rg Tryz.prog 62 []
noncomputable def a62_0:IR:=(.cond (.t 26) (.reg false (i62 8)) (.seq (.reg false (i62 9)) (.cond (.t 30) (.reg false (i62 10)) .skip)))
noncomputable def a62_1:IR:=(.block 0 (.seq (.seq (.reg false (i62 6)) (.cond (.t 26) .skip (.reg false (i62 7)))) a62_0))
noncomputable def a62_2:IR:=(.seq (.reg false (i62 4)) (.seq (.seq (.reg false (i62 5)) a62_1) (.seq (.reg false (i62 11)) .ret)))
noncomputable def a62_3:IR:=(.seq (.seq (.reg false (i62 2)) (.cond (.t 11) (.seq (.reg false (i62 3)) .ret) .skip)) a62_2)
noncomputable def post_Of_ir:IR:=(.seq (.reg false (i62 0)) (.seq (.reg false (i62 1)) a62_3))
theorem post_Of_cfn:cFn Tryz.prog 62=some (post_Of_ir,[(.c 2 true 4)],35):=by kernel_rfl
def post_Of_V (r:(post_Post)):V:=.agg [.s (.int .i64 r.Kind),.s (.int .i64 r.Reg),.s (.int .u16 r.Off),.s (.bool r.Indirect)]
def post_Of_C (r:(post_Post)):X→Fr→Hp→Prop:=FinL [(.c 2 true 4)] [] (post_Of_V r) []
theorem post_Of_ok (b_:Int) (r:(post_Post)) (h:post_Of b_=some r):Pure Tryz.prog 62 [.s (.int .u8 b_)] (post_Of_V r):=by
 refine CS post_Of_cfn (post_Of_C r) fun f hf => ?_
 unfold post_Of at h
 refine Kq<|Kr<|En hf fun f1 hf1=>Kc<|Kq<|Kr<|En hf1 fun f2 hf2=>Kc<|Kq<|Kq<|Kr<|En hf2 fun f3 hf3=>Kc<|Kf hf3 h (fun hc1 h => ?_) fun hc1 h => ?_
 ·refine Kq<|Kr<|Sg 2 hf3 fun f4 hf4 => ?_
  obtain ⟨r_,hx_r_,h⟩:=Bs h
  refine Cp (octet_Sign5_ok _ _ hx_r_) hf4 fun f5 hf5=>En hf5 fun f6 hf6 => ?_
  obtain rfl:=Oi h
  exact Kc<|Kt<|Xc<|Fp hf6
 ·refine Ks<|Kc<|Kq<|Kr<|Sg 2 hf3 fun f4 hf4 => ?_
  obtain ⟨r_1,hx_r_1,h⟩:=Bs h
  refine Cp (post_kind_ok _ _ hx_r_1) hf4 fun f5 hf5=>En hf5 fun f6 hf6=>Kc<|Kq<|Kq<|Kr<|En hf6 fun f7 hf7=>Kc<|Kb<|Kq<|Kq<|Kr<|En hf7 fun f8 hf8=>Kc ?_
  have hj1:∀ (t_:Bool),post_Of_j0 b_ r_1 t_=some r→∀ f,FOk f [⟨2,[],.ptr 0 0 0⟩,⟨4,[],.ptr 1 0 0⟩,⟨25,[],.s (.int .i64 r_1)⟩,⟨26,[],.s (.bool t_)⟩]→kont Tryz.prog [] (post_Of_C r) ((.c a62_0)::(.b 0)::(.c (.seq (.reg false (i62 11)) .ret))::[]) .normal f [⟨0,.mem,1,[.s (.int .i64 0),.s (.int .i64 0),.s (.int .u16 0),.s (.bool false)]⟩,⟨0,.mem,1,[.s (.int .i64 r_1),.s (.int .i64 (IntKind.wrap .i64 (1+(IntKind.wrap .i64 (bits .and .u8 (Int.fdiv b_ (2 ^ (5))) 3))))),.s (.int .u16 0),.s (.bool ((bits .and .u8 b_ 16) != 0))]⟩]:=by
   intro t_ h f hf
   unfold post_Of_j0 at h
   refine Kc<|Kf hf h (fun hc3 h => ?_) fun hc3 h => ?_
   ·refine Kr<|En hf fun f1 hf1=>Kv<|Kc<|Kq<|Kr<|En hf1 fun f2 hf2 => ?_
    obtain rfl:=Oi h
    exact Kc<|Kt<|Fp hf2
   ·refine Kq<|Kr<|En hf fun f1 hf1=>Kc<|Kf hf1 h (fun hc4 h => ?_) fun hc4 h => ?_
    ·refine Kr<|En hf1 fun f2 hf2=>Kv<|Kc<|Kq<|Kr<|En hf2 fun f3 hf3 => ?_
     obtain rfl:=Oi h
     exact Kc<|Kt<|Fp hf3
    ·refine Ks<|Kv<|Kc<|Kq<|Kr<|En hf1 fun f2 hf2 => ?_
     obtain rfl:=Oi h
     exact Kc<|Kt<|Fp hf2
  refine Kf hf8 h (fun hc2 h => ?_) fun hc2 h => ?_
  ·exact Ks<|Kh (hj1 (r_1 == 11) h _ (Of [2,4,25,26] hf8))
  ·exact Kr<|En hf8 fun f9 hf9=>Kh (hj1 (r_1 == 12) h _ (Of [2,4,25,26] hf9))
@[irreducible] noncomputable def i96:Nat→List Op1:=rg Tryz.prog 96 []
noncomputable def a96_0:IR:=(.seq (.seq (.reg false (i96 3)) (.seq (.reg false (i96 4)) (.cond (.t 13) (.seq (.reg false (i96 5)) .ret) .skip))) (.seq (.reg false (i96 6)) .ret))
noncomputable def a96_1:IR:=(.seq (.seq (.reg false (i96 1)) (.cond (.t 7) (.seq (.reg false (i96 2)) .ret) .skip)) a96_0)
noncomputable def page_memory_ir:IR:=(.seq (.reg false (i96 0)) a96_1)
theorem page_memory_cfn:cFn Tryz.prog 96=some (page_memory_ir,[(.c 4 true 3)],18):=by kernel_rfl
def page_memory_V (r:(api_Entry)):V:=.agg [.s (.int .i64 r.Op),.s (.int .i64 r.Mode),.s (.int .i64 r.Reg)]
def page_memory_C (r:(api_Entry)):X→Fr→Hp→Prop:=FinL [(.c 4 true 3)] [] (page_memory_V r) []
theorem page_memory_ok (low_:Int) (mode_:Int) (r:(api_Entry)) (h:page_memory low_ mode_=some r):Pure Tryz.prog 96 [.s (.int .u8 low_),.s (.int .i64 mode_)] (page_memory_V r):=by
 refine CS page_memory_cfn (page_memory_C r) fun f hf => ?_
 unfold page_memory at h
 refine Kq<|Kr<|En hf fun f1 hf1=>Kc<|Kq<|Kq<|Kr<|En hf1 fun f2 hf2=>Kc<|Kf hf2 h (fun hc1 h => ?_) fun hc1 h => ?_
 ·refine Kq<|Kr<|En hf2 fun f3 hf3 => ?_
  obtain rfl:=Oi h
  exact Kc<|Kt<|Xc<|Fp hf3
 ·refine Ks<|Kc<|Kq<|Kq<|Kr<|Sg 1 hf2 fun f3 hf3 => ?_
  obtain ⟨r_,hx_r_,h⟩:=Bs h
  refine Cp (page_change_ok _ _ hx_r_) hf3 fun f4 hf4=>En hf4 fun f5 hf5=>Kc<|Kq<|Kr<|En hf5 fun f6 hf6=>Kc<|Kf hf6 h (fun hc2 h => ?_) fun hc2 h => ?_
  ·refine Kq<|Kr<|En hf6 fun f7 hf7 => ?_
   obtain rfl:=Oi h
   exact Kc<|Kt<|Xc<|Fp hf7
  ·refine Ks<|Kc<|Kq<|Kr<|En hf6 fun f7 hf7 => ?_
   obtain rfl:=Oi h
   exact Kc<|Kt<|Fp hf7
@[irreducible] noncomputable def i99:Nat→List Op1:=rg Tryz.prog 99 []
noncomputable def a99_0:IR:=(.seq (.seq (.reg false (i99 1)) (.seq (.reg false (i99 2)) (.cond (.t 9) (.seq (.reg false (i99 3)) .ret) .skip))) (.seq (.reg false (i99 4)) .ret))
noncomputable def page_inside_ir:IR:=(.seq (.reg false (i99 0)) a99_0)
theorem page_inside_cfn:cFn Tryz.prog 99=some (page_inside_ir,[(.c 4 true 3)],14):=by kernel_rfl
def page_inside_V (r:(api_Entry)):V:=.agg [.s (.int .i64 r.Op),.s (.int .i64 r.Mode),.s (.int .i64 r.Reg)]
def page_inside_C (r:(api_Entry)):X→Fr→Hp→Prop:=FinL [(.c 4 true 3)] [] (page_inside_V r) []
theorem page_inside_ok (low_:Int) (reg_:Int) (r:(api_Entry)) (h:page_inside low_ reg_=some r):Pure Tryz.prog 99 [.s (.int .u8 low_),.s (.int .i64 reg_)] (page_inside_V r):=by
 refine CS page_inside_cfn (page_inside_C r) fun f hf => ?_
 unfold page_inside at h
 refine Kq<|Kr<|En hf fun f1 hf1=>Kc<|Kq<|Kq<|Kr<|Sg 1 hf1 fun f2 hf2 => ?_
 obtain ⟨r_,hx_r_,h⟩:=Bs h
 refine Cp (page_change_ok _ _ hx_r_) hf2 fun f3 hf3=>En hf3 fun f4 hf4=>Kc<|Kq<|Kr<|En hf4 fun f5 hf5=>Kc<|Kf hf5 h (fun hc1 h => ?_) fun hc1 h => ?_
 ·refine Kq<|Kr<|En hf5 fun f6 hf6 => ?_
  obtain rfl:=Oi h
  exact Kc<|Kt<|Xc<|Fp hf6
 ·refine Ks<|Kc<|Kq<|Kr<|En hf5 fun f6 hf6 => ?_
  obtain rfl:=Oi h
  exact Kc<|Kt<|Fp hf6
@[irreducible] noncomputable def i100:Nat→List Op1:=rg Tryz.prog 100 []
noncomputable def a100_0:IR:=(.seq (.seq (.reg false (i100 6)) (.cond (.t 23) (.seq (.reg false (i100 7)) .ret) .skip)) (.seq (.reg false (i100 8)) .ret))
noncomputable def a100_1:IR:=(.cond (.t 15) (.seq (.seq (.reg false (i100 4)) (.cond (.t 21) (.seq (.reg false (i100 5)) .ret) .skip)) a100_0) .skip)
noncomputable def a100_2:IR:=(.cond (.t 40) (.seq (.reg false (i100 16)) .ret) (.seq (.reg false (i100 17)) (.cond (.t 44) (.seq (.reg false (i100 18)) .ret) .skip)))
noncomputable def a100_3:IR:=(.cond (.t 32) (.seq (.reg false (i100 12)) .ret) (.seq (.reg false (i100 13)) (.cond (.t 36) (.seq (.reg false (i100 14)) .ret) (.seq (.reg false (i100 15)) a100_2))))
noncomputable def a100_4:IR:=(.cond (.t 30) (.seq (.seq (.reg false (i100 10)) (.block 0 (.seq (.reg false (i100 11)) a100_3))) (.seq (.reg false (i100 19)) .ret)) .skip)
noncomputable def a100_5:IR:=(.cond (.t 59) (.seq (.reg false (i100 26)) .ret) (.seq (.reg false (i100 27)) (.cond (.t 63) (.seq (.reg false (i100 28)) .ret) .skip)))
noncomputable def a100_6:IR:=(.cond (.t 51) (.seq (.reg false (i100 22)) .ret) (.seq (.reg false (i100 23)) (.cond (.t 55) (.seq (.reg false (i100 24)) .ret) (.seq (.reg false (i100 25)) a100_5))))
noncomputable def a100_7:IR:=(.seq (.seq (.reg false (i100 29)) (.cond (.t 68) (.seq (.reg false (i100 30)) .ret) .skip)) (.seq (.reg false (i100 31)) .ret))
noncomputable def a100_8:IR:=(.seq (.seq (.reg false (i100 20)) (.block 1 (.seq (.reg false (i100 21)) a100_6))) a100_7)
noncomputable def a100_9:IR:=(.seq (.seq (.reg false (i100 2)) (.seq (.reg false (i100 3)) a100_1)) (.seq (.seq (.reg false (i100 9)) a100_4) a100_8))
noncomputable def page_columns_ir:IR:=(.seq (.reg false (i100 0)) (.seq (.reg false (i100 1)) a100_9))
theorem page_columns_cfn:cFn Tryz.prog 100=some (page_columns_ir,[(.c 4 true 3)],72):=by kernel_rfl
def page_columns_V (r:(api_Entry)):V:=.agg [.s (.int .i64 r.Op),.s (.int .i64 r.Mode),.s (.int .i64 r.Reg)]
def page_columns_C (r:(api_Entry)):X→Fr→Hp→Prop:=FinL [(.c 4 true 3)] [] (page_columns_V r) []
theorem page_columns_ok (high_:Int) (low_:Int) (r:(api_Entry)) (h:page_columns high_ low_=some r):Pure Tryz.prog 100 [.s (.int .u8 high_),.s (.int .u8 low_)] (page_columns_V r):=by
 refine CS page_columns_cfn (page_columns_C r) fun f hf => ?_
 unfold page_columns at h
 refine Kq<|Kr<|En hf fun f1 hf1=>Kc<|Kq<|Kr<|Sg 1 hf1 fun f2 hf2 => ?_
 obtain ⟨r_,hx_r_,h⟩:=Bs h
 refine Cp (page_column_ok _ _ hx_r_) hf2 fun f3 hf3=>En hf3 fun f4 hf4=>Kc<|Kq<|Kq<|Kr<|Sg 1 hf4 fun f5 hf5 => ?_
 obtain ⟨r_1,hx_r_1,h⟩:=Bs h
 refine Cp (page_eight_ok _ _ hx_r_1) hf5 fun f6 hf6=>En hf6 fun f7 hf7=>Kc<|Kq<|Kr<|En hf7 fun f8 hf8=>Kc<|Kf hf8 h (fun hc1 h => ?_) fun hc1 h => ?_
 ·refine Kq<|Kq<|Kr<|En hf8 fun f9 hf9=>Kc<|Kf hf9 h (fun hc2 h => ?_) fun hc2 h => ?_
  ·refine Kq<|Kr<|En hf9 fun f10 hf10 => ?_
   obtain rfl:=Oi h
   exact Kc<|Kt<|Xc<|Xc<|Fp hf10
  ·refine Ks<|Kc<|Kq<|Kq<|Kr<|En hf9 fun f10 hf10=>Kc<|Kf hf10 h (fun hc3 h => ?_) fun hc3 h => ?_
   ·refine Kq<|Kr<|En hf10 fun f11 hf11 => ?_
    obtain rfl:=Oi h
    exact Kc<|Kt<|Xc<|Xc<|Fp hf11
   ·refine Ks<|Kc<|Kq<|Kr<|En hf10 fun f11 hf11 => ?_
    obtain rfl:=Oi h
    exact Kc<|Kt<|Xc<|Fp hf11
 ·refine Ks<|Kc<|Kq<|Kq<|Kr<|En hf8 fun f9 hf9=>Kc<|Kf hf9 h (fun hc4 h => ?_) fun hc4 h => ?_
  ·refine Kq<|Kq<|Kr<|En hf9 fun f10 hf10=>Kc<|Kb<|Kq<|Kr<|En hf10 fun f11 hf11=>Kc<|Kf hf11 h (fun hc5 h => ?_) fun hc5 h => ?_
   ·refine Kq<|Kr<|Sg 1 hf11 fun f12 hf12 => ?_
    obtain ⟨r_2,hx_r_2,h⟩:=Bs h
    refine Cp (page_wide_ok _ _ _ _ hx_r_2) hf12 fun f13 hf13=>En hf13 fun f14 hf14 => ?_
    obtain rfl:=Oi h
    exact Kc<|Kt<|Xr<|Xc<|Xc<|Fp hf14
   ·refine Kq<|Kr<|En hf11 fun f12 hf12=>Kc<|Kf hf12 h (fun hc6 h => ?_) fun hc6 h => ?_
    ·refine Kq<|Kr<|Sg 1 hf12 fun f13 hf13 => ?_
     obtain ⟨r_3,hx_r_3,h⟩:=Bs h
     refine Cp (page_wide_ok _ _ _ _ hx_r_3) hf13 fun f14 hf14=>En hf14 fun f15 hf15 => ?_
     obtain rfl:=Oi h
     exact Kc<|Kt<|Xr<|Xc<|Xc<|Fp hf15
    ·refine Kq<|Kr<|En hf12 fun f13 hf13=>Kc<|Kf hf13 h (fun hc7 h => ?_) fun hc7 h => ?_
     ·refine Kq<|Kr<|Sg 1 hf13 fun f14 hf14 => ?_
      obtain ⟨r_4,hx_r_4,h⟩:=Bs h
      refine Cp (page_wide_ok _ _ _ _ hx_r_4) hf14 fun f15 hf15=>En hf15 fun f16 hf16 => ?_
      obtain rfl:=Oi h
      exact Kc<|Kt<|Xr<|Xc<|Xc<|Fp hf16
     ·refine Kq<|Kr<|En hf13 fun f14 hf14=>Kc<|Kf hf14 h (fun hc8 h => ?_) fun hc8 h => ?_
      ·refine Kq<|Kr<|Sg 1 hf14 fun f15 hf15 => ?_
       obtain ⟨r_5,hx_r_5,h⟩:=Bs h
       refine Cp (page_wide_ok _ _ _ _ hx_r_5) hf15 fun f16 hf16=>En hf16 fun f17 hf17 => ?_
       obtain rfl:=Oi h
       exact Kc<|Kt<|Xr<|Xc<|Xc<|Fp hf17
      ·refine Ks<|Kv<|Kc<|Kq<|Kr<|Sg 1 hf14 fun f15 hf15 => ?_
       obtain ⟨r_6,hx_r_6,h⟩:=Bs h
       refine Cp (page_wide_ok _ _ _ _ hx_r_6) hf15 fun f16 hf16=>En hf16 fun f17 hf17 => ?_
       obtain rfl:=Oi h
       exact Kc<|Kt<|Xc<|Fp hf17
  ·refine Ks<|Kc<|Kq<|Kq<|Kr<|En hf9 fun f10 hf10=>Kc<|Kb<|Kq<|Kr<|En hf10 fun f11 hf11=>Kc<|Kf hf11 h (fun hc9 h => ?_) fun hc9 h => ?_
   ·refine Kq<|Kr<|Sg 1 hf11 fun f12 hf12 => ?_
    obtain ⟨r_7,hx_r_7,h⟩:=Bs h
    refine Cp (page_wide_ok _ _ _ _ hx_r_7) hf12 fun f13 hf13=>En hf13 fun f14 hf14 => ?_
    obtain rfl:=Oi h
    exact Kc<|Kt<|Xr<|Xc<|Fp hf14
   ·refine Kq<|Kr<|En hf11 fun f12 hf12=>Kc<|Kf hf12 h (fun hc10 h => ?_) fun hc10 h => ?_
    ·refine Kq<|Kr<|Sg 1 hf12 fun f13 hf13 => ?_
     obtain ⟨r_8,hx_r_8,h⟩:=Bs h
     refine Cp (page_wide_ok _ _ _ _ hx_r_8) hf13 fun f14 hf14=>En hf14 fun f15 hf15 => ?_
     obtain rfl:=Oi h
     exact Kc<|Kt<|Xr<|Xc<|Fp hf15
    ·refine Kq<|Kr<|En hf12 fun f13 hf13=>Kc<|Kf hf13 h (fun hc11 h => ?_) fun hc11 h => ?_
     ·refine Kq<|Kr<|Sg 1 hf13 fun f14 hf14 => ?_
      obtain ⟨r_9,hx_r_9,h⟩:=Bs h
      refine Cp (page_wide_ok _ _ _ _ hx_r_9) hf14 fun f15 hf15=>En hf15 fun f16 hf16 => ?_
      obtain rfl:=Oi h
      exact Kc<|Kt<|Xr<|Xc<|Fp hf16
     ·refine Kq<|Kr<|En hf13 fun f14 hf14=>Kc<|Kf hf14 h (fun hc12 h => ?_) fun hc12 h => ?_
      ·refine Kq<|Kr<|Sg 1 hf14 fun f15 hf15 => ?_
       obtain ⟨r_10,hx_r_10,h⟩:=Bs h
       refine Cp (page_wide_ok _ _ _ _ hx_r_10) hf15 fun f16 hf16=>En hf16 fun f17 hf17 => ?_
       obtain rfl:=Oi h
       exact Kc<|Kt<|Xr<|Xc<|Fp hf17
      ·refine Ks<|Kv<|Kc<|Kq<|Kq<|Kr<|En hf14 fun f15 hf15=>Kc<|Kf hf15 h (fun hc13 h => ?_) fun hc13 h => ?_
       ·refine Kq<|Kr<|En hf15 fun f16 hf16 => ?_
        obtain rfl:=Oi h
        exact Kc<|Kt<|Xc<|Fp hf16
       ·refine Ks<|Kc<|Kq<|Kr<|En hf15 fun f16 hf16 => ?_
        obtain rfl:=Oi h
        exact Kc<|Kt<|Fp hf16
@[irreducible] noncomputable def i83:Nat→List Op1:=rg Tryz.prog 83 []
noncomputable def a83_0:IR:=(.cond (.t 75) (.seq (.reg false (i83 13)) .ret) (.seq (.reg false (i83 14)) (.cond (.t 85) (.seq (.reg false (i83 15)) .ret) .skip)))
noncomputable def a83_1:IR:=(.cond (.t 47) (.seq (.reg false (i83 9)) .ret) (.seq (.reg false (i83 10)) (.cond (.t 61) (.seq (.reg false (i83 11)) .ret) (.seq (.reg false (i83 12)) a83_0))))
noncomputable def a83_2:IR:=(.cond (.t 19) (.seq (.reg false (i83 5)) .ret) (.seq (.reg false (i83 6)) (.cond (.t 33) (.seq (.reg false (i83 7)) .ret) (.seq (.reg false (i83 8)) a83_1))))
noncomputable def a83_3:IR:=(.seq (.block 0 (.seq (.reg false (i83 2)) (.cond (.t 9) (.seq (.reg false (i83 3)) .ret) (.seq (.reg false (i83 4)) a83_2)))) (.seq (.reg false (i83 16)) .ret))
noncomputable def page_second_ir:IR:=(.seq (.reg false (i83 0)) (.seq (.reg false (i83 1)) a83_3))
theorem page_second_cfn:cFn Tryz.prog 83=some (page_second_ir,[(.c 2 true 3)],96):=by kernel_rfl
def page_second_V (r:(api_Entry)):V:=.agg [.s (.int .i64 r.Op),.s (.int .i64 r.Mode),.s (.int .i64 r.Reg)]
def page_second_C (r:(api_Entry)):X→Fr→Hp→Prop:=FinL [(.c 2 true 3)] [] (page_second_V r) []
abbrev k83_0:List V:=[.s (.int .i64 0),.s (.int .i64 0),.s (.int .i64 0)]
theorem page_second_ok (code_:Int) (r:(api_Entry)) (h:page_second code_=some r):Pure Tryz.prog 83 [.s (.int .u8 code_)] (page_second_V r):=by
 refine CS page_second_cfn (page_second_C r) fun f hf => ?_
 unfold page_second at h
 refine Kq<|Kr<|En hf fun f1 hf1=>Kc<|Kq<|Kr<|En hf1 fun f2 hf2=>Kc<|Kq<|Kb<|Kq<|Kr<|En hf2 fun f3 hf3=>Kc<|Kf hf3 h (fun hc1 h => ?_) fun hc1 h => ?_
 ·refine Kq<|Kr<|En hf3 fun f4 hf4 => ?_
  obtain rfl:=Oi h
  exact Kc<|Kt<|Xr<|Xc<|Fp hf4
 ·refine Kq<|Kr<|En hf3 fun f4 hf4=>Kc<|Kf hf4 h (fun hc2 h => ?_) fun hc2 h => ?_
  ·refine Kq<|Kr<|Sg 1 hf4 fun f5 hf5 => ?_
   obtain ⟨r_,hx_r_,h⟩:=Bs h
   refine Cp (page_column_ok _ _ hx_r_) hf5 fun f6 hf6 => ?_
   obtain ⟨r_1,hx_r_1,h⟩:=Bs h
   refine Cp (page_wide_ok _ _ _ _ hx_r_1) hf6 fun f7 hf7=>En hf7 fun f8 hf8 => ?_
   obtain rfl:=Oi h
   exact Kc<|Kt<|Xr<|Xc<|Fp hf8
  ·refine Kq<|Kr<|En hf4 fun f5 hf5=>Kc<|Kf hf5 h (fun hc3 h => ?_) fun hc3 h => ?_
   ·refine Kq<|Kr<|mops_seg [2,44] 1 hf5 (l':=[⟨2,[],.ptr 0 0 0⟩,⟨44,[],.s (.int .u8 (Int.fdiv code_ (2 ^ (4))))⟩]) (L':=[⟨0,.mem,1,k83_0⟩]) (by kernel_rfl) fun f6 hf6 => ?_
    obtain ⟨r_2,hx_r_2,h⟩:=Bs h
    refine Cp (page_column_ok _ _ hx_r_2) hf6 fun f7 hf7 => ?_
    obtain ⟨r_3,hx_r_3,h⟩:=Bs h
    refine Cp (page_wide_ok _ _ _ _ hx_r_3) hf7 fun f8 hf8=>En hf8 fun f9 hf9 => ?_
    obtain rfl:=Oi h
    exact Kc<|Kt<|Xr<|Xc<|Fp hf9
   ·refine Kq<|Kr<|mops_end [2,3,4,47] hf5 (l':=[⟨2,[],.ptr 0 0 0⟩,⟨3,[],.s (.int .u8 (Int.fdiv code_ (2 ^ (4))))⟩,⟨4,[],.s (.int .u8 (bits .and .u8 code_ 15))⟩,⟨47,[],.s (.bool (((decide (8≤(Int.fdiv code_ (2 ^ (4)))))&&(decide ((Int.fdiv code_ (2 ^ (4))) < 12)))&&((bits .and .u8 code_ 15) == 14)))⟩]) (L':=[⟨0,.mem,1,k83_0⟩]) (by kernel_rfl) fun f6 hf6=>Kc<|Kf hf6 h (fun hc4 h => ?_) fun hc4 h => ?_
    ·refine Kq<|Kr<|Sg 1 hf6 fun f7 hf7 => ?_
     obtain ⟨r_4,hx_r_4,h⟩:=Bs h
     refine Cp (page_column_ok _ _ hx_r_4) hf7 fun f8 hf8 => ?_
     obtain ⟨r_5,hx_r_5,h⟩:=Bs h
     refine Cp (page_wide_ok _ _ _ _ hx_r_5) hf8 fun f9 hf9=>En hf9 fun f10 hf10 => ?_
     obtain rfl:=Oi h
     exact Kc<|Kt<|Xr<|Xc<|Fp hf10
    ·refine Kq<|Kr<|En hf6 fun f7 hf7=>Kc<|Kf hf7 h (fun hc5 h => ?_) fun hc5 h => ?_
     ·refine Kq<|Kr<|Sg 1 hf7 fun f8 hf8 => ?_
      obtain ⟨r_6,hx_r_6,h⟩:=Bs h
      refine Cp (page_column_ok _ _ hx_r_6) hf8 fun f9 hf9 => ?_
      obtain ⟨r_7,hx_r_7,h⟩:=Bs h
      refine Cp (page_wide_ok _ _ _ _ hx_r_7) hf9 fun f10 hf10=>En hf10 fun f11 hf11 => ?_
      obtain rfl:=Oi h
      exact Kc<|Kt<|Xr<|Xc<|Fp hf11
     ·refine Kq<|Kr<|En hf7 fun f8 hf8=>Kc<|Kf hf8 h (fun hc6 h => ?_) fun hc6 h => ?_
      ·refine Kq<|Kr<|Sg 1 hf8 fun f9 hf9 => ?_
       obtain ⟨r_8,hx_r_8,h⟩:=Bs h
       refine Cp (page_column_ok _ _ hx_r_8) hf9 fun f10 hf10 => ?_
       obtain ⟨r_9,hx_r_9,h⟩:=Bs h
       refine Cp (page_wide_ok _ _ _ _ hx_r_9) hf10 fun f11 hf11=>En hf11 fun f12 hf12 => ?_
       obtain rfl:=Oi h
       exact Kc<|Kt<|Xr<|Xc<|Fp hf12
      ·refine Kq<|Kr<|En hf8 fun f9 hf9=>Kc<|Kf hf9 h (fun hc7 h => ?_) fun hc7 h => ?_
       ·refine Kq<|Kr<|Sg 1 hf9 fun f10 hf10 => ?_
        obtain ⟨r_10,hx_r_10,h⟩:=Bs h
        refine Cp (page_column_ok _ _ hx_r_10) hf10 fun f11 hf11 => ?_
        obtain ⟨r_11,hx_r_11,h⟩:=Bs h
        refine Cp (page_wide_ok _ _ _ _ hx_r_11) hf11 fun f12 hf12=>En hf12 fun f13 hf13 => ?_
        obtain rfl:=Oi h
        exact Kc<|Kt<|Xr<|Xc<|Fp hf13
       ·refine Ks<|Kv<|Kc<|Kq<|Kr<|En hf9 fun f10 hf10 => ?_
        obtain rfl:=Oi h
        exact Kc<|Kt<|Fp hf10
@[irreducible] noncomputable def i84:Nat→List Op1:=rg Tryz.prog 84 []
noncomputable def a84_0:IR:=(.cond (.t 9) (.seq (.reg false (i84 3)) .ret) (.seq (.reg false (i84 4)) (.cond (.t 23) (.seq (.reg false (i84 5)) .ret) .skip)))
noncomputable def a84_1:IR:=(.seq (.reg false (i84 1)) (.seq (.block 0 (.seq (.reg false (i84 2)) a84_0)) (.seq (.reg false (i84 6)) .ret)))
noncomputable def page_third_ir:IR:=(.seq (.reg false (i84 0)) a84_1)
theorem page_third_cfn:cFn Tryz.prog 84=some (page_third_ir,[(.c 2 true 3)],38):=by kernel_rfl
def page_third_V (r:(api_Entry)):V:=.agg [.s (.int .i64 r.Op),.s (.int .i64 r.Mode),.s (.int .i64 r.Reg)]
def page_third_C (r:(api_Entry)):X→Fr→Hp→Prop:=FinL [(.c 2 true 3)] [] (page_third_V r) []
theorem page_third_ok (code_:Int) (r:(api_Entry)) (h:page_third code_=some r):Pure Tryz.prog 84 [.s (.int .u8 code_)] (page_third_V r):=by
 refine CS page_third_cfn (page_third_C r) fun f hf => ?_
 unfold page_third at h
 refine Kq<|Kr<|En hf fun f1 hf1=>Kc<|Kq<|Kr<|En hf1 fun f2 hf2=>Kc<|Kq<|Kb<|Kq<|Kr<|En hf2 fun f3 hf3=>Kc<|Kf hf3 h (fun hc1 h => ?_) fun hc1 h => ?_
 ·refine Kq<|Kr<|Sg 1 hf3 fun f4 hf4 => ?_
  obtain ⟨r_,hx_r_,h⟩:=Bs h
  refine Cp (page_column_ok _ _ hx_r_) hf4 fun f5 hf5 => ?_
  obtain ⟨r_1,hx_r_1,h⟩:=Bs h
  refine Cp (page_wide_ok _ _ _ _ hx_r_1) hf5 fun f6 hf6=>En hf6 fun f7 hf7 => ?_
  obtain rfl:=Oi h
  exact Kc<|Kt<|Xr<|Xc<|Fp hf7
 ·refine Kq<|Kr<|En hf3 fun f4 hf4=>Kc<|Kf hf4 h (fun hc2 h => ?_) fun hc2 h => ?_
  ·refine Kq<|Kr<|Sg 1 hf4 fun f5 hf5 => ?_
   obtain ⟨r_2,hx_r_2,h⟩:=Bs h
   refine Cp (page_column_ok _ _ hx_r_2) hf5 fun f6 hf6 => ?_
   obtain ⟨r_3,hx_r_3,h⟩:=Bs h
   refine Cp (page_wide_ok _ _ _ _ hx_r_3) hf6 fun f7 hf7=>En hf7 fun f8 hf8 => ?_
   obtain rfl:=Oi h
   exact Kc<|Kt<|Xr<|Xc<|Fp hf8
  ·refine Ks<|Kv<|Kc<|Kq<|Kr<|En hf4 fun f5 hf5 => ?_
   obtain rfl:=Oi h
   exact Kc<|Kt<|Fp hf5
@[irreducible] noncomputable def i85:Nat→List Op1:=rg Tryz.prog 85 [58]
noncomputable def inst_reader_word_ir:IR:=(.seq (.reg false (i85 0)) (.seq (.reg false (i85 1)) (.seq (.reg false (i85 2)) .ret)))
theorem inst_reader_word_cfn:cFn Tryz.prog 85 [58]=some (inst_reader_word_ir,[(.t 2)],10):=by kernel_rfl
def inst_reader_word_V (r:(Int × inst_reader)):V:=.s (.int .u16 r.1)
def inst_reader_word_L (r_:inst_reader):Hp:=[⟨0,.mem,1,[.sl false r_.b.length (cat (nI .u8) r_.b),.s (.int .i64 r_.n),.s (.bool r_.short)]⟩]
def inst_reader_word_C (r_:inst_reader) (r:(Int × inst_reader)):X→Fr→Hp→Prop:=FinL [(.t 2)] (inst_reader_word_L r_) (inst_reader_word_V r) [⟨0,.mem,1,[.sl false r.2.b.length (cat (nI .u8) r.2.b),.s (.int .i64 r.2.n),.s (.bool r.2.short)]⟩]
theorem inst_reader_word_ok (r_:inst_reader) (r:(Int × inst_reader)) (h:inst_reader_word r_=some r):ConL Tryz.prog 85 [.ptr 0 0 0] [⟨0,.mem,1,[.sl false r_.b.length (cat (nI .u8) r_.b),.s (.int .i64 r_.n),.s (.bool r_.short)]⟩] (inst_reader_word_V r) [⟨0,.mem,1,[.sl false r.2.b.length (cat (nI .u8) r.2.b),.s (.int .i64 r.2.n),.s (.bool r.2.short)]⟩]:=by
 refine CS inst_reader_word_cfn (inst_reader_word_C r_ r) fun f hf => ?_
 unfold inst_reader_word at h
 refine Kq<|Kr<|En hf fun f1 hf1=>Kc<|Kq<|Kr<|Sg 1 hf1 fun f2 hf2 => ?_
 obtain ⟨r_1,hx_r_1,h⟩:=Bs h
 refine Ca hf2 (av:=[.ptr 0 0 0]) (v:=.s (.int .u8 r_1.1)) (L':=[⟨0,.mem,1,[.sl false r_1.2.b.length (cat (nI .u8) r_1.2.b),.s (.int .i64 r_1.2.n),.s (.bool r_1.2.short)]⟩]) (CalL.borrow (M:=[⟨0,.mem,1,[.sl false r_.b.length (cat (nI .u8) r_.b),.s (.int .i64 r_.n),.s (.bool r_.short)]⟩]) (M':=[⟨0,.mem,1,[.sl false r_1.2.b.length (cat (nI .u8) r_1.2.b),.s (.int .i64 r_1.2.n),.s (.bool r_1.2.short)]⟩]) [0] (inst_reader_next_ok r_ r_1 hx_r_1) (by kernel_rfl) (RNs.cons (RN.ptr (by kernel_rfl)) RNs.nil) (RN.stat rfl) (RBs.cons (RNs.stat (by simp [statics,V.static,cat_stat])) RBs.nil) (RBs.cons (RNs.stat (by simp [statics,V.static,cat_stat])) RBs.nil) (by kernel_rfl) (by kernel_rfl)) (by intro h; cases h) fun f3 hf3=>En hf3 fun f4 hf4=>Kc<|Kq<|Kr<|Sg 2 hf4 fun f5 hf5 => ?_
 obtain ⟨r_2,hx_r_2,h⟩:=Bs h
 refine Ca hf5 (av:=[.ptr 0 0 0]) (v:=.s (.int .u8 r_2.1)) (L':=[⟨0,.mem,1,[.sl false r_2.2.b.length (cat (nI .u8) r_2.2.b),.s (.int .i64 r_2.2.n),.s (.bool r_2.2.short)]⟩]) (CalL.borrow (M:=[⟨0,.mem,1,[.sl false r_1.2.b.length (cat (nI .u8) r_1.2.b),.s (.int .i64 r_1.2.n),.s (.bool r_1.2.short)]⟩]) (M':=[⟨0,.mem,1,[.sl false r_2.2.b.length (cat (nI .u8) r_2.2.b),.s (.int .i64 r_2.2.n),.s (.bool r_2.2.short)]⟩]) [0] (inst_reader_next_ok r_1.2 r_2 hx_r_2) (by kernel_rfl) (RNs.cons (RN.ptr (by kernel_rfl)) RNs.nil) (RN.stat rfl) (RBs.cons (RNs.stat (by simp [statics,V.static,cat_stat])) RBs.nil) (RBs.cons (RNs.stat (by simp [statics,V.static,cat_stat])) RBs.nil) (by kernel_rfl) (by kernel_rfl)) (by intro h; cases h) fun f6 hf6 => ?_
 obtain ⟨r_3,hx_r_3,h⟩:=Bs h
 refine Cp (octet_Word_ok _ _ _ hx_r_3) hf6 fun f7 hf7=>En hf7 fun f8 hf8 => ?_
 obtain rfl:=Oi h
 exact Kc<|Kt<|k_fin (fin_ret (.inl rfl) hf8 (vs:=[.s (.int .u16 r_3)]) (by kernel_rfl) (SettL.cutb (L':=[⟨0,.mem,1,[.sl false r_2.2.b.length (cat (nI .u8) r_2.2.b),.s (.int .i64 r_2.2.n),.s (.bool r_2.2.short)]⟩]) 1 (by kernel_rfl) (by kernel_rfl) (by kernel_rfl) ⟨.inr (.inr (statics_unders _ _ (by simp [V.static,statics,cat_stat]))),trivial⟩ (FzL.stat rfl)))
@[irreducible] noncomputable def i41:Nat→List Op1:=rg Tryz.prog 41 []
noncomputable def a41_0:IR:=(.seq (.cond (.t 13) .skip (.exit 0)) (.seq (.block 1 (.seq (.reg false (i41 4)) (.reg false (i41 5)))) (.reg false (i41 6))))
noncomputable def a41_1:IR:=(.seq (.seq (.reg false (i41 2)) (.block 0 (.loop (.seq (.reg false (i41 3)) a41_0)))) (.seq (.reg false (i41 7)) .ret))
noncomputable def octet_Bytes_ir:IR:=(.seq (.reg false (i41 0)) (.seq (.reg false (i41 1)) a41_1))
theorem octet_Bytes_cfn:cFn Tryz.prog 41=some (octet_Bytes_ir,[(.t 2)],25):=by kernel_rfl
def octet_Bytes_V (r:((List Int))):V:=.sl false r.length (cat (nI .u8) r)
def octet_Bytes_C (r:((List Int))):X→Fr→Hp→Prop:=FinL [(.t 2)] [] (octet_Bytes_V r) []
theorem octet_Bytes_ok (w_:(List Int)) (r:((List Int))) (h:octet_Bytes w_=some r):Pure Tryz.prog 41 [.sl false w_.length (cat (nI .u16) w_)] (octet_Bytes_V r):=by
 refine CS octet_Bytes_cfn (octet_Bytes_C r) fun f hf => ?_
 unfold octet_Bytes at h
 refine Kq<|Kr<|En hf fun f1 hf1=>Kc<|Kq<|Kr<|Sg 3 hf1 fun f2 hf2 => ?_
 obtain ⟨c1,h⟩:=as_ok h
 refine Ad (.mks [(.int .u8 0)] 1 (.k (.int .i64 0)) (.t 8)) (.ref 1 0 0 (rp (0) (0:Int)).length) hf2 (e_mks (g:=(nI .u8)) (a:=0) (k:=.i64) (k':=.i64) (iv:=0) (jv:=(IntKind.wrap .i64 (2*(ln w_)))) (by kernel_rfl) (by kernel_rfl) (by kernel_rfl) c1 (by kernel_rfl)) fun f3 hf3=>En hf3 fun f4 hf4=>Kc<|Kq<|Kq<|Kr<|En hf4 fun f5 hf5=>Kc<|Kb ?_
 obtain ⟨o0,hx0,h⟩:=Bs h
 have hgo0:∀ (l_2:(List Int)) (v_2:Nat),l_2=o0→∀ f,FOk f [⟨2,[],.ref 0 0 0 0⟩,⟨3,[],.ref 1 v_2 0 l_2.length⟩]→kont Tryz.prog [] (octet_Bytes_C r) ((.c (.seq (.reg false (i41 7)) .ret))::[]) .normal f [⟨0,.grow,1,cat (nI .u8) ([]:List Int)⟩,⟨v_2,.grow,1,cat (nI .u8) l_2⟩]:=by
  intro l_2 v_2 e f hf
  subst e
  refine Kc<|Kq<|Kr<|En hf fun f1 hf1 => ?_
  obtain rfl:=Oi h
  exact Kc<|Kt<|k_fin (fin_ret (.inl rfl) hf1 (vs:=[.ref 1 v_2 0 l_2.length]) (by kernel_rfl) (SettL.pure (FzL.whole (g:=(nI .u8)) (kd:=.grow) (l:=l_2) (by kernel_rfl) rfl (live_grow (by kernel_rfl)))))
 refine k_loop BIG<|loop_ind (fun n f L=>∃ (l_1:(List Int)) (t_1:Int) (v_1:Nat),octet_Bytes_l0 w_ n l_1 t_1=some o0∧FOk f [⟨2,[],.ref 0 0 0 0⟩,⟨3,[],.ref 1 v_1 0 l_1.length⟩,⟨10,[],.sl false w_.length (cat (nI .u16) w_)⟩,⟨11,[],.s (.int .i64 (ln w_))⟩,⟨12,[],.s (.int .i64 t_1)⟩]∧L=[⟨0,.grow,1,cat (nI .u8) ([]:List Int)⟩,⟨v_1,.grow,1,cat (nI .u8) l_1⟩]) ?_ ?_ BIG _ _ ⟨(rp (0) (0:Int)),(0),(0),hx0,FOk_of [2,3,10,11,12] hf5 (by kernel_rfl),(by kernel_rfl)⟩
 ·rintro f L ⟨l_1,t_1,v_1,h,_⟩
  cases (show (none:Option _)=some _ from h)
 ·rintro n0 R0 ih f L ⟨l_1,t_1,v_1,h,hf,rfl⟩
  rw [octet_Bytes_l0] at h
  refine Kq<|Kr<|En hf fun f1 hf1=>Kc<|Kq<|Kf hf1 h (fun hc2 h => ?_) fun hc2 h => ?_
  ·refine Ks<|Kc<|Kq<|Kb<|Kq<|Kr ?_
   obtain ⟨c3,h⟩:=as_ok h
   refine Ad (.ias 1 (.t 10) (.t 12)) (.ip ((cat (nI .u16) w_).drop ((t_1:Int).toNat*1))) hf1 (e_ias (n:=w_.length) (xv:=.sl false w_.length (cat (nI .u16) w_)) (k:=.i64) (iv:=t_1) (p:=.ip ((cat (nI .u16) w_).drop ((t_1:Int).toNat*1))) (by kernel_rfl) (by kernel_rfl) (by kernel_rfl) (by kernel_rfl) c3) fun f2 hf2=>Ad (.load false 1 (.t 14)) (.s (.int .u16 (gt w_ t_1))) hf2 (e_load_ip (g:=(nI .u16)) (l:=w_) (iv:=t_1) [] (by kernel_rfl) c3 (by kernel_rfl) (by kernel_rfl)) fun f3 hf3=>En hf3 fun f4 hf4=>Kc<|Kr<|Sg 2 hf4 fun f5 hf5 => ?_
   obtain ⟨r_4,hx_r_4,h⟩:=Bs h
   refine Cp (octet_High_ok _ _ hx_r_4) hf5 fun f6 hf6=>Sg 1 hf6 fun f7 hf7 => ?_
   obtain ⟨r_5,hx_r_5,h⟩:=Bs h
   refine Cp (octet_Low_ok _ _ hx_r_5) hf7 fun f8 hf8=>Sg 1 hf8 fun f9 hf9 => ?_
   obtain ⟨c4,h⟩:=as_ok h
   refine Ad (.app 5 1 1 (.t 16) (.t 21)) (.ref 1 (v_1+1) 0 (l_1++[r_4,r_5]).length) hf9 (e_app (g:=(nI .u8)) (l:=l_1) (l':=[r_4,r_5]) (b:=1) (ver:=v_1) (n:=l_1.length) rfl (by kernel_rfl) rfl (live_grow (by kernel_rfl)) (sll_ev (v:=.ref 2 0 0 2) (by kernel_rfl) (sll_ref (B:=⟨0,.grow,1,cat (nI .u8) [r_4,r_5]⟩) (by kernel_rfl) (live_grow (by kernel_rfl)))) (slc_ev (v:=.ref 2 0 0 2) (by kernel_rfl) (slc_ref (g:=(nI .u8)) (l:=[r_4,r_5]) (kd:=.grow) (q:=1) (by kernel_rfl) (live_grow (by kernel_rfl)))) c4) fun f10 hf10=>En hf10 fun f11 hf11=>Kv<|Kc<|Kr<|En hf11 fun f12 hf12=>k_l' (vs_cut (l:=[⟨2,[],.ref 0 0 0 0⟩,⟨3,[],.ref 1 (v_1+1) 0 (l_1++[r_4,r_5]).length⟩,⟨10,[],.sl false w_.length (cat (nI .u16) w_)⟩,⟨11,[],.s (.int .i64 (ln w_))⟩,⟨12,[],.s (.int .i64 (IntKind.wrap .i64 (t_1+1)))⟩]) 2 (by kernel_rfl) (by kernel_rfl) (L':=[⟨0,.grow,1,cat (nI .u8) ([]:List Int)⟩,⟨(v_1+1),.grow,1,cat (nI .u8) (l_1++[r_4,r_5])⟩]) (by kernel_rfl) ⟨⟨rfl,rfl⟩,⟨rfl,rfl⟩,⟨rfl,(static_under _ _ (by simp [V.static,statics,cat_stat,dropcat_stat]))⟩,⟨rfl,rfl⟩,⟨rfl,rfl⟩,trivial⟩ ⟨.inr (.inr (statics_unders _ _ (cat_stat _))),.inr (.inr (statics_unders _ _ (cat_stat _))),trivial⟩ (Of [2,3,10,11,12] hf12) fun f hf => ?_)
   exact ih _ _ ⟨(l_1++[r_4,r_5]),(IntKind.wrap .i64 (t_1+1)),(v_1+1),h,hf,rfl⟩
  ·exact Kx<|Xc<|Xl<|Xb<|Kh (hgo0 l_1 v_1 (Option.some.inj h) _ (Of [2,3] hf1))
@[irreducible] noncomputable def i25:Nat→List Op1:=rg Tryz.prog 25 []
noncomputable def a25_0:IR:=(.seq (.cond (.t 13) .skip (.exit 0)) (.seq (.block 1 (.seq (.reg false (i25 4)) (.reg false (i25 5)))) (.reg false (i25 6))))
noncomputable def a25_1:IR:=(.seq (.seq (.reg false (i25 2)) (.block 0 (.loop (.seq (.reg false (i25 3)) a25_0)))) (.seq (.reg false (i25 7)) .ret))
noncomputable def digit_Pairs_ir:IR:=(.seq (.reg false (i25 0)) (.seq (.reg false (i25 1)) a25_1))
theorem digit_Pairs_cfn:cFn Tryz.prog 25=some (digit_Pairs_ir,[(.t 2)],28):=by kernel_rfl
def digit_Pairs_V (r:(ByteArray)):V:=.s (.string r)
def digit_Pairs_C (r:(ByteArray)):X→Fr→Hp→Prop:=FinL [(.t 2)] [] (digit_Pairs_V r) []
theorem digit_Pairs_ok (b_:(List Int)) (r:(ByteArray)) (h:digit_Pairs b_=some r):Pure Tryz.prog 25 [.sl false b_.length (cat (nI .u8) b_)] (digit_Pairs_V r):=by
 refine CS digit_Pairs_cfn (digit_Pairs_C r) fun f hf => ?_
 unfold digit_Pairs at h
 refine Kq<|Kr<|En hf fun f1 hf1=>Kc<|Kq<|Kr<|Sg 3 hf1 fun f2 hf2 => ?_
 obtain ⟨c1,h⟩:=as_ok h
 refine Ad (.mks [(.int .u8 0)] 1 (.k (.int .i64 0)) (.t 8)) (.ref 0 0 0 (rp (0) (0:Int)).length) hf2 (e_mks (g:=(nI .u8)) (a:=0) (k:=.i64) (k':=.i64) (iv:=0) (jv:=(IntKind.wrap .i64 (2*(ln b_)))) (by kernel_rfl) (by kernel_rfl) (by kernel_rfl) c1 (by kernel_rfl)) fun f3 hf3=>En hf3 fun f4 hf4=>Kc<|Kq<|Kq<|Kr<|En hf4 fun f5 hf5=>Kc<|Kb ?_
 obtain ⟨o0,hx0,h⟩:=Bs h
 have hgo0:∀ (l_2:(List Int)) (v_2:Nat),l_2=o0→∀ f,FOk f [⟨2,[],.s (.string (⟨#[]⟩:ByteArray))⟩,⟨3,[],.ref 0 v_2 0 l_2.length⟩]→kont Tryz.prog [] (digit_Pairs_C r) ((.c (.seq (.reg false (i25 7)) .ret))::[]) .normal f [⟨v_2,.grow,1,cat (nI .u8) l_2⟩]:=by
  intro l_2 v_2 e f hf
  subst e
  refine Kc<|Kq<|Kr<|Sg 1 hf fun f1 hf1=>Ad (.bstr (.t 26)) (.s (.string (bs l_2))) hf1 (e_bstr (q:=l_2) (slc_ev (v:=.ref 0 v_2 0 l_2.length) (by kernel_rfl) (slc_ref (g:=(nI .u8)) (l:=l_2) (kd:=.grow) (q:=1) rfl (live_grow (by kernel_rfl))))) fun f2 hf2=>En hf2 fun f3 hf3 => ?_
  obtain rfl:=Oi h
  exact Kc<|Kt<|Fp hf3
 refine k_loop BIG<|loop_ind (fun n f L=>∃ (l_1:(List Int)) (t_1:Int) (v_1:Nat),digit_Pairs_l0 b_ n l_1 t_1=some o0∧FOk f [⟨2,[],.s (.string (⟨#[]⟩:ByteArray))⟩,⟨3,[],.ref 0 v_1 0 l_1.length⟩,⟨10,[],.sl false b_.length (cat (nI .u8) b_)⟩,⟨11,[],.s (.int .i64 (ln b_))⟩,⟨12,[],.s (.int .i64 t_1)⟩]∧L=[⟨v_1,.grow,1,cat (nI .u8) l_1⟩]) ?_ ?_ BIG _ _ ⟨(rp (0) (0:Int)),(0),(0),hx0,FOk_of [2,3,10,11,12] hf5 (by kernel_rfl),(by kernel_rfl)⟩
 ·rintro f L ⟨l_1,t_1,v_1,h,_⟩
  cases (show (none:Option _)=some _ from h)
 ·rintro n0 R0 ih f L ⟨l_1,t_1,v_1,h,hf,rfl⟩
  rw [digit_Pairs_l0] at h
  refine Kq<|Kr<|En hf fun f1 hf1=>Kc<|Kq<|Kf hf1 h (fun hc2 h => ?_) fun hc2 h => ?_
  ·refine Ks<|Kc<|Kq<|Kb<|Kq<|Kr ?_
   obtain ⟨c3,h⟩:=as_ok h
   refine Ad (.ias 1 (.t 10) (.t 12)) (.ip ((cat (nI .u8) b_).drop ((t_1:Int).toNat*1))) hf1 (e_ias (n:=b_.length) (xv:=.sl false b_.length (cat (nI .u8) b_)) (k:=.i64) (iv:=t_1) (p:=.ip ((cat (nI .u8) b_).drop ((t_1:Int).toNat*1))) (by kernel_rfl) (by kernel_rfl) (by kernel_rfl) (by kernel_rfl) c3) fun f2 hf2=>Ad (.load false 1 (.t 14)) (.s (.int .u8 (gt b_ t_1))) hf2 (e_load_ip (g:=(nI .u8)) (l:=b_) (iv:=t_1) [] (by kernel_rfl) c3 (by kernel_rfl) (by kernel_rfl)) fun f3 hf3=>En hf3 fun f4 hf4=>Kc<|Kr<|Sg 3 hf4 fun f5 hf5 => ?_
   obtain ⟨r_4,hx_r_4,h⟩:=Bs h
   refine Cp (digit_sign_ok _ _ hx_r_4) hf5 fun f6 hf6=>Sg 2 hf6 fun f7 hf7 => ?_
   obtain ⟨r_5,hx_r_5,h⟩:=Bs h
   refine Cp (digit_sign_ok _ _ hx_r_5) hf7 fun f8 hf8=>Sg 1 hf8 fun f9 hf9 => ?_
   obtain ⟨c4,h⟩:=as_ok h
   refine Ad (.app 5 1 1 (.t 16) (.t 23)) (.ref 0 (v_1+1) 0 (l_1++[r_4,r_5]).length) hf9 (e_app (g:=(nI .u8)) (l:=l_1) (l':=[r_4,r_5]) (b:=0) (ver:=v_1) (n:=l_1.length) rfl (by kernel_rfl) rfl (live_grow (by kernel_rfl)) (sll_ev (v:=.ref 1 0 0 2) (by kernel_rfl) (sll_ref (B:=⟨0,.grow,1,cat (nI .u8) [r_4,r_5]⟩) (by kernel_rfl) (live_grow (by kernel_rfl)))) (slc_ev (v:=.ref 1 0 0 2) (by kernel_rfl) (slc_ref (g:=(nI .u8)) (l:=[r_4,r_5]) (kd:=.grow) (q:=1) (by kernel_rfl) (live_grow (by kernel_rfl)))) c4) fun f10 hf10=>En hf10 fun f11 hf11=>Kv<|Kc<|Kr<|En hf11 fun f12 hf12=>k_l' (vs_cut (l:=[⟨2,[],.s (.string (⟨#[]⟩:ByteArray))⟩,⟨3,[],.ref 0 (v_1+1) 0 (l_1++[r_4,r_5]).length⟩,⟨10,[],.sl false b_.length (cat (nI .u8) b_)⟩,⟨11,[],.s (.int .i64 (ln b_))⟩,⟨12,[],.s (.int .i64 (IntKind.wrap .i64 (t_1+1)))⟩]) 1 (by kernel_rfl) (by kernel_rfl) (L':=[⟨(v_1+1),.grow,1,cat (nI .u8) (l_1++[r_4,r_5])⟩]) (by kernel_rfl) ⟨⟨rfl,rfl⟩,⟨rfl,rfl⟩,⟨rfl,(static_under _ _ (by simp [V.static,statics,cat_stat,dropcat_stat]))⟩,⟨rfl,rfl⟩,⟨rfl,rfl⟩,trivial⟩ ⟨.inr (.inr (statics_unders _ _ (cat_stat _))),trivial⟩ (Of [2,3,10,11,12] hf12) fun f hf => ?_)
   exact ih _ _ ⟨(l_1++[r_4,r_5]),(IntKind.wrap .i64 (t_1+1)),(v_1+1),h,hf,rfl⟩
  ·exact Kx<|Xc<|Xl<|Xb<|Kh (hgo0 l_1 v_1 (Option.some.inj h) _ (Of [2,3] hf1))
@[irreducible] noncomputable def i26:Nat→List Op1:=rg Tryz.prog 26 []
noncomputable def a26_0:IR:=(.seq (.seq (.reg false (i26 3)) (.cond (.t 19) .skip (.exit 0))) (.block 1 (.seq (.reg false (i26 4)) (.seq (.reg false (i26 5)) (.reg false (i26 6))))))
noncomputable def a26_1:IR:=(.seq (.reg false (i26 2)) (.seq (.block 0 (.loop a26_0)) (.seq (.reg false (i26 7)) .ret)))
noncomputable def digit_Hex_ir:IR:=(.seq (.reg false (i26 0)) (.seq (.reg false (i26 1)) a26_1))
theorem digit_Hex_cfn:cFn Tryz.prog 26=some (digit_Hex_ir,[(.t 4)],33):=by kernel_rfl
def digit_Hex_V (r:(ByteArray)):V:=.s (.string r)
def digit_Hex_C (r:(ByteArray)):X→Fr→Hp→Prop:=FinL [(.t 4)] [] (digit_Hex_V r) []
theorem digit_Hex_ok (n_:Int) (width_:Int) (r:(ByteArray)) (h:digit_Hex n_ width_=some r):Pure Tryz.prog 26 [.s (.int .u64 n_),.s (.int .i64 width_)] (digit_Hex_V r):=by
 refine CS digit_Hex_cfn (digit_Hex_C r) fun f hf => ?_
 unfold digit_Hex at h
 refine Kq<|Kr<|En hf fun f1 hf1=>Kc<|Kq<|Kr<|En hf1 fun f2 hf2=>Kc<|Kq<|Kr<|En hf2 fun f3 hf3=>Kc<|Kq<|Kb ?_
 obtain ⟨o0,hx0,h⟩:=Bs h
 have hgo0:∀ (l_2:(List Int)) (i_2:Int) (hn_2:l_2.length=16),(l_2,i_2)=o0→∀ f,FOk f [⟨4,[],.s (.string (⟨#[]⟩:ByteArray))⟩,⟨5,[],.ptr 0 0 0⟩,⟨6,[],.s (.int .i64 i_2)⟩]→kont Tryz.prog [] (digit_Hex_C r) ((.c (.seq (.reg false (i26 7)) .ret))::[]) .normal f [⟨0,.mem,1,cat (nI .u8) l_2⟩]:=by
  intro l_2 i_2 hn_2 e f hf
  subst e
  refine Kc<|Kq<|Kr<|Sg 1 hf fun f1 hf1 => ?_
  obtain ⟨c3,h⟩:=as_ok h
  refine Ad (.sarr 16 1 (.t 5) (some (.t 30)) none) (.ref 0 0 (0+(i_2:Int).toNat*1) (16 - (i_2:Int).toNat)) hf1 (e_sarr (g:=(nI .u8)) (l:=l_2) (q:=0) (ver:=0) (n:=16) (kd:=.mem) (by kernel_rfl) (live_mem (by kernel_rfl)) hn_2 (b_sn (k:=.i64) (iv:=i_2) (by kernel_rfl) c3)) fun f2 hf2=>Ad (.bstr (.t 31)) (.s (.string (bs ((l_2.drop (i_2:Int).toNat).take (16 - (i_2:Int).toNat))))) hf2 (e_bstr (q:=((l_2.drop (i_2:Int).toNat).take (16 - (i_2:Int).toNat))) (slc_ev (v:=.ref 0 0 (0+(i_2:Int).toNat*1) (16 - (i_2:Int).toNat)) (by kernel_rfl) (slc_refp (g:=(nI .u8)) (l:=l_2) (q:=0) (n:=16) (a:=(i_2:Int).toNat) (b:=16) (kd:=.mem) (z:=1) (cut_sn (n:=16) c3) hn_2 (live_mem (by kernel_rfl))))) fun f3 hf3=>En hf3 fun f4 hf4 => ?_
  obtain rfl:=Oi h
  exact Kc<|Kt<|Fp hf4
 refine k_loop BIG<|loop_ind (fun n f L=>∃ (l_1:(List Int)) (t_1:Int) (i_1:Int) (hn_1:l_1.length=16),digit_Hex_l0 width_ n l_1 t_1 i_1=some o0∧FOk f [⟨0,[],.s (.int .u64 t_1)⟩,⟨1,[],.s (.int .i64 width_)⟩,⟨4,[],.s (.string (⟨#[]⟩:ByteArray))⟩,⟨5,[],.ptr 0 0 0⟩,⟨6,[],.s (.int .i64 i_1)⟩]∧L=[⟨0,.mem,1,cat (nI .u8) l_1⟩]) ?_ ?_ BIG _ _ ⟨[0,0,0,0,0,0,0,0,0,0,0,0,0,0,0,0],n_,(16),(by kernel_rfl),hx0,FOk_of [0,1,4,5,6] hf3 (by kernel_rfl),(by kernel_rfl)⟩
 ·rintro f L ⟨l_1,t_1,i_1,hn_1,h,_⟩
  cases (show (none:Option _)=some _ from h)
 ·rintro n0 R0 ih f L ⟨l_1,t_1,i_1,hn_1,h,hf,rfl⟩
  rw [digit_Hex_l0] at h
  refine Kq<|Kq<|Kr<|En hf fun f1 hf1=>Kc<|Kf hf1 h (fun hc1 h => ?_) fun hc1 h => ?_
  ·refine Ks<|Kc<|Kb<|Kq<|Kr<|En hf1 fun f2 hf2=>Kc<|Kq<|Kr<|Sg 4 hf2 fun f3 hf3 => ?_
   obtain ⟨r_2,hx_r_2,h⟩:=Bs h
   refine Cp (digit_sign_ok _ _ hx_r_2) hf3 fun f4 hf4 => ?_
   obtain ⟨c2,h⟩:=as_ok h
   exact Ad (.iaa 16 1 (.t 5) (.t 22)) (.ptr 0 0 (0+((IntKind.wrap .i64 (i_1 - 1)):Int).toNat*1)) hf4 (e_iaa (n:=16) (xv:=.ptr 0 0 0) (k:=.i64) (iv:=(IntKind.wrap .i64 (i_1 - 1))) (p:=.ptr 0 0 (0+((IntKind.wrap .i64 (i_1 - 1)):Int).toNat*1)) (by kernel_rfl) (by kernel_rfl) (by kernel_rfl) (by kernel_rfl) c2) fun f5 hf5=>Ad (.store 1 (.t 27) (.t 26)) (.s undef) hf5 (e_store_pe (g:=(nI .u8)) (l:=l_1) (iv:=(IntKind.wrap .i64 (i_1 - 1))) (kd:=.mem) (q:=1) (b:=0) (ver:=0) (ys:=[.s (.int .u8 r_2)]) (a:=r_2) [] (by kernel_rfl) (live_mem (by kernel_rfl)) (by kernel_rfl) (by kernel_rfl) (by kernel_rfl) (arr_h (l:=l_1) c2 hn_1) (by kernel_rfl) (by kernel_rfl)) fun f6 hf6=>En hf6 fun f7 hf7=>Kc<|Kr<|En hf7 fun f8 hf8=>Kv<|Kl<|ih _ _ ⟨(st l_1 (IntKind.wrap .i64 (i_1 - 1)) r_2),(Int.fdiv t_1 (2 ^ (4))),(IntKind.wrap .i64 (i_1 - 1)),(st_len.trans hn_1),h,FOk_of [0,1,4,5,6] hf8 (by kernel_rfl),(by kernel_rfl)⟩
  ·exact Kx<|Xc<|Xl<|Xb<|Kh (hgo0 l_1 i_1 hn_1 (Option.some.inj h) _ (Of [4,5,6] hf1))
@[irreducible] noncomputable def i43:Nat→List Op1:=rg Tryz.prog 43 []
noncomputable def a43_0:IR:=(.seq (.cond (.k (.bool false)) (.seq (.reg false (i43 1)) (.seq (.reg false (i43 2)) .ret)) .skip) (.seq (.reg false (i43 3)) (.seq (.reg false (i43 4)) .ret)))
noncomputable def math_bits_Mul_ir:IR:=(.seq (.reg false (i43 0)) a43_0)
theorem math_bits_Mul_cfn:cFn Tryz.prog 43=some (math_bits_Mul_ir,[(.t 4),(.t 5)],30):=by kernel_rfl
def math_bits_Mul_V (r:(Int × Int)):V:=.tup [.s (.int .u64 r.1),.s (.int .u64 r.2)]
def math_bits_Mul_C (r:(Int × Int)):X→Fr→Hp→Prop:=FinL [(.t 4),(.t 5)] [] (math_bits_Mul_V r) []
theorem math_bits_Mul_ok (x_:Int) (y_:Int) (r:(Int × Int)) (h:math_bits_Mul x_ y_=some r):Pure Tryz.prog 43 [.s (.int .u64 x_),.s (.int .u64 y_)] (math_bits_Mul_V r):=by
 refine CS math_bits_Mul_cfn (math_bits_Mul_C r) fun f hf => ?_
 unfold math_bits_Mul at h
 refine Kq<|Kr<|En hf fun f1 hf1=>Kc<|Kq<|Kf hf1 h (fun hc1 h => ?_) fun hc1 h => ?_
 ·refine Kq<|Kr<|Sg 4 hf1 fun f2 hf2 => ?_
  obtain ⟨r_,hx_r_,h⟩:=Bs h
  refine Cp (math_bits_Mul32_ok _ _ _ hx_r_) hf2 fun f3 hf3=>En hf3 fun f4 hf4=>Kc<|Kq<|Kr<|En hf4 fun f5 hf5 => ?_
  obtain rfl:=Oi h
  exact Kc<|Kt<|Xc<|k_fin (fin_ret (.inl rfl) hf5 (vs:=[.s (.int .u64 (IntKind.wrap .u64 r_.1)),.s (.int .u64 (IntKind.wrap .u64 r_.2))]) (by kernel_rfl) (SettL.pure (FzL.tup (FzsL.cons (FzL.stat rfl) (FzsL.cons (FzL.stat rfl) FzsL.nil)))))
 ·refine Ks<|Kc<|Kq<|Kr<|Sg 2 hf1 fun f2 hf2 => ?_
  obtain ⟨r_1,hx_r_1,h⟩:=Bs h
  refine Cp (math_bits_Mul64_ok _ _ _ hx_r_1) hf2 fun f3 hf3=>En hf3 fun f4 hf4=>Kc<|Kq<|Kr<|En hf4 fun f5 hf5 => ?_
  obtain rfl:=Oi h
  exact Kc<|Kt<|k_fin (fin_ret (.inl rfl) hf5 (vs:=[.s (.int .u64 r_1.1),.s (.int .u64 r_1.2)]) (by kernel_rfl) (SettL.pure (FzL.tup (FzsL.cons (FzL.stat rfl) (FzsL.cons (FzL.stat rfl) FzsL.nil)))))
@[irreducible] noncomputable def i44:Nat→List Op1:=rg Tryz.prog 44 []
noncomputable def strings_HasPrefix_ir:IR:=(.seq (.reg false (i44 0)) (.seq (.reg false (i44 1)) .ret))
theorem strings_HasPrefix_cfn:cFn Tryz.prog 44=some (strings_HasPrefix_ir,[(.t 4)],8):=by kernel_rfl
def strings_HasPrefix_V (r:(Bool)):V:=.s (.bool r)
def strings_HasPrefix_C (r:(Bool)):X→Fr→Hp→Prop:=FinL [(.t 4)] [] (strings_HasPrefix_V r) []
theorem strings_HasPrefix_ok (s_:ByteArray) (prefix_:ByteArray) (r:(Bool)) (h:strings_HasPrefix s_ prefix_=some r):Pure Tryz.prog 44 [.s (.string s_),.s (.string prefix_)] (strings_HasPrefix_V r):=by
 refine CS strings_HasPrefix_cfn (strings_HasPrefix_C r) fun f hf => ?_
 unfold strings_HasPrefix at h
 refine Kq<|Kr<|En hf fun f1 hf1=>Kc<|Kq<|Kr<|Sg 2 hf1 fun f2 hf2 => ?_
 obtain ⟨r_,hx_r_,h⟩:=Bs h
 refine Cp (internal_stringslite_HasPrefix_ok _ _ _ hx_r_) hf2 fun f3 hf3=>En hf3 fun f4 hf4 => ?_
 obtain rfl:=Oi h
 exact Kc<|Kt<|Fp hf4
@[irreducible] noncomputable def i74:Nat→List Op1:=rg Tryz.prog 74 []
noncomputable def a74_0:IR:=(.cond (.t 31) (.seq (.reg false (i74 13)) .ret) (.seq (.reg false (i74 14)) (.cond (.t 47) (.seq (.reg false (i74 15)) .ret) .skip)))
noncomputable def a74_1:IR:=(.cond (.t 18) (.seq (.reg false (i74 8)) .ret) (.seq (.seq (.reg false (i74 9)) (.cond (.t 22) .skip (.reg false (i74 10)))) (.cond (.t 22) (.seq (.reg false (i74 11)) .ret) (.seq (.reg false (i74 12)) a74_0))))
noncomputable def a74_2:IR:=(.cond (.t 14) (.seq (.reg false (i74 5)) .ret) (.seq (.seq (.reg false (i74 6)) (.cond (.t 18) .skip (.reg false (i74 7)))) a74_1))
noncomputable def a74_3:IR:=(.block 0 (.seq (.seq (.reg false (i74 3)) (.cond (.t 14) .skip (.reg false (i74 4)))) a74_2))
noncomputable def a74_4:IR:=(.seq (.reg false (i74 1)) (.seq (.seq (.reg false (i74 2)) a74_3) (.seq (.reg false (i74 16)) .ret)))
noncomputable def ops_own_ir:IR:=(.seq (.reg false (i74 0)) a74_4)
theorem ops_own_cfn:cFn Tryz.prog 74=some (ops_own_ir,[(.t 4)],69):=by kernel_rfl
def ops_own_V (r:(Bool)):V:=.s (.bool r)
def ops_own_C (r:(Bool)):X→Fr→Hp→Prop:=FinL [(.t 4)] [] (ops_own_V r) []
theorem ops_own_ok (op_:Int) (reg_:Int) (r:(Bool)) (h:ops_own op_ reg_=some r):Pure Tryz.prog 74 [.s (.int .i64 op_),.s (.int .i64 reg_)] (ops_own_V r):=by
 refine CS ops_own_cfn (ops_own_C r) fun f hf => ?_
 unfold ops_own at h
 refine Kq<|Kr<|En hf fun f1 hf1=>Kc<|Kq<|Kr<|En hf1 fun f2 hf2=>Kc<|Kq<|Kq<|Kr<|Sg 1 hf2 fun f3 hf3 => ?_
 obtain ⟨r_,hx_r_,h⟩:=Bs h
 refine Cp (ops_Group_ok _ _ hx_r_) hf3 fun f4 hf4=>En hf4 fun f5 hf5=>Kc<|Kb<|Kq<|Kq<|Kr<|En hf5 fun f6 hf6=>Kc ?_
 have hj1:∀ (t_:Bool),ops_own_j2 op_ reg_ r_ t_=some r→∀ f,FOk f [⟨0,[],.s (.int .i64 op_)⟩,⟨1,[],.s (.int .i64 reg_)⟩,⟨4,[],.s (.bool false)⟩,⟨5,[],.s (.bool ((reg_ == 8)||(reg_ == 9)))⟩,⟨13,[],.s (.int .i64 r_)⟩,⟨14,[],.s (.bool t_)⟩]→kont Tryz.prog [] (ops_own_C r) ((.c a74_2)::(.b 0)::(.c (.seq (.reg false (i74 16)) .ret))::[]) .normal f []:=by
  intro t_ h f hf
  unfold ops_own_j2 at h
  refine Kc<|Kf hf h (fun hc2 h => ?_) fun hc2 h => ?_
  ·refine Kq<|Kr<|En hf fun f1 hf1 => ?_
   obtain rfl:=Oi h
   exact Kc<|Kt<|Xr<|Xc<|Fp hf1
  ·refine Kq<|Kq<|Kr<|En hf fun f1 hf1=>Kc ?_
   have hj2:∀ (t_1:Bool),ops_own_j1 op_ reg_ r_ t_1=some r→∀ f,FOk f [⟨0,[],.s (.int .i64 op_)⟩,⟨1,[],.s (.int .i64 reg_)⟩,⟨4,[],.s (.bool false)⟩,⟨5,[],.s (.bool ((reg_ == 8)||(reg_ == 9)))⟩,⟨13,[],.s (.int .i64 r_)⟩,⟨18,[],.s (.bool t_1)⟩]→kont Tryz.prog [] (ops_own_C r) ((.c a74_1)::(.b 0)::(.c (.seq (.reg false (i74 16)) .ret))::[]) .normal f []:=by
    intro t_1 h f hf
    unfold ops_own_j1 at h
    refine Kc<|Kf hf h (fun hc4 h => ?_) fun hc4 h => ?_
    ·refine Kq<|Kr<|En hf fun f1 hf1 => ?_
     obtain rfl:=Oi h
     exact Kc<|Kt<|Xr<|Xc<|Fp hf1
    ·refine Kq<|Kq<|Kr<|En hf fun f1 hf1=>Kc ?_
     have hj3:∀ (t_2:Bool),ops_own_j0 op_ reg_ r_ t_2=some r→∀ f,FOk f [⟨0,[],.s (.int .i64 op_)⟩,⟨1,[],.s (.int .i64 reg_)⟩,⟨4,[],.s (.bool false)⟩,⟨13,[],.s (.int .i64 r_)⟩,⟨22,[],.s (.bool t_2)⟩]→kont Tryz.prog [] (ops_own_C r) ((.c (.cond (.t 22) (.seq (.reg false (i74 11)) .ret) (.seq (.reg false (i74 12)) a74_0)))::(.b 0)::(.c (.seq (.reg false (i74 16)) .ret))::[]) .normal f []:=by
      intro t_2 h f hf
      unfold ops_own_j0 at h
      refine Kc<|Kf hf h (fun hc6 h => ?_) fun hc6 h => ?_
      ·refine Kq<|Kr<|En hf fun f1 hf1 => ?_
       obtain rfl:=Oi h
       exact Kc<|Kt<|Xr<|Xc<|Fp hf1
      ·refine Kq<|Kr<|En hf fun f1 hf1=>Kc<|Kf hf1 h (fun hc7 h => ?_) fun hc7 h => ?_
       ·refine Kq<|Kr<|En hf1 fun f2 hf2 => ?_
        obtain rfl:=Oi h
        exact Kc<|Kt<|Xr<|Xc<|Fp hf2
       ·refine Kq<|Kr<|En hf1 fun f2 hf2=>Kc<|Kf hf2 h (fun hc8 h => ?_) fun hc8 h => ?_
        ·refine Kq<|Kr<|En hf2 fun f3 hf3 => ?_
         obtain rfl:=Oi h
         exact Kc<|Kt<|Xr<|Xc<|Fp hf3
        ·refine Ks<|Kv<|Kc<|Kq<|Kr<|En hf2 fun f3 hf3 => ?_
         obtain rfl:=Oi h
         exact Kc<|Kt<|Fp hf3
     refine Kf hf1 h (fun hc5 h => ?_) fun hc5 h => ?_
     ·exact Ks<|Kh (hj3 (r_ == 5) h _ (Of [0,1,4,13,22] hf1))
     ·exact Kr<|En hf1 fun f2 hf2=>Kh (hj3 (r_ == 6) h _ (Of [0,1,4,13,22] hf2))
   refine Kf hf1 h (fun hc3 h => ?_) fun hc3 h => ?_
   ·exact Ks<|Kh (hj2 (r_ == 3) h _ (Of [0,1,4,5,13,18] hf1))
   ·exact Kr<|En hf1 fun f2 hf2=>Kh (hj2 (r_ == 4) h _ (Of [0,1,4,5,13,18] hf2))
 refine Kf hf6 h (fun hc1 h => ?_) fun hc1 h => ?_
 ·exact Ks<|Kh (hj1 (r_ == 1) h _ (Of [0,1,4,5,13,14] hf6))
 ·exact Kr<|En hf6 fun f7 hf7=>Kh (hj1 (r_ == 2) h _ (Of [0,1,4,5,13,14] hf7))
@[irreducible] noncomputable def i76:Nat→List Op1:=rg Tryz.prog 76 []
noncomputable def a76_0:IR:=(.cond (.t 5) .skip (.seq (.reg false (i76 4)) (.cond (.t 5) .skip (.reg false (i76 5)))))
noncomputable def a76_1:IR:=(.cond (.t 5) (.seq (.reg false (i76 6)) .ret) (.seq (.reg false (i76 7)) (.cond (.t 10) (.seq (.reg false (i76 8)) .ret) .skip)))
noncomputable def a76_2:IR:=(.block 0 (.seq (.seq (.reg false (i76 2)) (.cond (.t 5) .skip (.seq (.reg false (i76 3)) a76_0))) a76_1))
noncomputable def ops_plain_ir:IR:=(.seq (.reg false (i76 0)) (.seq (.seq (.reg false (i76 1)) a76_2) (.seq (.reg false (i76 9)) .ret)))
theorem ops_plain_cfn:cFn Tryz.prog 76=some (ops_plain_ir,[(.t 2)],34):=by kernel_rfl
def ops_plain_V (r:(Bool)):V:=.s (.bool r)
def ops_plain_C (r:(Bool)):X→Fr→Hp→Prop:=FinL [(.t 2)] [] (ops_plain_V r) []
theorem ops_plain_ok (op_:Int) (r:(Bool)) (h:ops_plain op_=some r):Pure Tryz.prog 76 [.s (.int .i64 op_)] (ops_plain_V r):=by
 refine CS ops_plain_cfn (ops_plain_C r) fun f hf => ?_
 unfold ops_plain at h
 refine Kq<|Kr<|En hf fun f1 hf1=>Kc<|Kq<|Kq<|Kr<|Sg 1 hf1 fun f2 hf2 => ?_
 obtain ⟨r_,hx_r_,h⟩:=Bs h
 refine Cp (ops_Group_ok _ _ hx_r_) hf2 fun f3 hf3=>En hf3 fun f4 hf4=>Kc<|Kb<|Kq<|Kq<|Kr<|En hf4 fun f5 hf5=>Kc ?_
 have hj1:∀ (t_:Bool),ops_plain_j0 op_ r_ t_=some r→∀ f,FOk f [⟨0,[],.s (.int .i64 op_)⟩,⟨2,[],.s (.bool false)⟩,⟨4,[],.s (.int .i64 r_)⟩,⟨5,[],.s (.bool t_)⟩]→kont Tryz.prog [] (ops_plain_C r) ((.c a76_1)::(.b 0)::(.c (.seq (.reg false (i76 9)) .ret))::[]) .normal f []:=by
  intro t_ h f hf
  unfold ops_plain_j0 at h
  refine Kc<|Kf hf h (fun hc4 h => ?_) fun hc4 h => ?_
  ·refine Kq<|Kr<|En hf fun f1 hf1 => ?_
   obtain rfl:=Oi h
   exact Kc<|Kt<|Xr<|Xc<|Fp hf1
  ·refine Kq<|Kr<|En hf fun f1 hf1=>Kc<|Kf hf1 h (fun hc5 h => ?_) fun hc5 h => ?_
   ·refine Kq<|Kr<|En hf1 fun f2 hf2 => ?_
    obtain rfl:=Oi h
    exact Kc<|Kt<|Xr<|Xc<|Fp hf2
   ·refine Ks<|Kv<|Kc<|Kq<|Kr<|En hf1 fun f2 hf2 => ?_
    obtain rfl:=Oi h
    exact Kc<|Kt<|Fp hf2
 refine Kf hf5 h (fun hc1 h => ?_) fun hc1 h => ?_
 ·exact Ks<|Kh (hj1 (r_ == 3) h _ (Of [0,2,4,5] hf5))
 ·refine Kq<|Kr<|En hf5 fun f6 hf6=>Kc<|Kf hf6 h (fun hc2 h => ?_) fun hc2 h => ?_
  ·exact Ks<|Kh (hj1 (r_ == 4) h _ (Of [0,2,4,5] hf6))
  ·refine Kq<|Kr<|En hf6 fun f7 hf7=>Kc<|Kf hf7 h (fun hc3 h => ?_) fun hc3 h => ?_
   ·exact Ks<|Kh (hj1 (r_ == 9) h _ (Of [0,2,4,5] hf7))
   ·exact Kr<|En hf7 fun f8 hf8=>Kh (hj1 (r_ == 10) h _ (Of [0,2,4,5] hf8))
@[irreducible] noncomputable def i78:Nat→List Op1:=rg Tryz.prog 78 []
noncomputable def a78_0:IR:=(.seq (.seq (.reg false (i78 1)) (.cond (.t 15) (.seq (.reg false (i78 2)) .ret) .skip)) (.seq (.reg true (i78 3)) .ret))
noncomputable def inst_Target_ir:IR:=(.seq (.reg false (i78 0)) a78_0)
theorem inst_Target_cfn:cFn Tryz.prog 78=some (inst_Target_ir,[(.t 4),(.t 5)],22):=by kernel_rfl
def inst_Target_V (r:(Int × Bool)):V:=.tup [.s (.int .u16 r.1),.s (.bool r.2)]
def inst_Target_C (r:(Int × Bool)):X→Fr→Hp→Prop:=FinL [(.t 4),(.t 5)] [] (inst_Target_V r) []
theorem inst_Target_ok (i_:api_Inst) (at_:Int) (r:(Int × Bool)) (h:inst_Target i_ at_=some r):Pure Tryz.prog 78 [.agg [.s (.int .i64 i_.Page),.s (.int .u8 i_.Code),.s (.int .i64 i_.Entry.Op),.s (.int .i64 i_.Entry.Mode),.s (.int .i64 i_.Entry.Reg),.s (.int .u8 i_.Post),.s (.int .u16 i_.Value),.s (.int .i64 i_.Len)],.s (.int .u16 at_)] (inst_Target_V r):=by
 refine CS inst_Target_cfn (inst_Target_C r) fun f hf => ?_
 unfold inst_Target at h
 refine Kq<|Kr<|En hf fun f1 hf1=>Kc<|Kq<|Kq<|Kr<|En hf1 fun f2 hf2=>Kc<|Kf hf2 h (fun hc1 h => ?_) fun hc1 h => ?_
 ·refine Kq<|Kr<|En hf2 fun f3 hf3 => ?_
  obtain rfl:=Oi h
  exact Kc<|Kt<|Xc<|k_fin (fin_ret (.inl rfl) hf3 (vs:=[.s (.int .u16 0),.s (.bool false)]) (by kernel_rfl) (SettL.pure (FzL.tup (FzsL.cons (FzL.stat rfl) (FzsL.cons (FzL.stat rfl) FzsL.nil)))))
 ·refine Ks<|Kc<|Kq<|Kd<|Sg 2 hf2 fun f3 hf3 => ?_
  obtain ⟨r_,hx_r_,h⟩:=Bs h
  refine Cp (inst_Next_ok _ _ _ hx_r_) hf3 fun f4 hf4=>En hf4 fun f5 hf5 => ?_
  obtain rfl:=Oi h
  exact Kc<|Kt<|k_fin (fin_ret (.inl rfl) hf5 (vs:=[.s (.int .u16 (IntKind.wrap .u16 (r_+i_.Value))),.s (.bool true)]) (by kernel_rfl) (SettL.pure (FzL.tup (FzsL.cons (FzL.stat rfl) (FzsL.cons (FzL.stat rfl) FzsL.nil)))))
@[irreducible] noncomputable def i93:Nat→List Op1:=rg Tryz.prog 93 []
noncomputable def a93_0:IR:=(.seq (.seq (.reg false (i93 3)) (.cond (.t 10) .skip (.exit 0))) (.block 1 (.seq (.reg false (i93 4)) (.seq (.reg false (i93 5)) (.reg false (i93 6))))))
noncomputable def a93_1:IR:=(.seq (.reg false (i93 2)) (.seq (.block 0 (.loop a93_0)) (.seq (.reg false (i93 7)) .ret)))
noncomputable def digit_Dec_ir:IR:=(.seq (.reg false (i93 0)) (.seq (.reg false (i93 1)) a93_1))
theorem digit_Dec_cfn:cFn Tryz.prog 93=some (digit_Dec_ir,[(.t 2)],24):=by kernel_rfl
def digit_Dec_V (r:(ByteArray)):V:=.s (.string r)
def digit_Dec_C (r:(ByteArray)):X→Fr→Hp→Prop:=FinL [(.t 2)] [] (digit_Dec_V r) []
theorem digit_Dec_ok (n_:Int) (r:(ByteArray)) (h:digit_Dec n_=some r):Pure Tryz.prog 93 [.s (.int .u64 n_)] (digit_Dec_V r):=by
 refine CS digit_Dec_cfn (digit_Dec_C r) fun f hf => ?_
 unfold digit_Dec at h
 refine Kq<|Kr<|En hf fun f1 hf1=>Kc<|Kq<|Kr<|En hf1 fun f2 hf2=>Kc<|Kq<|Kr<|En hf2 fun f3 hf3=>Kc<|Kq<|Kb ?_
 obtain ⟨o0,hx0,h⟩:=Bs h
 have hgo0:∀ (l_2:(List Int)) (i_2:Int) (hn_2:l_2.length=20),(l_2,i_2)=o0→∀ f,FOk f [⟨2,[],.s (.string (⟨#[]⟩:ByteArray))⟩,⟨3,[],.ptr 0 0 0⟩,⟨4,[],.s (.int .i64 i_2)⟩]→kont Tryz.prog [] (digit_Dec_C r) ((.c (.seq (.reg false (i93 7)) .ret))::[]) .normal f [⟨0,.mem,1,cat (nI .u8) l_2⟩]:=by
  intro l_2 i_2 hn_2 e f hf
  subst e
  refine Kc<|Kq<|Kr<|Sg 1 hf fun f1 hf1 => ?_
  obtain ⟨c3,h⟩:=as_ok h
  refine Ad (.sarr 20 1 (.t 3) (some (.t 21)) none) (.ref 0 0 (0+(i_2:Int).toNat*1) (20 - (i_2:Int).toNat)) hf1 (e_sarr (g:=(nI .u8)) (l:=l_2) (q:=0) (ver:=0) (n:=20) (kd:=.mem) (by kernel_rfl) (live_mem (by kernel_rfl)) hn_2 (b_sn (k:=.i64) (iv:=i_2) (by kernel_rfl) c3)) fun f2 hf2=>Ad (.bstr (.t 22)) (.s (.string (bs ((l_2.drop (i_2:Int).toNat).take (20 - (i_2:Int).toNat))))) hf2 (e_bstr (q:=((l_2.drop (i_2:Int).toNat).take (20 - (i_2:Int).toNat))) (slc_ev (v:=.ref 0 0 (0+(i_2:Int).toNat*1) (20 - (i_2:Int).toNat)) (by kernel_rfl) (slc_refp (g:=(nI .u8)) (l:=l_2) (q:=0) (n:=20) (a:=(i_2:Int).toNat) (b:=20) (kd:=.mem) (z:=1) (cut_sn (n:=20) c3) hn_2 (live_mem (by kernel_rfl))))) fun f3 hf3=>En hf3 fun f4 hf4 => ?_
  obtain rfl:=Oi h
  exact Kc<|Kt<|Fp hf4
 refine k_loop BIG<|loop_ind (fun n f L=>∃ (l_1:(List Int)) (t_1:Int) (i_1:Int) (hn_1:l_1.length=20),digit_Dec_l0 n l_1 t_1 i_1=some o0∧FOk f [⟨0,[],.s (.int .u64 t_1)⟩,⟨2,[],.s (.string (⟨#[]⟩:ByteArray))⟩,⟨3,[],.ptr 0 0 0⟩,⟨4,[],.s (.int .i64 i_1)⟩]∧L=[⟨0,.mem,1,cat (nI .u8) l_1⟩]) ?_ ?_ BIG _ _ ⟨[0,0,0,0,0,0,0,0,0,0,0,0,0,0,0,0,0,0,0,0],n_,(20),(by kernel_rfl),hx0,FOk_of [0,2,3,4] hf3 (by kernel_rfl),(by kernel_rfl)⟩
 ·rintro f L ⟨l_1,t_1,i_1,hn_1,h,_⟩
  cases (show (none:Option _)=some _ from h)
 ·rintro n0 R0 ih f L ⟨l_1,t_1,i_1,hn_1,h,hf,rfl⟩
  rw [digit_Dec_l0] at h
  refine Kq<|Kq<|Kr<|En hf fun f1 hf1=>Kc<|Kf hf1 h (fun hc1 h => ?_) fun hc1 h => ?_
  ·refine Ks<|Kc<|Kb<|Kq<|Kr<|En hf1 fun f2 hf2=>Kc<|Kq<|Kr<|Sg 4 hf2 fun f3 hf3 => ?_
   obtain ⟨r_2,hx_r_2,h⟩:=Bs h
   refine Cp (digit_sign_ok _ _ hx_r_2) hf3 fun f4 hf4 => ?_
   obtain ⟨c2,h⟩:=as_ok h
   exact Ad (.iaa 20 1 (.t 3) (.t 13)) (.ptr 0 0 (0+((IntKind.wrap .i64 (i_1 - 1)):Int).toNat*1)) hf4 (e_iaa (n:=20) (xv:=.ptr 0 0 0) (k:=.i64) (iv:=(IntKind.wrap .i64 (i_1 - 1))) (p:=.ptr 0 0 (0+((IntKind.wrap .i64 (i_1 - 1)):Int).toNat*1)) (by kernel_rfl) (by kernel_rfl) (by kernel_rfl) (by kernel_rfl) c2) fun f5 hf5=>Ad (.store 1 (.t 18) (.t 17)) (.s undef) hf5 (e_store_pe (g:=(nI .u8)) (l:=l_1) (iv:=(IntKind.wrap .i64 (i_1 - 1))) (kd:=.mem) (q:=1) (b:=0) (ver:=0) (ys:=[.s (.int .u8 r_2)]) (a:=r_2) [] (by kernel_rfl) (live_mem (by kernel_rfl)) (by kernel_rfl) (by kernel_rfl) (by kernel_rfl) (arr_h (l:=l_1) c2 hn_1) (by kernel_rfl) (by kernel_rfl)) fun f6 hf6=>En hf6 fun f7 hf7=>Kc<|Kr<|En hf7 fun f8 hf8=>Kv<|Kl<|ih _ _ ⟨(st l_1 (IntKind.wrap .i64 (i_1 - 1)) r_2),(IntKind.wrap .u64 (Int.tdiv t_1 10)),(IntKind.wrap .i64 (i_1 - 1)),(st_len.trans hn_1),h,FOk_of [0,2,3,4] hf8 (by kernel_rfl),(by kernel_rfl)⟩
  ·exact Kx<|Xc<|Xl<|Xb<|Kh (hgo0 l_1 i_1 hn_1 (Option.some.inj h) _ (Of [2,3,4] hf1))
@[irreducible] noncomputable def i80:Nat→List Op1:=rg Tryz.prog 80 []
noncomputable def a80_0:IR:=(.seq (.block 1 (.seq (.reg false (i80 4)) (.seq (.reg false (i80 5)) (.cond (.t 18) (.reg false (i80 6)) .skip)))) (.reg false (i80 7)))
noncomputable def a80_1:IR:=(.block 0 (.loop (.seq (.reg false (i80 3)) (.seq (.cond (.t 11) .skip (.exit 0)) a80_0))))
noncomputable def a80_2:IR:=(.seq (.reg false (i80 1)) (.seq (.seq (.reg false (i80 2)) a80_1) (.seq (.reg false (i80 8)) .ret)))
noncomputable def lists_Text_ir:IR:=(.seq (.reg false (i80 0)) a80_2)
theorem lists_Text_cfn:cFn Tryz.prog 80=some (lists_Text_ir,[(.t 4)],27):=by kernel_rfl
def lists_Text_V (r:(ByteArray)):V:=.s (.string r)
def lists_Text_C (r:(ByteArray)):X→Fr→Hp→Prop:=FinL [(.t 4)] [] (lists_Text_V r) []
theorem lists_Text_ok (post_:Int) (stack_:Int) (r:(ByteArray)) (h:lists_Text post_ stack_=some r):Pure Tryz.prog 80 [.s (.int .u8 post_),.s (.int .i64 stack_)] (lists_Text_V r):=by
 refine CS lists_Text_cfn (lists_Text_C r) fun f hf => ?_
 unfold lists_Text at h
 refine Kq<|Kr<|En hf fun f1 hf1=>Kc<|Kq<|Kr<|En hf1 fun f2 hf2=>Kc<|Kq<|Kq<|Kr<|Sg 1 hf2 fun f3 hf3 => ?_
 obtain ⟨r_,hx_r_,h⟩:=Bs h
 refine Cp (lists_regs_ok _ _ hx_r_) hf3 fun f4 hf4=>En hf4 fun f5 hf5=>Kc<|Kb ?_
 obtain ⟨o0,hx0,h⟩:=Bs h
 have hgo0:∀ (l_2:(List ByteArray)) (v_2:Nat),l_2=o0→∀ f,FOk f [⟨4,[],.s (.string (⟨#[]⟩:ByteArray))⟩,⟨5,[],.ref 0 v_2 0 l_2.length⟩]→kont Tryz.prog [] (lists_Text_C r) ((.c (.seq (.reg false (i80 8)) .ret))::[]) .normal f [⟨v_2,.grow,1,cat nS l_2⟩]:=by
  intro l_2 v_2 e f hf
  subst e
  refine Kc<|Kq<|Kr<|Sg 1 hf fun f1 hf1 => ?_
  obtain ⟨r_4,hx_r_4,h⟩:=Bs h
  refine Ca hf1 (av:=[.ref 0 v_2 0 l_2.length,.s (.string (⟨#[44]⟩:ByteArray))]) (v:=.s (.string r_4)) (CalL.lend (strings_Join_ok l_2 (⟨#[44]⟩:ByteArray) r_4 hx_r_4) rfl (Lends.cons (Lend.whole (g:=nS) (kd:=.grow) (l:=l_2) rfl (live_grow (by kernel_rfl))) (Lends.cons (Lend.stat rfl) Lends.nil)) (by kernel_rfl)) (fun _=>rfl) fun f2 hf2=>En hf2 fun f3 hf3 => ?_
  obtain rfl:=Oi h
  exact Kc<|Kt<|Fp hf3
 refine k_loop BIG<|loop_ind (fun n f L=>∃ (l_1:(List ByteArray)) (t_1:Int) (v_1:Nat),lists_Text_l0 post_ r_ n l_1 t_1=some o0∧FOk f [⟨0,[],.s (.int .u8 post_)⟩,⟨4,[],.s (.string (⟨#[]⟩:ByteArray))⟩,⟨5,[],.ref 0 v_1 0 l_1.length⟩,⟨9,[],.agg [.s (.int .i64 r_.a0),.s (.int .i64 r_.a1),.s (.int .i64 r_.a2),.s (.int .i64 r_.a3),.s (.int .i64 r_.a4),.s (.int .i64 r_.a5),.s (.int .i64 r_.a6),.s (.int .i64 r_.a7)]⟩,⟨10,[],.s (.int .i64 t_1)⟩]∧L=[⟨v_1,.grow,1,cat nS l_1⟩]) ?_ ?_ BIG _ _ ⟨([]:List ByteArray),(0),(0),hx0,FOk_of [0,4,5,9,10] hf5 (by kernel_rfl),(by kernel_rfl)⟩
 ·rintro f L ⟨l_1,t_1,v_1,h,_⟩
  cases (show (none:Option _)=some _ from h)
 ·rintro n0 R0 ih f L ⟨l_1,t_1,v_1,h,hf,rfl⟩
  rw [lists_Text_l0] at h
  refine Kq<|Kr<|En hf fun f1 hf1=>Kc<|Kq<|Kf hf1 h (fun hc1 h => ?_) fun hc1 h => ?_
  ·refine Ks<|Kc<|Kq<|Kb<|Kq<|Kr<|Sg 1 hf1 fun f2 hf2 => ?_
   obtain ⟨c2,h⟩:=as_ok h
   refine Ad (.ixa false 8 1 (.t 9) (.t 10)) (.s (.int .i64 (gt [r_.a0,r_.a1,r_.a2,r_.a3,r_.a4,r_.a5,r_.a6,r_.a7] t_1))) hf2 (e_ixa (g:=(nI .i64)) (l:=[r_.a0,r_.a1,r_.a2,r_.a3,r_.a4,r_.a5,r_.a6,r_.a7]) (n:=8) (k:=.i64) (iv:=t_1) (by kernel_rfl) (by kernel_rfl) c2 (by kernel_rfl) (by kernel_rfl)) fun f3 hf3=>En hf3 fun f4 hf4=>Kc<|Kq<|Kr<|Sg 2 hf4 fun f5 hf5 => ?_
   obtain ⟨c3,h⟩:=as_ok h
   refine Ad (.bin .shr (.t 14) (.t 15)) (.s (.int .u8 (Int.fdiv post_ (2 ^ (min (t_1:Int).toNat (IntKind.bits .u8)))))) hf5 (e_shr (k:=.u8) (k':=.i64) (iv:=post_) (jv:=t_1) (by kernel_rfl) (by kernel_rfl) c3) fun f6 hf6=>En hf6 fun f7 hf7=>Kc<|Kf hf7 h (fun hc4 h => ?_) fun hc4 h => ?_
   ·refine Kr<|Sg 2 hf7 fun f8 hf8 => ?_
    obtain ⟨r_3,hx_r_3,h⟩:=Bs h
    refine Cp (ops_Reg_ok _ _ hx_r_3) hf8 fun f9 hf9=>Sg 1 hf9 fun f10 hf10 => ?_
    obtain ⟨c5,h⟩:=as_ok h
    refine Ad (.app 9 1 16 (.t 19) (.t 22)) (.ref 0 (v_1+1) 0 (l_1++[r_3]).length) hf10 (e_app (g:=nS) (l:=l_1) (l':=[r_3]) (b:=0) (ver:=v_1) (n:=l_1.length) rfl (by kernel_rfl) rfl (live_grow (by kernel_rfl)) (sll_ev (v:=.ref 1 0 0 1) (by kernel_rfl) (sll_ref (B:=⟨0,.grow,1,cat nS [r_3]⟩) (by kernel_rfl) (live_grow (by kernel_rfl)))) (slc_ev (v:=.ref 1 0 0 1) (by kernel_rfl) (slc_ref (g:=nS) (l:=[r_3]) (kd:=.grow) (q:=1) (by kernel_rfl) (live_grow (by kernel_rfl)))) c5) fun f11 hf11=>En hf11 fun f12 hf12=>Kv<|Kc<|Kr<|En hf12 fun f13 hf13=>k_l' (vs_cut (l:=[⟨0,[],.s (.int .u8 post_)⟩,⟨4,[],.s (.string (⟨#[]⟩:ByteArray))⟩,⟨5,[],.ref 0 (v_1+1) 0 (l_1++[r_3]).length⟩,⟨9,[],.agg [.s (.int .i64 r_.a0),.s (.int .i64 r_.a1),.s (.int .i64 r_.a2),.s (.int .i64 r_.a3),.s (.int .i64 r_.a4),.s (.int .i64 r_.a5),.s (.int .i64 r_.a6),.s (.int .i64 r_.a7)]⟩,⟨10,[],.s (.int .i64 (IntKind.wrap .i64 (t_1+1)))⟩]) 1 (by kernel_rfl) (by kernel_rfl) (L':=[⟨(v_1+1),.grow,1,cat nS (l_1++[r_3])⟩]) (by kernel_rfl) ⟨⟨rfl,rfl⟩,⟨rfl,rfl⟩,⟨rfl,rfl⟩,⟨rfl,rfl⟩,⟨rfl,rfl⟩,trivial⟩ ⟨.inr (.inr (statics_unders _ _ (cat_stat _))),trivial⟩ (Of [0,4,5,9,10] hf13) fun f hf => ?_)
    exact ih _ _ ⟨(l_1++[r_3]),(IntKind.wrap .i64 (t_1+1)),(v_1+1),h,hf,rfl⟩
   ·exact Ks<|Kv<|Kc<|Kr<|En hf7 fun f8 hf8=>Kl<|ih _ _ ⟨l_1,(IntKind.wrap .i64 (t_1+1)),v_1,h,FOk_of [0,4,5,9,10] hf8 (by kernel_rfl),(by kernel_rfl)⟩
  ·exact Kx<|Xc<|Xl<|Xb<|Kh (hgo0 l_1 v_1 (Option.some.inj h) _ (Of [4,5] hf1))
@[irreducible] noncomputable def i31:Nat→List Op1:=rg Tryz.prog 31 [55]
@[irreducible] noncomputable def j31:Nat→List An:=rgw Tryz.prog 31 [55]
noncomputable def a31_0:IR:=(.seq (.seq (.reg false (i31 6)) (.cond (.t 26) (.reg false (i31 7)) .skip)) (.regw (j31 0)))
noncomputable def a31_1:IR:=(.seq (.seq (.reg false (i31 4)) (.cond (.t 17) .skip (.exit 0))) (.seq (.block 1 (.seq (.reg false (i31 5)) a31_0)) (.reg false (i31 8))))
noncomputable def a31_2:IR:=(.seq (.reg false (i31 13)) (.seq (.reg false (i31 14)) (.cond (.t 108) (.reg false (i31 15)) .skip)))
noncomputable def a31_3:IR:=(.seq (.seq (.reg false (i31 11)) (.cond (.t 84) .skip (.exit 2))) (.seq (.block 3 (.seq (.reg true (i31 12)) a31_2)) (.reg false (i31 16))))
noncomputable def a31_4:IR:=(.seq (.block 5 (.seq (.reg false (i31 19)) (.seq (.reg false (i31 20)) (.cond (.t 128) (.reg false (i31 21)) .skip)))) (.reg false (i31 22)))
noncomputable def a31_5:IR:=(.block 4 (.loop (.seq (.seq (.reg false (i31 18)) (.cond (.t 119) .skip (.exit 4))) a31_4)))
noncomputable def a31_6:IR:=(.seq (.block 7 (.seq (.reg false (i31 26)) (.reg false (i31 27)))) (.reg false (i31 28)))
noncomputable def a31_7:IR:=(.block 6 (.loop (.seq (.seq (.reg false (i31 25)) (.cond (.t 163) .skip (.exit 6))) a31_6)))
noncomputable def a31_8:IR:=(.seq (.reg false (i31 23)) (.seq (.seq (.reg false (i31 24)) a31_7) (.seq (.reg false (i31 29)) .ret)))
noncomputable def a31_9:IR:=(.seq (.seq (.reg false (i31 10)) (.block 2 (.loop a31_3))) (.seq (.seq (.reg false (i31 17)) a31_5) a31_8))
noncomputable def a31_10:IR:=(.seq (.seq (.reg false (i31 3)) (.block 0 (.loop a31_1))) (.seq (.reg false (i31 9)) a31_9))
noncomputable def spinetref14_All_ir:IR:=(.seq (.reg false (i31 0)) (.seq (.reg false (i31 1)) (.seq (.reg false (i31 2)) a31_10)))
theorem spinetref14_All_cfn:cFn Tryz.prog 31 [55]=some (spinetref14_All_ir,[(.t 0)],182):=by kernel_rfl
def spinetref14_All_V (r:((List spinetref14_Known))):V:=.sl false r.length (cat spinetref14_Known.v r)
def spinetref14_All_C (r:((List spinetref14_Known))):X→Fr→Hp→Prop:=FinL [(.t 0)] [] (spinetref14_All_V r) []
abbrev k31_0:List A5_i64:=[(A5_i64.mk (1) (18) (39) (0) (0)),(A5_i64.mk (1) (19) (40) (0) (0)),(A5_i64.mk (1) (25) (42) (0) (0)),(A5_i64.mk (1) (29) (45) (0) (0)),(A5_i64.mk (1) (57) (48) (0) (0)),(A5_i64.mk (1) (58) (1) (0) (0)),(A5_i64.mk (1) (59) (49) (0) (0)),(A5_i64.mk (1) (61) (50) (0) (0)),(A5_i64.mk (1) (63) (51) (0) (1)),(A5_i64.mk (2) (63) (51) (0) (2)),(A5_i64.mk (3) (63) (51) (0) (3)),(A5_i64.mk (1) (26) (43) (1) (0)),(A5_i64.mk (1) (28) (44) (1) (0)),(A5_i64.mk (1) (60) (41) (1) (0)),(A5_i64.mk (1) (30) (46) (8) (0)),(A5_i64.mk (1) (31) (47) (8) (0)),(A5_i64.mk (1) (52) (30) (9) (4)),(A5_i64.mk (1) (53) (31) (9) (4)),(A5_i64.mk (1) (54) (30) (9) (3)),(A5_i64.mk (1) (55) (31) (9) (3)),(A5_i64.mk (1) (48) (29) (4) (1)),(A5_i64.mk (1) (49) (29) (4) (2)),(A5_i64.mk (1) (50) (29) (4) (4)),(A5_i64.mk (1) (51) (29) (4) (3)),(A5_i64.mk (1) (141) (37) (6) (0)),(A5_i64.mk (1) (22) (36) (7) (0)),(A5_i64.mk (1) (23) (38) (7) (0))]
abbrev k31_1:List A2_i64:=[(A2_i64.mk (13) (0)),(A2_i64.mk (14) (3)),(A2_i64.mk (15) (4)),(A2_i64.mk (16) (6)),(A2_i64.mk (17) (7)),(A2_i64.mk (18) (8)),(A2_i64.mk (19) (9)),(A2_i64.mk (20) (10)),(A2_i64.mk (21) (12)),(A2_i64.mk (22) (13)),(A2_i64.mk (23) (15)),(A2_i64.mk (32) (14))]
theorem spinetref14_All_ok (r:((List spinetref14_Known))) (h:spinetref14_All=some r):Pure Tryz.prog 31 [] (spinetref14_All_V r):=by
 refine CS spinetref14_All_cfn (spinetref14_All_C r) fun f hf => ?_
 unfold spinetref14_All at h
 refine Kq<|Kr<|En hf fun f1 hf1=>Kc<|Kq<|Kr<|En hf1 fun f2 hf2=>Kc<|Kq<|Kr ?_
 obtain ⟨r_,hx_r_,h⟩:=Bs h
 refine Ca hf2 (av:=[]) (v:=.sl false r_.length (cat A5_i64.v r_)) (CalL.pure (spinetref14_columns_ok  r_ hx_r_) rfl (by simp [V.static,statics,cat_stat,spinetref14_columns_V]) (Nat.le_of_ble_eq_true (by kernel_rfl))) (fun _=>rfl) fun f3 hf3=>En hf3 fun f4 hf4=>Kc<|Kq<|Kq<|Kr<|En hf4 fun f5 hf5=>Kc<|Kb ?_
 obtain ⟨o0,hx0,h⟩:=Bs h
 have hgo0:∀ (l_4:(List spinetref14_Known)) (v_4:Nat),l_4=o0→∀ f,FOk f [⟨0,[],.ref 0 0 0 0⟩,⟨1,[],.ref 1 v_4 0 l_4.length⟩]→kont Tryz.prog [] (spinetref14_All_C r) ((.c (.seq (.reg false (i31 9)) a31_9))::[]) .normal f [⟨0,.grow,5,cat spinetref14_Known.v ([]:List spinetref14_Known)⟩,⟨v_4,.grow,5,cat spinetref14_Known.v l_4⟩]:=by
  intro l_4 v_4 e f hf
  subst e
  refine Kc<|Kq<|Kr<|En hf fun f1 hf1=>Kc<|Kq<|Kq<|Kr<|En hf1 fun f2 hf2=>Kc<|Kb ?_
  obtain ⟨o1,hx1,h⟩:=Bs h
  have hgo1:∀ (l_9:(List spinetref14_Known)) (v_9:Nat),l_9=o1→∀ f,FOk f [⟨0,[],.ref 0 0 0 0⟩,⟨1,[],.ref 1 v_9 0 l_9.length⟩]→kont Tryz.prog [] (spinetref14_All_C r) ((.c (.seq (.seq (.reg false (i31 17)) a31_5) a31_8))::[]) .normal f [⟨0,.grow,5,cat spinetref14_Known.v ([]:List spinetref14_Known)⟩,⟨v_9,.grow,5,cat spinetref14_Known.v l_9⟩,⟨0,.mem,1,cat A2_i64.v k31_1⟩]:=by
   intro l_9 v_9 e f hf
   subst e
   refine Kc<|Kq<|Kq<|Kr<|En hf fun f1 hf1=>Kc<|Kb ?_
   obtain ⟨o2,hx2,h⟩:=Bs h
   have hgo2:∀ (l_12:(List spinetref14_Known)) (v_12:Nat),l_12=o2→∀ f,FOk f [⟨0,[],.ref 0 0 0 0⟩,⟨1,[],.ref 1 v_12 0 l_12.length⟩]→kont Tryz.prog [] (spinetref14_All_C r) ((.c a31_8)::[]) .normal f [⟨0,.grow,5,cat spinetref14_Known.v ([]:List spinetref14_Known)⟩,⟨v_12,.grow,5,cat spinetref14_Known.v l_12⟩,⟨0,.mem,1,cat A2_i64.v k31_1⟩]:=by
    intro l_12 v_12 e f hf
    subst e
    refine Kc<|Kq<|Kr<|En hf fun f1 hf1=>Kc<|Kq<|Kq<|Kr<|En hf1 fun f2 hf2=>Kc<|Kb ?_
    obtain ⟨o3,hx3,h⟩:=Bs h
    have hgo3:∀ (l_16:(List spinetref14_Known)) (v_16:Nat),l_16=o3→∀ f,FOk f [⟨0,[],.ref 0 0 0 0⟩,⟨1,[],.ref 1 v_16 0 l_16.length⟩]→kont Tryz.prog [] (spinetref14_All_C r) ((.c (.seq (.reg false (i31 29)) .ret))::[]) .normal f [⟨0,.grow,5,cat spinetref14_Known.v ([]:List spinetref14_Known)⟩,⟨v_16,.grow,5,cat spinetref14_Known.v l_16⟩,⟨0,.mem,1,cat A2_i64.v k31_1⟩,⟨0,.mem,1,cat A5_i64.v k31_0⟩]:=by
     intro l_16 v_16 e f hf
     subst e
     refine Kc<|Kq<|Kr<|En hf fun f1 hf1 => ?_
     obtain rfl:=Oi h
     exact Kc<|Kt<|k_fin (fin_ret (.inl rfl) hf1 (vs:=[.ref 1 v_16 0 l_16.length]) (by kernel_rfl) (SettL.pure (FzL.whole (g:=spinetref14_Known.v) (kd:=.grow) (l:=l_16) (by kernel_rfl) rfl (live_grow (by kernel_rfl)))))
    refine k_loop BIG<|loop_ind (fun n f L=>∃ (l_15:(List spinetref14_Known)) (i_7:Int) (v_15:Nat),spinetref14_All_l3 n l_15 i_7=some o3∧FOk f [⟨0,[],.ref 0 0 0 0⟩,⟨1,[],.ref 1 v_15 0 l_15.length⟩,⟨10,[],.ptr 3 0 0⟩,⟨11,[],.s (.int .i64 i_7)⟩]∧L=[⟨0,.grow,5,cat spinetref14_Known.v ([]:List spinetref14_Known)⟩,⟨v_15,.grow,5,cat spinetref14_Known.v l_15⟩,⟨0,.mem,1,cat A2_i64.v k31_1⟩,⟨0,.mem,1,cat A5_i64.v k31_0⟩]) ?_ ?_ BIG _ _ ⟨l_12,(0),v_12,hx3,FOk_of [0,1,10,11] hf2 (by kernel_rfl),(by kernel_rfl)⟩
    ·rintro f L ⟨l_15,i_7,v_15,h,_⟩
     cases (show (none:Option _)=some _ from h)
    ·rintro n3 R3 ih f L ⟨l_15,i_7,v_15,h,hf,rfl⟩
     rw [spinetref14_All_l3] at h
     refine Kq<|Kq<|Kr<|En hf fun f1 hf1=>Kc<|Kf hf1 h (fun hc10 h => ?_) fun hc10 h => ?_
     ·refine Ks<|Kc<|Kq<|Kb<|Kq<|Kr<|Sg 1 hf1 fun f2 hf2 => ?_
      obtain ⟨c11,h⟩:=as_ok h
      refine Ad (.iaa 27 5 (.t 10) (.t 166)) (.ptr 3 0 (0+(i_7:Int).toNat*5)) hf2 (e_iaa (n:=27) (xv:=.ptr 3 0 0) (k:=.i64) (iv:=i_7) (p:=.ptr 3 0 (0+(i_7:Int).toNat*5)) (by kernel_rfl) (by kernel_rfl) (by kernel_rfl) (by kernel_rfl) c11) fun f3 hf3=>Ad (.load true 5 (.t 167)) (.agg [.s (.int .i64 (gt k31_0 i_7).a0),.s (.int .i64 (gt k31_0 i_7).a1),.s (.int .i64 (gt k31_0 i_7).a2),.s (.int .i64 (gt k31_0 i_7).a3),.s (.int .i64 (gt k31_0 i_7).a4)]) hf3 (e_load_pe (g:=A5_i64.v) (l:=k31_0) (iv:=i_7) (kd:=.mem) (q:=1) (b:=3) (ver:=0) [] (by kernel_rfl) (live_mem (by kernel_rfl)) (arr_h (l:=k31_0) c11 (by kernel_rfl)) (by kernel_rfl) (by kernel_rfl)) fun f4 hf4=>En hf4 fun f5 hf5=>Kc<|Kr<|Sg 11 hf5 fun f6 hf6 => ?_
      obtain ⟨r_42,hx_r_42,h⟩:=Bs h
      refine Ca hf6 (av:=[.ref 1 v_15 0 l_15.length,.s (.int .i64 (gt k31_0 i_7).a0),.s (.int .i64 (gt k31_0 i_7).a1),.s (.int .i64 (gt k31_0 i_7).a2),.s (.int .i64 (gt k31_0 i_7).a3),.s (.int .i64 (gt k31_0 i_7).a4)]) (v:=.ref 1 (v_15+1) 0 r_42.length) (L':=[⟨0,.grow,5,cat spinetref14_Known.v ([]:List spinetref14_Known)⟩,⟨(v_15+1),.grow,5,cat spinetref14_Known.v r_42⟩,⟨0,.mem,1,cat A2_i64.v k31_1⟩,⟨0,.mem,1,cat A5_i64.v k31_0⟩,⟨0,.mem,1,[.s (.int .i64 (gt k31_0 i_7).a0),.s (.int .i64 (gt k31_0 i_7).a1),.s (.int .i64 (gt k31_0 i_7).a2),.s (.int .i64 (gt k31_0 i_7).a3),.s (.int .i64 (gt k31_0 i_7).a4)]⟩]) (CalL.borrow (M:=[⟨v_15,.grow,5,cat spinetref14_Known.v l_15⟩]) (M':=[⟨(v_15+1),.grow,5,cat spinetref14_Known.v r_42⟩]) [1] (spinetref14_add_ok l_15 ((gt k31_0 i_7).a0) ((gt k31_0 i_7).a1) ((gt k31_0 i_7).a2) ((gt k31_0 i_7).a3) ((gt k31_0 i_7).a4) v_15 r_42 hx_r_42) (by kernel_rfl) (RNs.cons (RN.ref (by kernel_rfl)) (RNs.cons (RN.stat rfl) (RNs.cons (RN.stat rfl) (RNs.cons (RN.stat rfl) (RNs.cons (RN.stat rfl) (RNs.cons (RN.stat rfl) RNs.nil)))))) (RN.ref (by kernel_rfl)) (RBs.cons (RNs.stat (cat_stat _)) RBs.nil) (RBs.cons (RNs.stat (cat_stat _)) RBs.nil) (by kernel_rfl) (by kernel_rfl)) (by intro h; cases h) fun f7 hf7=>En hf7 fun f8 hf8=>Kv<|Kc<|Kr<|En hf8 fun f9 hf9=>k_l' (vs_cut (l:=[⟨0,[],.ref 0 0 0 0⟩,⟨1,[],.ref 1 (v_15+1) 0 r_42.length⟩,⟨10,[],.ptr 3 0 0⟩,⟨11,[],.s (.int .i64 (IntKind.wrap .i64 (i_7+1)))⟩]) 4 (by kernel_rfl) (by kernel_rfl) (L':=[⟨0,.grow,5,cat spinetref14_Known.v ([]:List spinetref14_Known)⟩,⟨(v_15+1),.grow,5,cat spinetref14_Known.v r_42⟩,⟨0,.mem,1,cat A2_i64.v k31_1⟩,⟨0,.mem,1,cat A5_i64.v k31_0⟩]) (by kernel_rfl) ⟨⟨rfl,rfl⟩,⟨rfl,rfl⟩,⟨rfl,rfl⟩,⟨rfl,rfl⟩,trivial⟩ ⟨.inr (.inr (statics_unders _ _ (cat_stat _))),.inr (.inr (statics_unders _ _ (cat_stat _))),.inr (.inr (statics_unders _ _ (cat_stat _))),.inr (.inr (statics_unders _ _ (cat_stat _))),trivial⟩ (Of [0,1,10,11] hf9) fun f hf => ?_)
      exact ih _ _ ⟨r_42,(IntKind.wrap .i64 (i_7+1)),(v_15+1),h,hf,rfl⟩
     ·exact Kx<|Xc<|Xl<|Xb<|Kh (hgo3 l_15 v_15 (Option.some.inj h) _ (Of [0,1] hf1))
   refine k_loop BIG<|loop_ind (fun n f L=>∃ (l_11:(List spinetref14_Known)) (n_1:Int) (v_11:Nat),spinetref14_All_l2 n l_11 n_1=some o2∧FOk f [⟨0,[],.ref 0 0 0 0⟩,⟨1,[],.ref 1 v_11 0 l_11.length⟩,⟨9,[],.s (.int .i64 n_1)⟩]∧L=[⟨0,.grow,5,cat spinetref14_Known.v ([]:List spinetref14_Known)⟩,⟨v_11,.grow,5,cat spinetref14_Known.v l_11⟩,⟨0,.mem,1,cat A2_i64.v k31_1⟩]) ?_ ?_ BIG _ _ ⟨l_9,(0),v_9,hx2,FOk_of [0,1,9] hf1 (by kernel_rfl),(by kernel_rfl)⟩
   ·rintro f L ⟨l_11,n_1,v_11,h,_⟩
    cases (show (none:Option _)=some _ from h)
   ·rintro n2 R2 ih f L ⟨l_11,n_1,v_11,h,hf,rfl⟩
    rw [spinetref14_All_l2] at h
    refine Kq<|Kq<|Kr<|En hf fun f1 hf1=>Kc<|Kf hf1 h (fun hc8 h => ?_) fun hc8 h => ?_
    ·refine Ks<|Kc<|Kq<|Kb<|Kq<|Kr<|Sg 4 hf1 fun f2 hf2 => ?_
     obtain ⟨r_37,hx_r_37,h⟩:=Bs h
     refine Ca hf2 (av:=[.ref 1 v_11 0 l_11.length,.s (.int .i64 1),.s (.int .i64 (IntKind.wrap .i64 (32+n_1))),.s (.int .i64 34),.s (.int .i64 6),.s (.int .i64 n_1)]) (v:=.ref 1 (v_11+1) 0 r_37.length) (L':=[⟨0,.grow,5,cat spinetref14_Known.v ([]:List spinetref14_Known)⟩,⟨(v_11+1),.grow,5,cat spinetref14_Known.v r_37⟩,⟨0,.mem,1,cat A2_i64.v k31_1⟩]) (CalL.borrow (M:=[⟨v_11,.grow,5,cat spinetref14_Known.v l_11⟩]) (M':=[⟨(v_11+1),.grow,5,cat spinetref14_Known.v r_37⟩]) [1] (spinetref14_add_ok l_11 (1) (IntKind.wrap .i64 (32+n_1)) (34) (6) n_1 v_11 r_37 hx_r_37) (by kernel_rfl) (RNs.cons (RN.ref (by kernel_rfl)) (RNs.cons (RN.stat rfl) (RNs.cons (RN.stat rfl) (RNs.cons (RN.stat rfl) (RNs.cons (RN.stat rfl) (RNs.cons (RN.stat rfl) RNs.nil)))))) (RN.ref (by kernel_rfl)) (RBs.cons (RNs.stat (cat_stat _)) RBs.nil) (RBs.cons (RNs.stat (cat_stat _)) RBs.nil) (by kernel_rfl) (by kernel_rfl)) (by intro h; cases h) fun f3 hf3=>En hf3 fun f4 hf4=>Kc<|Kq<|Kr<|En hf4 fun f5 hf5=>Kc<|Kf hf5 h (fun hc9 h => ?_) fun hc9 h => ?_
     ·refine Kr<|Sg 4 hf5 fun f6 hf6 => ?_
      obtain ⟨r_38,hx_r_38,h⟩:=Bs h
      exact Ca hf6 (av:=[.ref 1 (v_11+1) 0 r_37.length,.s (.int .i64 2),.s (.int .i64 (IntKind.wrap .i64 (32+n_1))),.s (.int .i64 35),.s (.int .i64 7),.s (.int .i64 n_1)]) (v:=.ref 1 (((v_11+1))+1) 0 r_38.length) (L':=[⟨0,.grow,5,cat spinetref14_Known.v ([]:List spinetref14_Known)⟩,⟨(((v_11+1))+1),.grow,5,cat spinetref14_Known.v r_38⟩,⟨0,.mem,1,cat A2_i64.v k31_1⟩]) (CalL.borrow (M:=[⟨(v_11+1),.grow,5,cat spinetref14_Known.v r_37⟩]) (M':=[⟨(((v_11+1))+1),.grow,5,cat spinetref14_Known.v r_38⟩]) [1] (spinetref14_add_ok r_37 (2) (IntKind.wrap .i64 (32+n_1)) (35) (7) n_1 ((v_11+1)) r_38 hx_r_38) (by kernel_rfl) (RNs.cons (RN.ref (by kernel_rfl)) (RNs.cons (RN.stat rfl) (RNs.cons (RN.stat rfl) (RNs.cons (RN.stat rfl) (RNs.cons (RN.stat rfl) (RNs.cons (RN.stat rfl) RNs.nil)))))) (RN.ref (by kernel_rfl)) (RBs.cons (RNs.stat (cat_stat _)) RBs.nil) (RBs.cons (RNs.stat (cat_stat _)) RBs.nil) (by kernel_rfl) (by kernel_rfl)) (by intro h; cases h) fun f7 hf7=>En hf7 fun f8 hf8=>Kv<|Kc<|Kr<|En hf8 fun f9 hf9=>Kl<|ih _ _ ⟨r_38,(IntKind.wrap .i64 (n_1+1)),(((v_11+1))+1),h,FOk_of [0,1,9] hf9 (by kernel_rfl),(by kernel_rfl)⟩
     ·exact Ks<|Kv<|Kc<|Kr<|En hf5 fun f6 hf6=>Kl<|ih _ _ ⟨r_37,(IntKind.wrap .i64 (n_1+1)),(v_11+1),h,FOk_of [0,1,9] hf6 (by kernel_rfl),(by kernel_rfl)⟩
    ·exact Kx<|Xc<|Xl<|Xb<|Kh (hgo2 l_11 v_11 (Option.some.inj h) _ (Of [0,1] hf1))
  refine k_loop BIG<|loop_ind (fun n f L=>∃ (l_8:(List spinetref14_Known)) (i_4:Int) (v_8:Nat),spinetref14_All_l1 n l_8 i_4=some o1∧FOk f [⟨0,[],.ref 0 0 0 0⟩,⟨1,[],.ref 1 v_8 0 l_8.length⟩,⟨5,[],.ptr 2 0 0⟩,⟨6,[],.s (.int .i64 i_4)⟩]∧L=[⟨0,.grow,5,cat spinetref14_Known.v ([]:List spinetref14_Known)⟩,⟨v_8,.grow,5,cat spinetref14_Known.v l_8⟩,⟨0,.mem,1,cat A2_i64.v k31_1⟩]) ?_ ?_ BIG _ _ ⟨l_4,(0),v_4,hx1,FOk_of [0,1,5,6] hf2 (by kernel_rfl),(by kernel_rfl)⟩
  ·rintro f L ⟨l_8,i_4,v_8,h,_⟩
   cases (show (none:Option _)=some _ from h)
  ·rintro n1 R1 ih f L ⟨l_8,i_4,v_8,h,hf,rfl⟩
   rw [spinetref14_All_l1] at h
   refine Kq<|Kq<|Kr<|En hf fun f1 hf1=>Kc<|Kf hf1 h (fun hc4 h => ?_) fun hc4 h => ?_
   ·refine Ks<|Kc<|Kq<|Kb<|Kq<|Kd<|Sg 1 hf1 fun f2 hf2 => ?_
    obtain ⟨c5,h⟩:=as_ok h
    refine Ad (.iaa 12 2 (.t 5) (.t 87)) (.ptr 2 0 (0+(i_4:Int).toNat*2)) hf2 (e_iaa (n:=12) (xv:=.ptr 2 0 0) (k:=.i64) (iv:=i_4) (p:=.ptr 2 0 (0+(i_4:Int).toNat*2)) (by kernel_rfl) (by kernel_rfl) (by kernel_rfl) (by kernel_rfl) c5) fun f3 hf3=>Sg 1 hf3 fun f4 hf4=>Ad (.load false 1 (.t 89)) (.s (.int .i64 (gt k31_1 i_4).a0)) hf4 (e_load_pe (g:=A2_i64.v) (l:=k31_1) (iv:=i_4) (kd:=.mem) (q:=1) (b:=2) (ver:=0) [0] (by kernel_rfl) (live_mem (by kernel_rfl)) (arr_h (l:=k31_1) c5 (by kernel_rfl)) (by kernel_rfl) (by kernel_rfl)) fun f5 hf5=>Sg 1 hf5 fun f6 hf6 => ?_
    obtain ⟨c6,h⟩:=as_ok h
    refine Ad (.iaa 12 2 (.t 5) (.t 91)) (.ptr 2 0 (0+(i_4:Int).toNat*2)) hf6 (e_iaa (n:=12) (xv:=.ptr 2 0 0) (k:=.i64) (iv:=i_4) (p:=.ptr 2 0 (0+(i_4:Int).toNat*2)) (by kernel_rfl) (by kernel_rfl) (by kernel_rfl) (by kernel_rfl) c6) fun f7 hf7=>Sg 1 hf7 fun f8 hf8=>Ad (.load false 1 (.t 93)) (.s (.int .i64 (gt k31_1 i_4).a1)) hf8 (e_load_pe (g:=A2_i64.v) (l:=k31_1) (iv:=i_4) (kd:=.mem) (q:=1) (b:=2) (ver:=0) [1] (by kernel_rfl) (live_mem (by kernel_rfl)) (arr_h (l:=k31_1) c6 (by kernel_rfl)) (by kernel_rfl) (by kernel_rfl)) fun f9 hf9=>En hf9 fun f10 hf10=>Kc<|Kq<|Kr<|Sg 3 hf10 fun f11 hf11 => ?_
    obtain ⟨r_28,hx_r_28,h⟩:=Bs h
    refine Ca hf11 (av:=[.ref 1 v_8 0 l_8.length,.s (.int .i64 1),.s (.int .i64 (gt k31_1 i_4).a1),.s (.int .i64 (gt k31_1 i_4).a0),.s (.int .i64 3),.s (.int .i64 0)]) (v:=.ref 1 (v_8+1) 0 r_28.length) (L':=[⟨0,.grow,5,cat spinetref14_Known.v ([]:List spinetref14_Known)⟩,⟨(v_8+1),.grow,5,cat spinetref14_Known.v r_28⟩,⟨0,.mem,1,cat A2_i64.v k31_1⟩]) (CalL.borrow (M:=[⟨v_8,.grow,5,cat spinetref14_Known.v l_8⟩]) (M':=[⟨(v_8+1),.grow,5,cat spinetref14_Known.v r_28⟩]) [1] (spinetref14_add_ok l_8 (1) ((gt k31_1 i_4).a1) ((gt k31_1 i_4).a0) (3) (0) v_8 r_28 hx_r_28) (by kernel_rfl) (RNs.cons (RN.ref (by kernel_rfl)) (RNs.cons (RN.stat rfl) (RNs.cons (RN.stat rfl) (RNs.cons (RN.stat rfl) (RNs.cons (RN.stat rfl) (RNs.cons (RN.stat rfl) RNs.nil)))))) (RN.ref (by kernel_rfl)) (RBs.cons (RNs.stat (cat_stat _)) RBs.nil) (RBs.cons (RNs.stat (cat_stat _)) RBs.nil) (by kernel_rfl) (by kernel_rfl)) (by intro h; cases h) fun f12 hf12=>Sg 3 hf12 fun f13 hf13 => ?_
    obtain ⟨r_29,hx_r_29,h⟩:=Bs h
    refine Ca hf13 (av:=[.ref 1 (v_8+1) 0 r_28.length,.s (.int .i64 1),.s (.int .i64 (IntKind.wrap .i64 ((gt k31_1 i_4).a1+96))),.s (.int .i64 (gt k31_1 i_4).a0),.s (.int .i64 4),.s (.int .i64 0)]) (v:=.ref 1 (((v_8+1))+1) 0 r_29.length) (L':=[⟨0,.grow,5,cat spinetref14_Known.v ([]:List spinetref14_Known)⟩,⟨(((v_8+1))+1),.grow,5,cat spinetref14_Known.v r_29⟩,⟨0,.mem,1,cat A2_i64.v k31_1⟩]) (CalL.borrow (M:=[⟨(v_8+1),.grow,5,cat spinetref14_Known.v r_28⟩]) (M':=[⟨(((v_8+1))+1),.grow,5,cat spinetref14_Known.v r_29⟩]) [1] (spinetref14_add_ok r_28 (1) (IntKind.wrap .i64 ((gt k31_1 i_4).a1+96)) ((gt k31_1 i_4).a0) (4) (0) ((v_8+1)) r_29 hx_r_29) (by kernel_rfl) (RNs.cons (RN.ref (by kernel_rfl)) (RNs.cons (RN.stat rfl) (RNs.cons (RN.stat rfl) (RNs.cons (RN.stat rfl) (RNs.cons (RN.stat rfl) (RNs.cons (RN.stat rfl) RNs.nil)))))) (RN.ref (by kernel_rfl)) (RBs.cons (RNs.stat (cat_stat _)) RBs.nil) (RBs.cons (RNs.stat (cat_stat _)) RBs.nil) (by kernel_rfl) (by kernel_rfl)) (by intro h; cases h) fun f14 hf14=>Sg 3 hf14 fun f15 hf15 => ?_
    obtain ⟨r_30,hx_r_30,h⟩:=Bs h
    refine Ca hf15 (av:=[.ref 1 (((v_8+1))+1) 0 r_29.length,.s (.int .i64 1),.s (.int .i64 (IntKind.wrap .i64 ((gt k31_1 i_4).a1+112))),.s (.int .i64 (gt k31_1 i_4).a0),.s (.int .i64 5),.s (.int .i64 0)]) (v:=.ref 1 (((((v_8+1))+1))+1) 0 r_30.length) (L':=[⟨0,.grow,5,cat spinetref14_Known.v ([]:List spinetref14_Known)⟩,⟨(((((v_8+1))+1))+1),.grow,5,cat spinetref14_Known.v r_30⟩,⟨0,.mem,1,cat A2_i64.v k31_1⟩]) (CalL.borrow (M:=[⟨(((v_8+1))+1),.grow,5,cat spinetref14_Known.v r_29⟩]) (M':=[⟨(((((v_8+1))+1))+1),.grow,5,cat spinetref14_Known.v r_30⟩]) [1] (spinetref14_add_ok r_29 (1) (IntKind.wrap .i64 ((gt k31_1 i_4).a1+112)) ((gt k31_1 i_4).a0) (5) (0) ((((v_8+1))+1)) r_30 hx_r_30) (by kernel_rfl) (RNs.cons (RN.ref (by kernel_rfl)) (RNs.cons (RN.stat rfl) (RNs.cons (RN.stat rfl) (RNs.cons (RN.stat rfl) (RNs.cons (RN.stat rfl) (RNs.cons (RN.stat rfl) RNs.nil)))))) (RN.ref (by kernel_rfl)) (RBs.cons (RNs.stat (cat_stat _)) RBs.nil) (RBs.cons (RNs.stat (cat_stat _)) RBs.nil) (by kernel_rfl) (by kernel_rfl)) (by intro h; cases h) fun f16 hf16=>En hf16 fun f17 hf17=>Kc<|Kq<|Kr<|En hf17 fun f18 hf18=>Kc<|Kf hf18 h (fun hc7 h => ?_) fun hc7 h => ?_
    ·refine Kr<|mops_seg [0,1,5,6,7,8,109,111,112] 4 hf18 (l':=[⟨0,[],.ref 0 0 0 0⟩,⟨1,[],.ref 1 (((((v_8+1))+1))+1) 0 r_30.length⟩,⟨5,[],.ptr 2 0 0⟩,⟨6,[],.s (.int .i64 i_4)⟩,⟨7,[],.s (.int .i64 (gt k31_1 i_4).a0)⟩,⟨8,[],.s (.int .i64 (gt k31_1 i_4).a1)⟩,⟨109,[],.ref 1 (((((v_8+1))+1))+1) 0 r_30.length⟩,⟨111,[],.s (.int .i64 (IntKind.wrap .i64 ((gt k31_1 i_4).a1+64)))⟩,⟨112,[],.s (.int .i64 (gt k31_1 i_4).a0)⟩]) (L':=[⟨0,.grow,5,cat spinetref14_Known.v ([]:List spinetref14_Known)⟩,⟨(((((v_8+1))+1))+1),.grow,5,cat spinetref14_Known.v r_30⟩,⟨0,.mem,1,cat A2_i64.v k31_1⟩]) (by kernel_rfl) fun f19 hf19 => ?_
     obtain ⟨r_31,hx_r_31,h⟩:=Bs h
     refine Ca hf19 (av:=[.ref 1 (((((v_8+1))+1))+1) 0 r_30.length,.s (.int .i64 1),.s (.int .i64 (IntKind.wrap .i64 ((gt k31_1 i_4).a1+64))),.s (.int .i64 (gt k31_1 i_4).a0),.s (.int .i64 0),.s (.int .i64 8)]) (v:=.ref 1 (((((((v_8+1))+1))+1))+1) 0 r_31.length) (L':=[⟨0,.grow,5,cat spinetref14_Known.v ([]:List spinetref14_Known)⟩,⟨(((((((v_8+1))+1))+1))+1),.grow,5,cat spinetref14_Known.v r_31⟩,⟨0,.mem,1,cat A2_i64.v k31_1⟩]) (CalL.borrow (M:=[⟨(((((v_8+1))+1))+1),.grow,5,cat spinetref14_Known.v r_30⟩]) (M':=[⟨(((((((v_8+1))+1))+1))+1),.grow,5,cat spinetref14_Known.v r_31⟩]) [1] (spinetref14_add_ok r_30 (1) (IntKind.wrap .i64 ((gt k31_1 i_4).a1+64)) ((gt k31_1 i_4).a0) (0) (8) ((((((v_8+1))+1))+1)) r_31 hx_r_31) (by kernel_rfl) (RNs.cons (RN.ref (by kernel_rfl)) (RNs.cons (RN.stat rfl) (RNs.cons (RN.stat rfl) (RNs.cons (RN.stat rfl) (RNs.cons (RN.stat rfl) (RNs.cons (RN.stat rfl) RNs.nil)))))) (RN.ref (by kernel_rfl)) (RBs.cons (RNs.stat (cat_stat _)) RBs.nil) (RBs.cons (RNs.stat (cat_stat _)) RBs.nil) (by kernel_rfl) (by kernel_rfl)) (by intro h; cases h) fun f20 hf20=>Sg 3 hf20 fun f21 hf21 => ?_
     obtain ⟨r_32,hx_r_32,h⟩:=Bs h
     exact Ca hf21 (av:=[.ref 1 (((((((v_8+1))+1))+1))+1) 0 r_31.length,.s (.int .i64 1),.s (.int .i64 (IntKind.wrap .i64 ((gt k31_1 i_4).a1+80))),.s (.int .i64 (gt k31_1 i_4).a0),.s (.int .i64 0),.s (.int .i64 9)]) (v:=.ref 1 (((((((((v_8+1))+1))+1))+1))+1) 0 r_32.length) (L':=[⟨0,.grow,5,cat spinetref14_Known.v ([]:List spinetref14_Known)⟩,⟨(((((((((v_8+1))+1))+1))+1))+1),.grow,5,cat spinetref14_Known.v r_32⟩,⟨0,.mem,1,cat A2_i64.v k31_1⟩]) (CalL.borrow (M:=[⟨(((((((v_8+1))+1))+1))+1),.grow,5,cat spinetref14_Known.v r_31⟩]) (M':=[⟨(((((((((v_8+1))+1))+1))+1))+1),.grow,5,cat spinetref14_Known.v r_32⟩]) [1] (spinetref14_add_ok r_31 (1) (IntKind.wrap .i64 ((gt k31_1 i_4).a1+80)) ((gt k31_1 i_4).a0) (0) (9) ((((((((v_8+1))+1))+1))+1)) r_32 hx_r_32) (by kernel_rfl) (RNs.cons (RN.ref (by kernel_rfl)) (RNs.cons (RN.stat rfl) (RNs.cons (RN.stat rfl) (RNs.cons (RN.stat rfl) (RNs.cons (RN.stat rfl) (RNs.cons (RN.stat rfl) RNs.nil)))))) (RN.ref (by kernel_rfl)) (RBs.cons (RNs.stat (cat_stat _)) RBs.nil) (RBs.cons (RNs.stat (cat_stat _)) RBs.nil) (by kernel_rfl) (by kernel_rfl)) (by intro h; cases h) fun f22 hf22=>En hf22 fun f23 hf23=>Kv<|Kc<|Kr<|En hf23 fun f24 hf24=>Kl<|ih _ _ ⟨r_32,(IntKind.wrap .i64 (i_4+1)),(((((((((v_8+1))+1))+1))+1))+1),h,FOk_of [0,1,5,6] hf24 (by kernel_rfl),(by kernel_rfl)⟩
    ·exact Ks<|Kv<|Kc<|Kr<|mops_end [0,1,5,6] hf18 (l':=[⟨0,[],.ref 0 0 0 0⟩,⟨1,[],.ref 1 (((((v_8+1))+1))+1) 0 r_30.length⟩,⟨5,[],.ptr 2 0 0⟩,⟨6,[],.s (.int .i64 (IntKind.wrap .i64 (i_4+1)))⟩]) (L':=[⟨0,.grow,5,cat spinetref14_Known.v ([]:List spinetref14_Known)⟩,⟨(((((v_8+1))+1))+1),.grow,5,cat spinetref14_Known.v r_30⟩,⟨0,.mem,1,cat A2_i64.v k31_1⟩]) (by kernel_rfl) fun f19 hf19=>Kl<|ih _ _ ⟨r_30,(IntKind.wrap .i64 (i_4+1)),(((((v_8+1))+1))+1),h,FOk_of [0,1,5,6] hf19 (by kernel_rfl),rfl⟩
   ·exact Kx<|Xc<|Xl<|Xb<|Kh (hgo1 l_8 v_8 (Option.some.inj h) _ (Of [0,1] hf1))
 refine k_loop BIG<|loop_ind (fun n f L=>∃ (l_3:(List spinetref14_Known)) (i_1:Int) (v_3:Nat),spinetref14_All_l0 r_ n l_3 i_1=some o0∧FOk f [⟨0,[],.ref 0 0 0 0⟩,⟨1,[],.ref 1 v_3 0 l_3.length⟩,⟨2,[],.sl false r_.length (cat A5_i64.v r_)⟩,⟨3,[],.s (.int .i64 i_1)⟩]∧L=[⟨0,.grow,5,cat spinetref14_Known.v ([]:List spinetref14_Known)⟩,⟨v_3,.grow,5,cat spinetref14_Known.v l_3⟩]) ?_ ?_ BIG _ _ ⟨([]:List spinetref14_Known),(0),(0),hx0,FOk_of [0,1,2,3] hf5 (by kernel_rfl),(by kernel_rfl)⟩
 ·rintro f L ⟨l_3,i_1,v_3,h,_⟩
  cases (show (none:Option _)=some _ from h)
 ·rintro n0 R0 ih f L ⟨l_3,i_1,v_3,h,hf,rfl⟩
  rw [spinetref14_All_l0] at h
  refine Kq<|Kq<|Kr<|En hf fun f1 hf1=>Kc<|Kf hf1 h (fun hc1 h => ?_) fun hc1 h => ?_
  ·refine Ks<|Kc<|Kq<|Kb<|Kq<|Kr<|Sg 2 hf1 fun f2 hf2 => ?_
   obtain ⟨c2,h⟩:=as_ok h
   refine Ad (.ias 5 (.t 20) (.t 21)) (.ip ((cat A5_i64.v r_).drop ((i_1:Int).toNat*5))) hf2 (e_ias (n:=r_.length) (xv:=.sl false r_.length (cat A5_i64.v r_)) (k:=.i64) (iv:=i_1) (p:=.ip ((cat A5_i64.v r_).drop ((i_1:Int).toNat*5))) (by kernel_rfl) (by kernel_rfl) (by kernel_rfl) (by kernel_rfl) c2) fun f3 hf3=>Ad (.load true 5 (.t 22)) (.agg [.s (.int .i64 (gt r_ i_1).a0),.s (.int .i64 (gt r_ i_1).a1),.s (.int .i64 (gt r_ i_1).a2),.s (.int .i64 (gt r_ i_1).a3),.s (.int .i64 (gt r_ i_1).a4)]) hf3 (e_load_ip (g:=A5_i64.v) (l:=r_) (iv:=i_1) [] (by kernel_rfl) c2 (by kernel_rfl) (by kernel_rfl)) fun f4 hf4=>En hf4 fun f5 hf5=>Kc<|Kq<|Kq<|Kr<|En hf5 fun f6 hf6=>Kc ?_
   have hj1:∀ (l_5:(List spinetref14_Known)) (v_5:Nat),spinetref14_All_j0 ((spinetref14_All_l0 r_ n0)) r_ i_1 l_5=some o0→∀ f,FOk f [⟨0,[],.ref 0 0 0 0⟩,⟨1,[],.ref 1 v_5 0 l_5.length⟩,⟨2,[],.sl false r_.length (cat A5_i64.v r_)⟩,⟨3,[],.s (.int .i64 i_1)⟩,⟨4,[],.ptr 2 0 0⟩]→kont Tryz.prog [] (spinetref14_All_C r) ((.c (.regw (j31 0)))::(.b 1)::(.c (.reg false (i31 8)))::(.l R0)::(.b 0)::(.c (.seq (.reg false (i31 9)) a31_9))::[]) .normal f [⟨0,.grow,5,cat spinetref14_Known.v ([]:List spinetref14_Known)⟩,⟨v_5,.grow,5,cat spinetref14_Known.v l_5⟩,⟨0,.mem,1,[.s (.int .i64 (gt r_ i_1).a0),.s (.int .i64 (gt r_ i_1).a1),.s (.int .i64 (gt r_ i_1).a2),.s (.int .i64 (gt r_ i_1).a3),.s (.int .i64 (gt r_ i_1).a4)]⟩]:=by
    intro l_5 v_5 h f hf
    unfold spinetref14_All_j0 at h
    refine Kc<|Kw<|lw_tight 10 (by kernel_rfl)<|mops_end [0,1,2,3,4,39,41,44,46,48] hf (l':=[⟨0,[],.ref 0 0 0 0⟩,⟨1,[],.ref 1 v_5 0 l_5.length⟩,⟨2,[],.sl false r_.length (cat A5_i64.v r_)⟩,⟨3,[],.s (.int .i64 i_1)⟩,⟨4,[],.ptr 2 0 0⟩,⟨39,[],.ref 1 v_5 0 l_5.length⟩,⟨41,[],.s (.int .i64 (gt r_ i_1).a2)⟩,⟨44,[],.s (.int .i64 (IntKind.wrap .i64 ((gt r_ i_1).a3+16)))⟩,⟨46,[],.s (.int .i64 (gt r_ i_1).a0)⟩,⟨48,[],.s (.int .i64 (gt r_ i_1).a1)⟩]) (L':=[⟨0,.grow,5,cat spinetref14_Known.v ([]:List spinetref14_Known)⟩,⟨v_5,.grow,5,cat spinetref14_Known.v l_5⟩,⟨0,.mem,1,[.s (.int .i64 (gt r_ i_1).a0),.s (.int .i64 (gt r_ i_1).a1),.s (.int .i64 (gt r_ i_1).a2),.s (.int .i64 (gt r_ i_1).a3),.s (.int .i64 (gt r_ i_1).a4)]⟩]) (by kernel_rfl) fun f1 hf1 => ?_
    intro _
    refine lw_w (a:=⟨⟨(some 49),(.call 55 [(.t 39),(.t 41),(.t 44),(.t 46),(.k (.int .i64 3)),(.t 48)]),none,[0,2,5,7,9]⟩,true,0,1⟩) (by kernel_rfl) rfl rfl ?_
    obtain ⟨r_10,hx_r_10,h⟩:=Bs h
    refine Ca hf1 (av:=[.ref 1 v_5 0 l_5.length,.s (.int .i64 (gt r_ i_1).a2),.s (.int .i64 (IntKind.wrap .i64 ((gt r_ i_1).a3+16))),.s (.int .i64 (gt r_ i_1).a0),.s (.int .i64 3),.s (.int .i64 (gt r_ i_1).a1)]) (v:=.ref 1 (v_5+1) 0 r_10.length) (L':=[⟨0,.grow,5,cat spinetref14_Known.v ([]:List spinetref14_Known)⟩,⟨(v_5+1),.grow,5,cat spinetref14_Known.v r_10⟩,⟨0,.mem,1,[.s (.int .i64 (gt r_ i_1).a0),.s (.int .i64 (gt r_ i_1).a1),.s (.int .i64 (gt r_ i_1).a2),.s (.int .i64 (gt r_ i_1).a3),.s (.int .i64 (gt r_ i_1).a4)]⟩]) (CalL.borrow (M:=[⟨v_5,.grow,5,cat spinetref14_Known.v l_5⟩]) (M':=[⟨(v_5+1),.grow,5,cat spinetref14_Known.v r_10⟩]) [1] (spinetref14_add_ok l_5 ((gt r_ i_1).a2) (IntKind.wrap .i64 ((gt r_ i_1).a3+16)) ((gt r_ i_1).a0) (3) ((gt r_ i_1).a1) v_5 r_10 hx_r_10) (by kernel_rfl) (RNs.cons (RN.ref (by kernel_rfl)) (RNs.cons (RN.stat rfl) (RNs.cons (RN.stat rfl) (RNs.cons (RN.stat rfl) (RNs.cons (RN.stat rfl) (RNs.cons (RN.stat rfl) RNs.nil)))))) (RN.ref (by kernel_rfl)) (RBs.cons (RNs.stat (cat_stat _)) RBs.nil) (RBs.cons (RNs.stat (cat_stat _)) RBs.nil) (by kernel_rfl) (by kernel_rfl)) (by intro h; cases h) fun f2 hf2=>mops_end [0,1,2,3,4,49] hf2 (l':=[⟨0,[],.ref 0 0 0 0⟩,⟨1,[],.ref 1 v_5 0 l_5.length⟩,⟨2,[],.sl false r_.length (cat A5_i64.v r_)⟩,⟨3,[],.s (.int .i64 i_1)⟩,⟨4,[],.ptr 2 0 0⟩,⟨49,[],.ref 1 (v_5+1) 0 r_10.length⟩]) (L':=[⟨0,.grow,5,cat spinetref14_Known.v ([]:List spinetref14_Known)⟩,⟨(v_5+1),.grow,5,cat spinetref14_Known.v r_10⟩,⟨0,.mem,1,[.s (.int .i64 (gt r_ i_1).a0),.s (.int .i64 (gt r_ i_1).a1),.s (.int .i64 (gt r_ i_1).a2),.s (.int .i64 (gt r_ i_1).a3),.s (.int .i64 (gt r_ i_1).a4)]⟩]) (by kernel_rfl) fun f3 hf3=>⟨trivial,?_⟩
    refine lw_free (dst:=(some 50)) (op:=(.iaa 5 1 (.t 4) (.k (.int .i64 2)))) (aft:=[]) (lo:=0) (hi:=1) (v:=.ptr 2 0 2) (by kernel_rfl) (by kernel_rfl) hf3 (by kernel_rfl) (by kernel_rfl) (old_ok hf3 (by kernel_rfl) (by kernel_rfl) trivial) fun f4 hf4=>lw_free (dst:=(some 51)) (op:=(.load false 1 (.t 50))) (aft:=[11]) (lo:=0) (hi:=1) (v:=.s (.int .i64 (gt r_ i_1).a2)) (by kernel_rfl) (by kernel_rfl) hf4 (by kernel_rfl) (by kernel_rfl) (old_ok hf4 (by kernel_rfl) (by kernel_rfl) trivial) fun f5 hf5=>lw_free (dst:=(some 52)) (op:=(.iaa 5 1 (.t 4) (.k (.int .i64 3)))) (aft:=[]) (lo:=0) (hi:=1) (v:=.ptr 2 0 3) (by kernel_rfl) (by kernel_rfl) hf5 (by kernel_rfl) (by kernel_rfl) (old_ok hf5 (by kernel_rfl) (by kernel_rfl) trivial) fun f6 hf6=>lw_free (dst:=(some 53)) (op:=(.load false 1 (.t 52))) (aft:=[13]) (lo:=0) (hi:=1) (v:=.s (.int .i64 (gt r_ i_1).a3)) (by kernel_rfl) (by kernel_rfl) hf6 (by kernel_rfl) (by kernel_rfl) (old_ok hf6 (by kernel_rfl) (by kernel_rfl) trivial) fun f7 hf7=>lw_free (dst:=(some 54)) (op:=(.bin .add (.t 53) (.k (.int .i64 32)))) (aft:=[14]) (lo:=0) (hi:=1) (v:=.s (.int .i64 (IntKind.wrap .i64 ((gt r_ i_1).a3+32)))) (by kernel_rfl) (by kernel_rfl) hf7 (by kernel_rfl) (by kernel_rfl) (old_ok hf7 (by kernel_rfl) (by kernel_rfl) trivial) fun f8 hf8=>lw_free (dst:=(some 55)) (op:=(.iaa 5 1 (.t 4) (.k (.int .i64 0)))) (aft:=[]) (lo:=0) (hi:=1) (v:=.ptr 2 0 0) (by kernel_rfl) (by kernel_rfl) hf8 (by kernel_rfl) (by kernel_rfl) (old_ok hf8 (by kernel_rfl) (by kernel_rfl) trivial) fun f9 hf9=>lw_free (dst:=(some 56)) (op:=(.load false 1 (.t 55))) (aft:=[16]) (lo:=0) (hi:=1) (v:=.s (.int .i64 (gt r_ i_1).a0)) (by kernel_rfl) (by kernel_rfl) hf9 (by kernel_rfl) (by kernel_rfl) (old_ok hf9 (by kernel_rfl) (by kernel_rfl) trivial) fun f10 hf10=>lw_free (dst:=(some 57)) (op:=(.iaa 5 1 (.t 4) (.k (.int .i64 1)))) (aft:=[]) (lo:=0) (hi:=1) (v:=.ptr 2 0 1) (by kernel_rfl) (by kernel_rfl) hf10 (by kernel_rfl) (by kernel_rfl) (old_ok hf10 (by kernel_rfl) (by kernel_rfl) trivial) fun f11 hf11=>lw_free (dst:=(some 58)) (op:=(.load false 1 (.t 57))) (aft:=[18]) (lo:=0) (hi:=1) (v:=.s (.int .i64 (gt r_ i_1).a1)) (by kernel_rfl) (by kernel_rfl) hf11 (by kernel_rfl) (by kernel_rfl) (old_ok hf11 (by kernel_rfl) (by kernel_rfl) trivial) fun f12 hf12=>lw_w (a:=⟨⟨(some 59),(.call 55 [(.t 49),(.t 51),(.t 54),(.t 56),(.k (.int .i64 4)),(.t 58)]),none,[10,12,15,17,19,10]⟩,true,1,2⟩) (by kernel_rfl) rfl rfl ?_
    obtain ⟨r_11,hx_r_11,h⟩:=Bs h
    refine Ca hf12 (av:=[.ref 1 (v_5+1) 0 r_10.length,.s (.int .i64 (gt r_ i_1).a2),.s (.int .i64 (IntKind.wrap .i64 ((gt r_ i_1).a3+32))),.s (.int .i64 (gt r_ i_1).a0),.s (.int .i64 4),.s (.int .i64 (gt r_ i_1).a1)]) (v:=.ref 1 (((v_5+1))+1) 0 r_11.length) (L':=[⟨0,.grow,5,cat spinetref14_Known.v ([]:List spinetref14_Known)⟩,⟨(((v_5+1))+1),.grow,5,cat spinetref14_Known.v r_11⟩,⟨0,.mem,1,[.s (.int .i64 (gt r_ i_1).a0),.s (.int .i64 (gt r_ i_1).a1),.s (.int .i64 (gt r_ i_1).a2),.s (.int .i64 (gt r_ i_1).a3),.s (.int .i64 (gt r_ i_1).a4)]⟩]) (CalL.borrow (M:=[⟨(v_5+1),.grow,5,cat spinetref14_Known.v r_10⟩]) (M':=[⟨(((v_5+1))+1),.grow,5,cat spinetref14_Known.v r_11⟩]) [1] (spinetref14_add_ok r_10 ((gt r_ i_1).a2) (IntKind.wrap .i64 ((gt r_ i_1).a3+32)) ((gt r_ i_1).a0) (4) ((gt r_ i_1).a1) ((v_5+1)) r_11 hx_r_11) (by kernel_rfl) (RNs.cons (RN.ref (by kernel_rfl)) (RNs.cons (RN.stat rfl) (RNs.cons (RN.stat rfl) (RNs.cons (RN.stat rfl) (RNs.cons (RN.stat rfl) (RNs.cons (RN.stat rfl) RNs.nil)))))) (RN.ref (by kernel_rfl)) (RBs.cons (RNs.stat (cat_stat _)) RBs.nil) (RBs.cons (RNs.stat (cat_stat _)) RBs.nil) (by kernel_rfl) (by kernel_rfl)) (by intro h; cases h) fun f13 hf13=>mops_end [0,1,2,3,4,59] hf13 (l':=[⟨0,[],.ref 0 0 0 0⟩,⟨1,[],.ref 1 v_5 0 l_5.length⟩,⟨2,[],.sl false r_.length (cat A5_i64.v r_)⟩,⟨3,[],.s (.int .i64 i_1)⟩,⟨4,[],.ptr 2 0 0⟩,⟨59,[],.ref 1 (((v_5+1))+1) 0 r_11.length⟩]) (L':=[⟨0,.grow,5,cat spinetref14_Known.v ([]:List spinetref14_Known)⟩,⟨(((v_5+1))+1),.grow,5,cat spinetref14_Known.v r_11⟩,⟨0,.mem,1,[.s (.int .i64 (gt r_ i_1).a0),.s (.int .i64 (gt r_ i_1).a1),.s (.int .i64 (gt r_ i_1).a2),.s (.int .i64 (gt r_ i_1).a3),.s (.int .i64 (gt r_ i_1).a4)]⟩]) (by kernel_rfl) fun f14 hf14=>⟨trivial,?_⟩
    refine lw_free (dst:=(some 60)) (op:=(.iaa 5 1 (.t 4) (.k (.int .i64 2)))) (aft:=[]) (lo:=0) (hi:=2) (v:=.ptr 2 0 2) (by kernel_rfl) (by kernel_rfl) hf14 (by kernel_rfl) (by kernel_rfl) (old_ok hf14 (by kernel_rfl) (by kernel_rfl) (old_ok hf14 (by kernel_rfl) (by kernel_rfl) trivial)) fun f15 hf15=>lw_free (dst:=(some 61)) (op:=(.load false 1 (.t 60))) (aft:=[21]) (lo:=0) (hi:=2) (v:=.s (.int .i64 (gt r_ i_1).a2)) (by kernel_rfl) (by kernel_rfl) hf15 (by kernel_rfl) (by kernel_rfl) (old_ok hf15 (by kernel_rfl) (by kernel_rfl) (old_ok hf15 (by kernel_rfl) (by kernel_rfl) trivial)) fun f16 hf16=>lw_free (dst:=(some 62)) (op:=(.iaa 5 1 (.t 4) (.k (.int .i64 3)))) (aft:=[]) (lo:=0) (hi:=2) (v:=.ptr 2 0 3) (by kernel_rfl) (by kernel_rfl) hf16 (by kernel_rfl) (by kernel_rfl) (old_ok hf16 (by kernel_rfl) (by kernel_rfl) (old_ok hf16 (by kernel_rfl) (by kernel_rfl) trivial)) fun f17 hf17=>lw_free (dst:=(some 63)) (op:=(.load false 1 (.t 62))) (aft:=[23]) (lo:=0) (hi:=2) (v:=.s (.int .i64 (gt r_ i_1).a3)) (by kernel_rfl) (by kernel_rfl) hf17 (by kernel_rfl) (by kernel_rfl) (old_ok hf17 (by kernel_rfl) (by kernel_rfl) (old_ok hf17 (by kernel_rfl) (by kernel_rfl) trivial)) fun f18 hf18=>lw_free (dst:=(some 64)) (op:=(.bin .add (.t 63) (.k (.int .i64 48)))) (aft:=[24]) (lo:=0) (hi:=2) (v:=.s (.int .i64 (IntKind.wrap .i64 ((gt r_ i_1).a3+48)))) (by kernel_rfl) (by kernel_rfl) hf18 (by kernel_rfl) (by kernel_rfl) (old_ok hf18 (by kernel_rfl) (by kernel_rfl) (old_ok hf18 (by kernel_rfl) (by kernel_rfl) trivial)) fun f19 hf19=>lw_free (dst:=(some 65)) (op:=(.iaa 5 1 (.t 4) (.k (.int .i64 0)))) (aft:=[]) (lo:=0) (hi:=2) (v:=.ptr 2 0 0) (by kernel_rfl) (by kernel_rfl) hf19 (by kernel_rfl) (by kernel_rfl) (old_ok hf19 (by kernel_rfl) (by kernel_rfl) (old_ok hf19 (by kernel_rfl) (by kernel_rfl) trivial)) fun f20 hf20=>lw_free (dst:=(some 66)) (op:=(.load false 1 (.t 65))) (aft:=[26]) (lo:=0) (hi:=2) (v:=.s (.int .i64 (gt r_ i_1).a0)) (by kernel_rfl) (by kernel_rfl) hf20 (by kernel_rfl) (by kernel_rfl) (old_ok hf20 (by kernel_rfl) (by kernel_rfl) (old_ok hf20 (by kernel_rfl) (by kernel_rfl) trivial)) fun f21 hf21=>lw_free (dst:=(some 67)) (op:=(.iaa 5 1 (.t 4) (.k (.int .i64 1)))) (aft:=[]) (lo:=0) (hi:=2) (v:=.ptr 2 0 1) (by kernel_rfl) (by kernel_rfl) hf21 (by kernel_rfl) (by kernel_rfl) (old_ok hf21 (by kernel_rfl) (by kernel_rfl) (old_ok hf21 (by kernel_rfl) (by kernel_rfl) trivial)) fun f22 hf22=>lw_free (dst:=(some 68)) (op:=(.load false 1 (.t 67))) (aft:=[28]) (lo:=0) (hi:=2) (v:=.s (.int .i64 (gt r_ i_1).a1)) (by kernel_rfl) (by kernel_rfl) hf22 (by kernel_rfl) (by kernel_rfl) (old_ok hf22 (by kernel_rfl) (by kernel_rfl) (old_ok hf22 (by kernel_rfl) (by kernel_rfl) trivial)) fun f23 hf23=>lw_w (a:=⟨⟨(some 69),(.call 55 [(.t 59),(.t 61),(.t 64),(.t 66),(.k (.int .i64 5)),(.t 68)]),none,[20,22,25,27,29,20]⟩,true,2,3⟩) (by kernel_rfl) rfl rfl ?_
    obtain ⟨r_12,hx_r_12,h⟩:=Bs h
    refine Ca hf23 (av:=[.ref 1 (((v_5+1))+1) 0 r_11.length,.s (.int .i64 (gt r_ i_1).a2),.s (.int .i64 (IntKind.wrap .i64 ((gt r_ i_1).a3+48))),.s (.int .i64 (gt r_ i_1).a0),.s (.int .i64 5),.s (.int .i64 (gt r_ i_1).a1)]) (v:=.ref 1 (((((v_5+1))+1))+1) 0 r_12.length) (L':=[⟨0,.grow,5,cat spinetref14_Known.v ([]:List spinetref14_Known)⟩,⟨(((((v_5+1))+1))+1),.grow,5,cat spinetref14_Known.v r_12⟩,⟨0,.mem,1,[.s (.int .i64 (gt r_ i_1).a0),.s (.int .i64 (gt r_ i_1).a1),.s (.int .i64 (gt r_ i_1).a2),.s (.int .i64 (gt r_ i_1).a3),.s (.int .i64 (gt r_ i_1).a4)]⟩]) (CalL.borrow (M:=[⟨(((v_5+1))+1),.grow,5,cat spinetref14_Known.v r_11⟩]) (M':=[⟨(((((v_5+1))+1))+1),.grow,5,cat spinetref14_Known.v r_12⟩]) [1] (spinetref14_add_ok r_11 ((gt r_ i_1).a2) (IntKind.wrap .i64 ((gt r_ i_1).a3+48)) ((gt r_ i_1).a0) (5) ((gt r_ i_1).a1) ((((v_5+1))+1)) r_12 hx_r_12) (by kernel_rfl) (RNs.cons (RN.ref (by kernel_rfl)) (RNs.cons (RN.stat rfl) (RNs.cons (RN.stat rfl) (RNs.cons (RN.stat rfl) (RNs.cons (RN.stat rfl) (RNs.cons (RN.stat rfl) RNs.nil)))))) (RN.ref (by kernel_rfl)) (RBs.cons (RNs.stat (cat_stat _)) RBs.nil) (RBs.cons (RNs.stat (cat_stat _)) RBs.nil) (by kernel_rfl) (by kernel_rfl)) (by intro h; cases h) fun f24 hf24=>mops_end [0,1,2,3,69] hf24 (l':=[⟨0,[],.ref 0 0 0 0⟩,⟨1,[],.ref 1 v_5 0 l_5.length⟩,⟨2,[],.sl false r_.length (cat A5_i64.v r_)⟩,⟨3,[],.s (.int .i64 i_1)⟩,⟨69,[],.ref 1 (((((v_5+1))+1))+1) 0 r_12.length⟩]) (L':=[⟨0,.grow,5,cat spinetref14_Known.v ([]:List spinetref14_Known)⟩,⟨(((((v_5+1))+1))+1),.grow,5,cat spinetref14_Known.v r_12⟩,⟨0,.mem,1,[.s (.int .i64 (gt r_ i_1).a0),.s (.int .i64 (gt r_ i_1).a1),.s (.int .i64 (gt r_ i_1).a2),.s (.int .i64 (gt r_ i_1).a3),.s (.int .i64 (gt r_ i_1).a4)]⟩]) (by kernel_rfl) fun f25 hf25=>⟨trivial,?_⟩
    refine lw_tight 1 (by kernel_rfl)<|mops_end [0,1,2,3] hf25 (l':=[⟨0,[],.ref 0 0 0 0⟩,⟨1,[],.ref 1 (((((v_5+1))+1))+1) 0 r_12.length⟩,⟨2,[],.sl false r_.length (cat A5_i64.v r_)⟩,⟨3,[],.s (.int .i64 i_1)⟩]) (L':=[⟨0,.grow,5,cat spinetref14_Known.v ([]:List spinetref14_Known)⟩,⟨(((((v_5+1))+1))+1),.grow,5,cat spinetref14_Known.v r_12⟩,⟨0,.mem,1,[.s (.int .i64 (gt r_ i_1).a0),.s (.int .i64 (gt r_ i_1).a1),.s (.int .i64 (gt r_ i_1).a2),.s (.int .i64 (gt r_ i_1).a3),.s (.int .i64 (gt r_ i_1).a4)]⟩]) (by kernel_rfl) fun f26 hf26 => ?_
    intro _
    refine lw_end (by kernel_rfl)<|Kv<|Kc<|Kr<|En hf26 fun f27 hf27=>k_l' (vs_cut (l:=[⟨0,[],.ref 0 0 0 0⟩,⟨1,[],.ref 1 (((((v_5+1))+1))+1) 0 r_12.length⟩,⟨2,[],.sl false r_.length (cat A5_i64.v r_)⟩,⟨3,[],.s (.int .i64 (IntKind.wrap .i64 (i_1+1)))⟩]) 2 (by kernel_rfl) (by kernel_rfl) (L':=[⟨0,.grow,5,cat spinetref14_Known.v ([]:List spinetref14_Known)⟩,⟨(((((v_5+1))+1))+1),.grow,5,cat spinetref14_Known.v r_12⟩]) (by kernel_rfl) ⟨⟨rfl,rfl⟩,⟨rfl,rfl⟩,⟨rfl,(static_under _ _ (by simp [V.static,statics,cat_stat,dropcat_stat]))⟩,⟨rfl,rfl⟩,trivial⟩ ⟨.inr (.inr (statics_unders _ _ (cat_stat _))),.inr (.inr (statics_unders _ _ (cat_stat _))),trivial⟩ (Of [0,1,2,3] hf27) fun f hf => ?_)
    exact ih _ _ ⟨r_12,(IntKind.wrap .i64 (i_1+1)),(((((v_5+1))+1))+1),h,hf,rfl⟩
   refine Kf hf6 h (fun hc3 h => ?_) fun hc3 h => ?_
   ·refine Kr<|Sg 11 hf6 fun f7 hf7 => ?_
    obtain ⟨r_9,hx_r_9,h⟩:=Bs h
    exact Ca hf7 (av:=[.ref 1 v_3 0 l_3.length,.s (.int .i64 (gt r_ i_1).a2),.s (.int .i64 (gt r_ i_1).a3),.s (.int .i64 (gt r_ i_1).a0),.s (.int .i64 (gt r_ i_1).a4),.s (.int .i64 (gt r_ i_1).a1)]) (v:=.ref 1 (v_3+1) 0 r_9.length) (L':=[⟨0,.grow,5,cat spinetref14_Known.v ([]:List spinetref14_Known)⟩,⟨(v_3+1),.grow,5,cat spinetref14_Known.v r_9⟩,⟨0,.mem,1,[.s (.int .i64 (gt r_ i_1).a0),.s (.int .i64 (gt r_ i_1).a1),.s (.int .i64 (gt r_ i_1).a2),.s (.int .i64 (gt r_ i_1).a3),.s (.int .i64 (gt r_ i_1).a4)]⟩]) (CalL.borrow (M:=[⟨v_3,.grow,5,cat spinetref14_Known.v l_3⟩]) (M':=[⟨(v_3+1),.grow,5,cat spinetref14_Known.v r_9⟩]) [1] (spinetref14_add_ok l_3 ((gt r_ i_1).a2) ((gt r_ i_1).a3) ((gt r_ i_1).a0) ((gt r_ i_1).a4) ((gt r_ i_1).a1) v_3 r_9 hx_r_9) (by kernel_rfl) (RNs.cons (RN.ref (by kernel_rfl)) (RNs.cons (RN.stat rfl) (RNs.cons (RN.stat rfl) (RNs.cons (RN.stat rfl) (RNs.cons (RN.stat rfl) (RNs.cons (RN.stat rfl) RNs.nil)))))) (RN.ref (by kernel_rfl)) (RBs.cons (RNs.stat (cat_stat _)) RBs.nil) (RBs.cons (RNs.stat (cat_stat _)) RBs.nil) (by kernel_rfl) (by kernel_rfl)) (by intro h; cases h) fun f8 hf8=>En hf8 fun f9 hf9=>Kh (hj1 r_9 (v_3+1) h _ (Of [0,1,2,3,4] hf9))
   ·exact Ks<|Kh (hj1 l_3 v_3 h _ (Of [0,1,2,3,4] hf6))
  ·exact Kx<|Xc<|Xl<|Xb<|Kh (hgo0 l_3 v_3 (Option.some.inj h) _ (Of [0,1] hf1))
@[irreducible] noncomputable def i15:Nat→List Op1:=rg Tryz.prog 15 []
noncomputable def a15_0:IR:=(.seq (.seq (.reg false (i15 2)) (.cond (.t 10) (.seq (.reg false (i15 3)) .ret) .skip)) (.seq (.reg true (i15 4)) .ret))
noncomputable def spinetref18_Shape_ir:IR:=(.seq (.reg false (i15 0)) (.seq (.reg false (i15 1)) a15_0))
theorem spinetref18_Shape_cfn:cFn Tryz.prog 15=some (spinetref18_Shape_ir,[(.t 4),(.t 5),(.t 6)],25):=by kernel_rfl
def spinetref18_Shape_V (r:(Bool × Int × Bool)):V:=.tup [.s (.bool r.1),.s (.int .i64 r.2.1),.s (.bool r.2.2)]
def spinetref18_Shape_C (r:(Bool × Int × Bool)):X→Fr→Hp→Prop:=FinL [(.t 4),(.t 5),(.t 6)] [] (spinetref18_Shape_V r) []
theorem spinetref18_Shape_ok (mode_:Int) (post_:Int) (r:(Bool × Int × Bool)) (h:spinetref18_Shape mode_ post_=some r):Pure Tryz.prog 15 [.s (.int .i64 mode_),.s (.int .u8 post_)] (spinetref18_Shape_V r):=by
 refine CS spinetref18_Shape_cfn (spinetref18_Shape_C r) fun f hf => ?_
 unfold spinetref18_Shape at h
 refine Kq<|Kr<|En hf fun f1 hf1=>Kc<|Kq<|Kr<|En hf1 fun f2 hf2=>Kc<|Kq<|Kq<|Kr<|En hf2 fun f3 hf3=>Kc<|Kf hf3 h (fun hc1 h => ?_) fun hc1 h => ?_
 ·refine Kq<|Kr<|Sg 1 hf3 fun f4 hf4 => ?_
  obtain ⟨r_,hx_r_,h⟩:=Bs h
  refine Cp (spinetref15_Of_ok _ _ hx_r_) hf4 fun f5 hf5=>En hf5 fun f6 hf6 => ?_
  obtain rfl:=Oi h
  exact Kc<|Kt<|Xc<|k_fin (fin_ret (.inl rfl) hf6 (vs:=[.s (.bool true),.s (.int .i64 r_.Bytes),.s (.bool true)]) (by kernel_rfl) (SettL.pure (FzL.tup (FzsL.cons (FzL.stat rfl) (FzsL.cons (FzL.stat rfl) (FzsL.cons (FzL.stat rfl) FzsL.nil))))))
 ·refine Ks<|Kc<|Kq<|Kd<|Sg 7 hf3 fun f4 hf4 => ?_
  obtain ⟨c2,h⟩:=as_ok h
  refine Ad (.iaa 10 1 (.t 7) (.t 20)) (.ptr 0 0 (0+(mode_:Int).toNat*1)) hf4 (e_iaa (n:=10) (xv:=.ptr 0 0 0) (k:=.i64) (iv:=mode_) (p:=.ptr 0 0 (0+(mode_:Int).toNat*1)) (by kernel_rfl) (by kernel_rfl) (by kernel_rfl) (by kernel_rfl) c2) fun f5 hf5=>Ad (.load false 1 (.t 21)) (.s (.int .i64 (gt [0,1,2,1,0,2,1,2,0,0] mode_))) hf5 (e_load_pe (g:=(nI .i64)) (l:=[0,1,2,1,0,2,1,2,0,0]) (iv:=mode_) (kd:=.mem) (q:=1) (b:=0) (ver:=0) [] (by kernel_rfl) (live_mem (by kernel_rfl)) (arr_h (l:=[0,1,2,1,0,2,1,2,0,0]) c2 (by kernel_rfl)) (by kernel_rfl) (by kernel_rfl)) fun f6 hf6=>En hf6 fun f7 hf7 => ?_
  obtain rfl:=Oi h
  exact Kc<|Kt<|k_fin (fin_ret (.inl rfl) hf7 (vs:=[.s (.bool ((mode_ == 8)||(mode_ == 9))),.s (.int .i64 (gt [0,1,2,1,0,2,1,2,0,0] mode_)),.s (.bool (mode_ == 6))]) (by kernel_rfl) (SettL.pure (FzL.tup (FzsL.cons (FzL.stat rfl) (FzsL.cons (FzL.stat rfl) (FzsL.cons (FzL.stat rfl) FzsL.nil))))))
@[irreducible] noncomputable def i9:Nat→List Op1:=rg Tryz.prog 9 []
noncomputable def a9_0:IR:=(.seq (.seq (.reg false (i9 3)) (.cond (.t 8) .skip (.exit 0))) (.seq (.block 1 (.reg false (i9 4))) (.reg false (i9 5))))
noncomputable def a9_1:IR:=(.seq (.reg false (i9 1)) (.seq (.seq (.reg false (i9 2)) (.block 0 (.loop a9_0))) (.seq (.reg false (i9 6)) .ret)))
noncomputable def spinetref02_Pairs_ir:IR:=(.seq (.reg false (i9 0)) a9_1)
theorem spinetref02_Pairs_cfn:cFn Tryz.prog 9=some (spinetref02_Pairs_ir,[(.t 2)],20):=by kernel_rfl
def spinetref02_Pairs_V (r:(ByteArray)):V:=.s (.string r)
def spinetref02_Pairs_C (r:(ByteArray)):X→Fr→Hp→Prop:=FinL [(.t 2)] [] (spinetref02_Pairs_V r) []
theorem spinetref02_Pairs_ok (b_:(List Int)) (r:(ByteArray)) (h:spinetref02_Pairs b_=some r):Pure Tryz.prog 9 [.sl false b_.length (cat (nI .u8) b_)] (spinetref02_Pairs_V r):=by
 refine CS spinetref02_Pairs_cfn (spinetref02_Pairs_C r) fun f hf => ?_
 unfold spinetref02_Pairs at h
 refine Kq<|Kr<|En hf fun f1 hf1=>Kc<|Kq<|Kr<|En hf1 fun f2 hf2=>Kc<|Kq<|Kq<|Kr<|En hf2 fun f3 hf3=>Kc<|Kb ?_
 obtain ⟨o0,hx0,h⟩:=Bs h
 have hgo0:∀ (s_2:ByteArray),s_2=o0→∀ f,FOk f [⟨2,[],.s (.string (⟨#[]⟩:ByteArray))⟩,⟨3,[],.s (.string s_2)⟩]→kont Tryz.prog [] (spinetref02_Pairs_C r) ((.c (.seq (.reg false (i9 6)) .ret))::[]) .normal f []:=by
  intro s_2 e f hf
  subst e
  refine Kc<|Kq<|Kr<|En hf fun f1 hf1 => ?_
  obtain rfl:=Oi h
  exact Kc<|Kt<|Fp hf1
 refine k_loop BIG<|loop_ind (fun n f L=>∃ (s_1:ByteArray) (i_1:Int),spinetref02_Pairs_l0 b_ n s_1 i_1=some o0∧FOk f [⟨0,[],.sl false b_.length (cat (nI .u8) b_)⟩,⟨2,[],.s (.string (⟨#[]⟩:ByteArray))⟩,⟨3,[],.s (.string s_1)⟩,⟨4,[],.s (.int .i64 i_1)⟩]∧L=[]) ?_ ?_ BIG _ _ ⟨(⟨#[]⟩:ByteArray),(0),hx0,FOk_of [0,2,3,4] hf3 (by kernel_rfl),(by kernel_rfl)⟩
 ·rintro f L ⟨s_1,i_1,h,_⟩
  cases (show (none:Option _)=some _ from h)
 ·rintro n0 R0 ih f L ⟨s_1,i_1,h,hf,rfl⟩
  rw [spinetref02_Pairs_l0] at h
  refine Kq<|Kq<|Kr<|En hf fun f1 hf1=>Kc<|Kf hf1 h (fun hc1 h => ?_) fun hc1 h => ?_
  ·refine Ks<|Kc<|Kq<|Kb<|Kr<|Sg 3 hf1 fun f2 hf2 => ?_
   obtain ⟨c2,h⟩:=as_ok h
   refine Ad (.ias 1 (.t 12) (.t 13)) (.ip ((cat (nI .u8) b_).drop ((i_1:Int).toNat*1))) hf2 (e_ias (n:=b_.length) (xv:=.sl false b_.length (cat (nI .u8) b_)) (k:=.i64) (iv:=i_1) (p:=.ip ((cat (nI .u8) b_).drop ((i_1:Int).toNat*1))) (by kernel_rfl) (by kernel_rfl) (by kernel_rfl) (by kernel_rfl) c2) fun f3 hf3=>Ad (.load false 1 (.t 14)) (.s (.int .u8 (gt b_ i_1))) hf3 (e_load_ip (g:=(nI .u8)) (l:=b_) (iv:=i_1) [] (by kernel_rfl) c2 (by kernel_rfl) (by kernel_rfl)) fun f4 hf4=>Sg 1 hf4 fun f5 hf5 => ?_
   obtain ⟨r_2,hx_r_2,h⟩:=Bs h
   refine Cp (spinetref02_Digits_ok _ _ _ _ hx_r_2) hf5 fun f6 hf6 => ?_
   obtain ⟨c3,h⟩:=as_ok h
   exact Ad (.bin .add (.t 11) (.t 17)) (.s (.string (s_1++r_2))) hf6 (e_sadd (t:=s_1) (t':=r_2) (by kernel_rfl) (by kernel_rfl) c3) fun f7 hf7=>En hf7 fun f8 hf8=>Kv<|Kc<|Kr<|En hf8 fun f9 hf9=>Kl<|ih _ _ ⟨(s_1++r_2),(IntKind.wrap .i64 (i_1+1)),h,FOk_of [0,2,3,4] hf9 (by kernel_rfl),(by kernel_rfl)⟩
  ·exact Kx<|Xc<|Xl<|Xb<|Kh (hgo0 s_1 (Option.some.inj h) _ (Of [2,3] hf1))
@[irreducible] noncomputable def i18:Nat→List Op1:=rg Tryz.prog 18 []
noncomputable def spinetref42_Hex_ir:IR:=(.seq (.reg false (i18 0)) (.seq (.reg false (i18 1)) .ret))
theorem spinetref42_Hex_cfn:cFn Tryz.prog 18=some (spinetref42_Hex_ir,[(.t 4)],10):=by kernel_rfl
def spinetref42_Hex_V (r:(ByteArray)):V:=.s (.string r)
def spinetref42_Hex_C (r:(ByteArray)):X→Fr→Hp→Prop:=FinL [(.t 4)] [] (spinetref42_Hex_V r) []
theorem spinetref42_Hex_ok (n_:Int) (width_:Int) (r:(ByteArray)) (h:spinetref42_Hex n_ width_=some r):Pure Tryz.prog 18 [.s (.int .i64 n_),.s (.int .i64 width_)] (spinetref42_Hex_V r):=by
 refine CS spinetref42_Hex_cfn (spinetref42_Hex_C r) fun f hf => ?_
 unfold spinetref42_Hex at h
 refine Kq<|Kr<|En hf fun f1 hf1=>Kc<|Kq<|Kr<|Sg 3 hf1 fun f2 hf2 => ?_
 obtain ⟨r_,hx_r_,h⟩:=Bs h
 refine Cp (spinetref02_Digits_ok _ _ _ _ hx_r_) hf2 fun f3 hf3 => ?_
 obtain ⟨c1,h⟩:=as_ok h
 refine Ad (.bin .add (.k (.string ⟨#[36]⟩)) (.t 8)) (.s (.string ((⟨#[36]⟩:ByteArray)++r_))) hf3 (e_sadd (t:=(⟨#[36]⟩:ByteArray)) (t':=r_) (by kernel_rfl) (by kernel_rfl) c1) fun f4 hf4=>En hf4 fun f5 hf5 => ?_
 obtain rfl:=Oi h
 exact Kc<|Kt<|Fp hf5
@[irreducible] noncomputable def i34:Nat→List Op1:=rg Tryz.prog 34 []
noncomputable def a34_0:IR:=(.seq (.seq (.reg false (i34 1)) (.cond (.t 4) (.seq (.reg false (i34 2)) .ret) .skip)) (.seq (.reg false (i34 3)) .ret))
noncomputable def spinetref42_Signed_ir:IR:=(.seq (.reg false (i34 0)) a34_0)
theorem spinetref42_Signed_cfn:cFn Tryz.prog 34=some (spinetref42_Signed_ir,[(.t 2)],14):=by kernel_rfl
def spinetref42_Signed_V (r:(ByteArray)):V:=.s (.string r)
def spinetref42_Signed_C (r:(ByteArray)):X→Fr→Hp→Prop:=FinL [(.t 2)] [] (spinetref42_Signed_V r) []
theorem spinetref42_Signed_ok (w_:Int) (r:(ByteArray)) (h:spinetref42_Signed w_=some r):Pure Tryz.prog 34 [.s (.int .u16 w_)] (spinetref42_Signed_V r):=by
 refine CS spinetref42_Signed_cfn (spinetref42_Signed_C r) fun f hf => ?_
 unfold spinetref42_Signed at h
 refine Kq<|Kr<|En hf fun f1 hf1=>Kc<|Kq<|Kq<|Kr<|En hf1 fun f2 hf2=>Kc<|Kf hf2 h (fun hc1 h => ?_) fun hc1 h => ?_
 ·refine Kq<|Kr<|Sg 4 hf2 fun f3 hf3 => ?_
  obtain ⟨r_,hx_r_,h⟩:=Bs h
  refine Cp (spinetref02_Digits_ok _ _ _ _ hx_r_) hf3 fun f4 hf4 => ?_
  obtain ⟨c2,h⟩:=as_ok h
  refine Ad (.bin .add (.k (.string ⟨#[45]⟩)) (.t 9)) (.s (.string ((⟨#[45]⟩:ByteArray)++r_))) hf4 (e_sadd (t:=(⟨#[45]⟩:ByteArray)) (t':=r_) (by kernel_rfl) (by kernel_rfl) c2) fun f5 hf5=>En hf5 fun f6 hf6 => ?_
  obtain rfl:=Oi h
  exact Kc<|Kt<|Xc<|Fp hf6
 ·refine Ks<|Kc<|Kq<|Kr<|Sg 2 hf2 fun f3 hf3 => ?_
  obtain ⟨r_1,hx_r_1,h⟩:=Bs h
  refine Cp (spinetref02_Digits_ok _ _ _ _ hx_r_1) hf3 fun f4 hf4=>En hf4 fun f5 hf5 => ?_
  obtain rfl:=Oi h
  exact Kc<|Kt<|Fp hf5
@[irreducible] noncomputable def i20:Nat→List Op1:=rg Tryz.prog 20 []
noncomputable def a20_0:IR:=(.seq (.seq (.reg false (i20 2)) (.cond (.t 7) (.reg false (i20 3)) .skip)) (.seq (.reg false (i20 4)) .ret))
noncomputable def spinetref42_Reg_ir:IR:=(.seq (.reg false (i20 0)) (.seq (.reg false (i20 1)) a20_0))
theorem spinetref42_Reg_cfn:cFn Tryz.prog 20=some (spinetref42_Reg_ir,[(.t 2)],13):=by kernel_rfl
def spinetref42_Reg_V (r:(ByteArray)):V:=.s (.string r)
def spinetref42_Reg_C (r:(ByteArray)):X→Fr→Hp→Prop:=FinL [(.t 2)] [] (spinetref42_Reg_V r) []
theorem spinetref42_Reg_ok (code_:Int) (r:(ByteArray)) (h:spinetref42_Reg code_=some r):Pure Tryz.prog 20 [.s (.int .i64 code_)] (spinetref42_Reg_V r):=by
 refine CS spinetref42_Reg_cfn (spinetref42_Reg_C r) fun f hf => ?_
 unfold spinetref42_Reg at h
 refine Kq<|Kr<|En hf fun f1 hf1=>Kc<|Kq<|Kr<|Sg 1 hf1 fun f2 hf2 => ?_
 obtain ⟨r_,hx_r_,h⟩:=Bs h
 refine Cp (spinetref13_Reg_ok _ _ hx_r_) hf2 fun f3 hf3=>En hf3 fun f4 hf4=>Kc<|Kq<|Kq<|Kr<|En hf4 fun f5 hf5=>Kc<|Kf hf5 h (fun hc1 h => ?_) fun hc1 h => ?_
 ·refine Kr<|Sg 2 hf5 fun f6 hf6 => ?_
  obtain ⟨r_1,hx_r_1,h⟩:=Bs h
  refine Cp (spinetref02_Digits_ok _ _ _ _ hx_r_1) hf6 fun f7 hf7 => ?_
  obtain ⟨c2,h⟩:=as_ok h
  refine Ad (.bin .add (.k (.string ⟨#[82]⟩)) (.t 10)) (.s (.string ((⟨#[82]⟩:ByteArray)++r_1))) hf7 (e_sadd (t:=(⟨#[82]⟩:ByteArray)) (t':=r_1) (by kernel_rfl) (by kernel_rfl) c2) fun f8 hf8=>En hf8 fun f9 hf9=>Kc<|Kq<|Kr<|En hf9 fun f10 hf10 => ?_
  obtain rfl:=Oi h
  exact Kc<|Kt<|Fp hf10
 ·refine Ks<|Kc<|Kq<|Kr<|En hf5 fun f6 hf6 => ?_
  obtain rfl:=Oi h
  exact Kc<|Kt<|Fp hf6
@[irreducible] noncomputable def i21:Nat→List Op1:=rg Tryz.prog 21 []
noncomputable def a21_0:IR:=(.cond (.t 16) (.seq (.seq (.reg false (i21 6)) (.cond (.t 18) (.reg false (i21 7)) .skip)) (.reg false (i21 8))) .skip)
noncomputable def a21_1:IR:=(.seq (.block 1 (.seq (.seq (.reg false (i21 5)) a21_0) (.reg false (i21 9)))) (.reg false (i21 10)))
noncomputable def a21_2:IR:=(.block 0 (.loop (.seq (.seq (.reg false (i21 4)) (.cond (.t 9) .skip (.exit 0))) a21_1)))
noncomputable def a21_3:IR:=(.seq (.reg false (i21 2)) (.seq (.seq (.reg false (i21 3)) a21_2) (.seq (.reg false (i21 11)) .ret)))
noncomputable def spinetref42_list_ir:IR:=(.seq (.reg false (i21 0)) (.seq (.reg false (i21 1)) a21_3))
theorem spinetref42_list_cfn:cFn Tryz.prog 21=some (spinetref42_list_ir,[(.t 4)],30):=by kernel_rfl
def spinetref42_list_V (r:(ByteArray)):V:=.s (.string r)
def spinetref42_list_C (r:(ByteArray)):X→Fr→Hp→Prop:=FinL [(.t 4)] [] (spinetref42_list_V r) []
theorem spinetref42_list_ok (post_:Int) (user_:Bool) (r:(ByteArray)) (h:spinetref42_list post_ user_=some r):Pure Tryz.prog 21 [.s (.int .u8 post_),.s (.bool user_)] (spinetref42_list_V r):=by
 refine CS spinetref42_list_cfn (spinetref42_list_C r) fun f hf => ?_
 unfold spinetref42_list at h
 refine Kq<|Kr<|En hf fun f1 hf1=>Kc<|Kq<|Kr<|En hf1 fun f2 hf2=>Kc<|Kq<|Kr<|En hf2 fun f3 hf3=>Kc<|Kq<|Kq<|Kr<|En hf3 fun f4 hf4=>Kc<|Kb ?_
 obtain ⟨o0,hx0,h⟩:=Bs h
 have hgo0:∀ (s_4:ByteArray),s_4=o0→∀ f,FOk f [⟨4,[],.s (.string (⟨#[]⟩:ByteArray))⟩,⟨5,[],.s (.string s_4)⟩]→kont Tryz.prog [] (spinetref42_list_C r) ((.c (.seq (.reg false (i21 11)) .ret))::[]) .normal f []:=by
  intro s_4 e f hf
  subst e
  refine Kc<|Kq<|Kr<|En hf fun f1 hf1 => ?_
  obtain rfl:=Oi h
  exact Kc<|Kt<|Fp hf1
 refine k_loop BIG<|loop_ind (fun n f L=>∃ (s_3:ByteArray) (bit_1:Int) (i_1:Int),spinetref42_list_l0 post_ user_ n s_3 bit_1 i_1=some o0∧FOk f [⟨0,[],.s (.int .u8 post_)⟩,⟨1,[],.s (.bool user_)⟩,⟨4,[],.s (.string (⟨#[]⟩:ByteArray))⟩,⟨5,[],.s (.string s_3)⟩,⟨6,[],.s (.int .u8 bit_1)⟩,⟨7,[],.s (.int .i64 i_1)⟩]∧L=[]) ?_ ?_ BIG _ _ ⟨(⟨#[]⟩:ByteArray),(1),(0),hx0,FOk_of [0,1,4,5,6,7] hf4 (by kernel_rfl),(by kernel_rfl)⟩
 ·rintro f L ⟨s_3,bit_1,i_1,h,_⟩
  cases (show (none:Option _)=some _ from h)
 ·rintro n0 R0 ih f L ⟨s_3,bit_1,i_1,h,hf,rfl⟩
  rw [spinetref42_list_l0] at h
  refine Kq<|Kq<|Kr<|En hf fun f1 hf1=>Kc<|Kf hf1 h (fun hc1 h => ?_) fun hc1 h => ?_
  ·refine Ks<|Kc<|Kq<|Kb<|Kq<|Kq<|Kr<|Sg 2 hf1 fun f2 hf2 => ?_
   obtain ⟨c2,h⟩:=as_ok h
   refine Ad (.bin .quo (.t 12) (.t 13)) (.s (.int .u8 (IntKind.wrap .u8 (Int.tdiv post_ bit_1)))) hf2 (e_quo (k:=.u8) (iv:=post_) (jv:=bit_1) (by kernel_rfl) (by kernel_rfl) c2) fun f3 hf3=>En hf3 fun f4 hf4=>Kc<|Kf hf4 h (fun hc3 h => ?_) fun hc3 h => ?_
   ·refine Kq<|Kq<|Kr<|En hf4 fun f5 hf5=>Kc ?_
    have hj1:∀ (s_5:ByteArray),spinetref42_list_j0 ((spinetref42_list_l0 post_ user_ n0)) user_ bit_1 i_1 s_5=some o0→∀ f,FOk f [⟨0,[],.s (.int .u8 post_)⟩,⟨1,[],.s (.bool user_)⟩,⟨4,[],.s (.string (⟨#[]⟩:ByteArray))⟩,⟨5,[],.s (.string s_5)⟩,⟨6,[],.s (.int .u8 bit_1)⟩,⟨7,[],.s (.int .i64 i_1)⟩]→kont Tryz.prog [] (spinetref42_list_C r) ((.c (.reg false (i21 8)))::(.c (.reg false (i21 9)))::(.b 1)::(.c (.reg false (i21 10)))::(.l R0)::(.b 0)::(.c (.seq (.reg false (i21 11)) .ret))::[]) .normal f []:=by
     intro s_5 h f hf
     unfold spinetref42_list_j0 at h
     refine Kc<|Kr<|Sg 3 hf fun f1 hf1 => ?_
     obtain ⟨r_4,hx_r_4,h⟩:=Bs h
     refine Cp (spinetref17_Code_ok _ _ _ hx_r_4) hf1 fun f2 hf2 => ?_
     obtain ⟨r_5,hx_r_5,h⟩:=Bs h
     refine Cp (spinetref13_Reg_ok _ _ hx_r_5) hf2 fun f3 hf3 => ?_
     obtain ⟨c6,h⟩:=as_ok h
     exact Ad (.bin .add (.t 21) (.t 25)) (.s (.string (s_5++r_5))) hf3 (e_sadd (t:=s_5) (t':=r_5) (by kernel_rfl) (by kernel_rfl) c6) fun f4 hf4=>En hf4 fun f5 hf5=>Kc<|Kr<|En hf5 fun f6 hf6=>Kv<|Kc<|Kr<|En hf6 fun f7 hf7=>Kl<|ih _ _ ⟨(s_5++r_5),(IntKind.wrap .u8 (bit_1*2)),(IntKind.wrap .i64 (i_1+1)),h,FOk_of [0,1,4,5,6,7] hf7 (by kernel_rfl),(by kernel_rfl)⟩
    refine Kf hf5 h (fun hc4 h => ?_) fun hc4 h => ?_
    ·refine Kr<|Sg 1 hf5 fun f6 hf6 => ?_
     obtain ⟨c5,h⟩:=as_ok h
     exact Ad (.bin .add (.t 19) (.k (.string ⟨#[44]⟩))) (.s (.string (s_3++(⟨#[44]⟩:ByteArray)))) hf6 (e_sadd (t:=s_3) (t':=(⟨#[44]⟩:ByteArray)) (by kernel_rfl) (by kernel_rfl) c5) fun f7 hf7=>En hf7 fun f8 hf8=>Kh (hj1 (s_3++(⟨#[44]⟩:ByteArray)) h _ (Of [0,1,4,5,6,7] hf8))
    ·exact Ks<|Kh (hj1 s_3 h _ (Of [0,1,4,5,6,7] hf5))
   ·exact Ks<|Kc<|Kr<|En hf4 fun f5 hf5=>Kv<|Kc<|Kr<|En hf5 fun f6 hf6=>Kl<|ih _ _ ⟨s_3,(IntKind.wrap .u8 (bit_1*2)),(IntKind.wrap .i64 (i_1+1)),h,FOk_of [0,1,4,5,6,7] hf6 (by kernel_rfl),(by kernel_rfl)⟩
  ·exact Kx<|Xc<|Xl<|Xb<|Kh (hgo0 s_3 (Option.some.inj h) _ (Of [4,5] hf1))
@[irreducible] noncomputable def i36:Nat→List Op1:=rg Tryz.prog 36 [56]
@[irreducible] noncomputable def j36:Nat→List An:=rgw Tryz.prog 36 [56]
noncomputable def a36_0:IR:=(.seq (.seq (.reg false (i36 4)) (.cond (.t 13) .skip (.exit 0))) (.seq (.block 1 (.reg false (i36 5))) (.reg false (i36 6))))
noncomputable def a36_1:IR:=(.seq (.seq (.reg false (i36 9)) (.cond (.t 28) .skip (.exit 2))) (.seq (.block 3 (.regw (j36 0))) (.reg false (i36 10))))
noncomputable def a36_2:IR:=(.seq (.block 5 (.seq (.reg false (i36 16)) (.seq (.reg false (i36 17)) (.cond (.t 74) (.reg false (i36 18)) .skip)))) (.reg false (i36 19)))
noncomputable def a36_3:IR:=(.block 4 (.loop (.seq (.seq (.reg false (i36 15)) (.cond (.t 62) .skip (.exit 4))) a36_2)))
noncomputable def a36_4:IR:=(.seq (.seq (.reg false (i36 23)) (.cond (.t 96) .skip (.exit 6))) (.seq (.block 7 (.reg false (i36 24))) (.reg false (i36 25))))
noncomputable def a36_5:IR:=(.seq (.seq (.reg false (i36 22)) (.block 6 (.loop a36_4))) (.seq (.reg false (i36 26)) .ret))
noncomputable def a36_6:IR:=(.seq (.seq (.reg false (i36 14)) a36_3) (.seq (.reg false (i36 20)) (.seq (.reg false (i36 21)) a36_5)))
noncomputable def a36_7:IR:=(.seq (.reg false (i36 11)) (.seq (.reg false (i36 12)) (.seq (.reg false (i36 13)) a36_6)))
noncomputable def a36_8:IR:=(.seq (.reg false (i36 7)) (.seq (.seq (.reg false (i36 8)) (.block 2 (.loop a36_1))) a36_7))
noncomputable def a36_9:IR:=(.seq (.reg false (i36 2)) (.seq (.seq (.reg false (i36 3)) (.block 0 (.loop a36_0))) a36_8))
noncomputable def spinetref13_Rows_ir:IR:=(.seq (.reg false (i36 0)) (.seq (.reg false (i36 1)) a36_9))
theorem spinetref13_Rows_cfn:cFn Tryz.prog 36 [56]=some (spinetref13_Rows_ir,[(.t 0)],110):=by kernel_rfl
def spinetref13_Rows_V (r:((List spinetref13_Row))):V:=.sl false r.length (cat spinetref13_Row.v r)
def spinetref13_Rows_C (r:((List spinetref13_Row))):X→Fr→Hp→Prop:=FinL [(.t 0)] [] (spinetref13_Rows_V r) []
abbrev k36_0:List ByteArray:=[(⟨#[76,66,82,65]⟩:ByteArray),(⟨#[66,83,82]⟩:ByteArray),(⟨#[76,66,83,82]⟩:ByteArray),(⟨#[78,79,80]⟩:ByteArray),(⟨#[83,89,78,67]⟩:ByteArray),(⟨#[67,87,65,73]⟩:ByteArray),(⟨#[68,65,65]⟩:ByteArray),(⟨#[79,82,67,67]⟩:ByteArray),(⟨#[65,78,68,67,67]⟩:ByteArray),(⟨#[83,69,88]⟩:ByteArray),(⟨#[69,88,71]⟩:ByteArray),(⟨#[84,70,82]⟩:ByteArray),(⟨#[82,84,83]⟩:ByteArray),(⟨#[82,84,73]⟩:ByteArray),(⟨#[77,85,76]⟩:ByteArray)]
abbrev k36_1:List spinetref13_Row:=[(spinetref13_Row.mk (⟨#[83,87,73]⟩:ByteArray) (51) (1)),(spinetref13_Row.mk (⟨#[83,87,73,50]⟩:ByteArray) (51) (2)),(spinetref13_Row.mk (⟨#[83,87,73,51]⟩:ByteArray) (51) (3)),(spinetref13_Row.mk (⟨#[65,66,88]⟩:ByteArray) (1) (0)),(spinetref13_Row.mk (⟨#[74,77,80]⟩:ByteArray) (32) (0)),(spinetref13_Row.mk (⟨#[74,83,82]⟩:ByteArray) (33) (0))]
abbrev k36_2:List ByteArray:=[(⟨#[78,69,71]⟩:ByteArray),(⟨#[67,79,77]⟩:ByteArray),(⟨#[76,83,82]⟩:ByteArray),(⟨#[82,79,82]⟩:ByteArray),(⟨#[65,83,82]⟩:ByteArray),(⟨#[65,83,76]⟩:ByteArray),(⟨#[82,79,76]⟩:ByteArray),(⟨#[68,69,67]⟩:ByteArray),(⟨#[73,78,67]⟩:ByteArray),(⟨#[84,83,84]⟩:ByteArray),(⟨#[67,76,82]⟩:ByteArray)]
abbrev k36_3:List ByteArray:=[(⟨#[65,68,67]⟩:ByteArray),(⟨#[65,68,68]⟩:ByteArray),(⟨#[65,78,68]⟩:ByteArray),(⟨#[66,73,84]⟩:ByteArray),(⟨#[67,77,80]⟩:ByteArray),(⟨#[69,79,82]⟩:ByteArray),(⟨#[79,82]⟩:ByteArray),(⟨#[83,66,67]⟩:ByteArray),(⟨#[83,85,66]⟩:ByteArray),(⟨#[76,68]⟩:ByteArray),(⟨#[83,84]⟩:ByteArray)]
abbrev k36_4:List spinetref13_Row:=[(spinetref13_Row.mk (⟨#[65,68,68,68]⟩:ByteArray) (26) (0)),(spinetref13_Row.mk (⟨#[83,85,66,68]⟩:ByteArray) (27) (0))]
theorem spinetref13_Rows_ok (r:((List spinetref13_Row))) (h:spinetref13_Rows=some r):Pure Tryz.prog 36 [] (spinetref13_Rows_V r):=by
 refine CS spinetref13_Rows_cfn (spinetref13_Rows_C r) fun f hf => ?_
 unfold spinetref13_Rows at h
 refine Kq<|Kr<|En hf fun f1 hf1=>Kc<|Kq<|Kr<|En hf1 fun f2 hf2=>Kc<|Kq<|Kr<|En hf2 fun f3 hf3=>Kc<|Kq<|Kq<|Kr<|En hf3 fun f4 hf4=>Kc<|Kb ?_
 obtain ⟨o0,hx0,h⟩:=Bs h
 have hgo0:∀ (l_2:(List spinetref13_Row)) (v_2:Nat),l_2=o0→∀ f,FOk f [⟨0,[],.ref 0 0 0 0⟩,⟨1,[],.ref 1 v_2 0 l_2.length⟩]→kont Tryz.prog [] (spinetref13_Rows_C r) ((.c a36_8)::[]) .normal f [⟨0,.grow,3,cat spinetref13_Row.v ([]:List spinetref13_Row)⟩,⟨v_2,.grow,3,cat spinetref13_Row.v l_2⟩,⟨0,.grow,1,cat nS k36_3⟩]:=by
  intro l_2 v_2 e f hf
  subst e
  refine Kc<|Kq<|Kr<|En hf fun f1 hf1=>Kc<|Kq<|Kq<|Kr<|En hf1 fun f2 hf2=>Kc<|Kb ?_
  obtain ⟨o1,hx1,h⟩:=Bs h
  have hgo1:∀ (l_5:(List spinetref13_Row)) (v_5:Nat),l_5=o1→∀ f,FOk f [⟨0,[],.ref 0 0 0 0⟩,⟨1,[],.ref 1 v_5 0 l_5.length⟩]→kont Tryz.prog [] (spinetref13_Rows_C r) ((.c a36_7)::[]) .normal f [⟨0,.grow,3,cat spinetref13_Row.v ([]:List spinetref13_Row)⟩,⟨v_5,.grow,3,cat spinetref13_Row.v l_5⟩,⟨0,.grow,1,cat nS k36_3⟩,⟨0,.grow,1,cat nS k36_2⟩]:=by
   intro l_5 v_5 e f hf
   subst e
   refine Kc<|Kq<|Kr<|Sg 1 hf fun f1 hf1 => ?_
   obtain ⟨r_6,hx_r_6,h⟩:=Bs h
   refine Ca hf1 (av:=[.ref 1 v_5 0 l_5.length,.s (.string (⟨#[76,68]⟩:ByteArray)),.s (.int .i64 24),.s (.string (⟨#[68,88,89,85,83]⟩:ByteArray))]) (v:=.ref 1 (v_5+1) 0 r_6.length) (L':=[⟨0,.grow,3,cat spinetref13_Row.v ([]:List spinetref13_Row)⟩,⟨(v_5+1),.grow,3,cat spinetref13_Row.v r_6⟩,⟨0,.grow,1,cat nS k36_3⟩,⟨0,.grow,1,cat nS k36_2⟩]) (CalL.borrow (M:=[⟨v_5,.grow,3,cat spinetref13_Row.v l_5⟩]) (M':=[⟨(v_5+1),.grow,3,cat spinetref13_Row.v r_6⟩]) [1] (spinetref13_with_ok l_5 (⟨#[76,68]⟩:ByteArray) (24) (⟨#[68,88,89,85,83]⟩:ByteArray) v_5 r_6 hx_r_6) (by kernel_rfl) (RNs.cons (RN.ref (by kernel_rfl)) (RNs.cons (RN.stat rfl) (RNs.cons (RN.stat rfl) (RNs.cons (RN.stat rfl) RNs.nil)))) (RN.ref (by kernel_rfl)) (RBs.cons (RNs.stat (cat_stat _)) RBs.nil) (RBs.cons (RNs.stat (cat_stat _)) RBs.nil) (by kernel_rfl) (by kernel_rfl)) (by intro h; cases h) fun f2 hf2 => ?_
   obtain ⟨r_7,hx_r_7,h⟩:=Bs h
   refine Ca hf2 (av:=[.ref 1 (v_5+1) 0 r_6.length,.s (.string (⟨#[83,84]⟩:ByteArray)),.s (.int .i64 25),.s (.string (⟨#[68,88,89,85,83]⟩:ByteArray))]) (v:=.ref 1 (((v_5+1))+1) 0 r_7.length) (L':=[⟨0,.grow,3,cat spinetref13_Row.v ([]:List spinetref13_Row)⟩,⟨(((v_5+1))+1),.grow,3,cat spinetref13_Row.v r_7⟩,⟨0,.grow,1,cat nS k36_3⟩,⟨0,.grow,1,cat nS k36_2⟩]) (CalL.borrow (M:=[⟨(v_5+1),.grow,3,cat spinetref13_Row.v r_6⟩]) (M':=[⟨(((v_5+1))+1),.grow,3,cat spinetref13_Row.v r_7⟩]) [1] (spinetref13_with_ok r_6 (⟨#[83,84]⟩:ByteArray) (25) (⟨#[68,88,89,85,83]⟩:ByteArray) ((v_5+1)) r_7 hx_r_7) (by kernel_rfl) (RNs.cons (RN.ref (by kernel_rfl)) (RNs.cons (RN.stat rfl) (RNs.cons (RN.stat rfl) (RNs.cons (RN.stat rfl) RNs.nil)))) (RN.ref (by kernel_rfl)) (RBs.cons (RNs.stat (cat_stat _)) RBs.nil) (RBs.cons (RNs.stat (cat_stat _)) RBs.nil) (by kernel_rfl) (by kernel_rfl)) (by intro h; cases h) fun f3 hf3 => ?_
   obtain ⟨r_8,hx_r_8,h⟩:=Bs h
   refine Ca hf3 (av:=[.ref 1 (((v_5+1))+1) 0 r_7.length,.s (.string (⟨#[67,77,80]⟩:ByteArray)),.s (.int .i64 28),.s (.string (⟨#[68,88,89,85,83]⟩:ByteArray))]) (v:=.ref 1 (((((v_5+1))+1))+1) 0 r_8.length) (L':=[⟨0,.grow,3,cat spinetref13_Row.v ([]:List spinetref13_Row)⟩,⟨(((((v_5+1))+1))+1),.grow,3,cat spinetref13_Row.v r_8⟩,⟨0,.grow,1,cat nS k36_3⟩,⟨0,.grow,1,cat nS k36_2⟩]) (CalL.borrow (M:=[⟨(((v_5+1))+1),.grow,3,cat spinetref13_Row.v r_7⟩]) (M':=[⟨(((((v_5+1))+1))+1),.grow,3,cat spinetref13_Row.v r_8⟩]) [1] (spinetref13_with_ok r_7 (⟨#[67,77,80]⟩:ByteArray) (28) (⟨#[68,88,89,85,83]⟩:ByteArray) ((((v_5+1))+1)) r_8 hx_r_8) (by kernel_rfl) (RNs.cons (RN.ref (by kernel_rfl)) (RNs.cons (RN.stat rfl) (RNs.cons (RN.stat rfl) (RNs.cons (RN.stat rfl) RNs.nil)))) (RN.ref (by kernel_rfl)) (RBs.cons (RNs.stat (cat_stat _)) RBs.nil) (RBs.cons (RNs.stat (cat_stat _)) RBs.nil) (by kernel_rfl) (by kernel_rfl)) (by intro h; cases h) fun f4 hf4=>En hf4 fun f5 hf5=>Kc<|Kq<|Kr<|Sg 4 hf5 fun f6 hf6 => ?_
   obtain ⟨c7,h⟩:=as_ok h
   refine Ad (.app 86 3 32 (.t 52) (.t 55)) (.ref 1 (((((((v_5+1))+1))+1))+1) 0 (r_8++k36_4).length) hf6 (e_app (g:=spinetref13_Row.v) (l:=r_8) (l':=k36_4) (b:=1) (ver:=(((((v_5+1))+1))+1)) (n:=r_8.length) rfl (by kernel_rfl) rfl (live_grow (by kernel_rfl)) (sll_ev (v:=.ref 4 0 0 2) (by kernel_rfl) (sll_ref (B:=⟨0,.grow,3,cat spinetref13_Row.v k36_4⟩) (by kernel_rfl) (live_grow (by kernel_rfl)))) (slc_ev (v:=.ref 4 0 0 2) (by kernel_rfl) (slc_ref (g:=spinetref13_Row.v) (l:=k36_4) (kd:=.grow) (q:=3) (by kernel_rfl) (live_grow (by kernel_rfl)))) c7) fun f7 hf7=>En hf7 fun f8 hf8=>Kc<|Kq<|Kr<|Sg 1 hf8 fun f9 hf9 => ?_
   obtain ⟨r_9,hx_r_9,h⟩:=Bs h
   refine Ca hf9 (av:=[.ref 1 (((((((v_5+1))+1))+1))+1) 0 (r_8++k36_4).length,.s (.string (⟨#[76,69,65]⟩:ByteArray)),.s (.int .i64 29),.s (.string (⟨#[88,89,85,83]⟩:ByteArray))]) (v:=.ref 1 (((((((((v_5+1))+1))+1))+1))+1) 0 r_9.length) (L':=[⟨0,.grow,3,cat spinetref13_Row.v ([]:List spinetref13_Row)⟩,⟨(((((((((v_5+1))+1))+1))+1))+1),.grow,3,cat spinetref13_Row.v r_9⟩,⟨0,.grow,1,cat nS k36_3⟩,⟨0,.grow,1,cat nS k36_2⟩,⟨0,.grow,3,cat spinetref13_Row.v k36_4⟩]) (CalL.borrow (M:=[⟨(((((((v_5+1))+1))+1))+1),.grow,3,cat spinetref13_Row.v (r_8++k36_4)⟩]) (M':=[⟨(((((((((v_5+1))+1))+1))+1))+1),.grow,3,cat spinetref13_Row.v r_9⟩]) [1] (spinetref13_with_ok (r_8++k36_4) (⟨#[76,69,65]⟩:ByteArray) (29) (⟨#[88,89,85,83]⟩:ByteArray) ((((((((v_5+1))+1))+1))+1)) r_9 hx_r_9) (by kernel_rfl) (RNs.cons (RN.ref (by kernel_rfl)) (RNs.cons (RN.stat rfl) (RNs.cons (RN.stat rfl) (RNs.cons (RN.stat rfl) RNs.nil)))) (RN.ref (by kernel_rfl)) (RBs.cons (RNs.stat (cat_stat _)) RBs.nil) (RBs.cons (RNs.stat (cat_stat _)) RBs.nil) (by kernel_rfl) (by kernel_rfl)) (by intro h; cases h) fun f10 hf10 => ?_
   obtain ⟨r_10,hx_r_10,h⟩:=Bs h
   refine Ca hf10 (av:=[.ref 1 (((((((((v_5+1))+1))+1))+1))+1) 0 r_9.length,.s (.string (⟨#[80,83,72]⟩:ByteArray)),.s (.int .i64 30),.s (.string (⟨#[85,83]⟩:ByteArray))]) (v:=.ref 1 (((((((((((v_5+1))+1))+1))+1))+1))+1) 0 r_10.length) (L':=[⟨0,.grow,3,cat spinetref13_Row.v ([]:List spinetref13_Row)⟩,⟨(((((((((((v_5+1))+1))+1))+1))+1))+1),.grow,3,cat spinetref13_Row.v r_10⟩,⟨0,.grow,1,cat nS k36_3⟩,⟨0,.grow,1,cat nS k36_2⟩,⟨0,.grow,3,cat spinetref13_Row.v k36_4⟩]) (CalL.borrow (M:=[⟨(((((((((v_5+1))+1))+1))+1))+1),.grow,3,cat spinetref13_Row.v r_9⟩]) (M':=[⟨(((((((((((v_5+1))+1))+1))+1))+1))+1),.grow,3,cat spinetref13_Row.v r_10⟩]) [1] (spinetref13_with_ok r_9 (⟨#[80,83,72]⟩:ByteArray) (30) (⟨#[85,83]⟩:ByteArray) ((((((((((v_5+1))+1))+1))+1))+1)) r_10 hx_r_10) (by kernel_rfl) (RNs.cons (RN.ref (by kernel_rfl)) (RNs.cons (RN.stat rfl) (RNs.cons (RN.stat rfl) (RNs.cons (RN.stat rfl) RNs.nil)))) (RN.ref (by kernel_rfl)) (RBs.cons (RNs.stat (cat_stat _)) RBs.nil) (RBs.cons (RNs.stat (cat_stat _)) RBs.nil) (by kernel_rfl) (by kernel_rfl)) (by intro h; cases h) fun f11 hf11 => ?_
   obtain ⟨r_11,hx_r_11,h⟩:=Bs h
   refine Ca hf11 (av:=[.ref 1 (((((((((((v_5+1))+1))+1))+1))+1))+1) 0 r_10.length,.s (.string (⟨#[80,85,76]⟩:ByteArray)),.s (.int .i64 31),.s (.string (⟨#[85,83]⟩:ByteArray))]) (v:=.ref 1 (((((((((((((v_5+1))+1))+1))+1))+1))+1))+1) 0 r_11.length) (L':=[⟨0,.grow,3,cat spinetref13_Row.v ([]:List spinetref13_Row)⟩,⟨(((((((((((((v_5+1))+1))+1))+1))+1))+1))+1),.grow,3,cat spinetref13_Row.v r_11⟩,⟨0,.grow,1,cat nS k36_3⟩,⟨0,.grow,1,cat nS k36_2⟩,⟨0,.grow,3,cat spinetref13_Row.v k36_4⟩]) (CalL.borrow (M:=[⟨(((((((((((v_5+1))+1))+1))+1))+1))+1),.grow,3,cat spinetref13_Row.v r_10⟩]) (M':=[⟨(((((((((((((v_5+1))+1))+1))+1))+1))+1))+1),.grow,3,cat spinetref13_Row.v r_11⟩]) [1] (spinetref13_with_ok r_10 (⟨#[80,85,76]⟩:ByteArray) (31) (⟨#[85,83]⟩:ByteArray) ((((((((((((v_5+1))+1))+1))+1))+1))+1)) r_11 hx_r_11) (by kernel_rfl) (RNs.cons (RN.ref (by kernel_rfl)) (RNs.cons (RN.stat rfl) (RNs.cons (RN.stat rfl) (RNs.cons (RN.stat rfl) RNs.nil)))) (RN.ref (by kernel_rfl)) (RBs.cons (RNs.stat (cat_stat _)) RBs.nil) (RBs.cons (RNs.stat (cat_stat _)) RBs.nil) (by kernel_rfl) (by kernel_rfl)) (by intro h; cases h) fun f12 hf12=>En hf12 fun f13 hf13=>Kc<|Kq<|Kq<|Kr<|En hf13 fun f14 hf14=>Kc<|Kb ?_
   obtain ⟨o2,hx2,h⟩:=Bs h
   have hgo2:∀ (l_8:(List spinetref13_Row)) (v_8:Nat),l_8=o2→∀ f,FOk f [⟨0,[],.ref 0 0 0 0⟩,⟨1,[],.ref 1 v_8 0 l_8.length⟩]→kont Tryz.prog [] (spinetref13_Rows_C r) ((.c (.seq (.reg false (i36 20)) (.seq (.reg false (i36 21)) a36_5)))::[]) .normal f [⟨0,.grow,3,cat spinetref13_Row.v ([]:List spinetref13_Row)⟩,⟨v_8,.grow,3,cat spinetref13_Row.v l_8⟩,⟨0,.grow,1,cat nS k36_3⟩,⟨0,.grow,1,cat nS k36_2⟩,⟨0,.grow,3,cat spinetref13_Row.v k36_4⟩]:=by
    intro l_8 v_8 e f hf
    subst e
    refine Kc<|Kq<|Kr<|Sg 8 hf fun f1 hf1 => ?_
    obtain ⟨c14,h⟩:=as_ok h
    refine Ad (.app 86 3 32 (.t 83) (.t 90)) (.ref 1 (v_8+1) 0 (l_8++k36_1).length) hf1 (e_app (g:=spinetref13_Row.v) (l:=l_8) (l':=k36_1) (b:=1) (ver:=v_8) (n:=l_8.length) rfl (by kernel_rfl) rfl (live_grow (by kernel_rfl)) (sll_ev (v:=.ref 5 0 0 6) (by kernel_rfl) (sll_ref (B:=⟨0,.grow,3,cat spinetref13_Row.v k36_1⟩) (by kernel_rfl) (live_grow (by kernel_rfl)))) (slc_ev (v:=.ref 5 0 0 6) (by kernel_rfl) (slc_ref (g:=spinetref13_Row.v) (l:=k36_1) (kd:=.grow) (q:=3) (by kernel_rfl) (live_grow (by kernel_rfl)))) c14) fun f2 hf2=>En hf2 fun f3 hf3=>Kc<|Kq<|Kr<|En hf3 fun f4 hf4=>Kc<|Kq<|Kq<|Kr<|En hf4 fun f5 hf5=>Kc<|Kb ?_
    obtain ⟨o3,hx3,h⟩:=Bs h
    have hgo3:∀ (l_11:(List spinetref13_Row)) (v_11:Nat),l_11=o3→∀ f,FOk f [⟨0,[],.ref 0 0 0 0⟩,⟨1,[],.ref 1 v_11 0 l_11.length⟩]→kont Tryz.prog [] (spinetref13_Rows_C r) ((.c (.seq (.reg false (i36 26)) .ret))::[]) .normal f [⟨0,.grow,3,cat spinetref13_Row.v ([]:List spinetref13_Row)⟩,⟨v_11,.grow,3,cat spinetref13_Row.v l_11⟩,⟨0,.grow,1,cat nS k36_3⟩,⟨0,.grow,1,cat nS k36_2⟩,⟨0,.grow,3,cat spinetref13_Row.v k36_4⟩,⟨0,.grow,3,cat spinetref13_Row.v k36_1⟩,⟨0,.grow,1,cat nS k36_0⟩]:=by
     intro l_11 v_11 e f hf
     subst e
     refine Kc<|Kq<|Kr<|En hf fun f1 hf1 => ?_
     obtain rfl:=Oi h
     exact Kc<|Kt<|k_fin (fin_ret (.inl rfl) hf1 (vs:=[.ref 1 v_11 0 l_11.length]) (by kernel_rfl) (SettL.pure (FzL.whole (g:=spinetref13_Row.v) (kd:=.grow) (l:=l_11) (by kernel_rfl) rfl (live_grow (by kernel_rfl)))))
    refine k_loop BIG<|loop_ind (fun n f L=>∃ (l_10:(List spinetref13_Row)) (i_7:Int) (v_10:Nat),spinetref13_Rows_l3 n l_10 i_7=some o3∧FOk f [⟨0,[],.ref 0 0 0 0⟩,⟨1,[],.ref 1 v_10 0 l_10.length⟩,⟨7,[],.ref 6 0 0 15⟩,⟨8,[],.s (.int .i64 i_7)⟩]∧L=[⟨0,.grow,3,cat spinetref13_Row.v ([]:List spinetref13_Row)⟩,⟨v_10,.grow,3,cat spinetref13_Row.v l_10⟩,⟨0,.grow,1,cat nS k36_3⟩,⟨0,.grow,1,cat nS k36_2⟩,⟨0,.grow,3,cat spinetref13_Row.v k36_4⟩,⟨0,.grow,3,cat spinetref13_Row.v k36_1⟩,⟨0,.grow,1,cat nS k36_0⟩]) ?_ ?_ BIG _ _ ⟨(l_8++k36_1),(0),(v_8+1),hx3,FOk_of [0,1,7,8] hf5 (by kernel_rfl),(by kernel_rfl)⟩
    ·rintro f L ⟨l_10,i_7,v_10,h,_⟩
     cases (show (none:Option _)=some _ from h)
    ·rintro n3 R3 ih f L ⟨l_10,i_7,v_10,h,hf,rfl⟩
     rw [spinetref13_Rows_l3] at h
     refine Kq<|Kq<|Kr<|Sg 2 hf fun f1 hf1=>Ad (.len (.t 94)) (.s (.int .i64 (ln k36_0))) hf1 (e_len_ref (l:=k36_0) (B:=⟨0,.grow,1,cat nS k36_0⟩) (b:=6) (ver:=0) (n:=15) (by kernel_rfl) (by kernel_rfl) (live_grow (by kernel_rfl))) fun f2 hf2=>En hf2 fun f3 hf3=>Kc<|Kf hf3 h (fun hc15 h => ?_) fun hc15 h => ?_
     ·refine Ks<|Kc<|Kq<|Kb<|Kr<|Sg 3 hf3 fun f4 hf4 => ?_
      obtain ⟨c16,h⟩:=as_ok h
      refine Ad (.ias 1 (.t 100) (.t 101)) (.ptr 6 0 (0+(i_7:Int).toNat*1)) hf4 (e_ias_ref (l:=k36_0) (B:=⟨0,.grow,1,cat nS k36_0⟩) (b:=6) (ver:=0) (n:=15) (k:=.i64) (iv:=i_7) (by kernel_rfl) (by kernel_rfl) (by kernel_rfl) (live_grow (by kernel_rfl)) c16) fun f5 hf5=>Ad (.load false 1 (.t 102)) (.s (.string (gt k36_0 i_7))) hf5 (e_load_pe (g:=nS) (l:=k36_0) (iv:=i_7) (kd:=.grow) (q:=1) (b:=6) (ver:=0) [] (by kernel_rfl) (live_grow (by kernel_rfl)) c16 (by kernel_rfl) (by kernel_rfl)) fun f6 hf6=>Sg 4 hf6 fun f7 hf7 => ?_
      obtain ⟨c17,h⟩:=as_ok h
      refine Ad (.app 86 3 32 (.t 99) (.t 107)) (.ref 1 (v_10+1) 0 (l_10++[(spinetref13_Row.mk (gt k36_0 i_7) (IntKind.wrap .i64 (36+i_7)) (0))]).length) hf7 (e_app (g:=spinetref13_Row.v) (l:=l_10) (l':=[(spinetref13_Row.mk (gt k36_0 i_7) (IntKind.wrap .i64 (36+i_7)) (0))]) (b:=1) (ver:=v_10) (n:=l_10.length) rfl (by kernel_rfl) rfl (live_grow (by kernel_rfl)) (sll_ev (v:=.ref 7 0 0 1) (by kernel_rfl) (sll_ref (B:=⟨0,.grow,3,cat spinetref13_Row.v [(spinetref13_Row.mk (gt k36_0 i_7) (IntKind.wrap .i64 (36+i_7)) (0))]⟩) (by kernel_rfl) (live_grow (by kernel_rfl)))) (slc_ev (v:=.ref 7 0 0 1) (by kernel_rfl) (slc_ref (g:=spinetref13_Row.v) (l:=[(spinetref13_Row.mk (gt k36_0 i_7) (IntKind.wrap .i64 (36+i_7)) (0))]) (kd:=.grow) (q:=3) (by kernel_rfl) (live_grow (by kernel_rfl)))) c17) fun f8 hf8=>En hf8 fun f9 hf9=>Kv<|Kc<|Kr<|En hf9 fun f10 hf10=>k_l' (vs_cut (l:=[⟨0,[],.ref 0 0 0 0⟩,⟨1,[],.ref 1 (v_10+1) 0 (l_10++[(spinetref13_Row.mk (gt k36_0 i_7) (IntKind.wrap .i64 (36+i_7)) (0))]).length⟩,⟨7,[],.ref 6 0 0 15⟩,⟨8,[],.s (.int .i64 (IntKind.wrap .i64 (i_7+1)))⟩]) 7 (by kernel_rfl) (by kernel_rfl) (L':=[⟨0,.grow,3,cat spinetref13_Row.v ([]:List spinetref13_Row)⟩,⟨(v_10+1),.grow,3,cat spinetref13_Row.v (l_10++[(spinetref13_Row.mk (gt k36_0 i_7) (IntKind.wrap .i64 (36+i_7)) (0))])⟩,⟨0,.grow,1,cat nS k36_3⟩,⟨0,.grow,1,cat nS k36_2⟩,⟨0,.grow,3,cat spinetref13_Row.v k36_4⟩,⟨0,.grow,3,cat spinetref13_Row.v k36_1⟩,⟨0,.grow,1,cat nS k36_0⟩]) (by kernel_rfl) ⟨⟨rfl,rfl⟩,⟨rfl,rfl⟩,⟨rfl,rfl⟩,⟨rfl,rfl⟩,trivial⟩ ⟨.inr (.inr (statics_unders _ _ (cat_stat _))),.inr (.inr (statics_unders _ _ (cat_stat _))),.inr (.inr (statics_unders _ _ (cat_stat _))),.inr (.inr (statics_unders _ _ (cat_stat _))),.inr (.inr (statics_unders _ _ (cat_stat _))),.inr (.inr (statics_unders _ _ (cat_stat _))),.inr (.inr (statics_unders _ _ (cat_stat _))),trivial⟩ (Of [0,1,7,8] hf10) fun f hf => ?_)
      exact ih _ _ ⟨(l_10++[(spinetref13_Row.mk (gt k36_0 i_7) (IntKind.wrap .i64 (36+i_7)) (0))]),(IntKind.wrap .i64 (i_7+1)),(v_10+1),h,hf,rfl⟩
     ·exact Kx<|Xc<|Xl<|Xb<|Kh (hgo3 l_10 v_10 (Option.some.inj h) _ (Of [0,1] hf3))
   refine k_loop BIG<|loop_ind (fun n f L=>∃ (l_7:(List spinetref13_Row)) (i_5:Int) (v_7:Nat),spinetref13_Rows_l2 n l_7 i_5=some o2∧FOk f [⟨0,[],.ref 0 0 0 0⟩,⟨1,[],.ref 1 v_7 0 l_7.length⟩,⟨6,[],.s (.int .i64 i_5)⟩]∧L=[⟨0,.grow,3,cat spinetref13_Row.v ([]:List spinetref13_Row)⟩,⟨v_7,.grow,3,cat spinetref13_Row.v l_7⟩,⟨0,.grow,1,cat nS k36_3⟩,⟨0,.grow,1,cat nS k36_2⟩,⟨0,.grow,3,cat spinetref13_Row.v k36_4⟩]) ?_ ?_ BIG _ _ ⟨r_11,(0),(((((((((((((v_5+1))+1))+1))+1))+1))+1))+1),hx2,FOk_of [0,1,6] hf14 (by kernel_rfl),(by kernel_rfl)⟩
   ·rintro f L ⟨l_7,i_5,v_7,h,_⟩
    cases (show (none:Option _)=some _ from h)
   ·rintro n2 R2 ih f L ⟨l_7,i_5,v_7,h,hf,rfl⟩
    rw [spinetref13_Rows_l2] at h
    refine Kq<|Kq<|Kr<|En hf fun f1 hf1=>Kc<|Kf hf1 h (fun hc8 h => ?_) fun hc8 h => ?_
    ·refine Ks<|Kc<|Kq<|Kb<|Kq<|Kr<|Sg 2 hf1 fun f2 hf2 => ?_
     obtain ⟨r_16,hx_r_16,h⟩:=Bs h
     refine Cp (spinetref12_Name_ok _ _ hx_r_16) hf2 fun f3 hf3 => ?_
     obtain ⟨c9,h⟩:=as_ok h
     refine Ad (.bin .add (.k (.string ⟨#[66]⟩)) (.t 67)) (.s (.string ((⟨#[66]⟩:ByteArray)++r_16))) hf3 (e_sadd (t:=(⟨#[66]⟩:ByteArray)) (t':=r_16) (by kernel_rfl) (by kernel_rfl) c9) fun f4 hf4=>Sg 3 hf4 fun f5 hf5 => ?_
     obtain ⟨c10,h⟩:=as_ok h
     refine Ad (.app 86 3 32 (.t 65) (.t 71)) (.ref 1 (v_7+1) 0 (l_7++[(spinetref13_Row.mk ((⟨#[66]⟩:ByteArray)++r_16) (34) i_5)]).length) hf5 (e_app (g:=spinetref13_Row.v) (l:=l_7) (l':=[(spinetref13_Row.mk ((⟨#[66]⟩:ByteArray)++r_16) (34) i_5)]) (b:=1) (ver:=v_7) (n:=l_7.length) rfl (by kernel_rfl) rfl (live_grow (by kernel_rfl)) (sll_ev (v:=.ref 5 0 0 1) (by kernel_rfl) (sll_ref (B:=⟨0,.grow,3,cat spinetref13_Row.v [(spinetref13_Row.mk ((⟨#[66]⟩:ByteArray)++r_16) (34) i_5)]⟩) (by kernel_rfl) (live_grow (by kernel_rfl)))) (slc_ev (v:=.ref 5 0 0 1) (by kernel_rfl) (slc_ref (g:=spinetref13_Row.v) (l:=[(spinetref13_Row.mk ((⟨#[66]⟩:ByteArray)++r_16) (34) i_5)]) (kd:=.grow) (q:=3) (by kernel_rfl) (live_grow (by kernel_rfl)))) c10) fun f6 hf6=>En hf6 fun f7 hf7=>Kc<|Kq<|Kr<|En hf7 fun f8 hf8=>Kc<|Kf hf8 h (fun hc11 h => ?_) fun hc11 h => ?_
     ·refine Kr<|Sg 2 hf8 fun f9 hf9 => ?_
      obtain ⟨r_17,hx_r_17,h⟩:=Bs h
      refine Cp (spinetref12_Name_ok _ _ hx_r_17) hf9 fun f10 hf10 => ?_
      obtain ⟨c12,h⟩:=as_ok h
      refine Ad (.bin .add (.k (.string ⟨#[76,66]⟩)) (.t 77)) (.s (.string ((⟨#[76,66]⟩:ByteArray)++r_17))) hf10 (e_sadd (t:=(⟨#[76,66]⟩:ByteArray)) (t':=r_17) (by kernel_rfl) (by kernel_rfl) c12) fun f11 hf11=>Sg 3 hf11 fun f12 hf12 => ?_
      obtain ⟨c13,h⟩:=as_ok h
      refine Ad (.app 86 3 32 (.t 75) (.t 81)) (.ref 1 (((v_7+1))+1) 0 ((l_7++[(spinetref13_Row.mk ((⟨#[66]⟩:ByteArray)++r_16) (34) i_5)])++[(spinetref13_Row.mk ((⟨#[76,66]⟩:ByteArray)++r_17) (35) i_5)]).length) hf12 (e_app (g:=spinetref13_Row.v) (l:=(l_7++[(spinetref13_Row.mk ((⟨#[66]⟩:ByteArray)++r_16) (34) i_5)])) (l':=[(spinetref13_Row.mk ((⟨#[76,66]⟩:ByteArray)++r_17) (35) i_5)]) (b:=1) (ver:=(v_7+1)) (n:=(l_7++[(spinetref13_Row.mk ((⟨#[66]⟩:ByteArray)++r_16) (34) i_5)]).length) rfl (by kernel_rfl) rfl (live_grow (by kernel_rfl)) (sll_ev (v:=.ref 6 0 0 1) (by kernel_rfl) (sll_ref (B:=⟨0,.grow,3,cat spinetref13_Row.v [(spinetref13_Row.mk ((⟨#[76,66]⟩:ByteArray)++r_17) (35) i_5)]⟩) (by kernel_rfl) (live_grow (by kernel_rfl)))) (slc_ev (v:=.ref 6 0 0 1) (by kernel_rfl) (slc_ref (g:=spinetref13_Row.v) (l:=[(spinetref13_Row.mk ((⟨#[76,66]⟩:ByteArray)++r_17) (35) i_5)]) (kd:=.grow) (q:=3) (by kernel_rfl) (live_grow (by kernel_rfl)))) c13) fun f13 hf13=>En hf13 fun f14 hf14=>Kv<|Kc<|Kr<|En hf14 fun f15 hf15=>k_l' (vs_cut (l:=[⟨0,[],.ref 0 0 0 0⟩,⟨1,[],.ref 1 (((v_7+1))+1) 0 ((l_7++[(spinetref13_Row.mk ((⟨#[66]⟩:ByteArray)++r_16) (34) i_5)])++[(spinetref13_Row.mk ((⟨#[76,66]⟩:ByteArray)++r_17) (35) i_5)]).length⟩,⟨6,[],.s (.int .i64 (IntKind.wrap .i64 (i_5+1)))⟩]) 5 (by kernel_rfl) (by kernel_rfl) (L':=[⟨0,.grow,3,cat spinetref13_Row.v ([]:List spinetref13_Row)⟩,⟨(((v_7+1))+1),.grow,3,cat spinetref13_Row.v ((l_7++[(spinetref13_Row.mk ((⟨#[66]⟩:ByteArray)++r_16) (34) i_5)])++[(spinetref13_Row.mk ((⟨#[76,66]⟩:ByteArray)++r_17) (35) i_5)])⟩,⟨0,.grow,1,cat nS k36_3⟩,⟨0,.grow,1,cat nS k36_2⟩,⟨0,.grow,3,cat spinetref13_Row.v k36_4⟩]) (by kernel_rfl) ⟨⟨rfl,rfl⟩,⟨rfl,rfl⟩,⟨rfl,rfl⟩,trivial⟩ ⟨.inr (.inr (statics_unders _ _ (cat_stat _))),.inr (.inr (statics_unders _ _ (cat_stat _))),.inr (.inr (statics_unders _ _ (cat_stat _))),.inr (.inr (statics_unders _ _ (cat_stat _))),.inr (.inr (statics_unders _ _ (cat_stat _))),trivial⟩ (Of [0,1,6] hf15) fun f hf => ?_)
      exact ih _ _ ⟨((l_7++[(spinetref13_Row.mk ((⟨#[66]⟩:ByteArray)++r_16) (34) i_5)])++[(spinetref13_Row.mk ((⟨#[76,66]⟩:ByteArray)++r_17) (35) i_5)]),(IntKind.wrap .i64 (i_5+1)),(((v_7+1))+1),h,hf,rfl⟩
     ·refine Ks<|Kv<|Kc<|Kr<|En hf8 fun f9 hf9=>k_l' (vs_cut (l:=[⟨0,[],.ref 0 0 0 0⟩,⟨1,[],.ref 1 (v_7+1) 0 (l_7++[(spinetref13_Row.mk ((⟨#[66]⟩:ByteArray)++r_16) (34) i_5)]).length⟩,⟨6,[],.s (.int .i64 (IntKind.wrap .i64 (i_5+1)))⟩]) 5 (by kernel_rfl) (by kernel_rfl) (L':=[⟨0,.grow,3,cat spinetref13_Row.v ([]:List spinetref13_Row)⟩,⟨(v_7+1),.grow,3,cat spinetref13_Row.v (l_7++[(spinetref13_Row.mk ((⟨#[66]⟩:ByteArray)++r_16) (34) i_5)])⟩,⟨0,.grow,1,cat nS k36_3⟩,⟨0,.grow,1,cat nS k36_2⟩,⟨0,.grow,3,cat spinetref13_Row.v k36_4⟩]) (by kernel_rfl) ⟨⟨rfl,rfl⟩,⟨rfl,rfl⟩,⟨rfl,rfl⟩,trivial⟩ ⟨.inr (.inr (statics_unders _ _ (cat_stat _))),.inr (.inr (statics_unders _ _ (cat_stat _))),.inr (.inr (statics_unders _ _ (cat_stat _))),.inr (.inr (statics_unders _ _ (cat_stat _))),.inr (.inr (statics_unders _ _ (cat_stat _))),trivial⟩ (Of [0,1,6] hf9) fun f hf => ?_)
      exact ih _ _ ⟨(l_7++[(spinetref13_Row.mk ((⟨#[66]⟩:ByteArray)++r_16) (34) i_5)]),(IntKind.wrap .i64 (i_5+1)),(v_7+1),h,hf,rfl⟩
    ·exact Kx<|Xc<|Xl<|Xb<|Kh (hgo2 l_7 v_7 (Option.some.inj h) _ (Of [0,1] hf1))
  refine k_loop BIG<|loop_ind (fun n f L=>∃ (l_4:(List spinetref13_Row)) (i_3:Int) (v_4:Nat),spinetref13_Rows_l1 n l_4 i_3=some o1∧FOk f [⟨0,[],.ref 0 0 0 0⟩,⟨1,[],.ref 1 v_4 0 l_4.length⟩,⟨4,[],.ref 3 0 0 11⟩,⟨5,[],.s (.int .i64 i_3)⟩]∧L=[⟨0,.grow,3,cat spinetref13_Row.v ([]:List spinetref13_Row)⟩,⟨v_4,.grow,3,cat spinetref13_Row.v l_4⟩,⟨0,.grow,1,cat nS k36_3⟩,⟨0,.grow,1,cat nS k36_2⟩]) ?_ ?_ BIG _ _ ⟨l_2,(0),v_2,hx1,FOk_of [0,1,4,5] hf2 (by kernel_rfl),(by kernel_rfl)⟩
  ·rintro f L ⟨l_4,i_3,v_4,h,_⟩
   cases (show (none:Option _)=some _ from h)
  ·rintro n1 R1 ih f L ⟨l_4,i_3,v_4,h,hf,rfl⟩
   rw [spinetref13_Rows_l1] at h
   refine Kq<|Kq<|Kr<|Sg 2 hf fun f1 hf1=>Ad (.len (.t 26)) (.s (.int .i64 (ln k36_2))) hf1 (e_len_ref (l:=k36_2) (B:=⟨0,.grow,1,cat nS k36_2⟩) (b:=3) (ver:=0) (n:=11) (by kernel_rfl) (by kernel_rfl) (live_grow (by kernel_rfl))) fun f2 hf2=>En hf2 fun f3 hf3=>Kc<|Kf hf3 h (fun hc3 h => ?_) fun hc3 h => ?_
   ·refine Ks<|Kc<|Kq<|Kb<|Kw<|lw_free' (dst:=(some 31)) (op:=(.mv (.t 1))) (aft:=[]) (lo:=0) (hi:=1) (v:=.ref 1 v_4 0 l_4.length) (by kernel_rfl) (by kernel_rfl) hf3 (by kernel_rfl) (by kernel_rfl) trivial fun f4 hf4=>lw_tight 7 (by kernel_rfl)<|mops_seg [0,1,4,5,31,32,33] 2 hf4 (l':=[⟨0,[],.ref 0 0 0 0⟩,⟨1,[],.ref 1 v_4 0 l_4.length⟩,⟨4,[],.ref 3 0 0 11⟩,⟨5,[],.s (.int .i64 i_3)⟩,⟨31,[],.ref 1 v_4 0 l_4.length⟩,⟨32,[],.ref 3 0 0 11⟩,⟨33,[],.s (.int .i64 i_3)⟩]) (L':=[⟨0,.grow,3,cat spinetref13_Row.v ([]:List spinetref13_Row)⟩,⟨v_4,.grow,3,cat spinetref13_Row.v l_4⟩,⟨0,.grow,1,cat nS k36_3⟩,⟨0,.grow,1,cat nS k36_2⟩]) (by kernel_rfl) fun f5 hf5 => ?_
    obtain ⟨c4,h⟩:=as_ok h
    refine Ad (.ias 1 (.t 32) (.t 33)) (.ptr 3 0 (0+(i_3:Int).toNat*1)) hf5 (e_ias_ref (l:=k36_2) (B:=⟨0,.grow,1,cat nS k36_2⟩) (b:=3) (ver:=0) (n:=11) (k:=.i64) (iv:=i_3) (by kernel_rfl) (by kernel_rfl) (by kernel_rfl) (live_grow (by kernel_rfl)) c4) fun f6 hf6=>Ad (.load false 1 (.t 34)) (.s (.string (gt k36_2 i_3))) hf6 (e_load_pe (g:=nS) (l:=k36_2) (iv:=i_3) (kd:=.grow) (q:=1) (b:=3) (ver:=0) [] (by kernel_rfl) (live_grow (by kernel_rfl)) c4 (by kernel_rfl) (by kernel_rfl)) fun f7 hf7=>mops_end [0,1,4,5,31,38] hf7 (l':=[⟨0,[],.ref 0 0 0 0⟩,⟨1,[],.ref 1 v_4 0 l_4.length⟩,⟨4,[],.ref 3 0 0 11⟩,⟨5,[],.s (.int .i64 i_3)⟩,⟨31,[],.ref 1 v_4 0 l_4.length⟩,⟨38,[],.agg [.s (.string (gt k36_2 i_3)),.s (.int .i64 (IntKind.wrap .i64 (13+i_3))),.s (.int .i64 0)]⟩]) (L':=[⟨0,.grow,3,cat spinetref13_Row.v ([]:List spinetref13_Row)⟩,⟨v_4,.grow,3,cat spinetref13_Row.v l_4⟩,⟨0,.grow,1,cat nS k36_3⟩,⟨0,.grow,1,cat nS k36_2⟩]) (by kernel_rfl) fun f8 hf8 => ?_
    intro _
    refine lw_w (a:=⟨⟨(some 39),(.e (.bslo 3 1 [(.string ⟨#[]⟩),(.int .i64 0),(.int .i64 0)] [(0,(3,(.t 38)))])),none,[7]⟩,true,0,1⟩) (by kernel_rfl) rfl rfl<|mops_end [0,1,4,5,31,39] hf8 (l':=[⟨0,[],.ref 0 0 0 0⟩,⟨1,[],.ref 1 v_4 0 l_4.length⟩,⟨4,[],.ref 3 0 0 11⟩,⟨5,[],.s (.int .i64 i_3)⟩,⟨31,[],.ref 1 v_4 0 l_4.length⟩,⟨39,[],.ref 4 0 0 1⟩]) (L':=[⟨0,.grow,3,cat spinetref13_Row.v ([]:List spinetref13_Row)⟩,⟨v_4,.grow,3,cat spinetref13_Row.v l_4⟩,⟨0,.grow,1,cat nS k36_3⟩,⟨0,.grow,1,cat nS k36_2⟩,⟨0,.grow,3,[.s (.string (gt k36_2 i_3)),.s (.int .i64 (IntKind.wrap .i64 (13+i_3))),.s (.int .i64 0)]⟩]) (by kernel_rfl) fun f9 hf9=>⟨(pend_ok hf3 (by kernel_rfl) (by kernel_rfl) trivial),?_⟩
    refine lw_w (a:=⟨⟨(some 40),(.e (.app 86 3 32 (.t 31) (.t 39))),none,[0,8]⟩,true,1,2⟩) (by kernel_rfl) rfl rfl ?_
    obtain ⟨c5,h⟩:=as_ok h
    refine Ad (.app 86 3 32 (.t 31) (.t 39)) (.ref 1 (v_4+1) 0 (l_4++[(spinetref13_Row.mk (gt k36_2 i_3) (IntKind.wrap .i64 (13+i_3)) (0))]).length) hf9 (e_app (g:=spinetref13_Row.v) (l:=l_4) (l':=[(spinetref13_Row.mk (gt k36_2 i_3) (IntKind.wrap .i64 (13+i_3)) (0))]) (b:=1) (ver:=v_4) (n:=l_4.length) rfl (by kernel_rfl) rfl (live_grow (by kernel_rfl)) (sll_ev (v:=.ref 4 0 0 1) (by kernel_rfl) (sll_ref (B:=⟨0,.grow,3,cat spinetref13_Row.v [(spinetref13_Row.mk (gt k36_2 i_3) (IntKind.wrap .i64 (13+i_3)) (0))]⟩) (by kernel_rfl) (live_grow (by kernel_rfl)))) (slc_ev (v:=.ref 4 0 0 1) (by kernel_rfl) (slc_ref (g:=spinetref13_Row.v) (l:=[(spinetref13_Row.mk (gt k36_2 i_3) (IntKind.wrap .i64 (13+i_3)) (0))]) (kd:=.grow) (q:=3) (by kernel_rfl) (live_grow (by kernel_rfl)))) c5) fun f10 hf10=>mops_end [0,1,4,5,40] hf10 (l':=[⟨0,[],.ref 0 0 0 0⟩,⟨1,[],.ref 1 v_4 0 l_4.length⟩,⟨4,[],.ref 3 0 0 11⟩,⟨5,[],.s (.int .i64 i_3)⟩,⟨40,[],.ref 1 (v_4+1) 0 (l_4++[(spinetref13_Row.mk (gt k36_2 i_3) (IntKind.wrap .i64 (13+i_3)) (0))]).length⟩]) (L':=[⟨0,.grow,3,cat spinetref13_Row.v ([]:List spinetref13_Row)⟩,⟨(v_4+1),.grow,3,cat spinetref13_Row.v (l_4++[(spinetref13_Row.mk (gt k36_2 i_3) (IntKind.wrap .i64 (13+i_3)) (0))])⟩,⟨0,.grow,1,cat nS k36_3⟩,⟨0,.grow,1,cat nS k36_2⟩,⟨0,.grow,3,cat spinetref13_Row.v [(spinetref13_Row.mk (gt k36_2 i_3) (IntKind.wrap .i64 (13+i_3)) (0))]⟩]) (by kernel_rfl) fun f11 hf11=>⟨(pend_no (by kernel_rfl) trivial),?_⟩
    refine lw_free (dst:=(some 41)) (op:=(.mv (.t 4))) (aft:=[]) (lo:=0) (hi:=2) (v:=.ref 3 0 0 11) (by kernel_rfl) (by kernel_rfl) hf11 (by kernel_rfl) (by kernel_rfl) (old_ok hf11 (by kernel_rfl) (by kernel_rfl) (old_ok hf11 (by kernel_rfl) (by kernel_rfl) trivial)) fun f12 hf12=>lw_free (dst:=(some 42)) (op:=(.mv (.t 5))) (aft:=[]) (lo:=0) (hi:=2) (v:=.s (.int .i64 i_3)) (by kernel_rfl) (by kernel_rfl) hf12 (by kernel_rfl) (by kernel_rfl) (old_ok hf12 (by kernel_rfl) (by kernel_rfl) (old_ok hf12 (by kernel_rfl) (by kernel_rfl) trivial)) fun f13 hf13 => ?_
    obtain ⟨c6,h⟩:=as_ok h
    refine lw_free (dst:=(some 43)) (op:=(.ias 1 (.t 41) (.t 42))) (aft:=[10,11]) (lo:=0) (hi:=2) (v:=.ptr 3 0 (0+(i_3:Int).toNat*1)) (by kernel_rfl) (by kernel_rfl) hf13 (by kernel_rfl) (e_ias_ref (l:=k36_2) (B:=⟨0,.grow,1,cat nS k36_2⟩) (b:=3) (ver:=0) (n:=11) (k:=.i64) (iv:=i_3) (by kernel_rfl) (by kernel_rfl) (by kernel_rfl) (live_grow (by kernel_rfl)) c6) (old_ok hf13 (by kernel_rfl) (e_ias_ref (l:=k36_2) (B:=⟨0,.grow,1,cat nS k36_2⟩) (b:=3) (ver:=0) (n:=11) (k:=.i64) (iv:=i_3) (by kernel_rfl) (by kernel_rfl) (by kernel_rfl) (live_grow (by kernel_rfl)) c6) (old_ok hf13 (by kernel_rfl) (e_ias_ref (l:=k36_2) (B:=⟨0,.grow,1,cat nS k36_2⟩) (b:=3) (ver:=0) (n:=11) (k:=.i64) (iv:=i_3) (by kernel_rfl) (by kernel_rfl) (by kernel_rfl) (live_grow (by kernel_rfl)) c6) trivial)) fun f14 hf14=>lw_free (dst:=(some 44)) (op:=(.load false 1 (.t 43))) (aft:=[12]) (lo:=0) (hi:=2) (v:=.s (.string (gt k36_2 i_3))) (by kernel_rfl) (by kernel_rfl) hf14 (by kernel_rfl) (e_load_pe (g:=nS) (l:=k36_2) (iv:=i_3) (kd:=.grow) (q:=1) (b:=3) (ver:=0) [] (by kernel_rfl) (live_grow (by kernel_rfl)) c6 (by kernel_rfl) (by kernel_rfl)) (old_ok hf14 (by kernel_rfl) (e_load_pe (g:=nS) (l:=k36_2) (iv:=i_3) (kd:=.grow) (q:=1) (b:=3) (ver:=0) [] (by kernel_rfl) (live_grow (by kernel_rfl)) c6 (by kernel_rfl) (by kernel_rfl)) (old_ok hf14 (by kernel_rfl) (e_load_pe (g:=nS) (l:=k36_2) (iv:=i_3) (kd:=.grow) (q:=1) (b:=3) (ver:=0) [] (by kernel_rfl) (live_grow (by kernel_rfl)) c6 (by kernel_rfl) (by kernel_rfl)) trivial)) fun f15 hf15=>lw_free (dst:=(some 45)) (op:=(.mv (.t 5))) (aft:=[]) (lo:=0) (hi:=2) (v:=.s (.int .i64 i_3)) (by kernel_rfl) (by kernel_rfl) hf15 (by kernel_rfl) (by kernel_rfl) (old_ok hf15 (by kernel_rfl) (by kernel_rfl) (old_ok hf15 (by kernel_rfl) (by kernel_rfl) trivial)) fun f16 hf16=>lw_free (dst:=(some 46)) (op:=(.bin .add (.k (.int .i64 13)) (.t 45))) (aft:=[14]) (lo:=0) (hi:=2) (v:=.s (.int .i64 (IntKind.wrap .i64 (13+i_3)))) (by kernel_rfl) (by kernel_rfl) hf16 (by kernel_rfl) (by kernel_rfl) (old_ok hf16 (by kernel_rfl) (by kernel_rfl) (old_ok hf16 (by kernel_rfl) (by kernel_rfl) trivial)) fun f17 hf17=>lw_w (a:=⟨⟨(some 47),(.call 56 [(.t 40),(.t 44),(.t 46),(.k (.string ⟨#[65,66]⟩))]),none,[9,13,15,9]⟩,true,2,3⟩) (by kernel_rfl) rfl rfl ?_
    obtain ⟨r_5,hx_r_5,h⟩:=Bs h
    refine Ca hf17 (av:=[.ref 1 (v_4+1) 0 (l_4++[(spinetref13_Row.mk (gt k36_2 i_3) (IntKind.wrap .i64 (13+i_3)) (0))]).length,.s (.string (gt k36_2 i_3)),.s (.int .i64 (IntKind.wrap .i64 (13+i_3))),.s (.string (⟨#[65,66]⟩:ByteArray))]) (v:=.ref 1 (((v_4+1))+1) 0 r_5.length) (L':=[⟨0,.grow,3,cat spinetref13_Row.v ([]:List spinetref13_Row)⟩,⟨(((v_4+1))+1),.grow,3,cat spinetref13_Row.v r_5⟩,⟨0,.grow,1,cat nS k36_3⟩,⟨0,.grow,1,cat nS k36_2⟩,⟨0,.grow,3,cat spinetref13_Row.v [(spinetref13_Row.mk (gt k36_2 i_3) (IntKind.wrap .i64 (13+i_3)) (0))]⟩]) (CalL.borrow (M:=[⟨(v_4+1),.grow,3,cat spinetref13_Row.v (l_4++[(spinetref13_Row.mk (gt k36_2 i_3) (IntKind.wrap .i64 (13+i_3)) (0))])⟩]) (M':=[⟨(((v_4+1))+1),.grow,3,cat spinetref13_Row.v r_5⟩]) [1] (spinetref13_with_ok (l_4++[(spinetref13_Row.mk (gt k36_2 i_3) (IntKind.wrap .i64 (13+i_3)) (0))]) (gt k36_2 i_3) (IntKind.wrap .i64 (13+i_3)) (⟨#[65,66]⟩:ByteArray) ((v_4+1)) r_5 hx_r_5) (by kernel_rfl) (RNs.cons (RN.ref (by kernel_rfl)) (RNs.cons (RN.stat rfl) (RNs.cons (RN.stat rfl) (RNs.cons (RN.stat rfl) RNs.nil)))) (RN.ref (by kernel_rfl)) (RBs.cons (RNs.stat (cat_stat _)) RBs.nil) (RBs.cons (RNs.stat (cat_stat _)) RBs.nil) (by kernel_rfl) (by kernel_rfl)) (by intro h; cases h) fun f18 hf18=>mops_end [0,1,4,5,47] hf18 (l':=[⟨0,[],.ref 0 0 0 0⟩,⟨1,[],.ref 1 v_4 0 l_4.length⟩,⟨4,[],.ref 3 0 0 11⟩,⟨5,[],.s (.int .i64 i_3)⟩,⟨47,[],.ref 1 (((v_4+1))+1) 0 r_5.length⟩]) (L':=[⟨0,.grow,3,cat spinetref13_Row.v ([]:List spinetref13_Row)⟩,⟨(((v_4+1))+1),.grow,3,cat spinetref13_Row.v r_5⟩,⟨0,.grow,1,cat nS k36_3⟩,⟨0,.grow,1,cat nS k36_2⟩,⟨0,.grow,3,cat spinetref13_Row.v [(spinetref13_Row.mk (gt k36_2 i_3) (IntKind.wrap .i64 (13+i_3)) (0))]⟩]) (by kernel_rfl) fun f19 hf19=>⟨(pend_no (by kernel_rfl) trivial),?_⟩
    refine lw_tight 1 (by kernel_rfl)<|mops_end [0,1,4,5] hf19 (l':=[⟨0,[],.ref 0 0 0 0⟩,⟨1,[],.ref 1 (((v_4+1))+1) 0 r_5.length⟩,⟨4,[],.ref 3 0 0 11⟩,⟨5,[],.s (.int .i64 i_3)⟩]) (L':=[⟨0,.grow,3,cat spinetref13_Row.v ([]:List spinetref13_Row)⟩,⟨(((v_4+1))+1),.grow,3,cat spinetref13_Row.v r_5⟩,⟨0,.grow,1,cat nS k36_3⟩,⟨0,.grow,1,cat nS k36_2⟩,⟨0,.grow,3,cat spinetref13_Row.v [(spinetref13_Row.mk (gt k36_2 i_3) (IntKind.wrap .i64 (13+i_3)) (0))]⟩]) (by kernel_rfl) fun f20 hf20 => ?_
    intro _
    refine lw_end (by kernel_rfl)<|Kv<|Kc<|Kr<|En hf20 fun f21 hf21=>k_l' (vs_cut (l:=[⟨0,[],.ref 0 0 0 0⟩,⟨1,[],.ref 1 (((v_4+1))+1) 0 r_5.length⟩,⟨4,[],.ref 3 0 0 11⟩,⟨5,[],.s (.int .i64 (IntKind.wrap .i64 (i_3+1)))⟩]) 4 (by kernel_rfl) (by kernel_rfl) (L':=[⟨0,.grow,3,cat spinetref13_Row.v ([]:List spinetref13_Row)⟩,⟨(((v_4+1))+1),.grow,3,cat spinetref13_Row.v r_5⟩,⟨0,.grow,1,cat nS k36_3⟩,⟨0,.grow,1,cat nS k36_2⟩]) (by kernel_rfl) ⟨⟨rfl,rfl⟩,⟨rfl,rfl⟩,⟨rfl,rfl⟩,⟨rfl,rfl⟩,trivial⟩ ⟨.inr (.inr (statics_unders _ _ (cat_stat _))),.inr (.inr (statics_unders _ _ (cat_stat _))),.inr (.inr (statics_unders _ _ (cat_stat _))),.inr (.inr (statics_unders _ _ (cat_stat _))),trivial⟩ (Of [0,1,4,5] hf21) fun f hf => ?_)
    exact ih _ _ ⟨r_5,(IntKind.wrap .i64 (i_3+1)),(((v_4+1))+1),h,hf,rfl⟩
   ·exact Kx<|Xc<|Xl<|Xb<|Kh (hgo1 l_4 v_4 (Option.some.inj h) _ (Of [0,1] hf3))
 refine k_loop BIG<|loop_ind (fun n f L=>∃ (l_1:(List spinetref13_Row)) (i_1:Int) (v_1:Nat),spinetref13_Rows_l0 n l_1 i_1=some o0∧FOk f [⟨0,[],.ref 0 0 0 0⟩,⟨1,[],.ref 1 v_1 0 l_1.length⟩,⟨2,[],.ref 2 0 0 11⟩,⟨3,[],.s (.int .i64 i_1)⟩]∧L=[⟨0,.grow,3,cat spinetref13_Row.v ([]:List spinetref13_Row)⟩,⟨v_1,.grow,3,cat spinetref13_Row.v l_1⟩,⟨0,.grow,1,cat nS k36_3⟩]) ?_ ?_ BIG _ _ ⟨([]:List spinetref13_Row),(0),(0),hx0,FOk_of [0,1,2,3] hf4 (by kernel_rfl),(by kernel_rfl)⟩
 ·rintro f L ⟨l_1,i_1,v_1,h,_⟩
  cases (show (none:Option _)=some _ from h)
 ·rintro n0 R0 ih f L ⟨l_1,i_1,v_1,h,hf,rfl⟩
  rw [spinetref13_Rows_l0] at h
  refine Kq<|Kq<|Kr<|Sg 2 hf fun f1 hf1=>Ad (.len (.t 11)) (.s (.int .i64 (ln k36_3))) hf1 (e_len_ref (l:=k36_3) (B:=⟨0,.grow,1,cat nS k36_3⟩) (b:=2) (ver:=0) (n:=11) (by kernel_rfl) (by kernel_rfl) (live_grow (by kernel_rfl))) fun f2 hf2=>En hf2 fun f3 hf3=>Kc<|Kf hf3 h (fun hc1 h => ?_) fun hc1 h => ?_
  ·refine Ks<|Kc<|Kq<|Kb<|Kr<|Sg 3 hf3 fun f4 hf4 => ?_
   obtain ⟨c2,h⟩:=as_ok h
   refine Ad (.ias 1 (.t 17) (.t 18)) (.ptr 2 0 (0+(i_1:Int).toNat*1)) hf4 (e_ias_ref (l:=k36_3) (B:=⟨0,.grow,1,cat nS k36_3⟩) (b:=2) (ver:=0) (n:=11) (k:=.i64) (iv:=i_1) (by kernel_rfl) (by kernel_rfl) (by kernel_rfl) (live_grow (by kernel_rfl)) c2) fun f5 hf5=>Ad (.load false 1 (.t 19)) (.s (.string (gt k36_3 i_1))) hf5 (e_load_pe (g:=nS) (l:=k36_3) (iv:=i_1) (kd:=.grow) (q:=1) (b:=2) (ver:=0) [] (by kernel_rfl) (live_grow (by kernel_rfl)) c2 (by kernel_rfl) (by kernel_rfl)) fun f6 hf6=>Sg 2 hf6 fun f7 hf7 => ?_
   obtain ⟨r_2,hx_r_2,h⟩:=Bs h
   exact Ca hf7 (av:=[.ref 1 v_1 0 l_1.length,.s (.string (gt k36_3 i_1)),.s (.int .i64 (IntKind.wrap .i64 (2+i_1))),.s (.string (⟨#[65,66]⟩:ByteArray))]) (v:=.ref 1 (v_1+1) 0 r_2.length) (L':=[⟨0,.grow,3,cat spinetref13_Row.v ([]:List spinetref13_Row)⟩,⟨(v_1+1),.grow,3,cat spinetref13_Row.v r_2⟩,⟨0,.grow,1,cat nS k36_3⟩]) (CalL.borrow (M:=[⟨v_1,.grow,3,cat spinetref13_Row.v l_1⟩]) (M':=[⟨(v_1+1),.grow,3,cat spinetref13_Row.v r_2⟩]) [1] (spinetref13_with_ok l_1 (gt k36_3 i_1) (IntKind.wrap .i64 (2+i_1)) (⟨#[65,66]⟩:ByteArray) v_1 r_2 hx_r_2) (by kernel_rfl) (RNs.cons (RN.ref (by kernel_rfl)) (RNs.cons (RN.stat rfl) (RNs.cons (RN.stat rfl) (RNs.cons (RN.stat rfl) RNs.nil)))) (RN.ref (by kernel_rfl)) (RBs.cons (RNs.stat (cat_stat _)) RBs.nil) (RBs.cons (RNs.stat (cat_stat _)) RBs.nil) (by kernel_rfl) (by kernel_rfl)) (by intro h; cases h) fun f8 hf8=>En hf8 fun f9 hf9=>Kv<|Kc<|Kr<|En hf9 fun f10 hf10=>Kl<|ih _ _ ⟨r_2,(IntKind.wrap .i64 (i_1+1)),(v_1+1),h,FOk_of [0,1,2,3] hf10 (by kernel_rfl),(by kernel_rfl)⟩
  ·exact Kx<|Xc<|Xl<|Xb<|Kh (hgo0 l_1 v_1 (Option.some.inj h) _ (Of [0,1] hf3))
end Go.Proofs.YtfcegejpdlbkdaaGreatK
