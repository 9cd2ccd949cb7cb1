/- The Go functions come to the functions over typed data. Printed by a program of this work. -/
import Derived.Test.YtfcegejpdlbkdaaGreatF
import Derived.Test.YtfcegejpdlbkdaaGreatProg
import Derived.Test.YtfcegejpdlbkdaaGreatRp
import Derived.Test.YtfcegejpdlbkdaaGreatSc
import Derived.Test.YtfcegejpdlbkdaaGreatSd
import Derived.Test.YtfcegejpdlbkdaaGreatSg
namespace Go.Proofs.YtfcegejpdlbkdaaGreatK
set_option linter.unusedVariables false
set_option linter.unusedSimpArgs false
set_option maxHeartbeats 4000000
open Go.RowKit
attribute [local irreducible] dwv mops lops lqops lwops kont iter run runK rk okK ex E1 vals val chain chB sel resF
@[irreducible] noncomputable def i4:Nat→List Op1:=rg Tryz.prog 4 []
@[irreducible] noncomputable def j4:Nat→List An:=rgw Tryz.prog 4 []
noncomputable def a4_0:IR:=(.seq (.reg false (i4 3)) (.seq (.reg false (i4 4)) (.seq (.regw (j4 0)) (.seq (.reg false (i4 5)) .ret))))
noncomputable def a4_1:IR:=(.seq (.seq (.reg false (i4 1)) (.cond (.t 14) (.seq (.reg false (i4 2)) .ret) .skip)) a4_0)
noncomputable def spinetlaw34_Image_ir:IR:=(.seq (.reg false (i4 0)) a4_1)
theorem spinetlaw34_Image_cfn:cFn Tryz.prog 4=some (spinetlaw34_Image_ir,[(.t 2),(.t 3)],30):=by kernel_rfl
def spinetlaw34_Image_V (r:((List Int) × Bool)):V:=.tup [.sl false r.1.length (cat (nI .u8) r.1),.s (.bool r.2)]
def spinetlaw34_Image_C (r:((List Int) × Bool)):X→Fr→Hp→Prop:=FinL [(.t 2),(.t 3)] [] (spinetlaw34_Image_V r) []
theorem spinetlaw34_Image_ok (w_:spinetlaw34_World) (r:((List Int) × Bool)) (h:spinetlaw34_Image w_=some r):Pure Tryz.prog 4 [.agg [.sl false w_.Low.length (cat (nI .u8) w_.Low),.sl false w_.High.length (cat (nI .u8) w_.High)]] (spinetlaw34_Image_V r):=by
 refine CS spinetlaw34_Image_cfn (spinetlaw34_Image_C r) fun f hf => ?_
 unfold spinetlaw34_Image at h
 refine Kq<|Kr<|En hf fun f1 hf1=>Kc<|Kq<|Kq<|Kr<|En hf1 fun f2 hf2=>Kc<|Kf hf2 h (fun hc1 h => ?_) fun hc1 h => ?_
 ·refine Kq<|Kr<|En hf2 fun f3 hf3 => ?_
  obtain rfl:=Oi h
  exact Kc<|Kt<|Xc<|k_fin (fin_ret (.inl rfl) hf3 (vs:=[.ref 2 0 0 0,.s (.bool false)]) (by kernel_rfl) (SettL.pure (FzL.tup (FzsL.cons (FzL.whole (g:=(nI .u8)) (kd:=.grow) (l:=([]:List Int)) (by kernel_rfl) rfl (live_grow (by kernel_rfl))) (FzsL.cons (FzL.stat rfl) FzsL.nil)))))
 ·refine Ks<|Kc<|Kq<|Kr ?_
  obtain ⟨c2,h⟩:=as_ok h
  refine Ad (.mks [(.int .u8 0)] 1 (.k (.int .i64 65536)) (.k (.int .i64 65536))) (.ref 2 0 0 (rp (65536) (0:Int)).length) hf2 (e_mks (g:=(nI .u8)) (a:=0) (k:=.i64) (k':=.i64) (iv:=65536) (jv:=65536) (by kernel_rfl) (by kernel_rfl) (by kernel_rfl) c2 (by kernel_rfl)) fun f3 hf3=>En hf3 fun f4 hf4=>Kc<|Kq<|Kr<|Sg 3 hf4 fun f5 hf5=>Ad (.cpy (.t 16) (.t 18)) (.s (.int .i64 ((((w_.Low).take ((rp (65536) (0:Int)).length - 0)).length:Nat):Int))) hf5 (e_cpyN (l:=(rp (65536) (0:Int))) (l':=w_.Low) (q:=2) (ver:=0) (n:=(rp (65536) (0:Int)).length) (a:=0) (kd:=.grow) (ref_00 (by kernel_rfl)) (cut_nn (n:=(rp (65536) (0:Int)).length)) rfl (live_grow (by kernel_rfl)) (slc_ev (v:=.sl false w_.Low.length (cat (nI .u8) w_.Low)) (by kernel_rfl) (slc_sl (g:=(nI .u8)) w_.Low))) fun f6 hf6=>En hf6 fun f7 hf7=>Kc<|Kq<|Kw<|lw_tight 8 (by kernel_rfl)<|mops_seg [1,2,3,4,20,24] 5 hf7 (l':=[⟨1,[],.ptr 0 0 0⟩,⟨2,[],.ref 1 0 0 0⟩,⟨3,[],.s (.bool false)⟩,⟨4,[],.ref 2 0 0 (rp (65536) (0:Int)).length⟩,⟨20,[],.ref 2 0 0 (rp (65536) (0:Int)).length⟩,⟨24,[],.s (.int .i64 (IntKind.wrap .i64 (65536 - (ln w_.High))))⟩]) (L':=[⟨0,.mem,1,[.sl false w_.Low.length (cat (nI .u8) w_.Low),.sl false w_.High.length (cat (nI .u8) w_.High)]⟩,⟨0,.grow,1,cat (nI .u8) ([]:List Int)⟩,⟨0,.grow,1,cat (nI .u8) (cpyL (rp (65536) (0:Int)) (0) ((rp (65536) (0:Int)).length - 0) w_.Low)⟩]) (by kernel_rfl) fun f8 hf8 => ?_
  obtain ⟨c3,h⟩:=as_ok h
  refine Ad (.slice 1 (.t 20) (some (.t 24)) none) (.ref 2 0 (0+((IntKind.wrap .i64 (65536 - (ln w_.High))):Int).toNat*1) ((rp (65536) (0:Int)).length - ((IntKind.wrap .i64 (65536 - (ln w_.High))):Int).toNat)) hf8 (e_slice_ref (B:=⟨0,.grow,1,cat (nI .u8) (cpyL (rp (65536) (0:Int)) (0) ((rp (65536) (0:Int)).length - 0) w_.Low)⟩) (n:=(rp (65536) (0:Int)).length) (o:=0) (by kernel_rfl) (live_grow (by kernel_rfl)) rfl (b_sn (k:=.i64) (iv:=(IntKind.wrap .i64 (65536 - (ln w_.High)))) (by kernel_rfl) (ln_ns (cpyL_len.trans rfl) c3))) fun f9 hf9=>mops_end [2,3,4,25,27] hf9 (l':=[⟨2,[],.ref 1 0 0 0⟩,⟨3,[],.s (.bool false)⟩,⟨4,[],.ref 2 0 0 (rp (65536) (0:Int)).length⟩,⟨25,[],.ref 2 0 (0+((IntKind.wrap .i64 (65536 - (ln w_.High))):Int).toNat*1) ((rp (65536) (0:Int)).length - ((IntKind.wrap .i64 (65536 - (ln w_.High))):Int).toNat)⟩,⟨27,[],.sl false w_.High.length (cat (nI .u8) w_.High)⟩]) (L':=[⟨0,.mem,1,[.sl false w_.Low.length (cat (nI .u8) w_.Low),.sl false w_.High.length (cat (nI .u8) w_.High)]⟩,⟨0,.grow,1,cat (nI .u8) ([]:List Int)⟩,⟨0,.grow,1,cat (nI .u8) (cpyL (rp (65536) (0:Int)) (0) ((rp (65536) (0:Int)).length - 0) w_.Low)⟩]) (by kernel_rfl) fun f10 hf10 => ?_
  intro _
  refine lw_w (a:=⟨⟨(some 28),(.e (.cpy (.t 25) (.t 27))),none,[5,7]⟩,true,0,1⟩) (by kernel_rfl) rfl rfl<|Ad (.cpy (.t 25) (.t 27)) (.s (.int .i64 ((((w_.High).take ((cpyL (rp (65536) (0:Int)) (0) ((rp (65536) (0:Int)).length - 0) w_.Low).length - ((IntKind.wrap .i64 (65536 - (ln w_.High))):Int).toNat)).length:Nat):Int))) hf10 (e_cpyN (l:=(cpyL (rp (65536) (0:Int)) (0) ((rp (65536) (0:Int)).length - 0) w_.Low)) (l':=w_.High) (q:=2) (ver:=0) (n:=(rp (65536) (0:Int)).length) (a:=((IntKind.wrap .i64 (65536 - (ln w_.High))):Int).toNat) (kd:=.grow) (by kernel_rfl) (cut_sn (n:=(rp (65536) (0:Int)).length) (ln_ns (cpyL_len.trans rfl) c3)) (cpyL_len.trans rfl) (live_grow (by kernel_rfl)) (slc_ev (v:=.sl false w_.High.length (cat (nI .u8) w_.High)) (by kernel_rfl) (slc_sl (g:=(nI .u8)) w_.High))) fun f11 hf11=>mops_end [2,3,4] hf11 (l':=[⟨2,[],.ref 1 0 0 0⟩,⟨3,[],.s (.bool false)⟩,⟨4,[],.ref 2 0 0 (rp (65536) (0:Int)).length⟩]) (L':=[⟨0,.mem,1,[.sl false w_.Low.length (cat (nI .u8) w_.Low),.sl false w_.High.length (cat (nI .u8) w_.High)]⟩,⟨0,.grow,1,cat (nI .u8) ([]:List Int)⟩,⟨0,.grow,1,cat (nI .u8) (cpyL (cpyL (rp (65536) (0:Int)) (0) ((rp (65536) (0:Int)).length - 0) w_.Low) (((IntKind.wrap .i64 (65536 - (ln w_.High))):Int).toNat) ((cpyL (rp (65536) (0:Int)) (0) ((rp (65536) (0:Int)).length - 0) w_.Low).length - ((IntKind.wrap .i64 (65536 - (ln w_.High))):Int).toNat) w_.High)⟩]) (by kernel_rfl) fun f12 hf12=>⟨trivial,?_⟩
  refine lw_end (by kernel_rfl)<|Kc<|Kq<|Kr<|En hf12 fun f13 hf13 => ?_
  obtain rfl:=Oi h
  exact Kc<|Kt<|k_fin (fin_ret (.inl rfl) hf13 (vs:=[.ref 2 0 0 (rp (65536) (0:Int)).length,.s (.bool true)]) (by kernel_rfl) (SettL.pure (FzL.tup (FzsL.cons (FzL.whole (g:=(nI .u8)) (kd:=.grow) (l:=(cpyL (cpyL (rp (65536) (0:Int)) (0) ((rp (65536) (0:Int)).length - 0) w_.Low) (((IntKind.wrap .i64 (65536 - (ln w_.High))):Int).toNat) ((cpyL (rp (65536) (0:Int)) (0) ((rp (65536) (0:Int)).length - 0) w_.Low).length - ((IntKind.wrap .i64 (65536 - (ln w_.High))):Int).toNat) w_.High)) (by kernel_rfl) (cpyL_len.trans (cpyL_len.trans rfl)) (live_grow (by kernel_rfl))) (FzsL.cons (FzL.stat rfl) FzsL.nil)))))
@[irreducible] noncomputable def i38:Nat→List Op1:=rg Tryz.prog 38 []
noncomputable def inst_posted_ir:IR:=(.seq (.reg false (i38 0)) (.seq (.reg false (i38 1)) .ret))
theorem inst_posted_cfn:cFn Tryz.prog 38=some (inst_posted_ir,[(.t 2)],13):=by kernel_rfl
def inst_posted_V (r:(Bool)):V:=.s (.bool r)
def inst_posted_C (r:(Bool)):X→Fr→Hp→Prop:=FinL [(.t 2)] [] (inst_posted_V r) []
theorem inst_posted_ok (mode_:Int) (r:(Bool)) (h:inst_posted mode_=some r):Pure Tryz.prog 38 [.s (.int .i64 mode_)] (inst_posted_V r):=by
 refine CS inst_posted_cfn (inst_posted_C r) fun f hf => ?_
 unfold inst_posted at h
 refine Kq<|Kr<|En hf fun f1 hf1=>Kc<|Kq<|Kr<|En hf1 fun f2 hf2 => ?_
 obtain rfl:=Oi h
 exact Kc<|Kt<|Fp hf2
@[irreducible] noncomputable def i87:Nat→List Op1:=rg Tryz.prog 87 []
noncomputable def octet_Sign5_ir:IR:=(.seq (.reg false (i87 0)) (.seq (.reg false (i87 1)) .ret))
theorem octet_Sign5_cfn:cFn Tryz.prog 87=some (octet_Sign5_ir,[(.t 2)],9):=by kernel_rfl
def octet_Sign5_V (r:(Int)):V:=.s (.int .u16 r)
def octet_Sign5_C (r:(Int)):X→Fr→Hp→Prop:=FinL [(.t 2)] [] (octet_Sign5_V r) []
theorem octet_Sign5_ok (b_:Int) (r:(Int)) (h:octet_Sign5 b_=some r):Pure Tryz.prog 87 [.s (.int .u8 b_)] (octet_Sign5_V r):=by
 refine CS octet_Sign5_cfn (octet_Sign5_C r) fun f hf => ?_
 unfold octet_Sign5 at h
 refine Kq<|Kr<|En hf fun f1 hf1=>Kc<|Kq<|Kr<|En hf1 fun f2 hf2 => ?_
 obtain rfl:=Oi h
 exact Kc<|Kt<|Fp hf2
@[irreducible] noncomputable def i88:Nat→List Op1:=rg Tryz.prog 88 []
noncomputable def a88_0:IR:=(.cond (.t 24) (.seq (.reg false (i88 23)) .ret) (.seq (.reg false (i88 24)) (.cond (.t 26) (.seq (.reg false (i88 25)) .ret) .skip)))
noncomputable def a88_1:IR:=(.cond (.t 20) (.seq (.reg false (i88 19)) .ret) (.seq (.reg false (i88 20)) (.cond (.t 22) (.seq (.reg false (i88 21)) .ret) (.seq (.reg false (i88 22)) a88_0))))
noncomputable def a88_2:IR:=(.cond (.t 16) (.seq (.reg false (i88 15)) .ret) (.seq (.reg false (i88 16)) (.cond (.t 18) (.seq (.reg false (i88 17)) .ret) (.seq (.reg false (i88 18)) a88_1))))
noncomputable def a88_3:IR:=(.cond (.t 12) (.seq (.reg false (i88 11)) .ret) (.seq (.reg false (i88 12)) (.cond (.t 14) (.seq (.reg false (i88 13)) .ret) (.seq (.reg false (i88 14)) a88_2))))
noncomputable def a88_4:IR:=(.cond (.t 8) (.seq (.reg false (i88 7)) .ret) (.seq (.reg false (i88 8)) (.cond (.t 10) (.seq (.reg false (i88 9)) .ret) (.seq (.reg false (i88 10)) a88_3))))
noncomputable def a88_5:IR:=(.cond (.t 4) (.seq (.reg false (i88 3)) .ret) (.seq (.reg false (i88 4)) (.cond (.t 6) (.seq (.reg false (i88 5)) .ret) (.seq (.reg false (i88 6)) a88_4))))
noncomputable def a88_6:IR:=(.seq (.seq (.reg false (i88 1)) (.block 0 (.seq (.reg false (i88 2)) a88_5))) (.seq (.reg false (i88 26)) .ret))
noncomputable def post_kind_ir:IR:=(.seq (.reg false (i88 0)) a88_6)
theorem post_kind_cfn:cFn Tryz.prog 88=some (post_kind_ir,[(.t 2)],28):=by kernel_rfl
def post_kind_V (r:(Int)):V:=.s (.int .i64 r)
def post_kind_C (r:(Int)):X→Fr→Hp→Prop:=FinL [(.t 2)] [] (post_kind_V r) []
theorem post_kind_ok (low_:Int) (r:(Int)) (h:post_kind low_=some r):Pure Tryz.prog 88 [.s (.int .u8 low_)] (post_kind_V r):=by
 refine CS post_kind_cfn (post_kind_C r) fun f hf => ?_
 unfold post_kind at h
 refine Kq<|Kr<|En hf fun f1 hf1=>Kc<|Kq<|Kq<|Kr<|En hf1 fun f2 hf2=>Kc<|Kb<|Kq<|Kr<|En hf2 fun f3 hf3=>Kc<|Kf hf3 h (fun hc1 h => ?_) fun hc1 h => ?_
 ·refine Kq<|Kr<|En hf3 fun f4 hf4 => ?_
  obtain rfl:=Oi h
  exact Kc<|Kt<|Xr<|Xc<|Fp hf4
 ·refine Kq<|Kr<|En hf3 fun f4 hf4=>Kc<|Kf hf4 h (fun hc2 h => ?_) fun hc2 h => ?_
  ·refine Kq<|Kr<|En hf4 fun f5 hf5 => ?_
   obtain rfl:=Oi h
   exact Kc<|Kt<|Xr<|Xc<|Fp hf5
  ·refine Kq<|Kr<|En hf4 fun f5 hf5=>Kc<|Kf hf5 h (fun hc3 h => ?_) fun hc3 h => ?_
   ·refine Kq<|Kr<|En hf5 fun f6 hf6 => ?_
    obtain rfl:=Oi h
    exact Kc<|Kt<|Xr<|Xc<|Fp hf6
   ·refine Kq<|Kr<|En hf5 fun f6 hf6=>Kc<|Kf hf6 h (fun hc4 h => ?_) fun hc4 h => ?_
    ·refine Kq<|Kr<|En hf6 fun f7 hf7 => ?_
     obtain rfl:=Oi h
     exact Kc<|Kt<|Xr<|Xc<|Fp hf7
    ·refine Kq<|Kr<|En hf6 fun f7 hf7=>Kc<|Kf hf7 h (fun hc5 h => ?_) fun hc5 h => ?_
     ·refine Kq<|Kr<|En hf7 fun f8 hf8 => ?_
      obtain rfl:=Oi h
      exact Kc<|Kt<|Xr<|Xc<|Fp hf8
     ·refine Kq<|Kr<|En hf7 fun f8 hf8=>Kc<|Kf hf8 h (fun hc6 h => ?_) fun hc6 h => ?_
      ·refine Kq<|Kr<|En hf8 fun f9 hf9 => ?_
       obtain rfl:=Oi h
       exact Kc<|Kt<|Xr<|Xc<|Fp hf9
      ·refine Kq<|Kr<|En hf8 fun f9 hf9=>Kc<|Kf hf9 h (fun hc7 h => ?_) fun hc7 h => ?_
       ·refine Kq<|Kr<|En hf9 fun f10 hf10 => ?_
        obtain rfl:=Oi h
        exact Kc<|Kt<|Xr<|Xc<|Fp hf10
       ·refine Kq<|Kr<|En hf9 fun f10 hf10=>Kc<|Kf hf10 h (fun hc8 h => ?_) fun hc8 h => ?_
        ·refine Kq<|Kr<|En hf10 fun f11 hf11 => ?_
         obtain rfl:=Oi h
         exact Kc<|Kt<|Xr<|Xc<|Fp hf11
        ·refine Kq<|Kr<|En hf10 fun f11 hf11=>Kc<|Kf hf11 h (fun hc9 h => ?_) fun hc9 h => ?_
         ·refine Kq<|Kr<|En hf11 fun f12 hf12 => ?_
          obtain rfl:=Oi h
          exact Kc<|Kt<|Xr<|Xc<|Fp hf12
         ·refine Kq<|Kr<|En hf11 fun f12 hf12=>Kc<|Kf hf12 h (fun hc10 h => ?_) fun hc10 h => ?_
          ·refine Kq<|Kr<|En hf12 fun f13 hf13 => ?_
           obtain rfl:=Oi h
           exact Kc<|Kt<|Xr<|Xc<|Fp hf13
          ·refine Kq<|Kr<|En hf12 fun f13 hf13=>Kc<|Kf hf13 h (fun hc11 h => ?_) fun hc11 h => ?_
           ·refine Kq<|Kr<|En hf13 fun f14 hf14 => ?_
            obtain rfl:=Oi h
            exact Kc<|Kt<|Xr<|Xc<|Fp hf14
           ·refine Kq<|Kr<|En hf13 fun f14 hf14=>Kc<|Kf hf14 h (fun hc12 h => ?_) fun hc12 h => ?_
            ·refine Kq<|Kr<|mops_end [2] hf14 (l':=[⟨2,[],.s (.int .i64 13)⟩]) (L':=[]) (by kernel_rfl) fun f15 hf15 => ?_
             obtain rfl:=Oi h
             exact Kc<|Kt<|Xr<|Xc<|Fp hf15
            ·refine Ks<|Kv<|Kc<|Kq<|Kr<|mops_end [2] hf14 (l':=[⟨2,[],.s (.int .i64 0)⟩]) (L':=[]) (by kernel_rfl) fun f15 hf15 => ?_
             obtain rfl:=Oi h
             exact Kc<|Kt<|Fp hf15
@[irreducible] noncomputable def i63:Nat→List Op1:=rg Tryz.prog 63 []
noncomputable def a63_0:IR:=(.cond (.t 8) .skip (.seq (.reg false (i63 6)) (.cond (.t 8) .skip (.reg false (i63 7)))))
noncomputable def a63_1:IR:=(.cond (.t 5) (.seq (.reg false (i63 4)) .ret) (.seq (.seq (.reg false (i63 5)) a63_0) (.cond (.t 8) (.seq (.reg false (i63 8)) .ret) .skip)))
noncomputable def a63_2:IR:=(.block 0 (.seq (.seq (.reg false (i63 2)) (.cond (.t 5) .skip (.reg false (i63 3)))) a63_1))
noncomputable def post_Post_Bytes_ir:IR:=(.seq (.reg false (i63 0)) (.seq (.seq (.reg false (i63 1)) a63_2) (.seq (.reg false (i63 9)) .ret)))
theorem post_Post_Bytes_cfn:cFn Tryz.prog 63=some (post_Post_Bytes_ir,[(.t 2)],12):=by kernel_rfl
def post_Post_Bytes_V (r:(Int)):V:=.s (.int .i64 r)
def post_Post_Bytes_C (r:(Int)):X→Fr→Hp→Prop:=FinL [(.t 2)] [] (post_Post_Bytes_V r) []
theorem post_Post_Bytes_ok (p_:post_Post) (r:(Int)) (h:post_Post_Bytes p_=some r):Pure Tryz.prog 63 [.agg [.s (.int .i64 p_.Kind),.s (.int .i64 p_.Reg),.s (.int .u16 p_.Off),.s (.bool p_.Indirect)]] (post_Post_Bytes_V r):=by
 refine CS post_Post_Bytes_cfn (post_Post_Bytes_C r) fun f hf => ?_
 unfold post_Post_Bytes at h
 refine Kq<|Kr<|En hf fun f1 hf1=>Kc<|Kq<|Kq<|Kr<|En hf1 fun f2 hf2=>Kc<|Kb<|Kq<|Kq<|Kr<|En hf2 fun f3 hf3=>Kc ?_
 have hj1:∀ (t_:Bool),post_Post_Bytes_j1 p_ t_=some r→∀ f,FOk f [⟨2,[],.s (.int .i64 0)⟩,⟨4,[],.s (.int .i64 p_.Kind)⟩,⟨5,[],.s (.bool t_)⟩]→kont Tryz.prog [] (post_Post_Bytes_C r) ((.c a63_1)::(.b 0)::(.c (.seq (.reg false (i63 9)) .ret))::[]) .normal f [⟨0,.mem,1,[.s (.int .i64 p_.Kind),.s (.int .i64 p_.Reg),.s (.int .u16 p_.Off),.s (.bool p_.Indirect)]⟩]:=by
  intro t_ h f hf
  unfold post_Post_Bytes_j1 at h
  refine Kc<|Kf hf h (fun hc2 h => ?_) fun hc2 h => ?_
  ·refine Kq<|Kr<|En hf fun f1 hf1 => ?_
   obtain rfl:=Oi h
   exact Kc<|Kt<|Xr<|Xc<|Fp hf1
  ·refine Kq<|Kq<|Kr<|En hf fun f1 hf1=>Kc ?_
   have hj2:∀ (t_1:Bool),post_Post_Bytes_j0 t_1=some r→∀ f,FOk f [⟨2,[],.s (.int .i64 0)⟩,⟨8,[],.s (.bool t_1)⟩]→kont Tryz.prog [] (post_Post_Bytes_C r) ((.c (.cond (.t 8) (.seq (.reg false (i63 8)) .ret) .skip))::(.b 0)::(.c (.seq (.reg false (i63 9)) .ret))::[]) .normal f [⟨0,.mem,1,[.s (.int .i64 p_.Kind),.s (.int .i64 p_.Reg),.s (.int .u16 p_.Off),.s (.bool p_.Indirect)]⟩]:=by
    intro t_1 h f hf
    unfold post_Post_Bytes_j0 at h
    refine Kc<|Kf hf h (fun hc5 h => ?_) fun hc5 h => ?_
    ·refine Kq<|Kr<|En hf fun f1 hf1 => ?_
     obtain rfl:=Oi h
     exact Kc<|Kt<|Xr<|Xc<|Fp hf1
    ·refine Ks<|Kv<|Kc<|Kq<|Kr<|En hf fun f1 hf1 => ?_
     obtain rfl:=Oi h
     exact Kc<|Kt<|Fp hf1
   refine Kf hf1 h (fun hc3 h => ?_) fun hc3 h => ?_
   ·exact Ks<|Kh (hj2 (p_.Kind == 3) h _ (Of [2,8] hf1))
   ·refine Kq<|Kr<|En hf1 fun f2 hf2=>Kc<|Kf hf2 h (fun hc4 h => ?_) fun hc4 h => ?_
    ·exact Ks<|Kh (hj2 (p_.Kind == 12) h _ (Of [2,8] hf2))
    ·exact Kr<|En hf2 fun f3 hf3=>Kh (hj2 (p_.Kind == 13) h _ (Of [2,8] hf3))
 refine Kf hf3 h (fun hc1 h => ?_) fun hc1 h => ?_
 ·exact Ks<|Kh (hj1 (p_.Kind == 2) h _ (Of [2,4,5] hf3))
 ·exact Kr<|En hf3 fun f4 hf4=>Kh (hj1 (p_.Kind == 11) h _ (Of [2,4,5] hf4))
@[irreducible] noncomputable def i58:Nat→List Op1:=rg Tryz.prog 58 []
noncomputable def a58_0:IR:=(.seq (.seq (.reg true (i58 1)) (.cond (.t 12) (.seq (.reg false (i58 2)) (.seq (.reg false (i58 3)) .ret)) .skip)) (.seq (.reg false (i58 4)) (.seq (.reg true (i58 5)) .ret)))
noncomputable def inst_reader_next_ir:IR:=(.seq (.reg false (i58 0)) a58_0)
theorem inst_reader_next_cfn:cFn Tryz.prog 58=some (inst_reader_next_ir,[(.t 2)],34):=by kernel_rfl
def inst_reader_next_V (r:(Int × inst_reader)):V:=.s (.int .u8 r.1)
def inst_reader_next_L (r_:inst_reader):Hp:=[⟨0,.mem,1,[.sl false r_.b.length (cat (nI .u8) r_.b),.s (.int .i64 r_.n),.s (.bool r_.short)]⟩]
def inst_reader_next_C (r_:inst_reader) (r:(Int × inst_reader)):X→Fr→Hp→Prop:=FinL [(.t 2)] (inst_reader_next_L r_) (inst_reader_next_V r) [⟨0,.mem,1,[.sl false r.2.b.length (cat (nI .u8) r.2.b),.s (.int .i64 r.2.n),.s (.bool r.2.short)]⟩]
theorem inst_reader_next_ok (r_:inst_reader) (r:(Int × inst_reader)) (h:inst_reader_next r_=some r):ConL Tryz.prog 58 [.ptr 0 0 0] [⟨0,.mem,1,[.sl false r_.b.length (cat (nI .u8) r_.b),.s (.int .i64 r_.n),.s (.bool r_.short)]⟩] (inst_reader_next_V r) [⟨0,.mem,1,[.sl false r.2.b.length (cat (nI .u8) r.2.b),.s (.int .i64 r.2.n),.s (.bool r.2.short)]⟩]:=by
 refine CS inst_reader_next_cfn (inst_reader_next_C r_ r) fun f hf => ?_
 unfold inst_reader_next at h
 refine Kq<|Kr<|En hf fun f1 hf1=>Kc<|Kq<|Kq<|Kd<|En hf1 fun f2 hf2=>Kc<|Kf hf2 h (fun hc1 h => ?_) fun hc1 h => ?_
 ·refine Kq<|Kr<|En hf2 fun f3 hf3=>Kc<|Kq<|Kr<|En hf3 fun f4 hf4 => ?_
  obtain rfl:=Oi h
  exact Kc<|Kt<|Xc<|k_fin (fin_ret (.inl rfl) hf4 (vs:=[.s (.int .u8 0)]) (by kernel_rfl) (SettL.cutb (L':=[⟨0,.mem,1,[.sl false r_.b.length (cat (nI .u8) r_.b),.s (.int .i64 r_.n),.s (.bool true)]⟩]) 1 (by kernel_rfl) (by kernel_rfl) (by kernel_rfl) ⟨.inr (.inr (statics_unders _ _ (by simp [V.static,statics,cat_stat]))),trivial⟩ (FzL.stat rfl)))
 ·refine Ks<|Kc<|Kq<|Kr<|En hf2 fun f3 hf3=>Kc<|Kq<|Kd<|Sg 9 hf3 fun f4 hf4 => ?_
  obtain ⟨c2,h⟩:=as_ok h
  refine Ad (.ias 1 (.t 26) (.t 31)) (.ip ((cat (nI .u8) r_.b).drop (((IntKind.wrap .i64 ((IntKind.wrap .i64 (r_.n+1)) - 1)):Int).toNat*1))) hf4 (e_ias (n:=r_.b.length) (xv:=.sl false r_.b.length (cat (nI .u8) r_.b)) (k:=.i64) (iv:=(IntKind.wrap .i64 ((IntKind.wrap .i64 (r_.n+1)) - 1))) (p:=.ip ((cat (nI .u8) r_.b).drop (((IntKind.wrap .i64 ((IntKind.wrap .i64 (r_.n+1)) - 1)):Int).toNat*1))) (by kernel_rfl) (by kernel_rfl) (by kernel_rfl) (by kernel_rfl) c2) fun f5 hf5=>Ad (.load false 1 (.t 32)) (.s (.int .u8 (gt r_.b (IntKind.wrap .i64 ((IntKind.wrap .i64 (r_.n+1)) - 1))))) hf5 (e_load_ip (g:=(nI .u8)) (l:=r_.b) (iv:=(IntKind.wrap .i64 ((IntKind.wrap .i64 (r_.n+1)) - 1))) [] (by kernel_rfl) c2 (by kernel_rfl) (by kernel_rfl)) fun f6 hf6=>En hf6 fun f7 hf7 => ?_
  obtain rfl:=Oi h
  exact Kc<|Kt<|k_fin (fin_ret (.inl rfl) hf7 (vs:=[.s (.int .u8 (gt r_.b (IntKind.wrap .i64 ((IntKind.wrap .i64 (r_.n+1)) - 1))))]) (by kernel_rfl) (SettL.cutb (L':=[⟨0,.mem,1,[.sl false r_.b.length (cat (nI .u8) r_.b),.s (.int .i64 (IntKind.wrap .i64 (r_.n+1))),.s (.bool r_.short)]⟩]) 1 (by kernel_rfl) (by kernel_rfl) (by kernel_rfl) ⟨.inr (.inr (statics_unders _ _ (by simp [V.static,statics,cat_stat]))),trivial⟩ (FzL.stat rfl)))
@[irreducible] noncomputable def i59:Nat→List Op1:=rg Tryz.prog 59 []
noncomputable def a59_0:IR:=(.cond (.t 4) (.seq (.reg false (i59 3)) .ret) (.seq (.reg false (i59 4)) (.cond (.t 6) (.seq (.reg false (i59 5)) .ret) .skip)))
noncomputable def a59_1:IR:=(.seq (.seq (.reg false (i59 1)) (.block 0 (.seq (.reg false (i59 2)) a59_0))) (.seq (.reg false (i59 6)) .ret))
noncomputable def page_Prefix_ir:IR:=(.seq (.reg false (i59 0)) a59_1)
theorem page_Prefix_cfn:cFn Tryz.prog 59=some (page_Prefix_ir,[(.t 2)],8):=by kernel_rfl
def page_Prefix_V (r:(Int)):V:=.s (.int .i64 r)
def page_Prefix_C (r:(Int)):X→Fr→Hp→Prop:=FinL [(.t 2)] [] (page_Prefix_V r) []
theorem page_Prefix_ok (code_:Int) (r:(Int)) (h:page_Prefix code_=some r):Pure Tryz.prog 59 [.s (.int .u8 code_)] (page_Prefix_V r):=by
 refine CS page_Prefix_cfn (page_Prefix_C r) fun f hf => ?_
 unfold page_Prefix at h
 refine Kq<|Kr<|En hf fun f1 hf1=>Kc<|Kq<|Kq<|Kr<|En hf1 fun f2 hf2=>Kc<|Kb<|Kq<|Kr<|En hf2 fun f3 hf3=>Kc<|Kf hf3 h (fun hc1 h => ?_) fun hc1 h => ?_
 ·refine Kq<|Kr<|En hf3 fun f4 hf4 => ?_
  obtain rfl:=Oi h
  exact Kc<|Kt<|Xr<|Xc<|Fp hf4
 ·refine Kq<|Kr<|En hf3 fun f4 hf4=>Kc<|Kf hf4 h (fun hc2 h => ?_) fun hc2 h => ?_
  ·refine Kq<|Kr<|En hf4 fun f5 hf5 => ?_
   obtain rfl:=Oi h
   exact Kc<|Kt<|Xr<|Xc<|Fp hf5
  ·refine Ks<|Kv<|Kc<|Kq<|Kr<|En hf4 fun f5 hf5 => ?_
   obtain rfl:=Oi h
   exact Kc<|Kt<|Fp hf5
@[irreducible] noncomputable def i104:Nat→List Op1:=rg Tryz.prog 104 []
noncomputable def a104_0:IR:=(.cond (.t 22) (.seq (.reg false (i104 21)) .ret) (.seq (.reg false (i104 22)) (.cond (.t 24) (.seq (.reg false (i104 23)) .ret) .skip)))
noncomputable def a104_1:IR:=(.cond (.t 18) (.seq (.reg false (i104 17)) .ret) (.seq (.reg false (i104 18)) (.cond (.t 20) (.seq (.reg false (i104 19)) .ret) (.seq (.reg false (i104 20)) a104_0))))
noncomputable def a104_2:IR:=(.cond (.t 14) (.seq (.reg false (i104 13)) .ret) (.seq (.reg false (i104 14)) (.cond (.t 16) (.seq (.reg false (i104 15)) .ret) (.seq (.reg false (i104 16)) a104_1))))
noncomputable def a104_3:IR:=(.cond (.t 10) (.seq (.reg false (i104 9)) .ret) (.seq (.reg false (i104 10)) (.cond (.t 12) (.seq (.reg false (i104 11)) .ret) (.seq (.reg false (i104 12)) a104_2))))
noncomputable def a104_4:IR:=(.cond (.t 6) (.seq (.reg false (i104 5)) .ret) (.seq (.reg false (i104 6)) (.cond (.t 8) (.seq (.reg false (i104 7)) .ret) (.seq (.reg false (i104 8)) a104_3))))
noncomputable def a104_5:IR:=(.block 0 (.seq (.reg false (i104 2)) (.cond (.t 4) (.seq (.reg false (i104 3)) .ret) (.seq (.reg false (i104 4)) a104_4))))
noncomputable def page_change_ir:IR:=(.seq (.reg false (i104 0)) (.seq (.seq (.reg false (i104 1)) a104_5) (.seq (.reg false (i104 24)) .ret)))
theorem page_change_cfn:cFn Tryz.prog 104=some (page_change_ir,[(.t 2)],26):=by kernel_rfl
def page_change_V (r:(Int)):V:=.s (.int .i64 r)
def page_change_C (r:(Int)):X→Fr→Hp→Prop:=FinL [(.t 2)] [] (page_change_V r) []
theorem page_change_ok (low_:Int) (r:(Int)) (h:page_change low_=some r):Pure Tryz.prog 104 [.s (.int .u8 low_)] (page_change_V r):=by
 refine CS page_change_cfn (page_change_C r) fun f hf => ?_
 unfold page_change at h
 refine Kq<|Kr<|En hf fun f1 hf1=>Kc<|Kq<|Kq<|Kr<|En hf1 fun f2 hf2=>Kc<|Kb<|Kq<|Kr<|En hf2 fun f3 hf3=>Kc<|Kf hf3 h (fun hc1 h => ?_) fun hc1 h => ?_
 ·refine Kq<|Kr<|En hf3 fun f4 hf4 => ?_
  obtain rfl:=Oi h
  exact Kc<|Kt<|Xr<|Xc<|Fp hf4
 ·refine Kq<|Kr<|En hf3 fun f4 hf4=>Kc<|Kf hf4 h (fun hc2 h => ?_) fun hc2 h => ?_
  ·refine Kq<|Kr<|En hf4 fun f5 hf5 => ?_
   obtain rfl:=Oi h
   exact Kc<|Kt<|Xr<|Xc<|Fp hf5
  ·refine Kq<|Kr<|En hf4 fun f5 hf5=>Kc<|Kf hf5 h (fun hc3 h => ?_) fun hc3 h => ?_
   ·refine Kq<|Kr<|En hf5 fun f6 hf6 => ?_
    obtain rfl:=Oi h
    exact Kc<|Kt<|Xr<|Xc<|Fp hf6
   ·refine Kq<|Kr<|En hf5 fun f6 hf6=>Kc<|Kf hf6 h (fun hc4 h => ?_) fun hc4 h => ?_
    ·refine Kq<|Kr<|En hf6 fun f7 hf7 => ?_
     obtain rfl:=Oi h
     exact Kc<|Kt<|Xr<|Xc<|Fp hf7
    ·refine Kq<|Kr<|En hf6 fun f7 hf7=>Kc<|Kf hf7 h (fun hc5 h => ?_) fun hc5 h => ?_
     ·refine Kq<|Kr<|En hf7 fun f8 hf8 => ?_
      obtain rfl:=Oi h
      exact Kc<|Kt<|Xr<|Xc<|Fp hf8
     ·refine Kq<|Kr<|En hf7 fun f8 hf8=>Kc<|Kf hf8 h (fun hc6 h => ?_) fun hc6 h => ?_
      ·refine Kq<|Kr<|En hf8 fun f9 hf9 => ?_
       obtain rfl:=Oi h
       exact Kc<|Kt<|Xr<|Xc<|Fp hf9
      ·refine Kq<|Kr<|En hf8 fun f9 hf9=>Kc<|Kf hf9 h (fun hc7 h => ?_) fun hc7 h => ?_
       ·refine Kq<|Kr<|En hf9 fun f10 hf10 => ?_
        obtain rfl:=Oi h
        exact Kc<|Kt<|Xr<|Xc<|Fp hf10
       ·refine Kq<|Kr<|En hf9 fun f10 hf10=>Kc<|Kf hf10 h (fun hc8 h => ?_) fun hc8 h => ?_
        ·refine Kq<|Kr<|En hf10 fun f11 hf11 => ?_
         obtain rfl:=Oi h
         exact Kc<|Kt<|Xr<|Xc<|Fp hf11
        ·refine Kq<|Kr<|En hf10 fun f11 hf11=>Kc<|Kf hf11 h (fun hc9 h => ?_) fun hc9 h => ?_
         ·refine Kq<|Kr<|En hf11 fun f12 hf12 => ?_
          obtain rfl:=Oi h
          exact Kc<|Kt<|Xr<|Xc<|Fp hf12
         ·refine Kq<|Kr<|En hf11 fun f12 hf12=>Kc<|Kf hf12 h (fun hc10 h => ?_) fun hc10 h => ?_
          ·refine Kq<|Kr<|En hf12 fun f13 hf13 => ?_
           obtain rfl:=Oi h
           exact Kc<|Kt<|Xr<|Xc<|Fp hf13
          ·refine Kq<|Kr<|En hf12 fun f13 hf13=>Kc<|Kf hf13 h (fun hc11 h => ?_) fun hc11 h => ?_
           ·refine Kq<|Kr<|En hf13 fun f14 hf14 => ?_
            obtain rfl:=Oi h
            exact Kc<|Kt<|Xr<|Xc<|Fp hf14
           ·refine Ks<|Kv<|Kc<|Kq<|Kr<|En hf13 fun f14 hf14 => ?_
            obtain rfl:=Oi h
            exact Kc<|Kt<|Fp hf14
@[irreducible] noncomputable def i97:Nat→List Op1:=rg Tryz.prog 97 []
noncomputable def a97_0:IR:=(.cond (.t 28) (.seq (.reg false (i97 19)) .ret) (.seq (.reg false (i97 20)) (.cond (.t 31) (.seq (.reg false (i97 21)) .ret) .skip)))
noncomputable def a97_1:IR:=(.cond (.t 22) (.seq (.reg false (i97 15)) .ret) (.seq (.reg false (i97 16)) (.cond (.t 25) (.seq (.reg false (i97 17)) .ret) (.seq (.reg false (i97 18)) a97_0))))
noncomputable def a97_2:IR:=(.cond (.t 16) (.seq (.reg false (i97 11)) .ret) (.seq (.reg false (i97 12)) (.cond (.t 19) (.seq (.reg false (i97 13)) .ret) (.seq (.reg false (i97 14)) a97_1))))
noncomputable def a97_3:IR:=(.cond (.t 10) (.seq (.reg false (i97 7)) .ret) (.seq (.reg false (i97 8)) (.cond (.t 13) (.seq (.reg false (i97 9)) .ret) (.seq (.reg false (i97 10)) a97_2))))
noncomputable def a97_4:IR:=(.cond (.t 4) (.seq (.reg false (i97 3)) .ret) (.seq (.reg false (i97 4)) (.cond (.t 7) (.seq (.reg false (i97 5)) .ret) (.seq (.reg false (i97 6)) a97_3))))
noncomputable def a97_5:IR:=(.seq (.seq (.reg false (i97 1)) (.block 0 (.seq (.reg false (i97 2)) a97_4))) (.seq (.reg false (i97 22)) .ret))
noncomputable def page_tens_ir:IR:=(.seq (.reg false (i97 0)) a97_5)
theorem page_tens_cfn:cFn Tryz.prog 97=some (page_tens_ir,[(.c 2 true 3)],35):=by kernel_rfl
def page_tens_V (r:(api_Entry)):V:=.agg [.s (.int .i64 r.Op),.s (.int .i64 r.Mode),.s (.int .i64 r.Reg)]
def page_tens_C (r:(api_Entry)):X→Fr→Hp→Prop:=FinL [(.c 2 true 3)] [] (page_tens_V r) []
theorem page_tens_ok (low_:Int) (r:(api_Entry)) (h:page_tens low_=some r):Pure Tryz.prog 97 [.s (.int .u8 low_)] (page_tens_V r):=by
 refine CS page_tens_cfn (page_tens_C r) fun f hf => ?_
 unfold page_tens at h
 refine Kq<|Kr<|En hf fun f1 hf1=>Kc<|Kq<|Kq<|Kr<|En hf1 fun f2 hf2=>Kc<|Kb<|Kq<|Kr<|En hf2 fun f3 hf3=>Kc<|Kf hf3 h (fun hc1 h => ?_) fun hc1 h => ?_
 ·refine Kq<|Kr<|En hf3 fun f4 hf4 => ?_
  obtain rfl:=Oi h
  exact Kc<|Kt<|Xr<|Xc<|Fp hf4
 ·refine Kq<|Kr<|En hf3 fun f4 hf4=>Kc<|Kf hf4 h (fun hc2 h => ?_) fun hc2 h => ?_
  ·refine Kq<|Kr<|En hf4 fun f5 hf5 => ?_
   obtain rfl:=Oi h
   exact Kc<|Kt<|Xr<|Xc<|Fp hf5
  ·refine Kq<|Kr<|En hf4 fun f5 hf5=>Kc<|Kf hf5 h (fun hc3 h => ?_) fun hc3 h => ?_
   ·refine Kq<|Kr<|En hf5 fun f6 hf6 => ?_
    obtain rfl:=Oi h
    exact Kc<|Kt<|Xr<|Xc<|Fp hf6
   ·refine Kq<|Kr<|En hf5 fun f6 hf6=>Kc<|Kf hf6 h (fun hc4 h => ?_) fun hc4 h => ?_
    ·refine Kq<|Kr<|En hf6 fun f7 hf7 => ?_
     obtain rfl:=Oi h
     exact Kc<|Kt<|Xr<|Xc<|Fp hf7
    ·refine Kq<|Kr<|En hf6 fun f7 hf7=>Kc<|Kf hf7 h (fun hc5 h => ?_) fun hc5 h => ?_
     ·refine Kq<|Kr<|En hf7 fun f8 hf8 => ?_
      obtain rfl:=Oi h
      exact Kc<|Kt<|Xr<|Xc<|Fp hf8
     ·refine Kq<|Kr<|En hf7 fun f8 hf8=>Kc<|Kf hf8 h (fun hc6 h => ?_) fun hc6 h => ?_
      ·refine Kq<|Kr<|En hf8 fun f9 hf9 => ?_
       obtain rfl:=Oi h
       exact Kc<|Kt<|Xr<|Xc<|Fp hf9
      ·refine Kq<|Kr<|En hf8 fun f9 hf9=>Kc<|Kf hf9 h (fun hc7 h => ?_) fun hc7 h => ?_
       ·refine Kq<|Kr<|En hf9 fun f10 hf10 => ?_
        obtain rfl:=Oi h
        exact Kc<|Kt<|Xr<|Xc<|Fp hf10
       ·refine Kq<|Kr<|En hf9 fun f10 hf10=>Kc<|Kf hf10 h (fun hc8 h => ?_) fun hc8 h => ?_
        ·refine Kq<|Kr<|En hf10 fun f11 hf11 => ?_
         obtain rfl:=Oi h
         exact Kc<|Kt<|Xr<|Xc<|Fp hf11
        ·refine Kq<|Kr<|En hf10 fun f11 hf11=>Kc<|Kf hf11 h (fun hc9 h => ?_) fun hc9 h => ?_
         ·refine Kq<|Kr<|En hf11 fun f12 hf12 => ?_
          obtain rfl:=Oi h
          exact Kc<|Kt<|Xr<|Xc<|Fp hf12
         ·refine Kq<|Kr<|En hf11 fun f12 hf12=>Kc<|Kf hf12 h (fun hc10 h => ?_) fun hc10 h => ?_
          ·refine Kq<|Kr<|En hf12 fun f13 hf13 => ?_
           obtain rfl:=Oi h
           exact Kc<|Kt<|Xr<|Xc<|Fp hf13
          ·refine Ks<|Kv<|Kc<|Kq<|Kr<|En hf12 fun f13 hf13 => ?_
           obtain rfl:=Oi h
           exact Kc<|Kt<|Fp hf13
@[irreducible] noncomputable def i98:Nat→List Op1:=rg Tryz.prog 98 []
noncomputable def a98_0:IR:=(.cond (.t 4) .skip (.seq (.reg false (i98 4)) (.cond (.t 4) .skip (.reg false (i98 5)))))
noncomputable def a98_1:IR:=(.cond (.t 43) (.seq (.reg false (i98 22)) .ret) (.seq (.reg false (i98 23)) (.cond (.t 46) (.seq (.reg false (i98 24)) .ret) .skip)))
noncomputable def a98_2:IR:=(.cond (.t 37) (.seq (.reg false (i98 18)) .ret) (.seq (.reg false (i98 19)) (.cond (.t 40) (.seq (.reg false (i98 20)) .ret) (.seq (.reg false (i98 21)) a98_1))))
noncomputable def a98_3:IR:=(.cond (.t 31) (.seq (.reg false (i98 14)) .ret) (.seq (.reg false (i98 15)) (.cond (.t 34) (.seq (.reg false (i98 16)) .ret) (.seq (.reg false (i98 17)) a98_2))))
noncomputable def a98_4:IR:=(.cond (.t 13) (.seq (.reg false (i98 9)) .ret) (.seq (.seq (.reg false (i98 10)) (.cond (.t 22) .skip (.reg false (i98 11)))) (.cond (.t 22) (.seq (.reg false (i98 12)) .ret) (.seq (.reg false (i98 13)) a98_3))))
noncomputable def a98_5:IR:=(.cond (.t 4) (.seq (.reg false (i98 6)) .ret) (.seq (.seq (.reg false (i98 7)) (.cond (.t 13) .skip (.reg false (i98 8)))) a98_4))
noncomputable def a98_6:IR:=(.block 0 (.seq (.seq (.reg false (i98 2)) (.cond (.t 4) .skip (.seq (.reg false (i98 3)) a98_0))) a98_5))
noncomputable def page_thirties_ir:IR:=(.seq (.reg false (i98 0)) (.seq (.seq (.reg false (i98 1)) a98_6) (.seq (.reg false (i98 25)) .ret)))
theorem page_thirties_cfn:cFn Tryz.prog 98=some (page_thirties_ir,[(.c 2 true 3)],50):=by kernel_rfl
def page_thirties_V (r:(api_Entry)):V:=.agg [.s (.int .i64 r.Op),.s (.int .i64 r.Mode),.s (.int .i64 r.Reg)]
def page_thirties_C (r:(api_Entry)):X→Fr→Hp→Prop:=FinL [(.c 2 true 3)] [] (page_thirties_V r) []
abbrev k98_0:List V:=[.s (.int .i64 0),.s (.int .i64 0),.s (.int .i64 0)]
theorem page_thirties_ok (low_:Int) (r:(api_Entry)) (h:page_thirties low_=some r):Pure Tryz.prog 98 [.s (.int .u8 low_)] (page_thirties_V r):=by
 refine CS page_thirties_cfn (page_thirties_C r) fun f hf => ?_
 unfold page_thirties at h
 refine Kq<|Kr<|En hf fun f1 hf1=>Kc<|Kq<|Kq<|Kr<|En hf1 fun f2 hf2=>Kc<|Kb<|Kq<|Kq<|Kr<|En hf2 fun f3 hf3=>Kc ?_
 have hj1:∀ (t_:Bool),page_thirties_j2 low_ t_=some r→∀ f,FOk f [⟨0,[],.s (.int .u8 low_)⟩,⟨2,[],.ptr 0 0 0⟩,⟨3,[],.s (.int .u8 low_)⟩,⟨4,[],.s (.bool t_)⟩]→kont Tryz.prog [] (page_thirties_C r) ((.c a98_5)::(.b 0)::(.c (.seq (.reg false (i98 25)) .ret))::[]) .normal f [⟨0,.mem,1,k98_0⟩]:=by
  intro t_ h f hf
  unfold page_thirties_j2 at h
  refine Kc<|Kf hf h (fun hc4 h => ?_) fun hc4 h => ?_
  ·refine Kq<|Kr<|Sg 2 hf fun f1 hf1 => ?_
   obtain ⟨c5,h⟩:=as_ok h
   refine Ad (.ixa false 4 1 (.t 9) (.t 10)) (.s (.int .i64 (gt [1,2,4,3] low_))) hf1 (e_ixa (g:=(nI .i64)) (l:=[1,2,4,3]) (n:=4) (k:=.u8) (iv:=low_) (by kernel_rfl) (by kernel_rfl) c5 (by kernel_rfl) (by kernel_rfl)) fun f2 hf2=>En hf2 fun f3 hf3 => ?_
   obtain rfl:=Oi h
   exact Kc<|Kt<|Xr<|Xc<|Fp hf3
  ·refine Kq<|Kq<|Kr<|En hf fun f1 hf1=>Kc ?_
   have hj2:∀ (t_1:Bool),page_thirties_j1 low_ t_1=some r→∀ f,FOk f [⟨0,[],.s (.int .u8 low_)⟩,⟨2,[],.ptr 0 0 0⟩,⟨3,[],.s (.int .u8 low_)⟩,⟨13,[],.s (.bool t_1)⟩]→kont Tryz.prog [] (page_thirties_C r) ((.c a98_4)::(.b 0)::(.c (.seq (.reg false (i98 25)) .ret))::[]) .normal f [⟨0,.mem,1,k98_0⟩]:=by
    intro t_1 h f hf
    unfold page_thirties_j1 at h
    refine Kc<|Kf hf h (fun hc7 h => ?_) fun hc7 h => ?_
    ·refine Kq<|Kr<|En hf fun f1 hf1 => ?_
     obtain rfl:=Oi h
     exact Kc<|Kt<|Xr<|Xc<|Fp hf1
    ·refine Kq<|Kq<|Kr<|En hf fun f1 hf1=>Kc ?_
     have hj3:∀ (t_2:Bool),page_thirties_j0 low_ t_2=some r→∀ f,FOk f [⟨0,[],.s (.int .u8 low_)⟩,⟨2,[],.ptr 0 0 0⟩,⟨3,[],.s (.int .u8 low_)⟩,⟨22,[],.s (.bool t_2)⟩]→kont Tryz.prog [] (page_thirties_C r) ((.c (.cond (.t 22) (.seq (.reg false (i98 12)) .ret) (.seq (.reg false (i98 13)) a98_3)))::(.b 0)::(.c (.seq (.reg false (i98 25)) .ret))::[]) .normal f [⟨0,.mem,1,k98_0⟩]:=by
      intro t_2 h f hf
      unfold page_thirties_j0 at h
      refine Kc<|Kf hf h (fun hc9 h => ?_) fun hc9 h => ?_
      ·refine Kq<|Kr<|En hf fun f1 hf1 => ?_
       obtain rfl:=Oi h
       exact Kc<|Kt<|Xr<|Xc<|Fp hf1
      ·refine Kq<|Kr<|En hf fun f1 hf1=>Kc<|Kf hf1 h (fun hc10 h => ?_) fun hc10 h => ?_
       ·refine Kq<|Kr<|En hf1 fun f2 hf2 => ?_
        obtain rfl:=Oi h
        exact Kc<|Kt<|Xr<|Xc<|Fp hf2
       ·refine Kq<|Kr<|En hf1 fun f2 hf2=>Kc<|Kf hf2 h (fun hc11 h => ?_) fun hc11 h => ?_
        ·refine Kq<|Kr<|En hf2 fun f3 hf3 => ?_
         obtain rfl:=Oi h
         exact Kc<|Kt<|Xr<|Xc<|Fp hf3
        ·refine Kq<|Kr<|En hf2 fun f3 hf3=>Kc<|Kf hf3 h (fun hc12 h => ?_) fun hc12 h => ?_
         ·refine Kq<|Kr<|En hf3 fun f4 hf4 => ?_
          obtain rfl:=Oi h
          exact Kc<|Kt<|Xr<|Xc<|Fp hf4
         ·refine Kq<|Kr<|En hf3 fun f4 hf4=>Kc<|Kf hf4 h (fun hc13 h => ?_) fun hc13 h => ?_
          ·refine Kq<|Kr<|En hf4 fun f5 hf5 => ?_
           obtain rfl:=Oi h
           exact Kc<|Kt<|Xr<|Xc<|Fp hf5
          ·refine Kq<|Kr<|En hf4 fun f5 hf5=>Kc<|Kf hf5 h (fun hc14 h => ?_) fun hc14 h => ?_
           ·refine Kq<|Kr<|En hf5 fun f6 hf6 => ?_
            obtain rfl:=Oi h
            exact Kc<|Kt<|Xr<|Xc<|Fp hf6
           ·refine Kq<|Kr<|En hf5 fun f6 hf6=>Kc<|Kf hf6 h (fun hc15 h => ?_) fun hc15 h => ?_
            ·refine Kq<|Kr<|En hf6 fun f7 hf7 => ?_
             obtain rfl:=Oi h
             exact Kc<|Kt<|Xr<|Xc<|Fp hf7
            ·refine Ks<|Kv<|Kc<|Kq<|Kr<|En hf6 fun f7 hf7 => ?_
             obtain rfl:=Oi h
             exact Kc<|Kt<|Fp hf7
     refine Kf hf1 h (fun hc8 h => ?_) fun hc8 h => ?_
     ·exact Ks<|Kh (hj3 (low_ == 5) h _ (Of [0,2,3,22] hf1))
     ·exact Kr<|En hf1 fun f2 hf2=>Kh (hj3 (low_ == 7) h _ (Of [0,2,3,22] hf2))
   refine Kf hf1 h (fun hc6 h => ?_) fun hc6 h => ?_
   ·exact Ks<|Kh (hj2 (low_ == 4) h _ (Of [0,2,3,13] hf1))
   ·exact Kr<|En hf1 fun f2 hf2=>Kh (hj2 (low_ == 6) h _ (Of [0,2,3,13] hf2))
 refine Kf hf3 h (fun hc1 h => ?_) fun hc1 h => ?_
 ·exact Ks<|Kh (hj1 (low_ == 0) h _ (Of [0,2,3,4] hf3))
 ·refine Kq<|Kr<|En hf3 fun f4 hf4=>Kc<|Kf hf4 h (fun hc2 h => ?_) fun hc2 h => ?_
  ·exact Ks<|Kh (hj1 (low_ == 1) h _ (Of [0,2,3,4] hf4))
  ·refine Kq<|Kr<|En hf4 fun f5 hf5=>Kc<|Kf hf5 h (fun hc3 h => ?_) fun hc3 h => ?_
   ·exact Ks<|Kh (hj1 (low_ == 2) h _ (Of [0,2,3,4] hf5))
   ·exact Kr<|En hf5 fun f6 hf6=>Kh (hj1 (low_ == 3) h _ (Of [0,2,3,4] hf6))
@[irreducible] noncomputable def i101:Nat→List Op1:=rg Tryz.prog 101 []
noncomputable def a101_0:IR:=(.cond (.t 8) (.seq (.reg false (i101 2)) (.seq (.reg false (i101 3)) (.cond (.t 10) (.seq (.reg false (i101 4)) .ret) .skip))) .skip)
noncomputable def page_wide_ir:IR:=(.seq (.reg false (i101 0)) (.seq (.seq (.reg false (i101 1)) a101_0) (.seq (.reg false (i101 5)) .ret)))
theorem page_wide_cfn:cFn Tryz.prog 101=some (page_wide_ir,[(.c 6 true 3)],16):=by kernel_rfl
def page_wide_V (r:(api_Entry)):V:=.agg [.s (.int .i64 r.Op),.s (.int .i64 r.Mode),.s (.int .i64 r.Reg)]
def page_wide_C (r:(api_Entry)):X→Fr→Hp→Prop:=FinL [(.c 6 true 3)] [] (page_wide_V r) []
theorem page_wide_ok (op_:Int) (mode_:Int) (reg_:Int) (r:(api_Entry)) (h:page_wide op_ mode_ reg_=some r):Pure Tryz.prog 101 [.s (.int .i64 op_),.s (.int .i64 mode_),.s (.int .i64 reg_)] (page_wide_V r):=by
 refine CS page_wide_cfn (page_wide_C r) fun f hf => ?_
 unfold page_wide at h
 refine Kq<|Kr<|En hf fun f1 hf1=>Kc<|Kq<|Kq<|Kr<|En hf1 fun f2 hf2=>Kc ?_
 have hj1:∀ (t_:Int),page_wide_j0 op_ reg_ t_=some r→∀ f,FOk f [⟨0,[],.s (.int .i64 op_)⟩,⟨1,[],.s (.int .i64 t_)⟩,⟨2,[],.s (.int .i64 reg_)⟩,⟨6,[],.ptr 0 0 0⟩]→kont Tryz.prog [] (page_wide_C r) ((.c (.seq (.reg false (i101 5)) .ret))::[]) .normal f [⟨0,.mem,1,[.s (.int .i64 0),.s (.int .i64 0),.s (.int .i64 0)]⟩]:=by
  intro t_ h f hf
  unfold page_wide_j0 at h
  refine Kc<|Kq<|Kr<|En hf fun f1 hf1 => ?_
  obtain rfl:=Oi h
  exact Kc<|Kt<|Fp hf1
 refine Kf hf2 h (fun hc1 h => ?_) fun hc1 h => ?_
 ·refine Kq<|Kr<|En hf2 fun f3 hf3=>Kc<|Kq<|Kr<|En hf3 fun f4 hf4=>Kc<|Kf hf4 h (fun hc2 h => ?_) fun hc2 h => ?_
  ·refine Kq<|Kr<|En hf4 fun f5 hf5 => ?_
   obtain rfl:=Oi h
   exact Kc<|Kt<|Xc<|Fp hf5
  ·exact Ks<|Kh (hj1 (2) h _ (Of [0,1,2,6] hf4))
 ·exact Ks<|Kh (hj1 mode_ h _ (Of [0,1,2,6] hf2))
@[irreducible] noncomputable def i102:Nat→List Op1:=rg Tryz.prog 102 []
noncomputable def page_column_ir:IR:=(.seq (.reg false (i102 0)) (.seq (.reg false (i102 1)) .ret))
theorem page_column_cfn:cFn Tryz.prog 102=some (page_column_ir,[(.t 2)],7):=by kernel_rfl
def page_column_V (r:(Int)):V:=.s (.int .i64 r)
def page_column_C (r:(Int)):X→Fr→Hp→Prop:=FinL [(.t 2)] [] (page_column_V r) []
theorem page_column_ok (high_:Int) (r:(Int)) (h:page_column high_=some r):Pure Tryz.prog 102 [.s (.int .u8 high_)] (page_column_V r):=by
 refine CS page_column_cfn (page_column_C r) fun f hf => ?_
 unfold page_column at h
 refine Kq<|Kr<|En hf fun f1 hf1=>Kc<|Kq<|Kr<|Sg 3 hf1 fun f2 hf2 => ?_
 obtain ⟨c1,h⟩:=as_ok h
 refine Ad (.ixa false 4 1 (.t 3) (.t 5)) (.s (.int .i64 (gt [1,3,4,5] (bits .and .u8 high_ 3)))) hf2 (e_ixa (g:=(nI .i64)) (l:=[1,3,4,5]) (n:=4) (k:=.u8) (iv:=(bits .and .u8 high_ 3)) (by kernel_rfl) (by kernel_rfl) c1 (by kernel_rfl) (by kernel_rfl)) fun f3 hf3=>En hf3 fun f4 hf4 => ?_
 obtain rfl:=Oi h
 exact Kc<|Kt<|Fp hf4
@[irreducible] noncomputable def i105:Nat→List Op1:=rg Tryz.prog 105 []
noncomputable def a105_0:IR:=(.cond (.t 22) (.seq (.reg false (i105 21)) .ret) (.seq (.reg false (i105 22)) (.cond (.t 24) (.seq (.reg false (i105 23)) .ret) .skip)))
noncomputable def a105_1:IR:=(.cond (.t 18) (.seq (.reg false (i105 17)) .ret) (.seq (.reg false (i105 18)) (.cond (.t 20) (.seq (.reg false (i105 19)) .ret) (.seq (.reg false (i105 20)) a105_0))))
noncomputable def a105_2:IR:=(.cond (.t 14) (.seq (.reg false (i105 13)) .ret) (.seq (.reg false (i105 14)) (.cond (.t 16) (.seq (.reg false (i105 15)) .ret) (.seq (.reg false (i105 16)) a105_1))))
noncomputable def a105_3:IR:=(.cond (.t 10) (.seq (.reg false (i105 9)) .ret) (.seq (.reg false (i105 10)) (.cond (.t 12) (.seq (.reg false (i105 11)) .ret) (.seq (.reg false (i105 12)) a105_2))))
noncomputable def a105_4:IR:=(.cond (.t 6) (.seq (.reg false (i105 5)) .ret) (.seq (.reg false (i105 6)) (.cond (.t 8) (.seq (.reg false (i105 7)) .ret) (.seq (.reg false (i105 8)) a105_3))))
noncomputable def a105_5:IR:=(.block 0 (.seq (.reg false (i105 2)) (.cond (.t 4) (.seq (.reg false (i105 3)) .ret) (.seq (.reg false (i105 4)) a105_4))))
noncomputable def page_eight_ir:IR:=(.seq (.reg false (i105 0)) (.seq (.seq (.reg false (i105 1)) a105_5) (.seq (.reg false (i105 24)) .ret)))
theorem page_eight_cfn:cFn Tryz.prog 105=some (page_eight_ir,[(.t 2)],26):=by kernel_rfl
def page_eight_V (r:(Int)):V:=.s (.int .i64 r)
def page_eight_C (r:(Int)):X→Fr→Hp→Prop:=FinL [(.t 2)] [] (page_eight_V r) []
theorem page_eight_ok (low_:Int) (r:(Int)) (h:page_eight low_=some r):Pure Tryz.prog 105 [.s (.int .u8 low_)] (page_eight_V r):=by
 refine CS page_eight_cfn (page_eight_C r) fun f hf => ?_
 unfold page_eight at h
 refine Kq<|Kr<|En hf fun f1 hf1=>Kc<|Kq<|Kq<|Kr<|En hf1 fun f2 hf2=>Kc<|Kb<|Kq<|Kr<|En hf2 fun f3 hf3=>Kc<|Kf hf3 h (fun hc1 h => ?_) fun hc1 h => ?_
 ·refine Kq<|Kr<|En hf3 fun f4 hf4 => ?_
  obtain rfl:=Oi h
  exact Kc<|Kt<|Xr<|Xc<|Fp hf4
 ·refine Kq<|Kr<|En hf3 fun f4 hf4=>Kc<|Kf hf4 h (fun hc2 h => ?_) fun hc2 h => ?_
  ·refine Kq<|Kr<|En hf4 fun f5 hf5 => ?_
   obtain rfl:=Oi h
   exact Kc<|Kt<|Xr<|Xc<|Fp hf5
  ·refine Kq<|Kr<|En hf4 fun f5 hf5=>Kc<|Kf hf5 h (fun hc3 h => ?_) fun hc3 h => ?_
   ·refine Kq<|Kr<|En hf5 fun f6 hf6 => ?_
    obtain rfl:=Oi h
    exact Kc<|Kt<|Xr<|Xc<|Fp hf6
   ·refine Kq<|Kr<|En hf5 fun f6 hf6=>Kc<|Kf hf6 h (fun hc4 h => ?_) fun hc4 h => ?_
    ·refine Kq<|Kr<|En hf6 fun f7 hf7 => ?_
     obtain rfl:=Oi h
     exact Kc<|Kt<|Xr<|Xc<|Fp hf7
    ·refine Kq<|Kr<|En hf6 fun f7 hf7=>Kc<|Kf hf7 h (fun hc5 h => ?_) fun hc5 h => ?_
     ·refine Kq<|Kr<|En hf7 fun f8 hf8 => ?_
      obtain rfl:=Oi h
      exact Kc<|Kt<|Xr<|Xc<|Fp hf8
     ·refine Kq<|Kr<|En hf7 fun f8 hf8=>Kc<|Kf hf8 h (fun hc6 h => ?_) fun hc6 h => ?_
      ·refine Kq<|Kr<|En hf8 fun f9 hf9 => ?_
       obtain rfl:=Oi h
       exact Kc<|Kt<|Xr<|Xc<|Fp hf9
      ·refine Kq<|Kr<|En hf8 fun f9 hf9=>Kc<|Kf hf9 h (fun hc7 h => ?_) fun hc7 h => ?_
       ·refine Kq<|Kr<|En hf9 fun f10 hf10 => ?_
        obtain rfl:=Oi h
        exact Kc<|Kt<|Xr<|Xc<|Fp hf10
       ·refine Kq<|Kr<|En hf9 fun f10 hf10=>Kc<|Kf hf10 h (fun hc8 h => ?_) fun hc8 h => ?_
        ·refine Kq<|Kr<|En hf10 fun f11 hf11 => ?_
         obtain rfl:=Oi h
         exact Kc<|Kt<|Xr<|Xc<|Fp hf11
        ·refine Kq<|Kr<|En hf10 fun f11 hf11=>Kc<|Kf hf11 h (fun hc9 h => ?_) fun hc9 h => ?_
         ·refine Kq<|Kr<|En hf11 fun f12 hf12 => ?_
          obtain rfl:=Oi h
          exact Kc<|Kt<|Xr<|Xc<|Fp hf12
         ·refine Kq<|Kr<|En hf11 fun f12 hf12=>Kc<|Kf hf12 h (fun hc10 h => ?_) fun hc10 h => ?_
          ·refine Kq<|Kr<|En hf12 fun f13 hf13 => ?_
           obtain rfl:=Oi h
           exact Kc<|Kt<|Xr<|Xc<|Fp hf13
          ·refine Kq<|Kr<|En hf12 fun f13 hf13=>Kc<|Kf hf13 h (fun hc11 h => ?_) fun hc11 h => ?_
           ·refine Kq<|Kr<|En hf13 fun f14 hf14 => ?_
            obtain rfl:=Oi h
            exact Kc<|Kt<|Xr<|Xc<|Fp hf14
           ·refine Ks<|Kv<|Kc<|Kq<|Kr<|En hf13 fun f14 hf14 => ?_
            obtain rfl:=Oi h
            exact Kc<|Kt<|Fp hf14
@[irreducible] noncomputable def i103:Nat→List Op1:=rg Tryz.prog 103 []
noncomputable def octet_Word_ir:IR:=(.seq (.reg false (i103 0)) (.seq (.reg false (i103 1)) .ret))
theorem octet_Word_cfn:cFn Tryz.prog 103=some (octet_Word_ir,[(.t 4)],11):=by kernel_rfl
def octet_Word_V (r:(Int)):V:=.s (.int .u16 r)
def octet_Word_C (r:(Int)):X→Fr→Hp→Prop:=FinL [(.t 4)] [] (octet_Word_V r) []
theorem octet_Word_ok (hi_:Int) (lo_:Int) (r:(Int)) (h:octet_Word hi_ lo_=some r):Pure Tryz.prog 103 [.s (.int .u8 hi_),.s (.int .u8 lo_)] (octet_Word_V r):=by
 refine CS octet_Word_cfn (octet_Word_C r) fun f hf => ?_
 unfold octet_Word at h
 refine Kq<|Kr<|En hf fun f1 hf1=>Kc<|Kq<|Kr<|En hf1 fun f2 hf2 => ?_
 obtain rfl:=Oi h
 exact Kc<|Kt<|Fp hf2
@[irreducible] noncomputable def i86:Nat→List Op1:=rg Tryz.prog 86 []
noncomputable def octet_Sign_ir:IR:=(.seq (.reg false (i86 0)) (.seq (.reg false (i86 1)) .ret))
theorem octet_Sign_cfn:cFn Tryz.prog 86=some (octet_Sign_ir,[(.t 2)],7):=by kernel_rfl
def octet_Sign_V (r:(Int)):V:=.s (.int .u16 r)
def octet_Sign_C (r:(Int)):X→Fr→Hp→Prop:=FinL [(.t 2)] [] (octet_Sign_V r) []
theorem octet_Sign_ok (b_:Int) (r:(Int)) (h:octet_Sign b_=some r):Pure Tryz.prog 86 [.s (.int .u8 b_)] (octet_Sign_V r):=by
 refine CS octet_Sign_cfn (octet_Sign_C r) fun f hf => ?_
 unfold octet_Sign at h
 refine Kq<|Kr<|En hf fun f1 hf1=>Kc<|Kq<|Kr<|En hf1 fun f2 hf2 => ?_
 obtain rfl:=Oi h
 exact Kc<|Kt<|Fp hf2
@[irreducible] noncomputable def i40:Nat→List Op1:=rg Tryz.prog 40 []
noncomputable def octet_Low_ir:IR:=(.seq (.reg false (i40 0)) (.seq (.reg false (i40 1)) .ret))
theorem octet_Low_cfn:cFn Tryz.prog 40=some (octet_Low_ir,[(.t 2)],5):=by kernel_rfl
def octet_Low_V (r:(Int)):V:=.s (.int .u8 r)
def octet_Low_C (r:(Int)):X→Fr→Hp→Prop:=FinL [(.t 2)] [] (octet_Low_V r) []
theorem octet_Low_ok (w_:Int) (r:(Int)) (h:octet_Low w_=some r):Pure Tryz.prog 40 [.s (.int .u16 w_)] (octet_Low_V r):=by
 refine CS octet_Low_cfn (octet_Low_C r) fun f hf => ?_
 unfold octet_Low at h
 refine Kq<|Kr<|En hf fun f1 hf1=>Kc<|Kq<|Kr<|En hf1 fun f2 hf2 => ?_
 obtain rfl:=Oi h
 exact Kc<|Kt<|Fp hf2
@[irreducible] noncomputable def i53:Nat→List Op1:=rg Tryz.prog 53 []
noncomputable def octet_High_ir:IR:=(.seq (.reg false (i53 0)) (.seq (.reg false (i53 1)) .ret))
theorem octet_High_cfn:cFn Tryz.prog 53=some (octet_High_ir,[(.t 2)],6):=by kernel_rfl
def octet_High_V (r:(Int)):V:=.s (.int .u8 r)
def octet_High_C (r:(Int)):X→Fr→Hp→Prop:=FinL [(.t 2)] [] (octet_High_V r) []
theorem octet_High_ok (w_:Int) (r:(Int)) (h:octet_High w_=some r):Pure Tryz.prog 53 [.s (.int .u16 w_)] (octet_High_V r):=by
 refine CS octet_High_cfn (octet_High_C r) fun f hf => ?_
 unfold octet_High at h
 refine Kq<|Kr<|En hf fun f1 hf1=>Kc<|Kq<|Kr<|En hf1 fun f2 hf2 => ?_
 obtain rfl:=Oi h
 exact Kc<|Kt<|Fp hf2
@[irreducible] noncomputable def i42:Nat→List Op1:=rg Tryz.prog 42 []
noncomputable def a42_0:IR:=(.seq (.seq (.reg false (i42 1)) (.cond (.t 4) (.seq (.reg false (i42 2)) .ret) .skip)) (.seq (.reg false (i42 3)) .ret))
noncomputable def digit_sign_ir:IR:=(.seq (.reg false (i42 0)) a42_0)
theorem digit_sign_cfn:cFn Tryz.prog 42=some (digit_sign_ir,[(.t 2)],10):=by kernel_rfl
def digit_sign_V (r:(Int)):V:=.s (.int .u8 r)
def digit_sign_C (r:(Int)):X→Fr→Hp→Prop:=FinL [(.t 2)] [] (digit_sign_V r) []
theorem digit_sign_ok (n_:Int) (r:(Int)) (h:digit_sign n_=some r):Pure Tryz.prog 42 [.s (.int .u8 n_)] (digit_sign_V r):=by
 refine CS digit_sign_cfn (digit_sign_C r) fun f hf => ?_
 unfold digit_sign at h
 refine Kq<|Kr<|En hf fun f1 hf1=>Kc<|Kq<|Kq<|Kr<|En hf1 fun f2 hf2=>Kc<|Kf hf2 h (fun hc1 h => ?_) fun hc1 h => ?_
 ·refine Kq<|Kr<|En hf2 fun f3 hf3 => ?_
  obtain rfl:=Oi h
  exact Kc<|Kt<|Xc<|Fp hf3
 ·refine Ks<|Kc<|Kq<|Kr<|En hf2 fun f3 hf3 => ?_
  obtain rfl:=Oi h
  exact Kc<|Kt<|Fp hf3
@[irreducible] noncomputable def i64:Nat→List Op1:=rg Tryz.prog 64 []
noncomputable def math_bits_Mul32_ir:IR:=(.seq (.reg false (i64 0)) (.seq (.reg false (i64 1)) (.seq (.reg false (i64 2)) .ret)))
theorem math_bits_Mul32_cfn:cFn Tryz.prog 64=some (math_bits_Mul32_ir,[(.t 4),(.t 5)],17):=by kernel_rfl
def math_bits_Mul32_V (r:(Int × Int)):V:=.tup [.s (.int .u32 r.1),.s (.int .u32 r.2)]
def math_bits_Mul32_C (r:(Int × Int)):X→Fr→Hp→Prop:=FinL [(.t 4),(.t 5)] [] (math_bits_Mul32_V r) []
theorem math_bits_Mul32_ok (x_:Int) (y_:Int) (r:(Int × Int)) (h:math_bits_Mul32 x_ y_=some r):Pure Tryz.prog 64 [.s (.int .u32 x_),.s (.int .u32 y_)] (math_bits_Mul32_V r):=by
 refine CS math_bits_Mul32_cfn (math_bits_Mul32_C r) fun f hf => ?_
 unfold math_bits_Mul32 at h
 refine Kq<|Kr<|En hf fun f1 hf1=>Kc<|Kq<|Kr<|En hf1 fun f2 hf2=>Kc<|Kq<|Kr<|En hf2 fun f3 hf3 => ?_
 obtain rfl:=Oi h
 exact Kc<|Kt<|k_fin (fin_ret (.inl rfl) hf3 (vs:=[.s (.int .u32 (IntKind.wrap .u32 (Int.fdiv (IntKind.wrap .u64 ((IntKind.wrap .u64 x_)*(IntKind.wrap .u64 y_))) (2 ^ (32))))),.s (.int .u32 (IntKind.wrap .u32 (IntKind.wrap .u64 ((IntKind.wrap .u64 x_)*(IntKind.wrap .u64 y_)))))]) (by kernel_rfl) (SettL.pure (FzL.tup (FzsL.cons (FzL.stat rfl) (FzsL.cons (FzL.stat rfl) FzsL.nil)))))
@[irreducible] noncomputable def i65:Nat→List Op1:=rg Tryz.prog 65 []
noncomputable def a65_0:IR:=(.seq (.reg false (i65 9)) (.seq (.reg false (i65 10)) (.seq (.reg false (i65 11)) .ret)))
noncomputable def a65_1:IR:=(.seq (.reg false (i65 5)) (.seq (.reg false (i65 6)) (.seq (.reg false (i65 7)) (.seq (.reg false (i65 8)) a65_0))))
noncomputable def a65_2:IR:=(.seq (.reg false (i65 1)) (.seq (.reg false (i65 2)) (.seq (.reg false (i65 3)) (.seq (.reg false (i65 4)) a65_1))))
noncomputable def math_bits_Mul64_ir:IR:=(.seq (.reg false (i65 0)) a65_2)
theorem math_bits_Mul64_cfn:cFn Tryz.prog 65=some (math_bits_Mul64_ir,[(.t 4),(.t 5)],51):=by kernel_rfl
def math_bits_Mul64_V (r:(Int × Int)):V:=.tup [.s (.int .u64 r.1),.s (.int .u64 r.2)]
def math_bits_Mul64_C (r:(Int × Int)):X→Fr→Hp→Prop:=FinL [(.t 4),(.t 5)] [] (math_bits_Mul64_V r) []
theorem math_bits_Mul64_ok (x_:Int) (y_:Int) (r:(Int × Int)) (h:math_bits_Mul64 x_ y_=some r):Pure Tryz.prog 65 [.s (.int .u64 x_),.s (.int .u64 y_)] (math_bits_Mul64_V r):=by
 refine CS math_bits_Mul64_cfn (math_bits_Mul64_C r) fun f hf => ?_
 unfold math_bits_Mul64 at h
 refine Kq<|Kr<|En hf fun f1 hf1=>Kc<|Kq<|Kr<|En hf1 fun f2 hf2=>Kc<|Kq<|Kr<|En hf2 fun f3 hf3=>Kc<|Kq<|Kr<|En hf3 fun f4 hf4=>Kc<|Kq<|Kr<|En hf4 fun f5 hf5=>Kc<|Kq<|Kr<|En hf5 fun f6 hf6=>Kc<|Kq<|Kr<|En hf6 fun f7 hf7=>Kc<|Kq<|Kr<|En hf7 fun f8 hf8=>Kc<|Kq<|Kr<|En hf8 fun f9 hf9=>Kc<|Kq<|Kr<|mops_end [0,1,4,5,7,9,12,13] hf9 (l':=[⟨0,[],.s (.int .u64 x_)⟩,⟨1,[],.s (.int .u64 y_)⟩,⟨4,[],.s (.int .u64 0)⟩,⟨5,[],.s (.int .u64 0)⟩,⟨7,[],.s (.int .u64 (Int.fdiv x_ (2 ^ (32))))⟩,⟨9,[],.s (.int .u64 (Int.fdiv y_ (2 ^ (32))))⟩,⟨12,[],.s (.int .u64 (IntKind.wrap .u64 ((bits .and .u64 (IntKind.wrap .u64 ((IntKind.wrap .u64 ((Int.fdiv x_ (2 ^ (32)))*(bits .and .u64 y_ 4294967295)))+(Int.fdiv (IntKind.wrap .u64 ((bits .and .u64 x_ 4294967295)*(bits .and .u64 y_ 4294967295))) (2 ^ (32))))) 4294967295)+(IntKind.wrap .u64 ((bits .and .u64 x_ 4294967295)*(Int.fdiv y_ (2 ^ (32))))))))⟩,⟨13,[],.s (.int .u64 (Int.fdiv (IntKind.wrap .u64 ((IntKind.wrap .u64 ((Int.fdiv x_ (2 ^ (32)))*(bits .and .u64 y_ 4294967295)))+(Int.fdiv (IntKind.wrap .u64 ((bits .and .u64 x_ 4294967295)*(bits .and .u64 y_ 4294967295))) (2 ^ (32))))) (2 ^ (32))))⟩]) (L':=[]) (by kernel_rfl) fun f10 hf10=>Kc<|Kq<|Kr<|En hf10 fun f11 hf11=>Kc<|Kq<|Kr<|En hf11 fun f12 hf12 => ?_
 obtain rfl:=Oi h
 exact Kc<|Kt<|k_fin (fin_ret (.inl rfl) hf12 (vs:=[.s (.int .u64 (IntKind.wrap .u64 ((IntKind.wrap .u64 ((IntKind.wrap .u64 ((Int.fdiv x_ (2 ^ (32)))*(Int.fdiv y_ (2 ^ (32)))))+(Int.fdiv (IntKind.wrap .u64 ((IntKind.wrap .u64 ((Int.fdiv x_ (2 ^ (32)))*(bits .and .u64 y_ 4294967295)))+(Int.fdiv (IntKind.wrap .u64 ((bits .and .u64 x_ 4294967295)*(bits .and .u64 y_ 4294967295))) (2 ^ (32))))) (2 ^ (32)))))+(Int.fdiv (IntKind.wrap .u64 ((bits .and .u64 (IntKind.wrap .u64 ((IntKind.wrap .u64 ((Int.fdiv x_ (2 ^ (32)))*(bits .and .u64 y_ 4294967295)))+(Int.fdiv (IntKind.wrap .u64 ((bits .and .u64 x_ 4294967295)*(bits .and .u64 y_ 4294967295))) (2 ^ (32))))) 4294967295)+(IntKind.wrap .u64 ((bits .and .u64 x_ 4294967295)*(Int.fdiv y_ (2 ^ (32))))))) (2 ^ (32)))))),.s (.int .u64 (IntKind.wrap .u64 (x_*y_)))]) (by kernel_rfl) (SettL.pure (FzL.tup (FzsL.cons (FzL.stat rfl) (FzsL.cons (FzL.stat rfl) FzsL.nil)))))
@[irreducible] noncomputable def i66:Nat→List Op1:=rg Tryz.prog 66 []
noncomputable def internal_stringslite_HasPrefix_ir:IR:=(.seq (.reg false (i66 0)) (.seq (.reg false (i66 1)) .ret))
theorem internal_stringslite_HasPrefix_cfn:cFn Tryz.prog 66=some (internal_stringslite_HasPrefix_ir,[(.t 4)],18):=by kernel_rfl
def internal_stringslite_HasPrefix_V (r:(Bool)):V:=.s (.bool r)
def internal_stringslite_HasPrefix_C (r:(Bool)):X→Fr→Hp→Prop:=FinL [(.t 4)] [] (internal_stringslite_HasPrefix_V r) []
theorem internal_stringslite_HasPrefix_ok (s_:ByteArray) (prefix_:ByteArray) (r:(Bool)) (h:internal_stringslite_HasPrefix s_ prefix_=some r):Pure Tryz.prog 66 [.s (.string s_),.s (.string prefix_)] (internal_stringslite_HasPrefix_V r):=by
 refine CS internal_stringslite_HasPrefix_cfn (internal_stringslite_HasPrefix_C r) fun f hf => ?_
 unfold internal_stringslite_HasPrefix at h
 refine Kq<|Kr<|En hf fun f1 hf1=>Kc<|Kq<|Kr<|Sg 9 hf1 fun f2 hf2 => ?_
 obtain ⟨c1,h⟩:=as_ok h
 refine mops_gadv (dst:=(some 14)) (op:=(.sstr (.t 11) none (some (.t 13)))) (aft:=[6,8,5]) (t:=10) (w:=true) (ch:=[(10,true)]) (b:=(decide ((sln prefix_)≤(sln s_)))) (v:=.s (.string (s_.extract 0 ((sln prefix_):Int).toNat))) (by kernel_rfl) hf2 (by kernel_rfl) (by kernel_rfl) (by kernel_rfl) (fun hb2=>e_sstr (t:=s_) (by kernel_rfl) (b_ns (k:=.i64) (iv:=(sln prefix_)) (by kernel_rfl) (c1 hb2))) fun f3 hf3=>En hf3 fun f4 hf4 => ?_
 obtain rfl:=Oi h
 exact Kc<|Kt<|Fp hf4
@[irreducible] noncomputable def i91:Nat→List Op1:=rg Tryz.prog 91 []
noncomputable def post_low_ir:IR:=(.seq (.reg false (i91 0)) (.seq (.reg false (i91 1)) .ret))
theorem post_low_cfn:cFn Tryz.prog 91=some (post_low_ir,[(.t 2)],6):=by kernel_rfl
def post_low_V (r:(Int)):V:=.s (.int .u8 r)
def post_low_C (r:(Int)):X→Fr→Hp→Prop:=FinL [(.t 2)] [] (post_low_V r) []
theorem post_low_ok (kind_:Int) (r:(Int)) (h:post_low kind_=some r):Pure Tryz.prog 91 [.s (.int .i64 kind_)] (post_low_V r):=by
 refine CS post_low_cfn (post_low_C r) fun f hf => ?_
 unfold post_low at h
 refine Kq<|Kr<|En hf fun f1 hf1=>Kc<|Kq<|Kr<|Sg 2 hf1 fun f2 hf2 => ?_
 obtain ⟨c1,h⟩:=as_ok h
 refine Ad (.ixa false 14 1 (.t 3) (.t 4)) (.s (.int .u8 (gt [4,0,8,9,6,5,11,0,1,2,3,12,13,15] kind_))) hf2 (e_ixa (g:=(nI .u8)) (l:=[4,0,8,9,6,5,11,0,1,2,3,12,13,15]) (n:=14) (k:=.i64) (iv:=kind_) (by kernel_rfl) (by kernel_rfl) c1 (by kernel_rfl) (by kernel_rfl)) fun f3 hf3=>En hf3 fun f4 hf4 => ?_
 obtain rfl:=Oi h
 exact Kc<|Kt<|Fp hf4
@[irreducible] noncomputable def i71:Nat→List Op1:=rg Tryz.prog 71 []
noncomputable def a71_0:IR:=(.cond (.t 13) (.seq (.reg false (i71 3)) .ret) (.seq (.reg false (i71 4)) (.cond (.t 15) (.seq (.reg false (i71 5)) .ret) .skip)))
noncomputable def a71_1:IR:=(.cond (.t 22) (.seq (.seq (.reg false (i71 8)) (.cond (.t 29) (.reg false (i71 9)) .skip)) (.reg false (i71 10))) .skip)
noncomputable def a71_2:IR:=(.seq (.seq (.reg false (i71 14)) (.cond (.t 49) (.reg false (i71 15)) .skip)) (.reg false (i71 16)))
noncomputable def a71_3:IR:=(.seq (.cond (.t 42) .skip (.exit 1)) (.seq (.block 2 (.seq (.reg false (i71 13)) a71_2)) (.reg false (i71 17))))
noncomputable def a71_4:IR:=(.seq (.block 4 (.seq (.reg false (i71 23)) (.seq (.reg false (i71 24)) (.reg false (i71 25))))) (.reg false (i71 26)))
noncomputable def a71_5:IR:=(.block 3 (.loop (.seq (.reg false (i71 22)) (.seq (.cond (.t 66) .skip (.exit 3)) a71_4))))
noncomputable def a71_6:IR:=(.seq (.reg false (i71 20)) (.seq (.seq (.reg false (i71 21)) a71_5) (.seq (.reg false (i71 27)) .ret)))
noncomputable def a71_7:IR:=(.seq (.seq (.reg false (i71 11)) (.block 1 (.loop (.seq (.reg false (i71 12)) a71_3)))) (.seq (.reg false (i71 18)) (.seq (.reg false (i71 19)) a71_6)))
noncomputable def a71_8:IR:=(.seq (.seq (.reg false (i71 1)) (.block 0 (.seq (.reg false (i71 2)) a71_0))) (.seq (.reg false (i71 6)) (.seq (.seq (.reg false (i71 7)) a71_1) a71_7)))
noncomputable def strings_Join_ir:IR:=(.seq (.reg false (i71 0)) a71_8)
theorem strings_Join_cfn:cFn Tryz.prog 71=some (strings_Join_ir,[(.t 4)],75):=by kernel_rfl
def strings_Join_V (r:(ByteArray)):V:=.s (.string r)
def strings_Join_C (r:(ByteArray)):X→Fr→Hp→Prop:=FinL [(.t 4)] [] (strings_Join_V r) []
theorem strings_Join_ok (elems_:(List ByteArray)) (sep_:ByteArray) (r:(ByteArray)) (h:strings_Join elems_ sep_=some r):Pure Tryz.prog 71 [.sl false elems_.length (cat nS elems_),.s (.string sep_)] (strings_Join_V r):=by
 refine CS strings_Join_cfn (strings_Join_C r) fun f hf => ?_
 unfold strings_Join at h
 refine Kq<|Kr<|En hf fun f1 hf1=>Kc<|Kq<|Kq<|Kr<|En hf1 fun f2 hf2=>Kc<|Kb<|Kq<|Kr<|En hf2 fun f3 hf3=>Kc<|Kf hf3 h (fun hc1 h => ?_) fun hc1 h => ?_
 ·refine Kq<|Kr<|En hf3 fun f4 hf4 => ?_
  obtain rfl:=Oi h
  exact Kc<|Kt<|Xr<|Xc<|Fp hf4
 ·refine Kq<|Kr<|En hf3 fun f4 hf4=>Kc<|Kf hf4 h (fun hc2 h => ?_) fun hc2 h => ?_
  ·refine Kq<|Kr<|Sg 1 hf4 fun f5 hf5 => ?_
   obtain ⟨c3,h⟩:=as_ok h
   refine Ad (.ias 1 (.t 17) (.k (.int .i64 0))) (.ip ((cat nS elems_).drop ((0:Int).toNat*1))) hf5 (e_ias (n:=elems_.length) (xv:=.sl false elems_.length (cat nS elems_)) (k:=.i64) (iv:=0) (p:=.ip ((cat nS elems_).drop ((0:Int).toNat*1))) (by kernel_rfl) (by kernel_rfl) (by kernel_rfl) (by kernel_rfl) c3) fun f6 hf6=>Ad (.load false 1 (.t 18)) (.s (.string (gt elems_ (0)))) hf6 (e_load_ip (g:=nS) (l:=elems_) (iv:=0) [] (by kernel_rfl) c3 (by kernel_rfl) (by kernel_rfl)) fun f7 hf7=>En hf7 fun f8 hf8 => ?_
   obtain rfl:=Oi h
   exact Kc<|Kt<|Xr<|Xc<|Fp hf8
  ·refine Ks<|Kv<|Kc<|Kq<|Kr<|En hf4 fun f5 hf5=>Kc<|Kq<|Kq<|Kr<|En hf5 fun f6 hf6=>Kc ?_
   have hj1:∀ (n_:Int),strings_Join_j0 elems_ sep_ n_=some r→∀ f,FOk f [⟨0,[],.sl false elems_.length (cat nS elems_)⟩,⟨1,[],.s (.string sep_)⟩,⟨4,[],.s (.string (⟨#[]⟩:ByteArray))⟩,⟨5,[],.s (.int .i64 n_)⟩]→kont Tryz.prog [] (strings_Join_C r) ((.c a71_7)::[]) .normal f []:=by
    intro n_ h f hf
    unfold strings_Join_j0 at h
    refine Kc<|Kq<|Kq<|Kr<|En hf fun f1 hf1=>Kc<|Kb ?_
    obtain ⟨o0,hx0,h⟩:=Bs h
    have hgo0:∀ (n_3:Int),n_3=o0→∀ f,FOk f [⟨0,[],.sl false elems_.length (cat nS elems_)⟩,⟨1,[],.s (.string sep_)⟩,⟨4,[],.s (.string (⟨#[]⟩:ByteArray))⟩,⟨5,[],.s (.int .i64 n_3)⟩]→kont Tryz.prog [] (strings_Join_C r) ((.c (.seq (.reg false (i71 18)) (.seq (.reg false (i71 19)) a71_6)))::[]) .normal f []:=by
     intro n_3 e f hf
     subst e
     refine Kc<|Kq<|Kr<|En hf fun f1 hf1=>Kc<|Kq<|Kr<|Sg 1 hf1 fun f2 hf2 => ?_
     obtain ⟨c10,h⟩:=as_ok h
     refine Ca hf2 (av:=[.ptr 1 0 0,.s (.int .i64 n_3)]) (v:=.tup []) (L':=[⟨1,.buf BU,1,cat (nI .u8) ([]:List Int)⟩,⟨0,.bld BT,1,[sp false 1 0,.ref 0 1 0 ([]:List Int).length]⟩]) (CalL.bld (xs:=[.int .i64 n_3]) 0 1 (Grow_con true 0 n_3 c10) (by kernel_rfl) rfl (by kernel_rfl) (by kernel_rfl)) (by intro h; cases h) fun f3 hf3=>En hf3 fun f4 hf4=>Kc<|Kq<|Kr<|Sg 1 hf4 fun f5 hf5 => ?_
     obtain ⟨c11,h⟩:=as_ok h
     refine Ad (.ias 1 (.t 58) (.k (.int .i64 0))) (.ip ((cat nS elems_).drop ((0:Int).toNat*1))) hf5 (e_ias (n:=elems_.length) (xv:=.sl false elems_.length (cat nS elems_)) (k:=.i64) (iv:=0) (p:=.ip ((cat nS elems_).drop ((0:Int).toNat*1))) (by kernel_rfl) (by kernel_rfl) (by kernel_rfl) (by kernel_rfl) c11) fun f6 hf6=>Ad (.load false 1 (.t 59)) (.s (.string (gt elems_ (0)))) hf6 (e_load_ip (g:=nS) (l:=elems_) (iv:=0) [] (by kernel_rfl) c11 (by kernel_rfl) (by kernel_rfl)) fun f7 hf7 => ?_
     obtain ⟨c12,h⟩:=as_ok h
     refine Ca hf7 (av:=[.ptr 1 0 0,.s (.string (gt elems_ (0)))]) (v:=.tup [.s (.int .i64 (((gt elems_ (0)).size:Nat):Int)),.s .nilIface]) (L':=[⟨2,.buf BU,1,cat (nI .u8) (([]:List Int)++(sbl (gt elems_ (0))))⟩,⟨0,.bld BT,1,[sp false 1 0,.ref 0 2 0 (([]:List Int)++(sbl (gt elems_ (0)))).length]⟩]) (CalL.bld (xs:=[.string (gt elems_ (0))]) 0 1 (ws_con false 1 ([]:List Int) (gt elems_ (0)) c12) (by kernel_rfl) rfl (by kernel_rfl) (by kernel_rfl)) (by intro h; cases h) fun f8 hf8=>En hf8 fun f9 hf9=>Kc<|Kq<|Kq<|Kr<|Sg 1 hf9 fun f10 hf10 => ?_
     obtain ⟨c13,h⟩:=as_ok h
     refine Ad (.slice 1 (.t 62) (some (.k (.int .i64 1))) none) (.sl (false&&elems_.length == elems_.length) (elems_.length - (1:Int).toNat) (cat nS (elems_.drop (1:Int).toNat))) hf10 (e_slice_sl (g:=nS) (l:=elems_) (n:=elems_.length) (u:=false) (by kernel_rfl) (b_sn (k:=.i64) (iv:=1) (by kernel_rfl) c13)) fun f11 hf11=>En hf11 fun f12 hf12=>Kc<|Kb ?_
     obtain ⟨o1,hx1,h⟩:=Bs h
     have hgo1:∀ (l_2:(List Int)) (v_2:Nat),l_2=o1→∀ f,FOk f [⟨4,[],.s (.string (⟨#[]⟩:ByteArray))⟩,⟨8,[],.ptr 1 0 0⟩]→kont Tryz.prog [] (strings_Join_C r) ((.c (.seq (.reg false (i71 27)) .ret))::[]) .normal f [⟨v_2,.buf BU,1,cat (nI .u8) l_2⟩,⟨0,.bld BT,1,[sp false 1 0,.ref 0 v_2 0 l_2.length]⟩]:=by
      intro l_2 v_2 e f hf
      subst e
      refine Kc<|Kq<|Kr ?_
      obtain ⟨c18,h⟩:=as_ok h
      refine Ca hf (av:=[.ptr 1 0 0]) (v:=.s (.string (bs l_2))) (L':=[⟨v_2,.dead,1,[]⟩,⟨0,.bld BT,1,[sp false 1 0,.ref 0 v_2 0 l_2.length]⟩]) (CalL.bldD 0 1 (str_con false v_2 l_2 c18) (by kernel_rfl) rfl (by kernel_rfl) (by kernel_rfl)) (by intro h; cases h) fun f1 hf1=>En hf1 fun f2 hf2 => ?_
      obtain rfl:=Oi h
      exact Kc<|Kt<|Fp hf2
     refine k_loop BIG<|loop_ind (fun n f L=>∃ (l_1:(List Int)) (t_3:Int) (v_1:Nat),strings_Join_l1 elems_ sep_ n l_1 t_3=some o1∧FOk f [⟨1,[],.s (.string sep_)⟩,⟨4,[],.s (.string (⟨#[]⟩:ByteArray))⟩,⟨8,[],.ptr 1 0 0⟩,⟨63,[],.sl (false&&elems_.length == elems_.length) (elems_.length - (1:Int).toNat) (cat nS (elems_.drop (1:Int).toNat))⟩,⟨64,[],.s (.int .i64 (((elems_.length - (1:Int).toNat):Nat):Int))⟩,⟨65,[],.s (.int .i64 t_3)⟩]∧L=[⟨v_1,.buf BU,1,cat (nI .u8) l_1⟩,⟨0,.bld BT,1,[sp false 1 0,.ref 0 v_1 0 l_1.length]⟩]) ?_ ?_ BIG _ _ ⟨(([]:List Int)++(sbl (gt elems_ (0)))),(0),(2),hx1,FOk_of [1,4,8,63,64,65] hf12 (by kernel_rfl),(by kernel_rfl)⟩
     ·rintro f L ⟨l_1,t_3,v_1,h,_⟩
      cases (show (none:Option _)=some _ from h)
     ·rintro n1 R1 ih f L ⟨l_1,t_3,v_1,h,hf,rfl⟩
      rw [strings_Join_l1] at h
      refine Kq<|Kr<|En hf fun f1 hf1=>Kc<|Kq<|Kf hf1 h (fun hc14 h => ?_) fun hc14 h => ?_
      ·refine Ks<|Kc<|Kq<|Kb<|Kq<|Kr ?_
       obtain ⟨c15,h⟩:=as_ok h
       refine Ad (.ias 1 (.t 63) (.t 65)) (.ip ((cat nS (elems_.drop (1:Int).toNat)).drop ((t_3:Int).toNat*1))) hf1 (e_ias (n:=(elems_.length - (1:Int).toNat)) (xv:=.sl (false&&elems_.length == elems_.length) (elems_.length - (1:Int).toNat) (cat nS (elems_.drop (1:Int).toNat))) (k:=.i64) (iv:=t_3) (p:=.ip ((cat nS (elems_.drop (1:Int).toNat)).drop ((t_3:Int).toNat*1))) (by kernel_rfl) (by kernel_rfl) (by kernel_rfl) (by kernel_rfl) c15) fun f2 hf2=>Ad (.load false 1 (.t 67)) (.s (.string (gt (elems_.drop (1:Int).toNat) t_3))) hf2 (e_load_ip (g:=nS) (l:=(elems_.drop (1:Int).toNat)) (iv:=t_3) [] (by kernel_rfl) (part_lt (b:=elems_.length) (cut_sn (n:=elems_.length) c13) c15) (by kernel_rfl) (by kernel_rfl)) fun f3 hf3=>En hf3 fun f4 hf4=>Kc<|Kq<|Kr<|Sg 1 hf4 fun f5 hf5 => ?_
       obtain ⟨c16,h⟩:=as_ok h
       refine Ca hf5 (av:=[.ptr 1 0 0,.s (.string sep_)]) (v:=.tup [.s (.int .i64 ((sep_.size:Nat):Int)),.s .nilIface]) (L':=[⟨(v_1+1),.buf BU,1,cat (nI .u8) (l_1++(sbl sep_))⟩,⟨0,.bld BT,1,[sp false 1 0,.ref 0 (v_1+1) 0 (l_1++(sbl sep_)).length]⟩]) (CalL.bld (xs:=[.string sep_]) 0 1 (ws_con false v_1 l_1 sep_ c16) (by kernel_rfl) rfl (by kernel_rfl) (by kernel_rfl)) (by intro h; cases h) fun f6 hf6=>En hf6 fun f7 hf7=>Kc<|Kr<|Sg 1 hf7 fun f8 hf8 => ?_
       obtain ⟨c17,h⟩:=as_ok h
       exact Ca hf8 (av:=[.ptr 1 0 0,.s (.string (gt (elems_.drop (1:Int).toNat) t_3))]) (v:=.tup [.s (.int .i64 (((gt (elems_.drop (1:Int).toNat) t_3).size:Nat):Int)),.s .nilIface]) (L':=[⟨(((v_1+1))+1),.buf BU,1,cat (nI .u8) ((l_1++(sbl sep_))++(sbl (gt (elems_.drop (1:Int).toNat) t_3)))⟩,⟨0,.bld BT,1,[sp false 1 0,.ref 0 (((v_1+1))+1) 0 ((l_1++(sbl sep_))++(sbl (gt (elems_.drop (1:Int).toNat) t_3))).length]⟩]) (CalL.bld (xs:=[.string (gt (elems_.drop (1:Int).toNat) t_3)]) 0 1 (ws_con false ((v_1+1)) (l_1++(sbl sep_)) (gt (elems_.drop (1:Int).toNat) t_3) c17) (by kernel_rfl) rfl (by kernel_rfl) (by kernel_rfl)) (by intro h; cases h) fun f9 hf9=>En hf9 fun f10 hf10=>Kv<|Kc<|Kr<|En hf10 fun f11 hf11=>Kl<|ih _ _ ⟨((l_1++(sbl sep_))++(sbl (gt (elems_.drop (1:Int).toNat) t_3))),(IntKind.wrap .i64 (t_3+1)),(((v_1+1))+1),h,FOk_of [1,4,8,63,64,65] hf11 (by kernel_rfl),(by kernel_rfl)⟩
      ·exact Kx<|Xc<|Xl<|Xb<|Kh (hgo1 l_1 v_1 (Option.some.inj h) _ (Of [4,8] hf1))
    refine k_loop BIG<|loop_ind (fun n f L=>∃ (n_2:Int) (t_1:Int),strings_Join_l0 elems_ n n_2 t_1=some o0∧FOk f [⟨0,[],.sl false elems_.length (cat nS elems_)⟩,⟨1,[],.s (.string sep_)⟩,⟨4,[],.s (.string (⟨#[]⟩:ByteArray))⟩,⟨5,[],.s (.int .i64 n_2)⟩,⟨39,[],.sl false elems_.length (cat nS elems_)⟩,⟨40,[],.s (.int .i64 (ln elems_))⟩,⟨41,[],.s (.int .i64 t_1)⟩]∧L=[]) ?_ ?_ BIG _ _ ⟨n_,(0),hx0,FOk_of [0,1,4,5,39,40,41] hf1 (by kernel_rfl),(by kernel_rfl)⟩
    ·rintro f L ⟨n_2,t_1,h,_⟩
     cases (show (none:Option _)=some _ from h)
    ·rintro n0 R0 ih f L ⟨n_2,t_1,h,hf,rfl⟩
     rw [strings_Join_l0] at h
     refine Kq<|Kr<|En hf fun f1 hf1=>Kc<|Kq<|Kf hf1 h (fun hc7 h => ?_) fun hc7 h => ?_
     ·refine Ks<|Kc<|Kq<|Kb<|Kq<|Kr ?_
      obtain ⟨c8,h⟩:=as_ok h
      refine Ad (.ias 1 (.t 39) (.t 41)) (.ip ((cat nS elems_).drop ((t_1:Int).toNat*1))) hf1 (e_ias (n:=elems_.length) (xv:=.sl false elems_.length (cat nS elems_)) (k:=.i64) (iv:=t_1) (p:=.ip ((cat nS elems_).drop ((t_1:Int).toNat*1))) (by kernel_rfl) (by kernel_rfl) (by kernel_rfl) (by kernel_rfl) c8) fun f2 hf2=>Ad (.load false 1 (.t 43)) (.s (.string (gt elems_ t_1))) hf2 (e_load_ip (g:=nS) (l:=elems_) (iv:=t_1) [] (by kernel_rfl) c8 (by kernel_rfl) (by kernel_rfl)) fun f3 hf3=>En hf3 fun f4 hf4=>Kc<|Kq<|Kq<|Kr<|En hf4 fun f5 hf5=>Kc<|Kf hf5 h (fun hc9 h => ?_) fun hc9 h => ?_
      ·cases h
      ·exact Ks<|Kc<|Kr<|En hf5 fun f6 hf6=>Kv<|Kc<|Kr<|En hf6 fun f7 hf7=>Kl<|ih _ _ ⟨(IntKind.wrap .i64 (n_2+(sln (gt elems_ t_1)))),(IntKind.wrap .i64 (t_1+1)),h,FOk_of [0,1,4,5,39,40,41] hf7 (by kernel_rfl),(by kernel_rfl)⟩
     ·exact Kx<|Xc<|Xl<|Xb<|Kh (hgo0 n_2 (Option.some.inj h) _ (Of [0,1,4,5] hf1))
   refine Kf hf6 h (fun hc4 h => ?_) fun hc4 h => ?_
   ·refine Kq<|Kq<|Kr<|Sg 5 hf6 fun f7 hf7 => ?_
    obtain ⟨c5,h⟩:=as_ok h
    refine Ad (.bin .quo (.k (.int .i64 9223372036854775807)) (.t 27)) (.s (.int .i64 (IntKind.wrap .i64 (Int.tdiv 9223372036854775807 (IntKind.wrap .i64 ((ln elems_) - 1)))))) hf7 (e_quo (k:=.i64) (iv:=9223372036854775807) (jv:=(IntKind.wrap .i64 ((ln elems_) - 1))) (by kernel_rfl) (by kernel_rfl) c5) fun f8 hf8=>En hf8 fun f9 hf9=>Kc<|Kf hf9 h (fun hc6 h => ?_) fun hc6 h => ?_
    ·cases h
    ·exact Ks<|Kc<|Kr<|En hf9 fun f10 hf10=>Kh (hj1 (IntKind.wrap .i64 (0+(IntKind.wrap .i64 ((sln sep_)*(IntKind.wrap .i64 ((ln elems_) - 1)))))) h _ (Of [0,1,4,5] hf10))
   ·exact Ks<|Kh (hj1 (0) h _ (Of [0,1,4,5] hf6))
@[irreducible] noncomputable def i72:Nat→List Op1:=rg Tryz.prog 72 []
noncomputable def a72_0:IR:=(.seq (.seq (.reg false (i72 2)) (.cond (.t 10) (.seq (.reg false (i72 3)) .ret) .skip)) (.seq (.reg false (i72 4)) .ret))
noncomputable def ops_stem_ir:IR:=(.seq (.reg false (i72 0)) (.seq (.reg false (i72 1)) a72_0))
theorem ops_stem_cfn:cFn Tryz.prog 72=some (ops_stem_ir,[(.t 2)],14):=by kernel_rfl
def ops_stem_V (r:(ByteArray)):V:=.s (.string r)
def ops_stem_C (r:(ByteArray)):X→Fr→Hp→Prop:=FinL [(.t 2)] [] (ops_stem_V r) []
abbrev k72_0:List ByteArray:=[(⟨#[]⟩:ByteArray),(⟨#[65,66,88]⟩:ByteArray),(⟨#[65,68,67]⟩:ByteArray),(⟨#[65,68,68]⟩:ByteArray),(⟨#[65,78,68]⟩:ByteArray),(⟨#[66,73,84]⟩:ByteArray),(⟨#[67,77,80]⟩:ByteArray),(⟨#[69,79,82]⟩:ByteArray),(⟨#[79,82]⟩:ByteArray),(⟨#[83,66,67]⟩:ByteArray),(⟨#[83,85,66]⟩:ByteArray),(⟨#[76,68]⟩:ByteArray),(⟨#[83,84]⟩:ByteArray),(⟨#[78,69,71]⟩:ByteArray),(⟨#[67,79,77]⟩:ByteArray),(⟨#[76,83,82]⟩:ByteArray),(⟨#[82,79,82]⟩:ByteArray),(⟨#[65,83,82]⟩:ByteArray),(⟨#[65,83,76]⟩:ByteArray),(⟨#[82,79,76]⟩:ByteArray),(⟨#[68,69,67]⟩:ByteArray),(⟨#[73,78,67]⟩:ByteArray),(⟨#[84,83,84]⟩:ByteArray),(⟨#[67,76,82]⟩:ByteArray),(⟨#[76,68]⟩:ByteArray),(⟨#[83,84]⟩:ByteArray),(⟨#[65,68,68]⟩:ByteArray),(⟨#[83,85,66]⟩:ByteArray),(⟨#[67,77,80]⟩:ByteArray),(⟨#[76,69,65]⟩:ByteArray),(⟨#[80,83,72]⟩:ByteArray),(⟨#[80,85,76]⟩:ByteArray),(⟨#[74,77,80]⟩:ByteArray),(⟨#[74,83,82]⟩:ByteArray),(⟨#[66]⟩:ByteArray),(⟨#[76,66]⟩:ByteArray),(⟨#[76,66,82,65]⟩:ByteArray),(⟨#[66,83,82]⟩:ByteArray),(⟨#[76,66,83,82]⟩:ByteArray),(⟨#[78,79,80]⟩:ByteArray),(⟨#[83,89,78,67]⟩:ByteArray),(⟨#[67,87,65,73]⟩:ByteArray),(⟨#[68,65,65]⟩:ByteArray),(⟨#[79,82,67,67]⟩:ByteArray),(⟨#[65,78,68,67,67]⟩:ByteArray),(⟨#[83,69,88]⟩:ByteArray),(⟨#[69,88,71]⟩:ByteArray),(⟨#[84,70,82]⟩:ByteArray),(⟨#[82,84,83]⟩:ByteArray),(⟨#[82,84,73]⟩:ByteArray),(⟨#[77,85,76]⟩:ByteArray),(⟨#[83,87,73]⟩:ByteArray)]
theorem ops_stem_ok (op_:Int) (r:(ByteArray)) (h:ops_stem op_=some r):Pure Tryz.prog 72 [.s (.int .i64 op_)] (ops_stem_V r):=by
 refine CS ops_stem_cfn (ops_stem_C r) fun f hf => ?_
 unfold ops_stem at h
 refine Kq<|Kr<|En hf fun f1 hf1=>Kc<|Kq<|Kr<|En hf1 fun f2 hf2=>Kc<|Kq<|Kq<|Kr<|En hf2 fun f3 hf3=>Kc<|Kf hf3 h (fun hc1 h => ?_) fun hc1 h => ?_
 ·refine Kq<|Kr<|En hf3 fun f4 hf4 => ?_
  obtain rfl:=Oi h
  exact Kc<|Kt<|Xc<|Fp hf4
 ·refine Ks<|Kc<|Kq<|Kr<|Sg 1 hf3 fun f4 hf4 => ?_
  obtain ⟨c2,h⟩:=as_ok h
  refine Ad (.iaa 52 1 (.t 3) (.t 11)) (.ptr 0 0 (0+(op_:Int).toNat*1)) hf4 (e_iaa (n:=52) (xv:=.ptr 0 0 0) (k:=.i64) (iv:=op_) (p:=.ptr 0 0 (0+(op_:Int).toNat*1)) (by kernel_rfl) (by kernel_rfl) (by kernel_rfl) (by kernel_rfl) c2) fun f5 hf5=>Ad (.load false 1 (.t 12)) (.s (.string (gt k72_0 op_))) hf5 (e_load_pe (g:=nS) (l:=k72_0) (iv:=op_) (kd:=.mem) (q:=1) (b:=0) (ver:=0) [] (by kernel_rfl) (live_mem (by kernel_rfl)) (arr_h (l:=k72_0) c2 (by kernel_rfl)) (by kernel_rfl) (by kernel_rfl)) fun f6 hf6=>En hf6 fun f7 hf7 => ?_
  obtain rfl:=Oi h
  exact Kc<|Kt<|Fp hf7
@[irreducible] noncomputable def i73:Nat→List Op1:=rg Tryz.prog 73 []
noncomputable def a73_0:IR:=(.seq (.seq (.reg false (i73 1)) (.cond (.t 8) (.seq (.reg false (i73 2)) .ret) .skip)) (.seq (.reg false (i73 3)) .ret))
noncomputable def cond_Name_ir:IR:=(.seq (.reg false (i73 0)) a73_0)
theorem cond_Name_cfn:cFn Tryz.prog 73=some (cond_Name_ir,[(.t 2)],15):=by kernel_rfl
def cond_Name_V (r:(ByteArray)):V:=.s (.string r)
def cond_Name_C (r:(ByteArray)):X→Fr→Hp→Prop:=FinL [(.t 2)] [] (cond_Name_V r) []
theorem cond_Name_ok (n_:Int) (r:(ByteArray)) (h:cond_Name n_=some r):Pure Tryz.prog 73 [.s (.int .i64 n_)] (cond_Name_V r):=by
 refine CS cond_Name_cfn (cond_Name_C r) fun f hf => ?_
 unfold cond_Name at h
 refine Kq<|Kr<|En hf fun f1 hf1=>Kc<|Kq<|Kq<|Kr<|En hf1 fun f2 hf2=>Kc<|Kf hf2 h (fun hc1 h => ?_) fun hc1 h => ?_
 ·refine Kq<|Kr<|En hf2 fun f3 hf3 => ?_
  obtain rfl:=Oi h
  exact Kc<|Kt<|Xc<|Fp hf3
 ·refine Ks<|Kc<|Kq<|Kr<|Sg 5 hf2 fun f3 hf3 => ?_
  obtain ⟨c2,h⟩:=as_ok h
  refine Ad (.sstr (.k (.string ⟨#[82,65,82,78,72,73,76,83,67,67,67,83,78,69,69,81,86,67,86,83,80,76,77,73,71,69,76,84,71,84,76,69]⟩)) (some (.t 10)) (some (.t 13))) (.s (.string ((⟨#[82,65,82,78,72,73,76,83,67,67,67,83,78,69,69,81,86,67,86,83,80,76,77,73,71,69,76,84,71,84,76,69]⟩:ByteArray).extract ((IntKind.wrap .i64 (2*n_)):Int).toNat ((IntKind.wrap .i64 ((IntKind.wrap .i64 (2*n_))+2)):Int).toNat))) hf3 (e_sstr (t:=(⟨#[82,65,82,78,72,73,76,83,67,67,67,83,78,69,69,81,86,67,86,83,80,76,77,73,71,69,76,84,71,84,76,69]⟩:ByteArray)) (by kernel_rfl) (b_ss (k:=.i64) (k':=.i64) (iv:=(IntKind.wrap .i64 (2*n_))) (jv:=(IntKind.wrap .i64 ((IntKind.wrap .i64 (2*n_))+2))) (by kernel_rfl) (by kernel_rfl) c2)) fun f4 hf4=>En hf4 fun f5 hf5 => ?_
  obtain rfl:=Oi h
  exact Kc<|Kt<|Fp hf5
@[irreducible] noncomputable def i92:Nat→List Op1:=rg Tryz.prog 92 []
noncomputable def a92_0:IR:=(.cond (.t 4) .skip (.seq (.reg false (i92 10)) (.cond (.t 4) .skip (.reg false (i92 11)))))
noncomputable def a92_1:IR:=(.cond (.t 4) .skip (.seq (.reg false (i92 8)) (.cond (.t 4) .skip (.seq (.reg false (i92 9)) a92_0))))
noncomputable def a92_2:IR:=(.cond (.t 4) .skip (.seq (.reg false (i92 6)) (.cond (.t 4) .skip (.seq (.reg false (i92 7)) a92_1))))
noncomputable def a92_3:IR:=(.cond (.t 4) .skip (.seq (.reg false (i92 4)) (.cond (.t 4) .skip (.seq (.reg false (i92 5)) a92_2))))
noncomputable def a92_4:IR:=(.cond (.t 23) .skip (.seq (.reg false (i92 22)) (.cond (.t 23) .skip (.reg false (i92 23)))))
noncomputable def a92_5:IR:=(.cond (.t 29) (.seq (.reg false (i92 28)) .ret) (.seq (.reg false (i92 29)) (.cond (.t 31) (.seq (.reg false (i92 30)) .ret) .skip)))
noncomputable def a92_6:IR:=(.cond (.t 23) (.seq (.reg false (i92 24)) .ret) (.seq (.reg false (i92 25)) (.cond (.t 27) (.seq (.reg false (i92 26)) .ret) (.seq (.reg false (i92 27)) a92_5))))
noncomputable def a92_7:IR:=(.cond (.t 21) (.seq (.reg false (i92 20)) .ret) (.seq (.seq (.reg false (i92 21)) a92_4) a92_6))
noncomputable def a92_8:IR:=(.cond (.t 17) (.seq (.reg false (i92 16)) .ret) (.seq (.reg false (i92 17)) (.cond (.t 19) (.seq (.reg false (i92 18)) .ret) (.seq (.reg false (i92 19)) a92_7))))
noncomputable def a92_9:IR:=(.cond (.t 4) (.seq (.reg false (i92 12)) .ret) (.seq (.reg false (i92 13)) (.cond (.t 15) (.seq (.reg false (i92 14)) .ret) (.seq (.reg false (i92 15)) a92_8))))
noncomputable def a92_10:IR:=(.block 0 (.seq (.seq (.reg false (i92 2)) (.cond (.t 4) .skip (.seq (.reg false (i92 3)) a92_3))) a92_9))
noncomputable def a92_11:IR:=(.seq (.seq (.reg false (i92 31)) (.cond (.t 38) (.seq (.reg false (i92 32)) .ret) .skip)) (.seq (.reg false (i92 33)) .ret))
noncomputable def ops_Group_ir:IR:=(.seq (.reg false (i92 0)) (.seq (.seq (.reg false (i92 1)) a92_10) a92_11))
theorem ops_Group_cfn:cFn Tryz.prog 92=some (ops_Group_ir,[(.t 2)],39):=by kernel_rfl
def ops_Group_V (r:(Int)):V:=.s (.int .i64 r)
def ops_Group_C (r:(Int)):X→Fr→Hp→Prop:=FinL [(.t 2)] [] (ops_Group_V r) []
theorem ops_Group_ok (op_:Int) (r:(Int)) (h:ops_Group op_=some r):Pure Tryz.prog 92 [.s (.int .i64 op_)] (ops_Group_V r):=by
 refine CS ops_Group_cfn (ops_Group_C r) fun f hf => ?_
 unfold ops_Group at h
 refine Kq<|Kr<|En hf fun f1 hf1=>Kc<|Kq<|Kq<|Kr<|En hf1 fun f2 hf2=>Kc<|Kb<|Kq<|Kq<|Kr<|En hf2 fun f3 hf3=>Kc ?_
 have hj1:∀ (t_:Bool),ops_Group_j1 op_ t_=some r→∀ f,FOk f [⟨0,[],.s (.int .i64 op_)⟩,⟨2,[],.s (.int .i64 0)⟩,⟨3,[],.s (.int .i64 op_)⟩,⟨4,[],.s (.bool t_)⟩]→kont Tryz.prog [] (ops_Group_C r) ((.c a92_9)::(.b 0)::(.c a92_11)::[]) .normal f []:=by
  intro t_ h f hf
  unfold ops_Group_j1 at h
  refine Kc<|Kf hf h (fun hc10 h => ?_) fun hc10 h => ?_
  ·refine Kq<|Kr<|En hf fun f1 hf1 => ?_
   obtain rfl:=Oi h
   exact Kc<|Kt<|Xr<|Xc<|Fp hf1
  ·refine Kq<|Kr<|En hf fun f1 hf1=>Kc<|Kf hf1 h (fun hc11 h => ?_) fun hc11 h => ?_
   ·refine Kq<|Kr<|En hf1 fun f2 hf2 => ?_
    obtain rfl:=Oi h
    exact Kc<|Kt<|Xr<|Xc<|Fp hf2
   ·refine Kq<|Kr<|En hf1 fun f2 hf2=>Kc<|Kf hf2 h (fun hc12 h => ?_) fun hc12 h => ?_
    ·refine Kq<|Kr<|En hf2 fun f3 hf3 => ?_
     obtain rfl:=Oi h
     exact Kc<|Kt<|Xr<|Xc<|Fp hf3
    ·refine Kq<|Kr<|En hf2 fun f3 hf3=>Kc<|Kf hf3 h (fun hc13 h => ?_) fun hc13 h => ?_
     ·refine Kq<|Kr<|En hf3 fun f4 hf4 => ?_
      obtain rfl:=Oi h
      exact Kc<|Kt<|Xr<|Xc<|Fp hf4
     ·refine Kq<|Kr<|En hf3 fun f4 hf4=>Kc<|Kf hf4 h (fun hc14 h => ?_) fun hc14 h => ?_
      ·refine Kq<|Kr<|En hf4 fun f5 hf5 => ?_
       obtain rfl:=Oi h
       exact Kc<|Kt<|Xr<|Xc<|Fp hf5
      ·refine Kq<|Kq<|Kr<|En hf4 fun f5 hf5=>Kc ?_
       have hj2:∀ (t_1:Bool),ops_Group_j0 op_ t_1=some r→∀ f,FOk f [⟨0,[],.s (.int .i64 op_)⟩,⟨2,[],.s (.int .i64 0)⟩,⟨3,[],.s (.int .i64 op_)⟩,⟨23,[],.s (.bool t_1)⟩]→kont Tryz.prog [] (ops_Group_C r) ((.c a92_6)::(.b 0)::(.c a92_11)::[]) .normal f []:=by
        intro t_1 h f hf
        unfold ops_Group_j0 at h
        refine Kc<|Kf hf h (fun hc17 h => ?_) fun hc17 h => ?_
        ·refine Kq<|Kr<|En hf fun f1 hf1 => ?_
         obtain rfl:=Oi h
         exact Kc<|Kt<|Xr<|Xc<|Fp hf1
        ·refine Kq<|Kr<|En hf fun f1 hf1=>Kc<|Kf hf1 h (fun hc18 h => ?_) fun hc18 h => ?_
         ·refine Kq<|Kr<|En hf1 fun f2 hf2 => ?_
          obtain rfl:=Oi h
          exact Kc<|Kt<|Xr<|Xc<|Fp hf2
         ·refine Kq<|Kr<|En hf1 fun f2 hf2=>Kc<|Kf hf2 h (fun hc19 h => ?_) fun hc19 h => ?_
          ·refine Kq<|Kr<|En hf2 fun f3 hf3 => ?_
           obtain rfl:=Oi h
           exact Kc<|Kt<|Xr<|Xc<|Fp hf3
          ·refine Kq<|Kr<|En hf2 fun f3 hf3=>Kc<|Kf hf3 h (fun hc20 h => ?_) fun hc20 h => ?_
           ·refine Kq<|Kr<|En hf3 fun f4 hf4 => ?_
            obtain rfl:=Oi h
            exact Kc<|Kt<|Xr<|Xc<|Fp hf4
           ·refine Ks<|Kv<|Kc<|Kq<|Kq<|Kr<|En hf3 fun f4 hf4=>Kc<|Kf hf4 h (fun hc21 h => ?_) fun hc21 h => ?_
            ·refine Kq<|Kr<|En hf4 fun f5 hf5 => ?_
             obtain rfl:=Oi h
             exact Kc<|Kt<|Xc<|Fp hf5
            ·refine Ks<|Kc<|Kq<|Kr<|En hf4 fun f5 hf5 => ?_
             obtain rfl:=Oi h
             exact Kc<|Kt<|Fp hf5
       refine Kf hf5 h (fun hc15 h => ?_) fun hc15 h => ?_
       ·exact Ks<|Kh (hj2 (op_ == 26) h _ (Of [0,2,3,23] hf5))
       ·refine Kq<|Kr<|En hf5 fun f6 hf6=>Kc<|Kf hf6 h (fun hc16 h => ?_) fun hc16 h => ?_
        ·exact Ks<|Kh (hj2 (op_ == 27) h _ (Of [0,2,3,23] hf6))
        ·exact Kr<|En hf6 fun f7 hf7=>Kh (hj2 (op_ == 28) h _ (Of [0,2,3,23] hf7))
 refine Kf hf3 h (fun hc1 h => ?_) fun hc1 h => ?_
 ·exact Ks<|Kh (hj1 (op_ == 2) h _ (Of [0,2,3,4] hf3))
 ·refine Kq<|Kr<|En hf3 fun f4 hf4=>Kc<|Kf hf4 h (fun hc2 h => ?_) fun hc2 h => ?_
  ·exact Ks<|Kh (hj1 (op_ == 3) h _ (Of [0,2,3,4] hf4))
  ·refine Kq<|Kr<|En hf4 fun f5 hf5=>Kc<|Kf hf5 h (fun hc3 h => ?_) fun hc3 h => ?_
   ·exact Ks<|Kh (hj1 (op_ == 4) h _ (Of [0,2,3,4] hf5))
   ·refine Kq<|Kr<|En hf5 fun f6 hf6=>Kc<|Kf hf6 h (fun hc4 h => ?_) fun hc4 h => ?_
    ·exact Ks<|Kh (hj1 (op_ == 5) h _ (Of [0,2,3,4] hf6))
    ·refine Kq<|Kr<|En hf6 fun f7 hf7=>Kc<|Kf hf7 h (fun hc5 h => ?_) fun hc5 h => ?_
     ·exact Ks<|Kh (hj1 (op_ == 6) h _ (Of [0,2,3,4] hf7))
     ·refine Kq<|Kr<|En hf7 fun f8 hf8=>Kc<|Kf hf8 h (fun hc6 h => ?_) fun hc6 h => ?_
      ·exact Ks<|Kh (hj1 (op_ == 7) h _ (Of [0,2,3,4] hf8))
      ·refine Kq<|Kr<|En hf8 fun f9 hf9=>Kc<|Kf hf9 h (fun hc7 h => ?_) fun hc7 h => ?_
       ·exact Ks<|Kh (hj1 (op_ == 8) h _ (Of [0,2,3,4] hf9))
       ·refine Kq<|Kr<|En hf9 fun f10 hf10=>Kc<|Kf hf10 h (fun hc8 h => ?_) fun hc8 h => ?_
        ·exact Ks<|Kh (hj1 (op_ == 9) h _ (Of [0,2,3,4] hf10))
        ·refine Kq<|Kr<|En hf10 fun f11 hf11=>Kc<|Kf hf11 h (fun hc9 h => ?_) fun hc9 h => ?_
         ·exact Ks<|Kh (hj1 (op_ == 10) h _ (Of [0,2,3,4] hf11))
         ·exact Kr<|En hf11 fun f12 hf12=>Kh (hj1 (op_ == 11) h _ (Of [0,2,3,4] hf12))
@[irreducible] noncomputable def i75:Nat→List Op1:=rg Tryz.prog 75 []
noncomputable def a75_0:IR:=(.cond (.t 20) (.seq (.reg false (i75 19)) .ret) (.seq (.reg false (i75 20)) (.cond (.t 22) (.seq (.reg false (i75 21)) .ret) .skip)))
noncomputable def a75_1:IR:=(.cond (.t 16) (.seq (.reg false (i75 15)) .ret) (.seq (.reg false (i75 16)) (.cond (.t 18) (.seq (.reg false (i75 17)) .ret) (.seq (.reg false (i75 18)) a75_0))))
noncomputable def a75_2:IR:=(.cond (.t 12) (.seq (.reg false (i75 11)) .ret) (.seq (.reg false (i75 12)) (.cond (.t 14) (.seq (.reg false (i75 13)) .ret) (.seq (.reg false (i75 14)) a75_1))))
noncomputable def a75_3:IR:=(.cond (.t 8) (.seq (.reg false (i75 7)) .ret) (.seq (.reg false (i75 8)) (.cond (.t 10) (.seq (.reg false (i75 9)) .ret) (.seq (.reg false (i75 10)) a75_2))))
noncomputable def a75_4:IR:=(.cond (.t 4) (.seq (.reg false (i75 3)) .ret) (.seq (.reg false (i75 4)) (.cond (.t 6) (.seq (.reg false (i75 5)) .ret) (.seq (.reg false (i75 6)) a75_3))))
noncomputable def a75_5:IR:=(.seq (.seq (.reg false (i75 1)) (.block 0 (.seq (.reg false (i75 2)) a75_4))) (.seq (.reg false (i75 22)) .ret))
noncomputable def ops_Reg_ir:IR:=(.seq (.reg false (i75 0)) a75_5)
theorem ops_Reg_cfn:cFn Tryz.prog 75=some (ops_Reg_ir,[(.t 2)],24):=by kernel_rfl
def ops_Reg_V (r:(ByteArray)):V:=.s (.string r)
def ops_Reg_C (r:(ByteArray)):X→Fr→Hp→Prop:=FinL [(.t 2)] [] (ops_Reg_V r) []
theorem ops_Reg_ok (code_:Int) (r:(ByteArray)) (h:ops_Reg code_=some r):Pure Tryz.prog 75 [.s (.int .i64 code_)] (ops_Reg_V r):=by
 refine CS ops_Reg_cfn (ops_Reg_C r) fun f hf => ?_
 unfold ops_Reg at h
 refine Kq<|Kr<|En hf fun f1 hf1=>Kc<|Kq<|Kq<|Kr<|En hf1 fun f2 hf2=>Kc<|Kb<|Kq<|Kr<|En hf2 fun f3 hf3=>Kc<|Kf hf3 h (fun hc1 h => ?_) fun hc1 h => ?_
 ·refine Kq<|Kr<|En hf3 fun f4 hf4 => ?_
  obtain rfl:=Oi h
  exact Kc<|Kt<|Xr<|Xc<|Fp hf4
 ·refine Kq<|Kr<|En hf3 fun f4 hf4=>Kc<|Kf hf4 h (fun hc2 h => ?_) fun hc2 h => ?_
  ·refine Kq<|Kr<|En hf4 fun f5 hf5 => ?_
   obtain rfl:=Oi h
   exact Kc<|Kt<|Xr<|Xc<|Fp hf5
  ·refine Kq<|Kr<|En hf4 fun f5 hf5=>Kc<|Kf hf5 h (fun hc3 h => ?_) fun hc3 h => ?_
   ·refine Kq<|Kr<|En hf5 fun f6 hf6 => ?_
    obtain rfl:=Oi h
    exact Kc<|Kt<|Xr<|Xc<|Fp hf6
   ·refine Kq<|Kr<|En hf5 fun f6 hf6=>Kc<|Kf hf6 h (fun hc4 h => ?_) fun hc4 h => ?_
    ·refine Kq<|Kr<|En hf6 fun f7 hf7 => ?_
     obtain rfl:=Oi h
     exact Kc<|Kt<|Xr<|Xc<|Fp hf7
    ·refine Kq<|Kr<|En hf6 fun f7 hf7=>Kc<|Kf hf7 h (fun hc5 h => ?_) fun hc5 h => ?_
     ·refine Kq<|Kr<|En hf7 fun f8 hf8 => ?_
      obtain rfl:=Oi h
      exact Kc<|Kt<|Xr<|Xc<|Fp hf8
     ·refine Kq<|Kr<|En hf7 fun f8 hf8=>Kc<|Kf hf8 h (fun hc6 h => ?_) fun hc6 h => ?_
      ·refine Kq<|Kr<|En hf8 fun f9 hf9 => ?_
       obtain rfl:=Oi h
       exact Kc<|Kt<|Xr<|Xc<|Fp hf9
      ·refine Kq<|Kr<|En hf8 fun f9 hf9=>Kc<|Kf hf9 h (fun hc7 h => ?_) fun hc7 h => ?_
       ·refine Kq<|Kr<|En hf9 fun f10 hf10 => ?_
        obtain rfl:=Oi h
        exact Kc<|Kt<|Xr<|Xc<|Fp hf10
       ·refine Kq<|Kr<|En hf9 fun f10 hf10=>Kc<|Kf hf10 h (fun hc8 h => ?_) fun hc8 h => ?_
        ·refine Kq<|Kr<|En hf10 fun f11 hf11 => ?_
         obtain rfl:=Oi h
         exact Kc<|Kt<|Xr<|Xc<|Fp hf11
        ·refine Kq<|Kr<|En hf10 fun f11 hf11=>Kc<|Kf hf11 h (fun hc9 h => ?_) fun hc9 h => ?_
         ·refine Kq<|Kr<|En hf11 fun f12 hf12 => ?_
          obtain rfl:=Oi h
          exact Kc<|Kt<|Xr<|Xc<|Fp hf12
         ·refine Kq<|Kr<|En hf11 fun f12 hf12=>Kc<|Kf hf12 h (fun hc10 h => ?_) fun hc10 h => ?_
          ·refine Kq<|Kr<|En hf12 fun f13 hf13 => ?_
           obtain rfl:=Oi h
           exact Kc<|Kt<|Xr<|Xc<|Fp hf13
          ·refine Ks<|Kv<|Kc<|Kq<|Kr<|En hf12 fun f13 hf13 => ?_
           obtain rfl:=Oi h
           exact Kc<|Kt<|Fp hf13
@[irreducible] noncomputable def i29:Nat→List Op1:=rg Tryz.prog 29 []
noncomputable def inst_Next_ir:IR:=(.seq (.reg false (i29 0)) (.seq (.reg false (i29 1)) .ret))
theorem inst_Next_cfn:cFn Tryz.prog 29=some (inst_Next_ir,[(.t 4)],10):=by kernel_rfl
def inst_Next_V (r:(Int)):V:=.s (.int .u16 r)
def inst_Next_C (r:(Int)):X→Fr→Hp→Prop:=FinL [(.t 4)] [] (inst_Next_V r) []
theorem inst_Next_ok (i_:api_Inst) (at_:Int) (r:(Int)) (h:inst_Next i_ at_=some r):Pure Tryz.prog 29 [.agg [.s (.int .i64 i_.Page),.s (.int .u8 i_.Code),.s (.int .i64 i_.Entry.Op),.s (.int .i64 i_.Entry.Mode),.s (.int .i64 i_.Entry.Reg),.s (.int .u8 i_.Post),.s (.int .u16 i_.Value),.s (.int .i64 i_.Len)],.s (.int .u16 at_)] (inst_Next_V r):=by
 refine CS inst_Next_cfn (inst_Next_C r) fun f hf => ?_
 unfold inst_Next at h
 refine Kq<|Kr<|En hf fun f1 hf1=>Kc<|Kq<|Kr<|En hf1 fun f2 hf2 => ?_
 obtain rfl:=Oi h
 exact Kc<|Kt<|Fp hf2
@[irreducible] noncomputable def i94:Nat→List Op1:=rg Tryz.prog 94 []
noncomputable def a94_0:IR:=(.seq (.seq (.reg false (i94 2)) (.cond (.t 6) (.reg false (i94 3)) .skip)) (.seq (.reg false (i94 4)) .ret))
noncomputable def lists_regs_ir:IR:=(.seq (.reg false (i94 0)) (.seq (.reg false (i94 1)) a94_0))
theorem lists_regs_cfn:cFn Tryz.prog 94=some (lists_regs_ir,[(.c 2 true 8)],9):=by kernel_rfl
def lists_regs_V (r:(A8_i64)):V:=.agg [.s (.int .i64 r.a0),.s (.int .i64 r.a1),.s (.int .i64 r.a2),.s (.int .i64 r.a3),.s (.int .i64 r.a4),.s (.int .i64 r.a5),.s (.int .i64 r.a6),.s (.int .i64 r.a7)]
def lists_regs_C (r:(A8_i64)):X→Fr→Hp→Prop:=FinL [(.c 2 true 8)] [] (lists_regs_V r) []
theorem lists_regs_ok (stack_:Int) (r:(A8_i64)) (h:lists_regs stack_=some r):Pure Tryz.prog 94 [.s (.int .i64 stack_)] (lists_regs_V r):=by
 refine CS lists_regs_cfn (lists_regs_C r) fun f hf => ?_
 unfold lists_regs at h
 refine Kq<|Kr<|En hf fun f1 hf1=>Kc<|Kq<|Kr<|En hf1 fun f2 hf2=>Kc<|Kq<|Kq<|Kr<|En hf2 fun f3 hf3=>Kc<|Kf hf3 h (fun hc1 h => ?_) fun hc1 h => ?_
 ·refine Kr<|En hf3 fun f4 hf4=>Kc<|Kq<|Kr<|En hf4 fun f5 hf5 => ?_
  obtain rfl:=Oi h
  exact Kc<|Kt<|Fp hf5
 ·refine Ks<|Kc<|Kq<|Kr<|En hf3 fun f4 hf4 => ?_
  obtain rfl:=Oi h
  exact Kc<|Kt<|Fp hf4
@[irreducible] noncomputable def i54:Nat→List Op1:=rg Tryz.prog 54 []
@[irreducible] noncomputable def j54:Nat→List An:=rgw Tryz.prog 54 []
noncomputable def a54_0:IR:=(.seq (.seq (.reg false (i54 6)) (.cond (.t 44) (.reg false (i54 7)) .skip)) (.regw (j54 0)))
noncomputable def a54_1:IR:=(.seq (.seq (.reg false (i54 4)) (.cond (.t 37) .skip (.exit 0))) (.seq (.block 1 (.seq (.reg false (i54 5)) a54_0)) (.reg false (i54 8))))
noncomputable def a54_2:IR:=(.seq (.seq (.reg false (i54 3)) (.block 0 (.loop a54_1))) (.seq (.reg false (i54 9)) .ret))
noncomputable def spinetref14_columns_ir:IR:=(.seq (.reg false (i54 0)) (.seq (.reg false (i54 1)) (.seq (.reg false (i54 2)) a54_2)))
theorem spinetref14_columns_cfn:cFn Tryz.prog 54=some (spinetref14_columns_ir,[(.t 0)],70):=by kernel_rfl
def spinetref14_columns_V (r:((List A5_i64))):V:=.sl false r.length (cat A5_i64.v r)
def spinetref14_columns_C (r:((List A5_i64))):X→Fr→Hp→Prop:=FinL [(.t 0)] [] (spinetref14_columns_V r) []
abbrev k54_0:List A2_i64:=[(A2_i64.mk (10) (128)),(A2_i64.mk (6) (129)),(A2_i64.mk (9) (130)),(A2_i64.mk (4) (132)),(A2_i64.mk (5) (133)),(A2_i64.mk (11) (134)),(A2_i64.mk (12) (135)),(A2_i64.mk (7) (136)),(A2_i64.mk (2) (137)),(A2_i64.mk (8) (138)),(A2_i64.mk (3) (139))]
theorem spinetref14_columns_ok (r:((List A5_i64))) (h:spinetref14_columns=some r):Pure Tryz.prog 54 [] (spinetref14_columns_V r):=by
 refine CS spinetref14_columns_cfn (spinetref14_columns_C r) fun f hf => ?_
 unfold spinetref14_columns at h
 refine Kq<|Kr<|En hf fun f1 hf1=>Kc<|Kq<|Kr<|En hf1 fun f2 hf2=>Kc<|Kq<|Kr<|En hf2 fun f3 hf3=>Kc<|Kq<|Kq<|Kr<|En hf3 fun f4 hf4=>Kc<|Kb ?_
 obtain ⟨o0,hx0,h⟩:=Bs h
 have hgo0:∀ (l_3:(List A5_i64)) (v_3:Nat) (m_3:Nat) (hn_3:l_3.length=m_3),l_3=o0→∀ f,FOk f [⟨0,[],.ref 0 0 0 0⟩,⟨1,[],.ref 1 v_3 0 m_3⟩]→kont Tryz.prog [] (spinetref14_columns_C r) ((.c (.seq (.reg false (i54 9)) .ret))::[]) .normal f [⟨0,.grow,5,cat A5_i64.v ([]:List A5_i64)⟩,⟨v_3,.grow,5,cat A5_i64.v l_3⟩,⟨0,.mem,1,cat A2_i64.v k54_0⟩]:=by
  intro l_3 v_3 m_3 hn_3 e f hf
  subst e
  refine Kc<|Kq<|Kr<|En hf fun f1 hf1 => ?_
  obtain rfl:=Oi h
  exact Kc<|Kt<|k_fin (fin_ret (.inl rfl) hf1 (vs:=[.ref 1 v_3 0 m_3]) (by kernel_rfl) (SettL.pure (FzL.whole (g:=A5_i64.v) (kd:=.grow) (l:=l_3) (by kernel_rfl) hn_3 (live_grow (by kernel_rfl)))))
 refine k_loop BIG<|loop_ind (fun n f L=>∃ (l_2:(List A5_i64)) (i_2:Int) (v_2:Nat) (m_2:Nat) (hn_2:l_2.length=m_2),spinetref14_columns_l0 n l_2 i_2=some o0∧FOk f [⟨0,[],.ref 0 0 0 0⟩,⟨1,[],.ref 1 v_2 0 m_2⟩,⟨2,[],.ptr 2 0 0⟩,⟨3,[],.s (.int .i64 i_2)⟩]∧L=[⟨0,.grow,5,cat A5_i64.v ([]:List A5_i64)⟩,⟨v_2,.grow,5,cat A5_i64.v l_2⟩,⟨0,.mem,1,cat A2_i64.v k54_0⟩]) ?_ ?_ BIG _ _ ⟨[(A5_i64.mk (27) (0) (1) (131) (2)),(A5_i64.mk (28) (1) (1) (140) (2)),(A5_i64.mk (24) (1) (1) (142) (2)),(A5_i64.mk (25) (1) (1) (143) (0)),(A5_i64.mk (26) (0) (1) (195) (2)),(A5_i64.mk (24) (0) (1) (204) (2)),(A5_i64.mk (25) (0) (1) (205) (0)),(A5_i64.mk (24) (3) (1) (206) (2)),(A5_i64.mk (25) (3) (1) (207) (0)),(A5_i64.mk (33) (0) (1) (141) (0)),(A5_i64.mk (28) (0) (2) (131) (2)),(A5_i64.mk (28) (2) (2) (140) (2)),(A5_i64.mk (24) (2) (2) (142) (2)),(A5_i64.mk (25) (2) (2) (143) (0)),(A5_i64.mk (24) (4) (2) (206) (2)),(A5_i64.mk (25) (4) (2) (207) (0)),(A5_i64.mk (28) (3) (3) (131) (2)),(A5_i64.mk (28) (4) (3) (140) (2))],(0),(0),(18),(by kernel_rfl),hx0,FOk_of [0,1,2,3] hf4 (by kernel_rfl),(by kernel_rfl)⟩
 ·rintro f L ⟨l_2,i_2,v_2,m_2,hn_2,h,_⟩
  cases (show (none:Option _)=some _ from h)
 ·rintro n0 R0 ih f L ⟨l_2,i_2,v_2,m_2,hn_2,h,hf,rfl⟩
  rw [spinetref14_columns_l0] at h
  refine Kq<|Kq<|Kr<|En hf fun f1 hf1=>Kc<|Kf hf1 h (fun hc1 h => ?_) fun hc1 h => ?_
  ·refine Ks<|Kc<|Kq<|Kb<|Kq<|Kr<|En hf1 fun f2 hf2=>Kc<|Kq<|Kq<|Kr<|Sg 1 hf2 fun f3 hf3 => ?_
   obtain ⟨c2,h⟩:=as_ok h
   refine Ad (.iaa 11 2 (.t 2) (.t 40)) (.ptr 2 0 (0+(i_2:Int).toNat*2)) hf3 (e_iaa (n:=11) (xv:=.ptr 2 0 0) (k:=.i64) (iv:=i_2) (p:=.ptr 2 0 (0+(i_2:Int).toNat*2)) (by kernel_rfl) (by kernel_rfl) (by kernel_rfl) (by kernel_rfl) c2) fun f4 hf4=>Sg 1 hf4 fun f5 hf5=>Ad (.load false 1 (.t 42)) (.s (.int .i64 (gt k54_0 i_2).a0)) hf5 (e_load_pe (g:=A2_i64.v) (l:=k54_0) (iv:=i_2) (kd:=.mem) (q:=1) (b:=2) (ver:=0) [0] (by kernel_rfl) (live_mem (by kernel_rfl)) (arr_h (l:=k54_0) c2 (by kernel_rfl)) (by kernel_rfl) (by kernel_rfl)) fun f6 hf6=>En hf6 fun f7 hf7=>Kc ?_
   have hj1:∀ (imm_3:Int),spinetref14_columns_j0 ((spinetref14_columns_l0 n0)) l_2 i_2 imm_3=some o0→∀ f,FOk f [⟨0,[],.ref 0 0 0 0⟩,⟨1,[],.ref 1 v_2 0 m_2⟩,⟨2,[],.ptr 2 0 0⟩,⟨3,[],.s (.int .i64 i_2)⟩,⟨4,[],.s (.int .i64 imm_3)⟩]→kont Tryz.prog [] (spinetref14_columns_C r) ((.c (.regw (j54 0)))::(.b 1)::(.c (.reg false (i54 8)))::(.l R0)::(.b 0)::(.c (.seq (.reg false (i54 9)) .ret))::[]) .normal f [⟨0,.grow,5,cat A5_i64.v ([]:List A5_i64)⟩,⟨v_2,.grow,5,cat A5_i64.v l_2⟩,⟨0,.mem,1,cat A2_i64.v k54_0⟩]:=by
    intro imm_3 h f hf
    unfold spinetref14_columns_j0 at h
    refine Kc<|Kw<|lw_free' (dst:=(some 45)) (op:=(.mv (.t 1))) (aft:=[]) (lo:=0) (hi:=1) (v:=.ref 1 v_2 0 m_2) (by kernel_rfl) (by kernel_rfl) hf (by kernel_rfl) (by kernel_rfl) trivial fun f1 hf1=>lw_tight 21 (by kernel_rfl)<|mops_seg [0,1,2,3,4,45,46] 1 hf1 (l':=[⟨0,[],.ref 0 0 0 0⟩,⟨1,[],.ref 1 v_2 0 m_2⟩,⟨2,[],.ptr 2 0 0⟩,⟨3,[],.s (.int .i64 i_2)⟩,⟨4,[],.s (.int .i64 imm_3)⟩,⟨45,[],.ref 1 v_2 0 m_2⟩,⟨46,[],.s (.int .i64 i_2)⟩]) (L':=[⟨0,.grow,5,cat A5_i64.v ([]:List A5_i64)⟩,⟨v_2,.grow,5,cat A5_i64.v l_2⟩,⟨0,.mem,1,cat A2_i64.v k54_0⟩]) (by kernel_rfl) fun f2 hf2 => ?_
    obtain ⟨c4,h⟩:=as_ok h
    refine Ad (.iaa 11 2 (.t 2) (.t 46)) (.ptr 2 0 (0+(i_2:Int).toNat*2)) hf2 (e_iaa (n:=11) (xv:=.ptr 2 0 0) (k:=.i64) (iv:=i_2) (p:=.ptr 2 0 (0+(i_2:Int).toNat*2)) (by kernel_rfl) (by kernel_rfl) (by kernel_rfl) (by kernel_rfl) c4) fun f3 hf3=>mops_seg [0,1,2,3,4,45,48] 1 hf3 (l':=[⟨0,[],.ref 0 0 0 0⟩,⟨1,[],.ref 1 v_2 0 m_2⟩,⟨2,[],.ptr 2 0 0⟩,⟨3,[],.s (.int .i64 i_2)⟩,⟨4,[],.s (.int .i64 imm_3)⟩,⟨45,[],.ref 1 v_2 0 m_2⟩,⟨48,[],.ptr 2 0 (0+(i_2:Int).toNat*2+0)⟩]) (L':=[⟨0,.grow,5,cat A5_i64.v ([]:List A5_i64)⟩,⟨v_2,.grow,5,cat A5_i64.v l_2⟩,⟨0,.mem,1,cat A2_i64.v k54_0⟩]) (by kernel_rfl) fun f4 hf4=>Ad (.load false 1 (.t 48)) (.s (.int .i64 (gt k54_0 i_2).a0)) hf4 (e_load_pe (g:=A2_i64.v) (l:=k54_0) (iv:=i_2) (kd:=.mem) (q:=1) (b:=2) (ver:=0) [0] (by kernel_rfl) (live_mem (by kernel_rfl)) (arr_h (l:=k54_0) c4 (by kernel_rfl)) (by kernel_rfl) (by kernel_rfl)) fun f5 hf5=>mops_seg [0,1,2,3,4,45,49,50] 1 hf5 (l':=[⟨0,[],.ref 0 0 0 0⟩,⟨1,[],.ref 1 v_2 0 m_2⟩,⟨2,[],.ptr 2 0 0⟩,⟨3,[],.s (.int .i64 i_2)⟩,⟨4,[],.s (.int .i64 imm_3)⟩,⟨45,[],.ref 1 v_2 0 m_2⟩,⟨49,[],.s (.int .i64 (gt k54_0 i_2).a0)⟩,⟨50,[],.s (.int .i64 i_2)⟩]) (L':=[⟨0,.grow,5,cat A5_i64.v ([]:List A5_i64)⟩,⟨v_2,.grow,5,cat A5_i64.v l_2⟩,⟨0,.mem,1,cat A2_i64.v k54_0⟩]) (by kernel_rfl) fun f6 hf6 => ?_
    obtain ⟨c5,h⟩:=as_ok h
    refine Ad (.iaa 11 2 (.t 2) (.t 50)) (.ptr 2 0 (0+(i_2:Int).toNat*2)) hf6 (e_iaa (n:=11) (xv:=.ptr 2 0 0) (k:=.i64) (iv:=i_2) (p:=.ptr 2 0 (0+(i_2:Int).toNat*2)) (by kernel_rfl) (by kernel_rfl) (by kernel_rfl) (by kernel_rfl) c5) fun f7 hf7=>mops_seg [0,1,2,3,4,45,49,52] 1 hf7 (l':=[⟨0,[],.ref 0 0 0 0⟩,⟨1,[],.ref 1 v_2 0 m_2⟩,⟨2,[],.ptr 2 0 0⟩,⟨3,[],.s (.int .i64 i_2)⟩,⟨4,[],.s (.int .i64 imm_3)⟩,⟨45,[],.ref 1 v_2 0 m_2⟩,⟨49,[],.s (.int .i64 (gt k54_0 i_2).a0)⟩,⟨52,[],.ptr 2 0 (0+(i_2:Int).toNat*2+1)⟩]) (L':=[⟨0,.grow,5,cat A5_i64.v ([]:List A5_i64)⟩,⟨v_2,.grow,5,cat A5_i64.v l_2⟩,⟨0,.mem,1,cat A2_i64.v k54_0⟩]) (by kernel_rfl) fun f8 hf8=>Ad (.load false 1 (.t 52)) (.s (.int .i64 (gt k54_0 i_2).a1)) hf8 (e_load_pe (g:=A2_i64.v) (l:=k54_0) (iv:=i_2) (kd:=.mem) (q:=1) (b:=2) (ver:=0) [1] (by kernel_rfl) (live_mem (by kernel_rfl)) (arr_h (l:=k54_0) c5 (by kernel_rfl)) (by kernel_rfl) (by kernel_rfl)) fun f9 hf9=>mops_seg [0,1,2,3,4,45,55,56] 3 hf9 (l':=[⟨0,[],.ref 0 0 0 0⟩,⟨1,[],.ref 1 v_2 0 m_2⟩,⟨2,[],.ptr 2 0 0⟩,⟨3,[],.s (.int .i64 i_2)⟩,⟨4,[],.s (.int .i64 imm_3)⟩,⟨45,[],.ref 1 v_2 0 m_2⟩,⟨55,[],.agg [.s (.int .i64 (gt k54_0 i_2).a0),.s (.int .i64 8),.s (.int .i64 1),.s (.int .i64 (gt k54_0 i_2).a1),.s (.int .i64 imm_3)]⟩,⟨56,[],.s (.int .i64 i_2)⟩]) (L':=[⟨0,.grow,5,cat A5_i64.v ([]:List A5_i64)⟩,⟨v_2,.grow,5,cat A5_i64.v l_2⟩,⟨0,.mem,1,cat A2_i64.v k54_0⟩]) (by kernel_rfl) fun f10 hf10 => ?_
    obtain ⟨c6,h⟩:=as_ok h
    refine Ad (.iaa 11 2 (.t 2) (.t 56)) (.ptr 2 0 (0+(i_2:Int).toNat*2)) hf10 (e_iaa (n:=11) (xv:=.ptr 2 0 0) (k:=.i64) (iv:=i_2) (p:=.ptr 2 0 (0+(i_2:Int).toNat*2)) (by kernel_rfl) (by kernel_rfl) (by kernel_rfl) (by kernel_rfl) c6) fun f11 hf11=>mops_seg [0,1,2,3,4,45,55,58] 1 hf11 (l':=[⟨0,[],.ref 0 0 0 0⟩,⟨1,[],.ref 1 v_2 0 m_2⟩,⟨2,[],.ptr 2 0 0⟩,⟨3,[],.s (.int .i64 i_2)⟩,⟨4,[],.s (.int .i64 imm_3)⟩,⟨45,[],.ref 1 v_2 0 m_2⟩,⟨55,[],.agg [.s (.int .i64 (gt k54_0 i_2).a0),.s (.int .i64 8),.s (.int .i64 1),.s (.int .i64 (gt k54_0 i_2).a1),.s (.int .i64 imm_3)]⟩,⟨58,[],.ptr 2 0 (0+(i_2:Int).toNat*2+0)⟩]) (L':=[⟨0,.grow,5,cat A5_i64.v ([]:List A5_i64)⟩,⟨v_2,.grow,5,cat A5_i64.v l_2⟩,⟨0,.mem,1,cat A2_i64.v k54_0⟩]) (by kernel_rfl) fun f12 hf12=>Ad (.load false 1 (.t 58)) (.s (.int .i64 (gt k54_0 i_2).a0)) hf12 (e_load_pe (g:=A2_i64.v) (l:=k54_0) (iv:=i_2) (kd:=.mem) (q:=1) (b:=2) (ver:=0) [0] (by kernel_rfl) (live_mem (by kernel_rfl)) (arr_h (l:=k54_0) c6 (by kernel_rfl)) (by kernel_rfl) (by kernel_rfl)) fun f13 hf13=>mops_seg [0,1,2,3,4,45,55,59,60] 1 hf13 (l':=[⟨0,[],.ref 0 0 0 0⟩,⟨1,[],.ref 1 v_2 0 m_2⟩,⟨2,[],.ptr 2 0 0⟩,⟨3,[],.s (.int .i64 i_2)⟩,⟨4,[],.s (.int .i64 imm_3)⟩,⟨45,[],.ref 1 v_2 0 m_2⟩,⟨55,[],.agg [.s (.int .i64 (gt k54_0 i_2).a0),.s (.int .i64 8),.s (.int .i64 1),.s (.int .i64 (gt k54_0 i_2).a1),.s (.int .i64 imm_3)]⟩,⟨59,[],.s (.int .i64 (gt k54_0 i_2).a0)⟩,⟨60,[],.s (.int .i64 i_2)⟩]) (L':=[⟨0,.grow,5,cat A5_i64.v ([]:List A5_i64)⟩,⟨v_2,.grow,5,cat A5_i64.v l_2⟩,⟨0,.mem,1,cat A2_i64.v k54_0⟩]) (by kernel_rfl) fun f14 hf14 => ?_
    obtain ⟨c7,h⟩:=as_ok h
    refine Ad (.iaa 11 2 (.t 2) (.t 60)) (.ptr 2 0 (0+(i_2:Int).toNat*2)) hf14 (e_iaa (n:=11) (xv:=.ptr 2 0 0) (k:=.i64) (iv:=i_2) (p:=.ptr 2 0 (0+(i_2:Int).toNat*2)) (by kernel_rfl) (by kernel_rfl) (by kernel_rfl) (by kernel_rfl) c7) fun f15 hf15=>mops_seg [0,1,2,3,4,45,55,59,62] 1 hf15 (l':=[⟨0,[],.ref 0 0 0 0⟩,⟨1,[],.ref 1 v_2 0 m_2⟩,⟨2,[],.ptr 2 0 0⟩,⟨3,[],.s (.int .i64 i_2)⟩,⟨4,[],.s (.int .i64 imm_3)⟩,⟨45,[],.ref 1 v_2 0 m_2⟩,⟨55,[],.agg [.s (.int .i64 (gt k54_0 i_2).a0),.s (.int .i64 8),.s (.int .i64 1),.s (.int .i64 (gt k54_0 i_2).a1),.s (.int .i64 imm_3)]⟩,⟨59,[],.s (.int .i64 (gt k54_0 i_2).a0)⟩,⟨62,[],.ptr 2 0 (0+(i_2:Int).toNat*2+1)⟩]) (L':=[⟨0,.grow,5,cat A5_i64.v ([]:List A5_i64)⟩,⟨v_2,.grow,5,cat A5_i64.v l_2⟩,⟨0,.mem,1,cat A2_i64.v k54_0⟩]) (by kernel_rfl) fun f16 hf16=>Ad (.load false 1 (.t 62)) (.s (.int .i64 (gt k54_0 i_2).a1)) hf16 (e_load_pe (g:=A2_i64.v) (l:=k54_0) (iv:=i_2) (kd:=.mem) (q:=1) (b:=2) (ver:=0) [1] (by kernel_rfl) (live_mem (by kernel_rfl)) (arr_h (l:=k54_0) c7 (by kernel_rfl)) (by kernel_rfl) (by kernel_rfl)) fun f17 hf17=>mops_end [0,1,2,3,45,55,66] hf17 (l':=[⟨0,[],.ref 0 0 0 0⟩,⟨1,[],.ref 1 v_2 0 m_2⟩,⟨2,[],.ptr 2 0 0⟩,⟨3,[],.s (.int .i64 i_2)⟩,⟨45,[],.ref 1 v_2 0 m_2⟩,⟨55,[],.agg [.s (.int .i64 (gt k54_0 i_2).a0),.s (.int .i64 8),.s (.int .i64 1),.s (.int .i64 (gt k54_0 i_2).a1),.s (.int .i64 imm_3)]⟩,⟨66,[],.agg [.s (.int .i64 (gt k54_0 i_2).a0),.s (.int .i64 9),.s (.int .i64 1),.s (.int .i64 (IntKind.wrap .i64 ((gt k54_0 i_2).a1+64))),.s (.int .i64 imm_3)]⟩]) (L':=[⟨0,.grow,5,cat A5_i64.v ([]:List A5_i64)⟩,⟨v_2,.grow,5,cat A5_i64.v l_2⟩,⟨0,.mem,1,cat A2_i64.v k54_0⟩]) (by kernel_rfl) fun f18 hf18 => ?_
    intro _
    refine lw_w (a:=⟨⟨(some 67),(.e (.bslo 5 2 [(.int .i64 0),(.int .i64 0),(.int .i64 0),(.int .i64 0),(.int .i64 0),(.int .i64 0),(.int .i64 0),(.int .i64 0),(.int .i64 0),(.int .i64 0)] [(0,(5,(.t 55))),(5,(5,(.t 66)))])),none,[10,21]⟩,true,0,1⟩) (by kernel_rfl) rfl rfl<|mops_end [0,1,2,3,45,67] hf18 (l':=[⟨0,[],.ref 0 0 0 0⟩,⟨1,[],.ref 1 v_2 0 m_2⟩,⟨2,[],.ptr 2 0 0⟩,⟨3,[],.s (.int .i64 i_2)⟩,⟨45,[],.ref 1 v_2 0 m_2⟩,⟨67,[],.ref 3 0 0 2⟩]) (L':=[⟨0,.grow,5,cat A5_i64.v ([]:List A5_i64)⟩,⟨v_2,.grow,5,cat A5_i64.v l_2⟩,⟨0,.mem,1,cat A2_i64.v k54_0⟩,⟨0,.grow,5,[.s (.int .i64 (gt k54_0 i_2).a0),.s (.int .i64 8),.s (.int .i64 1),.s (.int .i64 (gt k54_0 i_2).a1),.s (.int .i64 imm_3),.s (.int .i64 (gt k54_0 i_2).a0),.s (.int .i64 9),.s (.int .i64 1),.s (.int .i64 (IntKind.wrap .i64 ((gt k54_0 i_2).a1+64))),.s (.int .i64 imm_3)]⟩]) (by kernel_rfl) fun f19 hf19=>⟨(pend_ok hf (by kernel_rfl) (by kernel_rfl) trivial),?_⟩
    refine lw_w (a:=⟨⟨(some 68),(.e (.app 112 5 40 (.t 45) (.t 67))),none,[0,22]⟩,true,1,2⟩) (by kernel_rfl) rfl rfl ?_
    obtain ⟨c8,h⟩:=as_ok h
    refine Ad (.app 112 5 40 (.t 45) (.t 67)) (.ref 1 (v_2+1) 0 (l_2++[(A5_i64.mk ((gt k54_0 i_2).a0) (8) (1) ((gt k54_0 i_2).a1) imm_3),(A5_i64.mk ((gt k54_0 i_2).a0) (9) (1) (IntKind.wrap .i64 ((gt k54_0 i_2).a1+64)) imm_3)]).length) hf19 (e_app (g:=A5_i64.v) (l:=l_2) (l':=[(A5_i64.mk ((gt k54_0 i_2).a0) (8) (1) ((gt k54_0 i_2).a1) imm_3),(A5_i64.mk ((gt k54_0 i_2).a0) (9) (1) (IntKind.wrap .i64 ((gt k54_0 i_2).a1+64)) imm_3)]) (b:=1) (ver:=v_2) (n:=m_2) rfl (by kernel_rfl) hn_2 (live_grow (by kernel_rfl)) (sll_ev (v:=.ref 3 0 0 2) (by kernel_rfl) (sll_ref (B:=⟨0,.grow,5,cat A5_i64.v [(A5_i64.mk ((gt k54_0 i_2).a0) (8) (1) ((gt k54_0 i_2).a1) imm_3),(A5_i64.mk ((gt k54_0 i_2).a0) (9) (1) (IntKind.wrap .i64 ((gt k54_0 i_2).a1+64)) imm_3)]⟩) (by kernel_rfl) (live_grow (by kernel_rfl)))) (slc_ev (v:=.ref 3 0 0 2) (by kernel_rfl) (slc_ref (g:=A5_i64.v) (l:=[(A5_i64.mk ((gt k54_0 i_2).a0) (8) (1) ((gt k54_0 i_2).a1) imm_3),(A5_i64.mk ((gt k54_0 i_2).a0) (9) (1) (IntKind.wrap .i64 ((gt k54_0 i_2).a1+64)) imm_3)]) (kd:=.grow) (q:=5) (by kernel_rfl) (live_grow (by kernel_rfl)))) c8) fun f20 hf20=>mops_end [0,1,2,3,68] hf20 (l':=[⟨0,[],.ref 0 0 0 0⟩,⟨1,[],.ref 1 v_2 0 m_2⟩,⟨2,[],.ptr 2 0 0⟩,⟨3,[],.s (.int .i64 i_2)⟩,⟨68,[],.ref 1 (v_2+1) 0 (l_2++[(A5_i64.mk ((gt k54_0 i_2).a0) (8) (1) ((gt k54_0 i_2).a1) imm_3),(A5_i64.mk ((gt k54_0 i_2).a0) (9) (1) (IntKind.wrap .i64 ((gt k54_0 i_2).a1+64)) imm_3)]).length⟩]) (L':=[⟨0,.grow,5,cat A5_i64.v ([]:List A5_i64)⟩,⟨(v_2+1),.grow,5,cat A5_i64.v (l_2++[(A5_i64.mk ((gt k54_0 i_2).a0) (8) (1) ((gt k54_0 i_2).a1) imm_3),(A5_i64.mk ((gt k54_0 i_2).a0) (9) (1) (IntKind.wrap .i64 ((gt k54_0 i_2).a1+64)) imm_3)])⟩,⟨0,.mem,1,cat A2_i64.v k54_0⟩,⟨0,.grow,5,cat A5_i64.v [(A5_i64.mk ((gt k54_0 i_2).a0) (8) (1) ((gt k54_0 i_2).a1) imm_3),(A5_i64.mk ((gt k54_0 i_2).a0) (9) (1) (IntKind.wrap .i64 ((gt k54_0 i_2).a1+64)) imm_3)]⟩]) (by kernel_rfl) fun f21 hf21=>⟨(pend_no (by kernel_rfl) trivial),?_⟩
    refine lw_tight 1 (by kernel_rfl)<|mops_end [0,1,2,3] hf21 (l':=[⟨0,[],.ref 0 0 0 0⟩,⟨1,[],.ref 1 (v_2+1) 0 (l_2++[(A5_i64.mk ((gt k54_0 i_2).a0) (8) (1) ((gt k54_0 i_2).a1) imm_3),(A5_i64.mk ((gt k54_0 i_2).a0) (9) (1) (IntKind.wrap .i64 ((gt k54_0 i_2).a1+64)) imm_3)]).length⟩,⟨2,[],.ptr 2 0 0⟩,⟨3,[],.s (.int .i64 i_2)⟩]) (L':=[⟨0,.grow,5,cat A5_i64.v ([]:List A5_i64)⟩,⟨(v_2+1),.grow,5,cat A5_i64.v (l_2++[(A5_i64.mk ((gt k54_0 i_2).a0) (8) (1) ((gt k54_0 i_2).a1) imm_3),(A5_i64.mk ((gt k54_0 i_2).a0) (9) (1) (IntKind.wrap .i64 ((gt k54_0 i_2).a1+64)) imm_3)])⟩,⟨0,.mem,1,cat A2_i64.v k54_0⟩,⟨0,.grow,5,cat A5_i64.v [(A5_i64.mk ((gt k54_0 i_2).a0) (8) (1) ((gt k54_0 i_2).a1) imm_3),(A5_i64.mk ((gt k54_0 i_2).a0) (9) (1) (IntKind.wrap .i64 ((gt k54_0 i_2).a1+64)) imm_3)]⟩]) (by kernel_rfl) fun f22 hf22 => ?_
    intro _
    refine lw_end (by kernel_rfl)<|Kv<|Kc<|Kr<|En hf22 fun f23 hf23=>k_l' (vs_cut (l:=[⟨0,[],.ref 0 0 0 0⟩,⟨1,[],.ref 1 (v_2+1) 0 (l_2++[(A5_i64.mk ((gt k54_0 i_2).a0) (8) (1) ((gt k54_0 i_2).a1) imm_3),(A5_i64.mk ((gt k54_0 i_2).a0) (9) (1) (IntKind.wrap .i64 ((gt k54_0 i_2).a1+64)) imm_3)]).length⟩,⟨2,[],.ptr 2 0 0⟩,⟨3,[],.s (.int .i64 (IntKind.wrap .i64 (i_2+1)))⟩]) 3 (by kernel_rfl) (by kernel_rfl) (L':=[⟨0,.grow,5,cat A5_i64.v ([]:List A5_i64)⟩,⟨(v_2+1),.grow,5,cat A5_i64.v (l_2++[(A5_i64.mk ((gt k54_0 i_2).a0) (8) (1) ((gt k54_0 i_2).a1) imm_3),(A5_i64.mk ((gt k54_0 i_2).a0) (9) (1) (IntKind.wrap .i64 ((gt k54_0 i_2).a1+64)) imm_3)])⟩,⟨0,.mem,1,cat A2_i64.v k54_0⟩]) (by kernel_rfl) ⟨⟨rfl,rfl⟩,⟨rfl,rfl⟩,⟨rfl,rfl⟩,⟨rfl,rfl⟩,trivial⟩ ⟨.inr (.inr (statics_unders _ _ (cat_stat _))),.inr (.inr (statics_unders _ _ (cat_stat _))),.inr (.inr (statics_unders _ _ (cat_stat _))),trivial⟩ (Of [0,1,2,3] hf23) fun f hf => ?_)
    exact ih _ _ ⟨(l_2++[(A5_i64.mk ((gt k54_0 i_2).a0) (8) (1) ((gt k54_0 i_2).a1) imm_3),(A5_i64.mk ((gt k54_0 i_2).a0) (9) (1) (IntKind.wrap .i64 ((gt k54_0 i_2).a1+64)) imm_3)]),(IntKind.wrap .i64 (i_2+1)),(v_2+1),((l_2++[(A5_i64.mk ((gt k54_0 i_2).a0) (8) (1) ((gt k54_0 i_2).a1) imm_3),(A5_i64.mk ((gt k54_0 i_2).a0) (9) (1) (IntKind.wrap .i64 ((gt k54_0 i_2).a1+64)) imm_3)]).length),rfl,h,hf,rfl⟩
   refine Kf hf7 h (fun hc3 h => ?_) fun hc3 h => ?_
   ·exact Kr<|En hf7 fun f8 hf8=>Kh (hj1 (0) h _ (Of [0,1,2,3,4] hf8))
   ·exact Ks<|Kh (hj1 (1) h _ (Of [0,1,2,3,4] hf7))
  ·exact Kx<|Xc<|Xl<|Xb<|Kh (hgo0 l_2 v_2 m_2 hn_2 (Option.some.inj h) _ (Of [0,1] hf1))
@[irreducible] noncomputable def i55:Nat→List Op1:=rg Tryz.prog 55 []
noncomputable def spinetref14_add_ir:IR:=(.seq (.reg false (i55 0)) (.seq (.reg false (i55 1)) .ret))
theorem spinetref14_add_cfn:cFn Tryz.prog 55=some (spinetref14_add_ir,[(.t 12)],23):=by kernel_rfl
def spinetref14_add_V (ver_:Nat) (r:((List spinetref14_Known))):V:=.ref 0 (ver_+1) 0 r.length
def spinetref14_add_L (l_:(List spinetref14_Known)) (ver_:Nat):Hp:=[⟨ver_,.grow,5,cat spinetref14_Known.v l_⟩]
def spinetref14_add_C (l_:(List spinetref14_Known)) (ver_:Nat) (r:((List spinetref14_Known))):X→Fr→Hp→Prop:=FinL [(.t 12)] (spinetref14_add_L l_ ver_) (spinetref14_add_V ver_ r) [⟨(ver_+1),.grow,5,cat spinetref14_Known.v r⟩]
theorem spinetref14_add_ok (l_:(List spinetref14_Known)) (page_:Int) (code_:Int) (op_:Int) (mode_:Int) (reg_:Int) (ver_:Nat) (r:((List spinetref14_Known))) (h:spinetref14_add l_ page_ code_ op_ mode_ reg_=some r):ConL Tryz.prog 55 [.ref 0 ver_ 0 l_.length,.s (.int .i64 page_),.s (.int .i64 code_),.s (.int .i64 op_),.s (.int .i64 mode_),.s (.int .i64 reg_)] [⟨ver_,.grow,5,cat spinetref14_Known.v l_⟩] (spinetref14_add_V ver_ r) [⟨(ver_+1),.grow,5,cat spinetref14_Known.v r⟩]:=by
 refine CS spinetref14_add_cfn (spinetref14_add_C l_ ver_ r) fun f hf => ?_
 unfold spinetref14_add at h
 refine Kq<|Kr<|En hf fun f1 hf1=>Kc<|Kq<|Kr<|Sg 9 hf1 fun f2 hf2 => ?_
 obtain ⟨c1,h⟩:=as_ok h
 refine Ad (.app 75 5 40 (.t 13) (.t 21)) (.ref 0 (ver_+1) 0 (l_++[(spinetref14_Known.mk page_ code_ (api_Entry.mk op_ mode_ reg_))]).length) hf2 (e_app (g:=spinetref14_Known.v) (l:=l_) (l':=[(spinetref14_Known.mk page_ code_ (api_Entry.mk op_ mode_ reg_))]) (b:=0) (ver:=ver_) (n:=l_.length) rfl (by kernel_rfl) rfl (live_grow (by kernel_rfl)) (sll_ev (v:=.ref 2 0 0 1) (by kernel_rfl) (sll_ref (B:=⟨0,.grow,5,cat spinetref14_Known.v [(spinetref14_Known.mk page_ code_ (api_Entry.mk op_ mode_ reg_))]⟩) (by kernel_rfl) (live_grow (by kernel_rfl)))) (slc_ev (v:=.ref 2 0 0 1) (by kernel_rfl) (slc_ref (g:=spinetref14_Known.v) (l:=[(spinetref14_Known.mk page_ code_ (api_Entry.mk op_ mode_ reg_))]) (kd:=.grow) (q:=5) (by kernel_rfl) (live_grow (by kernel_rfl)))) c1) fun f3 hf3=>En hf3 fun f4 hf4 => ?_
 obtain rfl:=Oi h
 exact Kc<|Kt<|k_fin (fin_ret (.inl rfl) hf4 (vs:=[.ref 0 (ver_+1) 0 (l_++[(spinetref14_Known.mk page_ code_ (api_Entry.mk op_ mode_ reg_))]).length]) (by kernel_rfl) (SettL.cutb (L':=[⟨(ver_+1),.grow,5,cat spinetref14_Known.v (l_++[(spinetref14_Known.mk page_ code_ (api_Entry.mk op_ mode_ reg_))])⟩]) 1 (by kernel_rfl) (by kernel_rfl) (by kernel_rfl) ⟨.inr (.inr (statics_unders _ _ (cat_stat _))),trivial⟩ (FzL.und rfl (ref_len rfl))))
@[irreducible] noncomputable def i32:Nat→List Op1:=rg Tryz.prog 32 []
noncomputable def a32_0:IR:=(.seq (.seq (.reg false (i32 5)) (.cond (.t 19) (.reg false (i32 6)) .skip)) (.seq (.reg false (i32 7)) .ret))
noncomputable def a32_1:IR:=(.seq (.seq (.reg false (i32 12)) (.cond (.t 56) (.reg false (i32 13)) .skip)) (.seq (.reg false (i32 14)) .ret))
noncomputable def a32_2:IR:=(.seq (.reg false (i32 9)) (.seq (.seq (.reg false (i32 10)) (.cond (.t 53) (.reg false (i32 11)) .skip)) a32_1))
noncomputable def a32_3:IR:=(.seq (.seq (.reg false (i32 3)) (.cond (.t 15) (.seq (.reg false (i32 4)) a32_0) .skip)) (.seq (.reg false (i32 8)) a32_2))
noncomputable def spinetref15_Of_ir:IR:=(.seq (.reg false (i32 0)) (.seq (.reg false (i32 1)) (.seq (.reg false (i32 2)) a32_3)))
theorem spinetref15_Of_cfn:cFn Tryz.prog 32=some (spinetref15_Of_ir,[(.c 2 true 6)],74):=by kernel_rfl
def spinetref15_Of_V (r:(spinetref15_P)):V:=.agg [.s (.int .i64 r.Kind),.s (.int .i64 r.Reg),.s (.int .i64 r.Off),.s (.bool r.Indirect),.s (.int .i64 r.Bytes),.s (.int .i64 r.Idle)]
def spinetref15_Of_C (r:(spinetref15_P)):X→Fr→Hp→Prop:=FinL [(.c 2 true 6)] [] (spinetref15_Of_V r) []
abbrev k32_0:List A3_i64:=[(A3_i64.mk (7) (0) (3)),(A3_i64.mk (8) (0) (4)),(A3_i64.mk (9) (0) (3)),(A3_i64.mk (10) (0) (4)),(A3_i64.mk (0) (0) (1)),(A3_i64.mk (5) (0) (2)),(A3_i64.mk (4) (0) (2)),(A3_i64.mk (0) (0) (1)),(A3_i64.mk (2) (1) (1)),(A3_i64.mk (3) (2) (3)),(A3_i64.mk (0) (0) (1)),(A3_i64.mk (6) (0) (5)),(A3_i64.mk (11) (1) (1)),(A3_i64.mk (12) (2) (4)),(A3_i64.mk (0) (0) (1)),(A3_i64.mk (13) (2) (1))]
abbrev k32_1:List V:=[.s (.int .i64 0),.s (.int .i64 0),.s (.int .i64 0),.s (.bool false),.s (.int .i64 0),.s (.int .i64 0)]
theorem spinetref15_Of_ok (b_:Int) (r:(spinetref15_P)) (h:spinetref15_Of b_=some r):Pure Tryz.prog 32 [.s (.int .u8 b_)] (spinetref15_Of_V r):=by
 refine CS spinetref15_Of_cfn (spinetref15_Of_C r) fun f hf => ?_
 unfold spinetref15_Of at h
 refine Kq<|Kr<|En hf fun f1 hf1=>Kc<|Kq<|Kr<|En hf1 fun f2 hf2=>Kc<|Kq<|Kr<|En hf2 fun f3 hf3=>Kc<|Kq<|Kq<|Kr<|En hf3 fun f4 hf4=>Kc<|Kf hf4 h (fun hc1 h => ?_) fun hc1 h => ?_
 ·refine Kq<|Kr<|En hf4 fun f5 hf5=>Kc<|Kq<|Kq<|Kr<|En hf5 fun f6 hf6=>Kc ?_
  have hj1:∀ (off_:Int),spinetref15_Of_j0 b_ off_=some r→∀ f,FOk f [⟨2,[],.ptr 0 0 0⟩,⟨3,[],.s (.int .i64 (IntKind.wrap .i64 b_))⟩,⟨4,[],.s (.int .i64 (IntKind.wrap .i64 ((Int.tmod (IntKind.wrap .i64 (Int.tdiv (IntKind.wrap .i64 b_) 32)) 4)+1)))⟩,⟨5,[],.s (.int .i64 off_)⟩]→kont Tryz.prog [] (spinetref15_Of_C r) ((.c (.seq (.reg false (i32 7)) .ret))::(.c (.seq (.reg false (i32 8)) a32_2))::[]) .normal f [⟨0,.mem,1,k32_1⟩]:=by
   intro off_ h f hf
   unfold spinetref15_Of_j0 at h
   refine Kc<|Kq<|Kr<|En hf fun f1 hf1 => ?_
   obtain rfl:=Oi h
   exact Kc<|Kt<|Xc<|Fp hf1
  refine Kf hf6 h (fun hc2 h => ?_) fun hc2 h => ?_
  ·exact Kr<|En hf6 fun f7 hf7=>Kh (hj1 (IntKind.wrap .i64 ((Int.tmod (IntKind.wrap .i64 b_) 32)+65504)) h _ (Of [2,3,4,5] hf7))
  ·exact Ks<|Kh (hj1 (Int.tmod (IntKind.wrap .i64 b_) 32) h _ (Of [2,3,4,5] hf6))
 ·refine Ks<|Kc<|Kq<|Kr<|En hf4 fun f5 hf5=>Kc<|Kq<|Kr<|Sg 2 hf5 fun f6 hf6 => ?_
  obtain ⟨c3,h⟩:=as_ok h
  refine Ad (.iaa 16 3 (.t 6) (.t 43)) (.ptr 1 0 (0+((Int.tmod (IntKind.wrap .i64 b_) 16):Int).toNat*3)) hf6 (e_iaa (n:=16) (xv:=.ptr 1 0 0) (k:=.i64) (iv:=(Int.tmod (IntKind.wrap .i64 b_) 16)) (p:=.ptr 1 0 (0+((Int.tmod (IntKind.wrap .i64 b_) 16):Int).toNat*3)) (by kernel_rfl) (by kernel_rfl) (by kernel_rfl) (by kernel_rfl) c3) fun f7 hf7=>Ad (.load true 3 (.t 44)) (.agg [.s (.int .i64 (gt k32_0 (Int.tmod (IntKind.wrap .i64 b_) 16)).a0),.s (.int .i64 (gt k32_0 (Int.tmod (IntKind.wrap .i64 b_) 16)).a1),.s (.int .i64 (gt k32_0 (Int.tmod (IntKind.wrap .i64 b_) 16)).a2)]) hf7 (e_load_pe (g:=A3_i64.v) (l:=k32_0) (iv:=(Int.tmod (IntKind.wrap .i64 b_) 16)) (kd:=.mem) (q:=1) (b:=1) (ver:=0) [] (by kernel_rfl) (live_mem (by kernel_rfl)) (arr_h (l:=k32_0) c3 (by kernel_rfl)) (by kernel_rfl) (by kernel_rfl)) fun f8 hf8=>mops_end [2,3,4,7] hf8 (l':=[⟨2,[],.ptr 0 0 0⟩,⟨3,[],.s (.int .i64 (IntKind.wrap .i64 b_))⟩,⟨4,[],.s (.int .i64 (IntKind.wrap .i64 ((Int.tmod (IntKind.wrap .i64 (Int.tdiv (IntKind.wrap .i64 b_) 32)) 4)+1)))⟩,⟨7,[],.ptr 2 0 0⟩]) (L':=[⟨0,.mem,1,k32_1⟩,⟨0,.mem,1,cat A3_i64.v k32_0⟩,⟨0,.mem,1,[.s (.int .i64 (gt k32_0 (Int.tmod (IntKind.wrap .i64 b_) 16)).a0),.s (.int .i64 (gt k32_0 (Int.tmod (IntKind.wrap .i64 b_) 16)).a1),.s (.int .i64 (gt k32_0 (Int.tmod (IntKind.wrap .i64 b_) 16)).a2)]⟩]) (by kernel_rfl) fun f9 hf9=>Kc<|Kq<|Kq<|Kr<|En hf9 fun f10 hf10=>Kc ?_
  have hj2:∀ (reg_:Int),spinetref15_Of_j2 b_ reg_=some r→∀ f,FOk f [⟨2,[],.ptr 0 0 0⟩,⟨3,[],.s (.int .i64 (IntKind.wrap .i64 b_))⟩,⟨4,[],.s (.int .i64 reg_)⟩,⟨7,[],.ptr 2 0 0⟩]→kont Tryz.prog [] (spinetref15_Of_C r) ((.c a32_1)::[]) .normal f [⟨0,.mem,1,k32_1⟩,⟨0,.mem,1,cat A3_i64.v k32_0⟩,⟨0,.mem,1,[.s (.int .i64 (gt k32_0 (Int.tmod (IntKind.wrap .i64 b_) 16)).a0),.s (.int .i64 (gt k32_0 (Int.tmod (IntKind.wrap .i64 b_) 16)).a1),.s (.int .i64 (gt k32_0 (Int.tmod (IntKind.wrap .i64 b_) 16)).a2)]⟩]:=by
   intro reg_ h f hf
   unfold spinetref15_Of_j2 at h
   refine Kc<|Kq<|Kq<|Kr<|En hf fun f1 hf1=>Kc ?_
   have hj3:∀ (reg_1:Int),spinetref15_Of_j1 b_ reg_1=some r→∀ f,FOk f [⟨2,[],.ptr 0 0 0⟩,⟨3,[],.s (.int .i64 (IntKind.wrap .i64 b_))⟩,⟨4,[],.s (.int .i64 reg_1)⟩,⟨7,[],.ptr 2 0 0⟩]→kont Tryz.prog [] (spinetref15_Of_C r) ((.c (.seq (.reg false (i32 14)) .ret))::[]) .normal f [⟨0,.mem,1,k32_1⟩,⟨0,.mem,1,cat A3_i64.v k32_0⟩,⟨0,.mem,1,[.s (.int .i64 (gt k32_0 (Int.tmod (IntKind.wrap .i64 b_) 16)).a0),.s (.int .i64 (gt k32_0 (Int.tmod (IntKind.wrap .i64 b_) 16)).a1),.s (.int .i64 (gt k32_0 (Int.tmod (IntKind.wrap .i64 b_) 16)).a2)]⟩]:=by
    intro reg_1 h f hf
    unfold spinetref15_Of_j1 at h
    refine Kc<|Kq<|Kr<|En hf fun f1 hf1 => ?_
    obtain rfl:=Oi h
    exact Kc<|Kt<|Fp hf1
   refine Kf hf1 h (fun hc5 h => ?_) fun hc5 h => ?_
   ·exact Kr<|En hf1 fun f2 hf2=>Kh (hj3 (0) h _ (Of [2,3,4,7] hf2))
   ·exact Ks<|Kh (hj3 reg_ h _ (Of [2,3,4,7] hf1))
  refine Kf hf10 h (fun hc4 h => ?_) fun hc4 h => ?_
  ·exact Kr<|En hf10 fun f11 hf11=>Kh (hj2 (5) h _ (Of [2,3,4,7] hf11))
  ·exact Ks<|Kh (hj2 (IntKind.wrap .i64 ((Int.tmod (IntKind.wrap .i64 (Int.tdiv (IntKind.wrap .i64 b_) 32)) 4)+1)) h _ (Of [2,3,4,7] hf10))
@[irreducible] noncomputable def i16:Nat→List Op1:=rg Tryz.prog 16 []
noncomputable def a16_0:IR:=(.seq (.seq (.reg false (i16 1)) (.cond (.t 4) (.seq (.reg false (i16 2)) .ret) .skip)) (.seq (.reg false (i16 3)) .ret))
noncomputable def spinetref18_Sign_ir:IR:=(.seq (.reg false (i16 0)) a16_0)
theorem spinetref18_Sign_cfn:cFn Tryz.prog 16=some (spinetref18_Sign_ir,[(.t 2)],10):=by kernel_rfl
def spinetref18_Sign_V (r:(Int)):V:=.s (.int .u16 r)
def spinetref18_Sign_C (r:(Int)):X→Fr→Hp→Prop:=FinL [(.t 2)] [] (spinetref18_Sign_V r) []
theorem spinetref18_Sign_ok (b_:Int) (r:(Int)) (h:spinetref18_Sign b_=some r):Pure Tryz.prog 16 [.s (.int .u8 b_)] (spinetref18_Sign_V r):=by
 refine CS spinetref18_Sign_cfn (spinetref18_Sign_C r) fun f hf => ?_
 unfold spinetref18_Sign at h
 refine Kq<|Kr<|En hf fun f1 hf1=>Kc<|Kq<|Kq<|Kr<|En hf1 fun f2 hf2=>Kc<|Kf hf2 h (fun hc1 h => ?_) fun hc1 h => ?_
 ·refine Kq<|Kr<|En hf2 fun f3 hf3 => ?_
  obtain rfl:=Oi h
  exact Kc<|Kt<|Xc<|Fp hf3
 ·refine Ks<|Kc<|Kq<|Kr<|En hf2 fun f3 hf3 => ?_
  obtain rfl:=Oi h
  exact Kc<|Kt<|Fp hf3
@[irreducible] noncomputable def i8:Nat→List Op1:=rg Tryz.prog 8 []
noncomputable def a8_0:IR:=(.seq (.seq (.reg false (i8 2)) (.cond (.t 20) .skip (.exit 0))) (.block 1 (.seq (.reg false (i8 3)) (.seq (.reg false (i8 4)) (.reg false (i8 5))))))
noncomputable def spinetref02_Digits_ir:IR:=(.seq (.reg false (i8 0)) (.seq (.reg false (i8 1)) (.seq (.block 0 (.loop a8_0)) (.seq (.reg false (i8 6)) .ret))))
theorem spinetref02_Digits_cfn:cFn Tryz.prog 8=some (spinetref02_Digits_ir,[(.t 6)],35):=by kernel_rfl
def spinetref02_Digits_V (r:(ByteArray)):V:=.s (.string r)
def spinetref02_Digits_C (r:(ByteArray)):X→Fr→Hp→Prop:=FinL [(.t 6)] [] (spinetref02_Digits_V r) []
theorem spinetref02_Digits_ok (n_:Int) (base_:Int) (width_:Int) (r:(ByteArray)) (h:spinetref02_Digits n_ base_ width_=some r):Pure Tryz.prog 8 [.s (.int .u64 n_),.s (.int .u64 base_),.s (.int .i64 width_)] (spinetref02_Digits_V r):=by
 refine CS spinetref02_Digits_cfn (spinetref02_Digits_C r) fun f hf => ?_
 unfold spinetref02_Digits at h
 refine Kq<|Kr<|En hf fun f1 hf1=>Kc<|Kq<|Kr<|En hf1 fun f2 hf2=>Kc<|Kq<|Kb ?_
 obtain ⟨o0,hx0,h⟩:=Bs h
 have hgo0:∀ (s_2:ByteArray),s_2=o0→∀ f,FOk f [⟨6,[],.s (.string (⟨#[]⟩:ByteArray))⟩,⟨7,[],.s (.string s_2)⟩]→kont Tryz.prog [] (spinetref02_Digits_C r) ((.c (.seq (.reg false (i8 6)) .ret))::[]) .normal f []:=by
  intro s_2 e f hf
  subst e
  refine Kc<|Kq<|Kr<|En hf fun f1 hf1 => ?_
  obtain rfl:=Oi h
  exact Kc<|Kt<|Fp hf1
 refine k_loop BIG<|loop_ind (fun n f L=>∃ (t_1:Int) (s_1:ByteArray),spinetref02_Digits_l0 base_ width_ n t_1 s_1=some o0∧FOk f [⟨0,[],.s (.int .u64 t_1)⟩,⟨1,[],.s (.int .u64 base_)⟩,⟨2,[],.s (.int .i64 width_)⟩,⟨6,[],.s (.string (⟨#[]⟩:ByteArray))⟩,⟨7,[],.s (.string s_1)⟩]∧L=[]) ?_ ?_ BIG _ _ ⟨n_,(⟨#[]⟩:ByteArray),hx0,FOk_of [0,1,2,6,7] hf2 (by kernel_rfl),(by kernel_rfl)⟩
 ·rintro f L ⟨t_1,s_1,h,_⟩
  cases (show (none:Option _)=some _ from h)
 ·rintro n0 R0 ih f L ⟨t_1,s_1,h,hf,rfl⟩
  rw [spinetref02_Digits_l0] at h
  refine Kq<|Kq<|Kr<|En hf fun f1 hf1=>Kc<|Kf hf1 h (fun hc1 h => ?_) fun hc1 h => ?_
  ·refine Ks<|Kc<|Kb<|Kq<|Kr<|Sg 2 hf1 fun f2 hf2 => ?_
   obtain ⟨c2,h⟩:=as_ok h
   refine Ad (.bin .rem (.t 21) (.t 22)) (.s (.int .u64 (Int.tmod t_1 base_))) hf2 (e_rem (k:=.u64) (iv:=t_1) (jv:=base_) (by kernel_rfl) (by kernel_rfl) c2) fun f3 hf3=>En hf3 fun f4 hf4=>Kc<|Kq<|Kr<|Sg 3 hf4 fun f5 hf5 => ?_
   obtain ⟨c3,h⟩:=as_ok h
   refine Ad (.sstr (.k (.string ⟨#[48,49,50,51,52,53,54,55,56,57,65,66,67,68,69,70]⟩)) (some (.t 25)) (some (.t 27))) (.s (.string ((⟨#[48,49,50,51,52,53,54,55,56,57,65,66,67,68,69,70]⟩:ByteArray).extract ((IntKind.wrap .i64 (Int.tmod t_1 base_)):Int).toNat ((IntKind.wrap .i64 ((IntKind.wrap .i64 (Int.tmod t_1 base_))+1)):Int).toNat))) hf5 (e_sstr (t:=(⟨#[48,49,50,51,52,53,54,55,56,57,65,66,67,68,69,70]⟩:ByteArray)) (by kernel_rfl) (b_ss (k:=.i64) (k':=.i64) (iv:=(IntKind.wrap .i64 (Int.tmod t_1 base_))) (jv:=(IntKind.wrap .i64 ((IntKind.wrap .i64 (Int.tmod t_1 base_))+1))) (by kernel_rfl) (by kernel_rfl) c3)) fun f6 hf6=>Sg 1 hf6 fun f7 hf7 => ?_
   obtain ⟨c4,h⟩:=as_ok h
   refine Ad (.bin .add (.t 28) (.t 29)) (.s (.string (((⟨#[48,49,50,51,52,53,54,55,56,57,65,66,67,68,69,70]⟩:ByteArray).extract ((IntKind.wrap .i64 (Int.tmod t_1 base_)):Int).toNat ((IntKind.wrap .i64 ((IntKind.wrap .i64 (Int.tmod t_1 base_))+1)):Int).toNat)++s_1))) hf7 (e_sadd (t:=((⟨#[48,49,50,51,52,53,54,55,56,57,65,66,67,68,69,70]⟩:ByteArray).extract ((IntKind.wrap .i64 (Int.tmod t_1 base_)):Int).toNat ((IntKind.wrap .i64 ((IntKind.wrap .i64 (Int.tmod t_1 base_))+1)):Int).toNat)) (t':=s_1) (by kernel_rfl) (by kernel_rfl) c4) fun f8 hf8=>En hf8 fun f9 hf9=>Kc<|Kr<|Sg 2 hf9 fun f10 hf10 => ?_
   obtain ⟨c5,h⟩:=as_ok h
   exact Ad (.bin .quo (.t 31) (.t 32)) (.s (.int .u64 (IntKind.wrap .u64 (Int.tdiv t_1 base_)))) hf10 (e_quo (k:=.u64) (iv:=t_1) (jv:=base_) (by kernel_rfl) (by kernel_rfl) c5) fun f11 hf11=>En hf11 fun f12 hf12=>Kv<|Kl<|ih _ _ ⟨(IntKind.wrap .u64 (Int.tdiv t_1 base_)),(((⟨#[48,49,50,51,52,53,54,55,56,57,65,66,67,68,69,70]⟩:ByteArray).extract ((IntKind.wrap .i64 (Int.tmod t_1 base_)):Int).toNat ((IntKind.wrap .i64 ((IntKind.wrap .i64 (Int.tmod t_1 base_))+1)):Int).toNat)++s_1),h,FOk_of [0,1,2,6,7] hf12 (by kernel_rfl),(by kernel_rfl)⟩
  ·exact Kx<|Xc<|Xl<|Xb<|Kh (hgo0 s_1 (Option.some.inj h) _ (Of [6,7] hf1))
@[irreducible] noncomputable def i17:Nat→List Op1:=rg Tryz.prog 17 []
noncomputable def a17_0:IR:=(.seq (.seq (.reg false (i17 6)) (.cond (.t 46) (.seq (.reg false (i17 7)) .ret) .skip)) (.seq (.reg false (i17 8)) .ret))
noncomputable def a17_1:IR:=(.seq (.seq (.reg false (i17 3)) (.cond (.t 17) (.seq (.reg false (i17 4)) .ret) .skip)) (.seq (.reg true (i17 5)) a17_0))
noncomputable def a17_2:IR:=(.seq (.seq (.reg false (i17 1)) (.cond (.t 8) (.seq (.reg false (i17 2)) .ret) .skip)) a17_1)
noncomputable def spinetref42_Sure_ir:IR:=(.seq (.reg false (i17 0)) a17_2)
theorem spinetref42_Sure_cfn:cFn Tryz.prog 17=some (spinetref42_Sure_ir,[(.t 2)],54):=by kernel_rfl
def spinetref42_Sure_V (r:(Bool)):V:=.s (.bool r)
def spinetref42_Sure_C (r:(Bool)):X→Fr→Hp→Prop:=FinL [(.t 2)] [] (spinetref42_Sure_V r) []
theorem spinetref42_Sure_ok (i_:api_Inst) (r:(Bool)) (h:spinetref42_Sure i_=some r):Pure Tryz.prog 17 [.agg [.s (.int .i64 i_.Page),.s (.int .u8 i_.Code),.s (.int .i64 i_.Entry.Op),.s (.int .i64 i_.Entry.Mode),.s (.int .i64 i_.Entry.Reg),.s (.int .u8 i_.Post),.s (.int .u16 i_.Value),.s (.int .i64 i_.Len)]] (spinetref42_Sure_V r):=by
 refine CS spinetref42_Sure_cfn (spinetref42_Sure_C r) fun f hf => ?_
 unfold spinetref42_Sure at h
 refine Kq<|Kr<|En hf fun f1 hf1=>Kc<|Kq<|Kq<|Kr<|En hf1 fun f2 hf2=>Kc<|Kf hf2 h (fun hc1 h => ?_) fun hc1 h => ?_
 ·refine Kq<|Kr<|En hf2 fun f3 hf3 => ?_
  obtain rfl:=Oi h
  exact Kc<|Kt<|Xc<|Fp hf3
 ·refine Ks<|Kc<|Kq<|Kq<|Kr<|En hf2 fun f3 hf3=>Kc<|Kf hf3 h (fun hc2 h => ?_) fun hc2 h => ?_
  ·refine Kq<|Kr<|En hf3 fun f4 hf4 => ?_
   obtain rfl:=Oi h
   exact Kc<|Kt<|Xc<|Fp hf4
  ·refine Ks<|Kc<|Kq<|Kd<|En hf3 fun f4 hf4=>Kc<|Kq<|Kq<|Kr<|mops_end [1,2,3,46] hf4 (l':=[⟨1,[],.ptr 0 0 0⟩,⟨2,[],.s (.bool false)⟩,⟨3,[],.s (.int .u8 (Int.tmod i_.Post 16))⟩,⟨46,[],.s (.bool (((((Int.tmod i_.Post 16) == 7)||((Int.tmod i_.Post 16) == 10))||((Int.tmod i_.Post 16) == 14))||((((Int.tmod i_.Post 16) == 12)||((Int.tmod i_.Post 16) == 13))&&(decide (0 < (Int.tmod (IntKind.wrap .u8 (Int.tdiv i_.Post 32)) 4))))))⟩]) (L':=[⟨0,.mem,1,[.s (.int .i64 i_.Page),.s (.int .u8 i_.Code),.s (.int .i64 i_.Entry.Op),.s (.int .i64 i_.Entry.Mode),.s (.int .i64 i_.Entry.Reg),.s (.int .u8 i_.Post),.s (.int .u16 i_.Value),.s (.int .i64 i_.Len)]⟩]) (by kernel_rfl) fun f5 hf5=>Kc<|Kf hf5 h (fun hc3 h => ?_) fun hc3 h => ?_
   ·refine Kq<|Kr<|En hf5 fun f6 hf6 => ?_
    obtain rfl:=Oi h
    exact Kc<|Kt<|Xc<|Fp hf6
   ·refine Ks<|Kc<|Kq<|Kr<|En hf5 fun f6 hf6 => ?_
    obtain rfl:=Oi h
    exact Kc<|Kt<|Fp hf6
@[irreducible] noncomputable def i33:Nat→List Op1:=rg Tryz.prog 33 []
noncomputable def a33_0:IR:=(.seq (.seq (.reg false (i33 2)) (.cond (.t 10) (.seq (.reg false (i33 3)) .ret) .skip)) (.seq (.reg false (i33 4)) .ret))
noncomputable def spinetref13_Reg_ir:IR:=(.seq (.reg false (i33 0)) (.seq (.reg false (i33 1)) a33_0))
theorem spinetref13_Reg_cfn:cFn Tryz.prog 33=some (spinetref13_Reg_ir,[(.t 2)],14):=by kernel_rfl
def spinetref13_Reg_V (r:(ByteArray)):V:=.s (.string r)
def spinetref13_Reg_C (r:(ByteArray)):X→Fr→Hp→Prop:=FinL [(.t 2)] [] (spinetref13_Reg_V r) []
abbrev k33_0:List ByteArray:=[(⟨#[68]⟩:ByteArray),(⟨#[88]⟩:ByteArray),(⟨#[89]⟩:ByteArray),(⟨#[85]⟩:ByteArray),(⟨#[83]⟩:ByteArray),(⟨#[80,67]⟩:ByteArray),(⟨#[]⟩:ByteArray),(⟨#[]⟩:ByteArray),(⟨#[65]⟩:ByteArray),(⟨#[66]⟩:ByteArray),(⟨#[67,67]⟩:ByteArray),(⟨#[68,80]⟩:ByteArray)]
theorem spinetref13_Reg_ok (code_:Int) (r:(ByteArray)) (h:spinetref13_Reg code_=some r):Pure Tryz.prog 33 [.s (.int .i64 code_)] (spinetref13_Reg_V r):=by
 refine CS spinetref13_Reg_cfn (spinetref13_Reg_C r) fun f hf => ?_
 unfold spinetref13_Reg at h
 refine Kq<|Kr<|En hf fun f1 hf1=>Kc<|Kq<|Kr<|En hf1 fun f2 hf2=>Kc<|Kq<|Kq<|Kr<|En hf2 fun f3 hf3=>Kc<|Kf hf3 h (fun hc1 h => ?_) fun hc1 h => ?_
 ·refine Kq<|Kr<|En hf3 fun f4 hf4 => ?_
  obtain rfl:=Oi h
  exact Kc<|Kt<|Xc<|Fp hf4
 ·refine Ks<|Kc<|Kq<|Kr<|Sg 1 hf3 fun f4 hf4 => ?_
  obtain ⟨c2,h⟩:=as_ok h
  refine Ad (.iaa 12 1 (.t 3) (.t 11)) (.ptr 0 0 (0+(code_:Int).toNat*1)) hf4 (e_iaa (n:=12) (xv:=.ptr 0 0 0) (k:=.i64) (iv:=code_) (p:=.ptr 0 0 (0+(code_:Int).toNat*1)) (by kernel_rfl) (by kernel_rfl) (by kernel_rfl) (by kernel_rfl) c2) fun f5 hf5=>Ad (.load false 1 (.t 12)) (.s (.string (gt k33_0 code_))) hf5 (e_load_pe (g:=nS) (l:=k33_0) (iv:=code_) (kd:=.mem) (q:=1) (b:=0) (ver:=0) [] (by kernel_rfl) (live_mem (by kernel_rfl)) (arr_h (l:=k33_0) c2 (by kernel_rfl)) (by kernel_rfl) (by kernel_rfl)) fun f6 hf6=>En hf6 fun f7 hf7 => ?_
  obtain rfl:=Oi h
  exact Kc<|Kt<|Fp hf7
@[irreducible] noncomputable def i35:Nat→List Op1:=rg Tryz.prog 35 []
noncomputable def a35_0:IR:=(.seq (.seq (.reg false (i35 2)) (.cond (.t 11) (.seq (.reg false (i35 3)) .ret) .skip)) (.seq (.reg false (i35 4)) .ret))
noncomputable def spinetref17_Code_ir:IR:=(.seq (.reg false (i35 0)) (.seq (.reg false (i35 1)) a35_0))
theorem spinetref17_Code_cfn:cFn Tryz.prog 35=some (spinetref17_Code_ir,[(.t 4)],15):=by kernel_rfl
def spinetref17_Code_V (r:(Int)):V:=.s (.int .i64 r)
def spinetref17_Code_C (r:(Int)):X→Fr→Hp→Prop:=FinL [(.t 4)] [] (spinetref17_Code_V r) []
theorem spinetref17_Code_ok (place_:Int) (user_:Bool) (r:(Int)) (h:spinetref17_Code place_ user_=some r):Pure Tryz.prog 35 [.s (.int .i64 place_),.s (.bool user_)] (spinetref17_Code_V r):=by
 refine CS spinetref17_Code_cfn (spinetref17_Code_C r) fun f hf => ?_
 unfold spinetref17_Code at h
 refine Kq<|Kr<|En hf fun f1 hf1=>Kc<|Kq<|Kr<|En hf1 fun f2 hf2=>Kc<|Kq<|Kq<|Kr<|En hf2 fun f3 hf3=>Kc<|Kf hf3 h (fun hc1 h => ?_) fun hc1 h => ?_
 ·refine Kq<|Kr<|En hf3 fun f4 hf4 => ?_
  obtain rfl:=Oi h
  exact Kc<|Kt<|Xc<|Fp hf4
 ·refine Ks<|Kc<|Kq<|Kr<|Sg 1 hf3 fun f4 hf4 => ?_
  obtain ⟨c2,h⟩:=as_ok h
  refine Ad (.iaa 8 1 (.t 5) (.t 12)) (.ptr 0 0 (0+(place_:Int).toNat*1)) hf4 (e_iaa (n:=8) (xv:=.ptr 0 0 0) (k:=.i64) (iv:=place_) (p:=.ptr 0 0 (0+(place_:Int).toNat*1)) (by kernel_rfl) (by kernel_rfl) (by kernel_rfl) (by kernel_rfl) c2) fun f5 hf5=>Ad (.load false 1 (.t 13)) (.s (.int .i64 (gt [10,8,9,11,1,2,3,5] place_))) hf5 (e_load_pe (g:=(nI .i64)) (l:=[10,8,9,11,1,2,3,5]) (iv:=place_) (kd:=.mem) (q:=1) (b:=0) (ver:=0) [] (by kernel_rfl) (live_mem (by kernel_rfl)) (arr_h (l:=[10,8,9,11,1,2,3,5]) c2 (by kernel_rfl)) (by kernel_rfl) (by kernel_rfl)) fun f6 hf6=>En hf6 fun f7 hf7 => ?_
  obtain rfl:=Oi h
  exact Kc<|Kt<|Fp hf7
@[irreducible] noncomputable def i56:Nat→List Op1:=rg Tryz.prog 56 []
noncomputable def a56_0:IR:=(.seq (.block 3 (.seq (.reg true (i56 6)) (.cond (.t 30) (.reg false (i56 7)) .skip))) (.reg false (i56 8)))
noncomputable def a56_1:IR:=(.block 2 (.loop (.seq (.seq (.reg false (i56 5)) (.cond (.t 21) .skip (.exit 2))) a56_0)))
noncomputable def a56_2:IR:=(.seq (.seq (.reg false (i56 3)) (.cond (.t 15) .skip (.exit 0))) (.seq (.block 1 (.seq (.reg false (i56 4)) a56_1)) (.reg false (i56 9))))
noncomputable def a56_3:IR:=(.seq (.seq (.reg false (i56 2)) (.block 0 (.loop a56_2))) (.seq (.reg false (i56 10)) .ret))
noncomputable def spinetref13_with_ir:IR:=(.seq (.reg false (i56 0)) (.seq (.reg false (i56 1)) a56_3))
theorem spinetref13_with_cfn:cFn Tryz.prog 56=some (spinetref13_with_ir,[(.t 8)],45):=by kernel_rfl
def spinetref13_with_V (ver_:Nat) (r:((List spinetref13_Row))):V:=.ref 0 (ver_+1) 0 r.length
def spinetref13_with_L (rows_:(List spinetref13_Row)) (ver_:Nat):Hp:=[⟨ver_,.grow,3,cat spinetref13_Row.v rows_⟩]
def spinetref13_with_C (rows_:(List spinetref13_Row)) (ver_:Nat) (r:((List spinetref13_Row))):X→Fr→Hp→Prop:=FinL [(.t 8)] (spinetref13_with_L rows_ ver_) (spinetref13_with_V ver_ r) [⟨(ver_+1),.grow,3,cat spinetref13_Row.v r⟩]
theorem spinetref13_with_ok (rows_:(List spinetref13_Row)) (stem_:ByteArray) (op_:Int) (regs_:ByteArray) (ver_:Nat) (r:((List spinetref13_Row))) (h:spinetref13_with rows_ stem_ op_ regs_=some r):ConL Tryz.prog 56 [.ref 0 ver_ 0 rows_.length,.s (.string stem_),.s (.int .i64 op_),.s (.string regs_)] [⟨ver_,.grow,3,cat spinetref13_Row.v rows_⟩] (spinetref13_with_V ver_ r) [⟨(ver_+1),.grow,3,cat spinetref13_Row.v r⟩]:=by
 refine CS spinetref13_with_cfn (spinetref13_with_C rows_ ver_ r) fun f hf => ?_
 unfold spinetref13_with at h
 refine Kq<|Kr<|En hf fun f1 hf1=>Kc<|Kq<|Kr<|En hf1 fun f2 hf2=>Kc<|Kq<|Kq<|Kr<|En hf2 fun f3 hf3=>Kc<|Kb ?_
 obtain ⟨o0,hx0,h⟩:=Bs h
 have hgo0:∀ (l_8:(List spinetref13_Row)) (v_8:Nat),l_8=o0→∀ f,FOk f [⟨0,[],.ref 0 v_8 0 l_8.length⟩,⟨8,[],.ref 1 0 0 0⟩]→kont Tryz.prog (spinetref13_with_L rows_ ver_) (spinetref13_with_C rows_ ver_ r) ((.c (.seq (.reg false (i56 10)) .ret))::[]) .normal f [⟨v_8,.grow,3,cat spinetref13_Row.v l_8⟩,⟨0,.grow,3,cat spinetref13_Row.v ([]:List spinetref13_Row)⟩]:=by
  intro l_8 v_8 e f hf
  subst e
  refine Kc<|Kq<|Kr<|En hf fun f1 hf1 => ?_
  obtain rfl:=Oi h
  exact Kc<|Kt<|k_fin (fin_ret (.inl rfl) hf1 (vs:=[.ref 0 v_8 0 l_8.length]) (by kernel_rfl) (SettL.reset (b:=0) (SettL.cutb (L':=[⟨v_8,.grow,3,cat spinetref13_Row.v l_8⟩]) 1 (by kernel_rfl) (by kernel_rfl) (by kernel_rfl) ⟨.inr (.inr (statics_unders _ _ (cat_stat _))),trivial⟩ (FzL.und rfl (ref_len rfl))) rfl rfl ⟨cat_stat _,trivial⟩))
 refine k_loop BIG<|loop_ind (fun n f L=>∃ (l_7:(List spinetref13_Row)) (i_1:Int) (v_7:Nat),spinetref13_with_l2 stem_ op_ regs_ n l_7 i_1=some o0∧FOk f [⟨0,[],.ref 0 v_7 0 l_7.length⟩,⟨1,[],.s (.string stem_)⟩,⟨2,[],.s (.int .i64 op_)⟩,⟨3,[],.s (.string regs_)⟩,⟨8,[],.ref 1 0 0 0⟩,⟨9,[],.s (.string (⟨#[68,88,89,85,83,80,81,82,65,66]⟩:ByteArray))⟩,⟨10,[],.s (.int .i64 i_1)⟩]∧L=[⟨v_7,.grow,3,cat spinetref13_Row.v l_7⟩,⟨0,.grow,3,cat spinetref13_Row.v ([]:List spinetref13_Row)⟩]) ?_ ?_ BIG _ _ ⟨rows_,(0),ver_,hx0,FOk_of [0,1,2,3,8,9,10] hf3 (by kernel_rfl),(by kernel_rfl)⟩
 ·rintro f L ⟨l_7,i_1,v_7,h,_⟩
  cases (show (none:Option _)=some _ from h)
 ·rintro n0 R0 ih f L ⟨l_7,i_1,v_7,h,hf,rfl⟩
  rw [spinetref13_with_l2] at h
  refine Kq<|Kq<|Kr<|En hf fun f1 hf1=>Kc<|Kf hf1 h (fun hc1 h => ?_) fun hc1 h => ?_
  ·refine Ks<|Kc<|Kq<|Kb<|Kq<|Kr<|En hf1 fun f2 hf2=>Kc<|Kb ?_
   obtain ⟨o1,hx1,h⟩:=Bs h
   have hgo1:∀ (l_11:(List spinetref13_Row)) (v_11:Nat),l_11=o1→∀ f,FOk f [⟨0,[],.ref 0 v_11 0 l_11.length⟩,⟨1,[],.s (.string stem_)⟩,⟨2,[],.s (.int .i64 op_)⟩,⟨3,[],.s (.string regs_)⟩,⟨8,[],.ref 1 0 0 0⟩,⟨9,[],.s (.string (⟨#[68,88,89,85,83,80,81,82,65,66]⟩:ByteArray))⟩,⟨10,[],.s (.int .i64 i_1)⟩]→kont Tryz.prog (spinetref13_with_L rows_ ver_) (spinetref13_with_C rows_ ver_ r) ((.c (.reg false (i56 9)))::(.l R0)::(.b 0)::(.c (.seq (.reg false (i56 10)) .ret))::[]) .normal f [⟨v_11,.grow,3,cat spinetref13_Row.v l_11⟩,⟨0,.grow,3,cat spinetref13_Row.v ([]:List spinetref13_Row)⟩]:=by
    intro l_11 v_11 e f hf
    subst e
    exact Kc<|Kr<|En hf fun f1 hf1=>Kl<|ih _ _ ⟨l_11,(IntKind.wrap .i64 (i_1+1)),v_11,h,FOk_of [0,1,2,3,8,9,10] hf1 (by kernel_rfl),(by kernel_rfl)⟩
   refine k_loop BIG<|loop_ind (fun n f L=>∃ (l_10:(List spinetref13_Row)) (k_5:Int) (v_10:Nat),spinetref13_with_l3 stem_ op_ regs_ i_1 n l_10 k_5=some o1∧FOk f [⟨0,[],.ref 0 v_10 0 l_10.length⟩,⟨1,[],.s (.string stem_)⟩,⟨2,[],.s (.int .i64 op_)⟩,⟨3,[],.s (.string regs_)⟩,⟨8,[],.ref 1 0 0 0⟩,⟨9,[],.s (.string (⟨#[68,88,89,85,83,80,81,82,65,66]⟩:ByteArray))⟩,⟨10,[],.s (.int .i64 i_1)⟩,⟨11,[],.s (.int .i64 k_5)⟩]∧L=[⟨v_10,.grow,3,cat spinetref13_Row.v l_10⟩,⟨0,.grow,3,cat spinetref13_Row.v ([]:List spinetref13_Row)⟩]) ?_ ?_ BIG _ _ ⟨l_7,(0),v_7,hx1,FOk_of [0,1,2,3,8,9,10,11] hf2 (by kernel_rfl),(by kernel_rfl)⟩
   ·rintro f L ⟨l_10,k_5,v_10,h,_⟩
    cases (show (none:Option _)=some _ from h)
   ·rintro n1 R1 ih f L ⟨l_10,k_5,v_10,h,hf,rfl⟩
    rw [spinetref13_with_l3] at h
    refine Kq<|Kq<|Kr<|En hf fun f1 hf1=>Kc<|Kf hf1 h (fun hc2 h => ?_) fun hc2 h => ?_
    ·refine Ks<|Kc<|Kq<|Kb<|Kq<|Kd<|Sg 2 hf1 fun f2 hf2 => ?_
     obtain ⟨c3,h⟩:=as_ok h
     refine Ad (.ixs (.t 24) (.t 25)) (.s (.int .u8 (bt (⟨#[68,88,89,85,83,80,81,82,65,66]⟩:ByteArray) i_1))) hf2 (e_ixs (t:=(⟨#[68,88,89,85,83,80,81,82,65,66]⟩:ByteArray)) (k:=.i64) (iv:=i_1) (by kernel_rfl) (by kernel_rfl) c3) fun f3 hf3=>Sg 2 hf3 fun f4 hf4 => ?_
     obtain ⟨c4,h⟩:=as_ok h
     refine Ad (.ixs (.t 27) (.t 28)) (.s (.int .u8 (bt regs_ k_5))) hf4 (e_ixs (t:=regs_) (k:=.i64) (iv:=k_5) (by kernel_rfl) (by kernel_rfl) c4) fun f5 hf5=>En hf5 fun f6 hf6=>Kc<|Kf hf6 h (fun hc5 h => ?_) fun hc5 h => ?_
     ·refine Kr<|Sg 6 hf6 fun f7 hf7 => ?_
      obtain ⟨c6,h⟩:=as_ok h
      refine Ad (.sstr (.t 33) (some (.t 34)) (some (.t 36))) (.s (.string (regs_.extract (k_5:Int).toNat ((IntKind.wrap .i64 (k_5+1)):Int).toNat))) hf7 (e_sstr (t:=regs_) (by kernel_rfl) (b_ss (k:=.i64) (k':=.i64) (iv:=k_5) (jv:=(IntKind.wrap .i64 (k_5+1))) (by kernel_rfl) (by kernel_rfl) c6)) fun f8 hf8 => ?_
      obtain ⟨c7,h⟩:=as_ok h
      refine Ad (.bin .add (.t 32) (.t 37)) (.s (.string (stem_++(regs_.extract (k_5:Int).toNat ((IntKind.wrap .i64 (k_5+1)):Int).toNat)))) hf8 (e_sadd (t:=stem_) (t':=(regs_.extract (k_5:Int).toNat ((IntKind.wrap .i64 (k_5+1)):Int).toNat)) (by kernel_rfl) (by kernel_rfl) c7) fun f9 hf9=>Sg 4 hf9 fun f10 hf10 => ?_
      obtain ⟨c8,h⟩:=as_ok h
      refine Ad (.app 86 3 32 (.t 31) (.t 42)) (.ref 0 (v_10+1) 0 (l_10++[(spinetref13_Row.mk (stem_++(regs_.extract (k_5:Int).toNat ((IntKind.wrap .i64 (k_5+1)):Int).toNat)) op_ i_1)]).length) hf10 (e_app (g:=spinetref13_Row.v) (l:=l_10) (l':=[(spinetref13_Row.mk (stem_++(regs_.extract (k_5:Int).toNat ((IntKind.wrap .i64 (k_5+1)):Int).toNat)) op_ i_1)]) (b:=0) (ver:=v_10) (n:=l_10.length) rfl (by kernel_rfl) rfl (live_grow (by kernel_rfl)) (sll_ev (v:=.ref 2 0 0 1) (by kernel_rfl) (sll_ref (B:=⟨0,.grow,3,cat spinetref13_Row.v [(spinetref13_Row.mk (stem_++(regs_.extract (k_5:Int).toNat ((IntKind.wrap .i64 (k_5+1)):Int).toNat)) op_ i_1)]⟩) (by kernel_rfl) (live_grow (by kernel_rfl)))) (slc_ev (v:=.ref 2 0 0 1) (by kernel_rfl) (slc_ref (g:=spinetref13_Row.v) (l:=[(spinetref13_Row.mk (stem_++(regs_.extract (k_5:Int).toNat ((IntKind.wrap .i64 (k_5+1)):Int).toNat)) op_ i_1)]) (kd:=.grow) (q:=3) (by kernel_rfl) (live_grow (by kernel_rfl)))) c8) fun f11 hf11=>En hf11 fun f12 hf12=>Kv<|Kc<|Kr<|En hf12 fun f13 hf13=>k_l' (vs_cut (l:=[⟨0,[],.ref 0 (v_10+1) 0 (l_10++[(spinetref13_Row.mk (stem_++(regs_.extract (k_5:Int).toNat ((IntKind.wrap .i64 (k_5+1)):Int).toNat)) op_ i_1)]).length⟩,⟨1,[],.s (.string stem_)⟩,⟨2,[],.s (.int .i64 op_)⟩,⟨3,[],.s (.string regs_)⟩,⟨8,[],.ref 1 0 0 0⟩,⟨9,[],.s (.string (⟨#[68,88,89,85,83,80,81,82,65,66]⟩:ByteArray))⟩,⟨10,[],.s (.int .i64 i_1)⟩,⟨11,[],.s (.int .i64 (IntKind.wrap .i64 (k_5+1)))⟩]) 2 (by kernel_rfl) (by kernel_rfl) (L':=[⟨(v_10+1),.grow,3,cat spinetref13_Row.v (l_10++[(spinetref13_Row.mk (stem_++(regs_.extract (k_5:Int).toNat ((IntKind.wrap .i64 (k_5+1)):Int).toNat)) op_ i_1)])⟩,⟨0,.grow,3,cat spinetref13_Row.v ([]:List spinetref13_Row)⟩]) (by kernel_rfl) ⟨⟨rfl,rfl⟩,⟨rfl,rfl⟩,⟨rfl,rfl⟩,⟨rfl,rfl⟩,⟨rfl,rfl⟩,⟨rfl,rfl⟩,⟨rfl,rfl⟩,⟨rfl,rfl⟩,trivial⟩ ⟨.inr (.inr (statics_unders _ _ (cat_stat _))),.inr (.inr (statics_unders _ _ (cat_stat _))),trivial⟩ (Of [0,1,2,3,8,9,10,11] hf13) fun f hf => ?_)
      exact ih _ _ ⟨(l_10++[(spinetref13_Row.mk (stem_++(regs_.extract (k_5:Int).toNat ((IntKind.wrap .i64 (k_5+1)):Int).toNat)) op_ i_1)]),(IntKind.wrap .i64 (k_5+1)),(v_10+1),h,hf,rfl⟩
     ·exact Ks<|Kv<|Kc<|Kr<|En hf6 fun f7 hf7=>Kl<|ih _ _ ⟨l_10,(IntKind.wrap .i64 (k_5+1)),v_10,h,FOk_of [0,1,2,3,8,9,10,11] hf7 (by kernel_rfl),(by kernel_rfl)⟩
    ·exact Kx<|Xc<|Xl<|Xb<|Kv<|Kh (hgo1 l_10 v_10 (Option.some.inj h) _ (Of [0,1,2,3,8,9,10] hf1))
  ·exact Kx<|Xc<|Xl<|Xb<|Kh (hgo0 l_7 v_7 (Option.some.inj h) _ (Of [0,8] hf1))
@[irreducible] noncomputable def i57:Nat→List Op1:=rg Tryz.prog 57 []
noncomputable def a57_0:IR:=(.seq (.seq (.reg false (i57 2)) (.cond (.t 10) (.seq (.reg false (i57 3)) .ret) .skip)) (.seq (.reg false (i57 4)) .ret))
noncomputable def spinetref12_Name_ir:IR:=(.seq (.reg false (i57 0)) (.seq (.reg false (i57 1)) a57_0))
theorem spinetref12_Name_cfn:cFn Tryz.prog 57=some (spinetref12_Name_ir,[(.t 2)],14):=by kernel_rfl
def spinetref12_Name_V (r:(ByteArray)):V:=.s (.string r)
def spinetref12_Name_C (r:(ByteArray)):X→Fr→Hp→Prop:=FinL [(.t 2)] [] (spinetref12_Name_V r) []
abbrev k57_0:List ByteArray:=[(⟨#[82,65]⟩:ByteArray),(⟨#[82,78]⟩:ByteArray),(⟨#[72,73]⟩:ByteArray),(⟨#[76,83]⟩:ByteArray),(⟨#[67,67]⟩:ByteArray),(⟨#[67,83]⟩:ByteArray),(⟨#[78,69]⟩:ByteArray),(⟨#[69,81]⟩:ByteArray),(⟨#[86,67]⟩:ByteArray),(⟨#[86,83]⟩:ByteArray),(⟨#[80,76]⟩:ByteArray),(⟨#[77,73]⟩:ByteArray),(⟨#[71,69]⟩:ByteArray),(⟨#[76,84]⟩:ByteArray),(⟨#[71,84]⟩:ByteArray),(⟨#[76,69]⟩:ByteArray)]
theorem spinetref12_Name_ok (n_:Int) (r:(ByteArray)) (h:spinetref12_Name n_=some r):Pure Tryz.prog 57 [.s (.int .i64 n_)] (spinetref12_Name_V r):=by
 refine CS spinetref12_Name_cfn (spinetref12_Name_C r) fun f hf => ?_
 unfold spinetref12_Name at h
 refine Kq<|Kr<|En hf fun f1 hf1=>Kc<|Kq<|Kr<|En hf1 fun f2 hf2=>Kc<|Kq<|Kq<|Kr<|En hf2 fun f3 hf3=>Kc<|Kf hf3 h (fun hc1 h => ?_) fun hc1 h => ?_
 ·refine Kq<|Kr<|En hf3 fun f4 hf4 => ?_
  obtain rfl:=Oi h
  exact Kc<|Kt<|Xc<|Fp hf4
 ·refine Ks<|Kc<|Kq<|Kr<|Sg 1 hf3 fun f4 hf4 => ?_
  obtain ⟨c2,h⟩:=as_ok h
  refine Ad (.iaa 16 1 (.t 3) (.t 11)) (.ptr 0 0 (0+(n_:Int).toNat*1)) hf4 (e_iaa (n:=16) (xv:=.ptr 0 0 0) (k:=.i64) (iv:=n_) (p:=.ptr 0 0 (0+(n_:Int).toNat*1)) (by kernel_rfl) (by kernel_rfl) (by kernel_rfl) (by kernel_rfl) c2) fun f5 hf5=>Ad (.load false 1 (.t 12)) (.s (.string (gt k57_0 n_))) hf5 (e_load_pe (g:=nS) (l:=k57_0) (iv:=n_) (kd:=.mem) (q:=1) (b:=0) (ver:=0) [] (by kernel_rfl) (live_mem (by kernel_rfl)) (arr_h (l:=k57_0) c2 (by kernel_rfl)) (by kernel_rfl) (by kernel_rfl)) fun f6 hf6=>En hf6 fun f7 hf7 => ?_
  obtain rfl:=Oi h
  exact Kc<|Kt<|Fp hf7
end Go.Proofs.YtfcegejpdlbkdaaGreatK
