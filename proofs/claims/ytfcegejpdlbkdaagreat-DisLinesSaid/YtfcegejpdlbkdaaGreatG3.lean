/- The Go functions come to the functions over typed data. Printed by a program of this work. -/
import Derived.Test.YtfcegejpdlbkdaaGreatF
import Derived.Test.YtfcegejpdlbkdaaGreatProg
import Derived.Test.YtfcegejpdlbkdaaGreatRp
import Derived.Test.YtfcegejpdlbkdaaGreatG0
import Derived.Test.YtfcegejpdlbkdaaGreatG1
import Derived.Test.YtfcegejpdlbkdaaGreatG2
namespace Go.Proofs.YtfcegejpdlbkdaaGreatK
set_option linter.unusedVariables false
set_option linter.unusedSimpArgs false
set_option maxHeartbeats 4000000
open Go.RowKit
attribute [local irreducible] dwv mops lops lqops lwops kont iter run runK rk okK ex E1 vals val chain chB sel resF
@[irreducible] noncomputable def i60:Nat→List Op1:=rg Tryz.prog 60 []
noncomputable def a60_0:IR:=(.cond (.t 23) (.seq (.reg false (i60 6)) .ret) (.seq (.reg false (i60 7)) (.cond (.t 28) (.seq (.reg false (i60 8)) .ret) .skip)))
noncomputable def a60_1:IR:=(.cond (.t 5) (.seq (.reg false (i60 2)) .ret) (.seq (.reg false (i60 3)) (.cond (.t 18) (.seq (.reg false (i60 4)) .ret) (.seq (.reg false (i60 5)) a60_0))))
noncomputable def page_Of_ir:IR:=(.seq (.reg false (i60 0)) (.seq (.block 0 (.seq (.reg false (i60 1)) a60_1)) (.seq (.reg false (i60 9)) .ret)))
theorem page_Of_cfn:cFn Tryz.prog 60=some (page_Of_ir,[(.c 4 true 3)],34):=by kernel_rfl
def page_Of_V (r:(api_Entry)):V:=.agg [.s (.int .i64 r.Op),.s (.int .i64 r.Mode),.s (.int .i64 r.Reg)]
def page_Of_C (r:(api_Entry)):X→Fr→Hp→Prop:=FinL [(.c 4 true 3)] [] (page_Of_V r) []
theorem page_Of_ok (page_:Int) (code_:Int) (r:(api_Entry)) (h:page_Of page_ code_=some r):Pure Tryz.prog 60 [.s (.int .i64 page_),.s (.int .u8 code_)] (page_Of_V r):=by
 refine CS page_Of_cfn (page_Of_C r) fun f hf => ?_
 unfold page_Of at h
 refine Kq<|Kr<|En hf fun f1 hf1=>Kc<|Kq<|Kb<|Kq<|Kr<|En hf1 fun f2 hf2=>Kc<|Kf hf2 h (fun hc1 h => ?_) fun hc1 h => ?_
 ·refine Kq<|Kr<|En hf2 fun f3 hf3 => ?_
  obtain rfl:=Oi h
  exact Kc<|Kt<|Xr<|Xc<|Fp hf3
 ·refine Kq<|Kr<|En hf2 fun f3 hf3=>Kc<|Kf hf3 h (fun hc2 h => ?_) fun hc2 h => ?_
  ·refine Kq<|Kr<|Sg 1 hf3 fun f4 hf4 => ?_
   obtain ⟨r_,hx_r_,h⟩:=Bs h
   refine Cp (page_first_ok _ _ hx_r_) hf4 fun f5 hf5=>En hf5 fun f6 hf6 => ?_
   obtain rfl:=Oi h
   exact Kc<|Kt<|Xr<|Xc<|Fp hf6
  ·refine Kq<|Kr<|En hf3 fun f4 hf4=>Kc<|Kf hf4 h (fun hc3 h => ?_) fun hc3 h => ?_
   ·refine Kq<|Kr<|Sg 1 hf4 fun f5 hf5 => ?_
    obtain ⟨r_1,hx_r_1,h⟩:=Bs h
    refine Cp (page_second_ok _ _ hx_r_1) hf5 fun f6 hf6=>En hf6 fun f7 hf7 => ?_
    obtain rfl:=Oi h
    exact Kc<|Kt<|Xr<|Xc<|Fp hf7
   ·refine Kq<|Kr<|En hf4 fun f5 hf5=>Kc<|Kf hf5 h (fun hc4 h => ?_) fun hc4 h => ?_
    ·refine Kq<|Kr<|Sg 1 hf5 fun f6 hf6 => ?_
     obtain ⟨r_2,hx_r_2,h⟩:=Bs h
     refine Cp (page_third_ok _ _ hx_r_2) hf6 fun f7 hf7=>En hf7 fun f8 hf8 => ?_
     obtain rfl:=Oi h
     exact Kc<|Kt<|Xr<|Xc<|Fp hf8
    ·refine Ks<|Kv<|Kc<|Kq<|Kr<|En hf5 fun f6 hf6 => ?_
     obtain rfl:=Oi h
     exact Kc<|Kt<|Fp hf6
@[irreducible] noncomputable def i49:Nat→List Op1:=rg Tryz.prog 49 []
noncomputable def a49_0:IR:=(.seq (.seq (.reg false (i49 3)) (.cond (.t 12) (.seq (.reg false (i49 4)) .ret) .skip)) (.seq (.reg false (i49 5)) (.seq (.reg false (i49 6)) .ret)))
noncomputable def a49_1:IR:=(.seq (.seq (.reg false (i49 1)) (.cond (.t 8) (.seq (.reg false (i49 2)) .ret) .skip)) a49_0)
noncomputable def dis_Sure_ir:IR:=(.seq (.reg false (i49 0)) a49_1)
theorem dis_Sure_cfn:cFn Tryz.prog 49=some (dis_Sure_ir,[(.t 2)],27):=by kernel_rfl
def dis_Sure_V (r:(Bool)):V:=.s (.bool r)
def dis_Sure_C (r:(Bool)):X→Fr→Hp→Prop:=FinL [(.t 2)] [] (dis_Sure_V r) []
theorem dis_Sure_ok (i_:api_Inst) (r:(Bool)) (h:dis_Sure i_=some r):Pure Tryz.prog 49 [.agg [.s (.int .i64 i_.Page),.s (.int .u8 i_.Code),.s (.int .i64 i_.Entry.Op),.s (.int .i64 i_.Entry.Mode),.s (.int .i64 i_.Entry.Reg),.s (.int .u8 i_.Post),.s (.int .u16 i_.Value),.s (.int .i64 i_.Len)]] (dis_Sure_V r):=by
 refine CS dis_Sure_cfn (dis_Sure_C r) fun f hf => ?_
 unfold dis_Sure at h
 refine Kq<|Kr<|En hf fun f1 hf1=>Kc<|Kq<|Kq<|Kr<|En hf1 fun f2 hf2=>Kc<|Kf hf2 h (fun hc1 h => ?_) fun hc1 h => ?_
 ·refine Kq<|Kr<|En hf2 fun f3 hf3 => ?_
  obtain rfl:=Oi h
  exact Kc<|Kt<|Xc<|Fp hf3
 ·refine Ks<|Kc<|Kq<|Kq<|Kr<|En hf2 fun f3 hf3=>Kc<|Kf hf3 h (fun hc2 h => ?_) fun hc2 h => ?_
  ·refine Kq<|Kr<|En hf3 fun f4 hf4 => ?_
   obtain rfl:=Oi h
   exact Kc<|Kt<|Xc<|Fp hf4
  ·refine Ks<|Kc<|Kq<|Kr<|Sg 2 hf3 fun f4 hf4 => ?_
   obtain ⟨r_,hx_r_,h⟩:=Bs h
   refine Cp (post_Of_ok _ _ hx_r_) hf4 fun f5 hf5 => ?_
   obtain ⟨r_1,hx_r_1,h⟩:=Bs h
   refine Cp (post_Post_Code_ok _ _ hx_r_1) hf5 fun f6 hf6=>En hf6 fun f7 hf7=>Kc<|Kq<|Kr<|En hf7 fun f8 hf8 => ?_
   obtain rfl:=Oi h
   exact Kc<|Kt<|Fp hf8
@[irreducible] noncomputable def i50:Nat→List Op1:=rg Tryz.prog 50 []
noncomputable def a50_0:IR:=(.seq (.cond (.t 9) .skip (.exit 0)) (.seq (.block 1 (.seq (.reg false (i50 4)) (.reg false (i50 5)))) (.reg false (i50 6))))
noncomputable def a50_1:IR:=(.seq (.seq (.reg false (i50 2)) (.block 0 (.loop (.seq (.reg false (i50 3)) a50_0)))) (.seq (.reg false (i50 7)) .ret))
noncomputable def dis_bytes_ir:IR:=(.seq (.reg false (i50 0)) (.seq (.reg false (i50 1)) a50_1))
theorem dis_bytes_cfn:cFn Tryz.prog 50=some (dis_bytes_ir,[(.t 2)],21):=by kernel_rfl
def dis_bytes_V (r:(ByteArray)):V:=.s (.string r)
def dis_bytes_C (r:(ByteArray)):X→Fr→Hp→Prop:=FinL [(.t 2)] [] (dis_bytes_V r) []
theorem dis_bytes_ok (l_:(List Int)) (r:(ByteArray)) (h:dis_bytes l_=some r):Pure Tryz.prog 50 [.sl false l_.length (cat (nI .u8) l_)] (dis_bytes_V r):=by
 refine CS dis_bytes_cfn (dis_bytes_C r) fun f hf => ?_
 unfold dis_bytes at h
 refine Kq<|Kr<|En hf fun f1 hf1=>Kc<|Kq<|Kr<|En hf1 fun f2 hf2=>Kc<|Kq<|Kq<|Kr<|En hf2 fun f3 hf3=>Kc<|Kb ?_
 obtain ⟨o0,hx0,h⟩:=Bs h
 have hgo0:∀ (l_3:(List ByteArray)) (v_2:Nat),l_3=o0→∀ f,FOk f [⟨2,[],.s (.string (⟨#[]⟩:ByteArray))⟩,⟨3,[],.ref 0 v_2 0 l_3.length⟩]→kont Tryz.prog [] (dis_bytes_C r) ((.c (.seq (.reg false (i50 7)) .ret))::[]) .normal f [⟨v_2,.grow,1,cat nS l_3⟩]:=by
  intro l_3 v_2 e f hf
  subst e
  refine Kc<|Kq<|Kr<|Sg 1 hf fun f1 hf1 => ?_
  obtain ⟨r_3,hx_r_3,h⟩:=Bs h
  refine Ca hf1 (av:=[.ref 0 v_2 0 l_3.length,.s (.string (⟨#[44]⟩:ByteArray))]) (v:=.s (.string r_3)) (CalL.lend (strings_Join_ok l_3 (⟨#[44]⟩:ByteArray) r_3 hx_r_3) rfl (Lends.cons (Lend.whole (g:=nS) (kd:=.grow) (l:=l_3) rfl (live_grow (by kernel_rfl))) (Lends.cons (Lend.stat rfl) Lends.nil)) (by kernel_rfl)) (fun _=>rfl) fun f2 hf2 => ?_
  obtain ⟨c4,h⟩:=as_ok h
  refine Ad (.bin .add (.k (.string ⟨#[70,67,66,32]⟩)) (.t 19)) (.s (.string ((⟨#[70,67,66,32]⟩:ByteArray)++r_3))) hf2 (e_sadd (t:=(⟨#[70,67,66,32]⟩:ByteArray)) (t':=r_3) (by kernel_rfl) (by kernel_rfl) c4) fun f3 hf3=>En hf3 fun f4 hf4 => ?_
  obtain rfl:=Oi h
  exact Kc<|Kt<|Fp hf4
 refine k_loop BIG<|loop_ind (fun n f L=>∃ (l_2:(List ByteArray)) (t_1:Int) (v_1:Nat),dis_bytes_l0 l_ n l_2 t_1=some o0∧FOk f [⟨2,[],.s (.string (⟨#[]⟩:ByteArray))⟩,⟨3,[],.ref 0 v_1 0 l_2.length⟩,⟨6,[],.sl false l_.length (cat (nI .u8) l_)⟩,⟨7,[],.s (.int .i64 (ln l_))⟩,⟨8,[],.s (.int .i64 t_1)⟩]∧L=[⟨v_1,.grow,1,cat nS l_2⟩]) ?_ ?_ BIG _ _ ⟨([]:List ByteArray),(0),(0),hx0,FOk_of [2,3,6,7,8] hf3 (by kernel_rfl),(by kernel_rfl)⟩
 ·rintro f L ⟨l_2,t_1,v_1,h,_⟩
  cases (show (none:Option _)=some _ from h)
 ·rintro n0 R0 ih f L ⟨l_2,t_1,v_1,h,hf,rfl⟩
  rw [dis_bytes_l0] at h
  refine Kq<|Kr<|En hf fun f1 hf1=>Kc<|Kq<|Kf hf1 h (fun hc1 h => ?_) fun hc1 h => ?_
  ·refine Ks<|Kc<|Kq<|Kb<|Kq<|Kr ?_
   obtain ⟨c2,h⟩:=as_ok h
   refine Ad (.ias 1 (.t 6) (.t 8)) (.ip ((cat (nI .u8) l_).drop ((t_1:Int).toNat*1))) hf1 (e_ias (n:=l_.length) (xv:=.sl false l_.length (cat (nI .u8) l_)) (k:=.i64) (iv:=t_1) (p:=.ip ((cat (nI .u8) l_).drop ((t_1:Int).toNat*1))) (by kernel_rfl) (by kernel_rfl) (by kernel_rfl) (by kernel_rfl) c2) fun f2 hf2=>Ad (.load false 1 (.t 10)) (.s (.int .u8 (gt l_ t_1))) hf2 (e_load_ip (g:=(nI .u8)) (l:=l_) (iv:=t_1) [] (by kernel_rfl) c2 (by kernel_rfl) (by kernel_rfl)) fun f3 hf3=>En hf3 fun f4 hf4=>Kc<|Kr<|Sg 2 hf4 fun f5 hf5 => ?_
   obtain ⟨r_2,hx_r_2,h⟩:=Bs h
   refine Cp (dis_Byte_ok _ _ hx_r_2) hf5 fun f6 hf6=>Sg 1 hf6 fun f7 hf7 => ?_
   obtain ⟨c3,h⟩:=as_ok h
   refine Ad (.app 9 1 16 (.t 12) (.t 15)) (.ref 0 (v_1+1) 0 (l_2++[r_2]).length) hf7 (e_app (g:=nS) (l:=l_2) (l':=[r_2]) (b:=0) (ver:=v_1) (n:=l_2.length) rfl (by kernel_rfl) rfl (live_grow (by kernel_rfl)) (sll_ev (v:=.ref 1 0 0 1) (by kernel_rfl) (sll_ref (B:=⟨0,.grow,1,cat nS [r_2]⟩) (by kernel_rfl) (live_grow (by kernel_rfl)))) (slc_ev (v:=.ref 1 0 0 1) (by kernel_rfl) (slc_ref (g:=nS) (l:=[r_2]) (kd:=.grow) (q:=1) (by kernel_rfl) (live_grow (by kernel_rfl)))) c3) fun f8 hf8=>En hf8 fun f9 hf9=>Kv<|Kc<|Kr<|En hf9 fun f10 hf10=>k_l' (vs_cut (l:=[⟨2,[],.s (.string (⟨#[]⟩:ByteArray))⟩,⟨3,[],.ref 0 (v_1+1) 0 (l_2++[r_2]).length⟩,⟨6,[],.sl false l_.length (cat (nI .u8) l_)⟩,⟨7,[],.s (.int .i64 (ln l_))⟩,⟨8,[],.s (.int .i64 (IntKind.wrap .i64 (t_1+1)))⟩]) 1 (by kernel_rfl) (by kernel_rfl) (L':=[⟨(v_1+1),.grow,1,cat nS (l_2++[r_2])⟩]) (by kernel_rfl) ⟨⟨rfl,rfl⟩,⟨rfl,rfl⟩,⟨rfl,(static_under _ _ (by simp [V.static,statics,cat_stat,dropcat_stat]))⟩,⟨rfl,rfl⟩,⟨rfl,rfl⟩,trivial⟩ ⟨.inr (.inr (statics_unders _ _ (cat_stat _))),trivial⟩ (Of [2,3,6,7,8] hf10) fun f hf => ?_)
   exact ih _ _ ⟨(l_2++[r_2]),(IntKind.wrap .i64 (t_1+1)),(v_1+1),h,hf,rfl⟩
  ·exact Kx<|Xc<|Xl<|Xb<|Kh (hgo0 l_2 v_1 (Option.some.inj h) _ (Of [2,3] hf1))
@[irreducible] noncomputable def i81:Nat→List Op1:=rg Tryz.prog 81 []
noncomputable def a81_0:IR:=(.cond (.t 63) (.seq (.reg false (i81 24)) .ret) (.seq (.reg false (i81 25)) (.cond (.t 67) (.seq (.reg false (i81 26)) .ret) .skip)))
noncomputable def a81_1:IR:=(.cond (.t 54) (.seq (.reg false (i81 20)) .ret) (.seq (.reg false (i81 21)) (.cond (.t 59) (.seq (.reg false (i81 22)) .ret) (.seq (.reg false (i81 23)) a81_0))))
noncomputable def a81_2:IR:=(.cond (.t 45) (.seq (.reg false (i81 16)) .ret) (.seq (.reg false (i81 17)) (.cond (.t 49) (.seq (.reg false (i81 18)) .ret) (.seq (.reg false (i81 19)) a81_1))))
noncomputable def a81_3:IR:=(.cond (.t 37) (.seq (.reg false (i81 12)) .ret) (.seq (.reg false (i81 13)) (.cond (.t 41) (.seq (.reg false (i81 14)) .ret) (.seq (.reg false (i81 15)) a81_2))))
noncomputable def a81_4:IR:=(.cond (.t 19) (.seq (.reg false (i81 7)) .ret) (.seq (.seq (.reg false (i81 8)) (.cond (.t 28) .skip (.reg false (i81 9)))) (.cond (.t 28) (.seq (.reg false (i81 10)) .ret) (.seq (.reg false (i81 11)) a81_3))))
noncomputable def a81_5:IR:=(.cond (.t 11) (.seq (.reg false (i81 4)) .ret) (.seq (.seq (.reg false (i81 5)) (.cond (.t 19) .skip (.reg false (i81 6)))) a81_4))
noncomputable def a81_6:IR:=(.seq (.seq (.reg false (i81 2)) (.block 0 (.seq (.reg false (i81 3)) a81_5))) (.seq (.reg false (i81 27)) .ret))
noncomputable def dis_indexed_ir:IR:=(.seq (.reg false (i81 0)) (.seq (.reg false (i81 1)) a81_6))
theorem dis_indexed_cfn:cFn Tryz.prog 81=some (dis_indexed_ir,[(.t 4)],73):=by kernel_rfl
def dis_indexed_V (r:(ByteArray)):V:=.s (.string r)
def dis_indexed_C (r:(ByteArray)):X→Fr→Hp→Prop:=FinL [(.t 4)] [] (dis_indexed_V r) []
theorem dis_indexed_ok (p_:post_Post) (value_:Int) (r:(ByteArray)) (h:dis_indexed p_ value_=some r):Pure Tryz.prog 81 [.agg [.s (.int .i64 p_.Kind),.s (.int .i64 p_.Reg),.s (.int .u16 p_.Off),.s (.bool p_.Indirect)],.s (.int .u16 value_)] (dis_indexed_V r):=by
 refine CS dis_indexed_cfn (dis_indexed_C r) fun f hf => ?_
 unfold dis_indexed at h
 refine Kq<|Kr<|En hf fun f1 hf1=>Kc<|Kq<|Kr<|Sg 2 hf1 fun f2 hf2 => ?_
 obtain ⟨r_,hx_r_,h⟩:=Bs h
 refine Cp (ops_Reg_ok _ _ hx_r_) hf2 fun f3 hf3=>En hf3 fun f4 hf4=>Kc<|Kq<|Kq<|Kr<|En hf4 fun f5 hf5=>Kc<|Kb<|Kq<|Kr<|En hf5 fun f6 hf6=>Kc<|Kf hf6 h (fun hc1 h => ?_) fun hc1 h => ?_
 ·refine Kq<|Kr<|Sg 2 hf6 fun f7 hf7 => ?_
  obtain ⟨r_1,hx_r_1,h⟩:=Bs h
  refine Cp (dis_signed_ok _ _ hx_r_1) hf7 fun f8 hf8 => ?_
  obtain ⟨c2,h⟩:=as_ok h
  refine Ad (.bin .add (.t 15) (.k (.string ⟨#[44]⟩))) (.s (.string (r_1++(⟨#[44]⟩:ByteArray)))) hf8 (e_sadd (t:=r_1) (t':=(⟨#[44]⟩:ByteArray)) (by kernel_rfl) (by kernel_rfl) c2) fun f9 hf9=>Sg 1 hf9 fun f10 hf10 => ?_
  obtain ⟨c3,h⟩:=as_ok h
  refine Ad (.bin .add (.t 16) (.t 17)) (.s (.string ((r_1++(⟨#[44]⟩:ByteArray))++r_))) hf10 (e_sadd (t:=(r_1++(⟨#[44]⟩:ByteArray))) (t':=r_) (by kernel_rfl) (by kernel_rfl) c3) fun f11 hf11=>En hf11 fun f12 hf12 => ?_
  obtain rfl:=Oi h
  exact Kc<|Kt<|Xr<|Xc<|Fp hf12
 ·refine Kq<|Kq<|Kr<|En hf6 fun f7 hf7=>Kc ?_
  have hj1:∀ (t_:Bool),dis_indexed_j1 p_ value_ r_ t_=some r→∀ f,FOk f [⟨1,[],.s (.int .u16 value_)⟩,⟨4,[],.s (.string (⟨#[]⟩:ByteArray))⟩,⟨5,[],.s (.string r_)⟩,⟨10,[],.s (.int .i64 p_.Kind)⟩,⟨19,[],.s (.bool t_)⟩]→kont Tryz.prog [] (dis_indexed_C r) ((.c a81_4)::(.b 0)::(.c (.seq (.reg false (i81 27)) .ret))::[]) .normal f [⟨0,.mem,1,[.s (.int .i64 p_.Kind),.s (.int .i64 p_.Reg),.s (.int .u16 p_.Off),.s (.bool p_.Indirect)]⟩]:=by
   intro t_ h f hf
   unfold dis_indexed_j1 at h
   refine Kc<|Kf hf h (fun hc5 h => ?_) fun hc5 h => ?_
   ·refine Kq<|Kr<|Sg 1 hf fun f1 hf1 => ?_
    obtain ⟨r_2,hx_r_2,h⟩:=Bs h
    refine Cp (dis_signed_ok _ _ hx_r_2) hf1 fun f2 hf2 => ?_
    obtain ⟨c6,h⟩:=as_ok h
    refine Ad (.bin .add (.k (.string ⟨#[60]⟩)) (.t 23)) (.s (.string ((⟨#[60]⟩:ByteArray)++r_2))) hf2 (e_sadd (t:=(⟨#[60]⟩:ByteArray)) (t':=r_2) (by kernel_rfl) (by kernel_rfl) c6) fun f3 hf3 => ?_
    obtain ⟨c7,h⟩:=as_ok h
    refine Ad (.bin .add (.t 24) (.k (.string ⟨#[44]⟩))) (.s (.string (((⟨#[60]⟩:ByteArray)++r_2)++(⟨#[44]⟩:ByteArray)))) hf3 (e_sadd (t:=((⟨#[60]⟩:ByteArray)++r_2)) (t':=(⟨#[44]⟩:ByteArray)) (by kernel_rfl) (by kernel_rfl) c7) fun f4 hf4=>Sg 1 hf4 fun f5 hf5 => ?_
    obtain ⟨c8,h⟩:=as_ok h
    refine Ad (.bin .add (.t 25) (.t 26)) (.s (.string ((((⟨#[60]⟩:ByteArray)++r_2)++(⟨#[44]⟩:ByteArray))++r_))) hf5 (e_sadd (t:=(((⟨#[60]⟩:ByteArray)++r_2)++(⟨#[44]⟩:ByteArray))) (t':=r_) (by kernel_rfl) (by kernel_rfl) c8) fun f6 hf6=>En hf6 fun f7 hf7 => ?_
    obtain rfl:=Oi h
    exact Kc<|Kt<|Xr<|Xc<|Fp hf7
   ·refine Kq<|Kq<|Kr<|En hf fun f1 hf1=>Kc ?_
    have hj2:∀ (t_1:Bool),dis_indexed_j0 p_ value_ r_ t_1=some r→∀ f,FOk f [⟨1,[],.s (.int .u16 value_)⟩,⟨4,[],.s (.string (⟨#[]⟩:ByteArray))⟩,⟨5,[],.s (.string r_)⟩,⟨10,[],.s (.int .i64 p_.Kind)⟩,⟨28,[],.s (.bool t_1)⟩]→kont Tryz.prog [] (dis_indexed_C r) ((.c (.cond (.t 28) (.seq (.reg false (i81 10)) .ret) (.seq (.reg false (i81 11)) a81_3)))::(.b 0)::(.c (.seq (.reg false (i81 27)) .ret))::[]) .normal f [⟨0,.mem,1,[.s (.int .i64 p_.Kind),.s (.int .i64 p_.Reg),.s (.int .u16 p_.Off),.s (.bool p_.Indirect)]⟩]:=by
     intro t_1 h f hf
     unfold dis_indexed_j0 at h
     refine Kc<|Kf hf h (fun hc10 h => ?_) fun hc10 h => ?_
     ·refine Kq<|Kr<|Sg 1 hf fun f1 hf1 => ?_
      obtain ⟨r_3,hx_r_3,h⟩:=Bs h
      refine Cp (dis_Word_ok _ _ hx_r_3) hf1 fun f2 hf2 => ?_
      obtain ⟨c11,h⟩:=as_ok h
      refine Ad (.bin .add (.k (.string ⟨#[62]⟩)) (.t 32)) (.s (.string ((⟨#[62]⟩:ByteArray)++r_3))) hf2 (e_sadd (t:=(⟨#[62]⟩:ByteArray)) (t':=r_3) (by kernel_rfl) (by kernel_rfl) c11) fun f3 hf3 => ?_
      obtain ⟨c12,h⟩:=as_ok h
      refine Ad (.bin .add (.t 33) (.k (.string ⟨#[44]⟩))) (.s (.string (((⟨#[62]⟩:ByteArray)++r_3)++(⟨#[44]⟩:ByteArray)))) hf3 (e_sadd (t:=((⟨#[62]⟩:ByteArray)++r_3)) (t':=(⟨#[44]⟩:ByteArray)) (by kernel_rfl) (by kernel_rfl) c12) fun f4 hf4=>Sg 1 hf4 fun f5 hf5 => ?_
      obtain ⟨c13,h⟩:=as_ok h
      refine Ad (.bin .add (.t 34) (.t 35)) (.s (.string ((((⟨#[62]⟩:ByteArray)++r_3)++(⟨#[44]⟩:ByteArray))++r_))) hf5 (e_sadd (t:=(((⟨#[62]⟩:ByteArray)++r_3)++(⟨#[44]⟩:ByteArray))) (t':=r_) (by kernel_rfl) (by kernel_rfl) c13) fun f6 hf6=>En hf6 fun f7 hf7 => ?_
      obtain rfl:=Oi h
      exact Kc<|Kt<|Xr<|Xc<|Fp hf7
     ·refine Kq<|Kr<|En hf fun f1 hf1=>Kc<|Kf hf1 h (fun hc14 h => ?_) fun hc14 h => ?_
      ·refine Kq<|Kr<|Sg 1 hf1 fun f2 hf2 => ?_
       obtain ⟨c15,h⟩:=as_ok h
       refine Ad (.bin .add (.k (.string ⟨#[65,44]⟩)) (.t 39)) (.s (.string ((⟨#[65,44]⟩:ByteArray)++r_))) hf2 (e_sadd (t:=(⟨#[65,44]⟩:ByteArray)) (t':=r_) (by kernel_rfl) (by kernel_rfl) c15) fun f3 hf3=>En hf3 fun f4 hf4 => ?_
       obtain rfl:=Oi h
       exact Kc<|Kt<|Xr<|Xc<|Fp hf4
      ·refine Kq<|Kr<|En hf1 fun f2 hf2=>Kc<|Kf hf2 h (fun hc16 h => ?_) fun hc16 h => ?_
       ·refine Kq<|Kr<|Sg 1 hf2 fun f3 hf3 => ?_
        obtain ⟨c17,h⟩:=as_ok h
        refine Ad (.bin .add (.k (.string ⟨#[66,44]⟩)) (.t 43)) (.s (.string ((⟨#[66,44]⟩:ByteArray)++r_))) hf3 (e_sadd (t:=(⟨#[66,44]⟩:ByteArray)) (t':=r_) (by kernel_rfl) (by kernel_rfl) c17) fun f4 hf4=>En hf4 fun f5 hf5 => ?_
        obtain rfl:=Oi h
        exact Kc<|Kt<|Xr<|Xc<|Fp hf5
       ·refine Kq<|Kr<|En hf2 fun f3 hf3=>Kc<|Kf hf3 h (fun hc18 h => ?_) fun hc18 h => ?_
        ·refine Kq<|Kr<|Sg 1 hf3 fun f4 hf4 => ?_
         obtain ⟨c19,h⟩:=as_ok h
         refine Ad (.bin .add (.k (.string ⟨#[68,44]⟩)) (.t 47)) (.s (.string ((⟨#[68,44]⟩:ByteArray)++r_))) hf4 (e_sadd (t:=(⟨#[68,44]⟩:ByteArray)) (t':=r_) (by kernel_rfl) (by kernel_rfl) c19) fun f5 hf5=>En hf5 fun f6 hf6 => ?_
         obtain rfl:=Oi h
         exact Kc<|Kt<|Xr<|Xc<|Fp hf6
        ·refine Kq<|Kr<|En hf3 fun f4 hf4=>Kc<|Kf hf4 h (fun hc20 h => ?_) fun hc20 h => ?_
         ·refine Kq<|Kr<|Sg 1 hf4 fun f5 hf5 => ?_
          obtain ⟨c21,h⟩:=as_ok h
          refine Ad (.bin .add (.k (.string ⟨#[44]⟩)) (.t 51)) (.s (.string ((⟨#[44]⟩:ByteArray)++r_))) hf5 (e_sadd (t:=(⟨#[44]⟩:ByteArray)) (t':=r_) (by kernel_rfl) (by kernel_rfl) c21) fun f6 hf6 => ?_
          obtain ⟨c22,h⟩:=as_ok h
          refine Ad (.bin .add (.t 52) (.k (.string ⟨#[43]⟩))) (.s (.string (((⟨#[44]⟩:ByteArray)++r_)++(⟨#[43]⟩:ByteArray)))) hf6 (e_sadd (t:=((⟨#[44]⟩:ByteArray)++r_)) (t':=(⟨#[43]⟩:ByteArray)) (by kernel_rfl) (by kernel_rfl) c22) fun f7 hf7=>En hf7 fun f8 hf8 => ?_
          obtain rfl:=Oi h
          exact Kc<|Kt<|Xr<|Xc<|Fp hf8
         ·refine Kq<|Kr<|En hf4 fun f5 hf5=>Kc<|Kf hf5 h (fun hc23 h => ?_) fun hc23 h => ?_
          ·refine Kq<|Kr<|Sg 1 hf5 fun f6 hf6 => ?_
           obtain ⟨c24,h⟩:=as_ok h
           refine Ad (.bin .add (.k (.string ⟨#[44]⟩)) (.t 56)) (.s (.string ((⟨#[44]⟩:ByteArray)++r_))) hf6 (e_sadd (t:=(⟨#[44]⟩:ByteArray)) (t':=r_) (by kernel_rfl) (by kernel_rfl) c24) fun f7 hf7 => ?_
           obtain ⟨c25,h⟩:=as_ok h
           refine Ad (.bin .add (.t 57) (.k (.string ⟨#[43,43]⟩))) (.s (.string (((⟨#[44]⟩:ByteArray)++r_)++(⟨#[43,43]⟩:ByteArray)))) hf7 (e_sadd (t:=((⟨#[44]⟩:ByteArray)++r_)) (t':=(⟨#[43,43]⟩:ByteArray)) (by kernel_rfl) (by kernel_rfl) c25) fun f8 hf8=>En hf8 fun f9 hf9 => ?_
           obtain rfl:=Oi h
           exact Kc<|Kt<|Xr<|Xc<|Fp hf9
          ·refine Kq<|Kr<|En hf5 fun f6 hf6=>Kc<|Kf hf6 h (fun hc26 h => ?_) fun hc26 h => ?_
           ·refine Kq<|Kr<|Sg 1 hf6 fun f7 hf7 => ?_
            obtain ⟨c27,h⟩:=as_ok h
            refine Ad (.bin .add (.k (.string ⟨#[44,45]⟩)) (.t 61)) (.s (.string ((⟨#[44,45]⟩:ByteArray)++r_))) hf7 (e_sadd (t:=(⟨#[44,45]⟩:ByteArray)) (t':=r_) (by kernel_rfl) (by kernel_rfl) c27) fun f8 hf8=>En hf8 fun f9 hf9 => ?_
            obtain rfl:=Oi h
            exact Kc<|Kt<|Xr<|Xc<|Fp hf9
           ·refine Kq<|Kr<|En hf6 fun f7 hf7=>Kc<|Kf hf7 h (fun hc28 h => ?_) fun hc28 h => ?_
            ·refine Kq<|Kr<|Sg 1 hf7 fun f8 hf8 => ?_
             obtain ⟨c29,h⟩:=as_ok h
             refine Ad (.bin .add (.k (.string ⟨#[44,45,45]⟩)) (.t 65)) (.s (.string ((⟨#[44,45,45]⟩:ByteArray)++r_))) hf8 (e_sadd (t:=(⟨#[44,45,45]⟩:ByteArray)) (t':=r_) (by kernel_rfl) (by kernel_rfl) c29) fun f9 hf9=>En hf9 fun f10 hf10 => ?_
             obtain rfl:=Oi h
             exact Kc<|Kt<|Xr<|Xc<|Fp hf10
            ·refine Kq<|Kr<|En hf7 fun f8 hf8=>Kc<|Kf hf8 h (fun hc30 h => ?_) fun hc30 h => ?_
             ·refine Kq<|Kr<|Sg 1 hf8 fun f9 hf9 => ?_
              obtain ⟨r_4,hx_r_4,h⟩:=Bs h
              refine Cp (dis_Word_ok _ _ hx_r_4) hf9 fun f10 hf10=>En hf10 fun f11 hf11 => ?_
              obtain rfl:=Oi h
              exact Kc<|Kt<|Xr<|Xc<|Fp hf11
             ·refine Ks<|Kv<|Kc<|Kq<|Kr<|Sg 1 hf8 fun f9 hf9 => ?_
              obtain ⟨c31,h⟩:=as_ok h
              refine Ad (.bin .add (.k (.string ⟨#[44]⟩)) (.t 71)) (.s (.string ((⟨#[44]⟩:ByteArray)++r_))) hf9 (e_sadd (t:=(⟨#[44]⟩:ByteArray)) (t':=r_) (by kernel_rfl) (by kernel_rfl) c31) fun f10 hf10=>En hf10 fun f11 hf11 => ?_
              obtain rfl:=Oi h
              exact Kc<|Kt<|Fp hf11
    refine Kf hf1 h (fun hc9 h => ?_) fun hc9 h => ?_
    ·exact Ks<|Kh (hj2 (p_.Kind == 3) h _ (Of [1,4,5,10,28] hf1))
    ·exact Kr<|En hf1 fun f2 hf2=>Kh (hj2 (p_.Kind == 12) h _ (Of [1,4,5,10,28] hf2))
  refine Kf hf7 h (fun hc4 h => ?_) fun hc4 h => ?_
  ·exact Ks<|Kh (hj1 (p_.Kind == 2) h _ (Of [1,4,5,10,19] hf7))
  ·exact Kr<|En hf7 fun f8 hf8=>Kh (hj1 (p_.Kind == 11) h _ (Of [1,4,5,10,19] hf8))
@[irreducible] noncomputable def i7:Nat→List Op1:=rg Tryz.prog 7 []
@[irreducible] noncomputable def j7:Nat→List An:=rgw Tryz.prog 7 []
noncomputable def a7_0:IR:=(.cond (.t 91) (.reg false (i7 13)) (.seq (.reg false (i7 14)) (.cond (.t 100) (.regw (j7 1)) .skip)))
noncomputable def a7_1:IR:=(.seq (.seq (.reg false (i7 16)) (.cond (.t 126) (.seq (.reg false (i7 17)) .ret) .skip)) (.seq (.reg false (i7 18)) .ret))
noncomputable def a7_2:IR:=(.seq (.seq (.reg false (i7 10)) (.cond (.t 82) (.reg false (i7 11)) (.seq (.reg false (i7 12)) a7_0))) (.seq (.reg false (i7 15)) a7_1))
noncomputable def a7_3:IR:=(.seq (.seq (.reg false (i7 6)) (.cond (.t 57) (.seq (.reg false (i7 7)) (.reg false (i7 8))) .skip)) (.seq (.reg false (i7 9)) a7_2))
noncomputable def a7_4:IR:=(.seq (.seq (.reg false (i7 3)) (.cond (.t 30) (.regw (j7 0)) .skip)) (.seq (.reg false (i7 4)) (.seq (.reg false (i7 5)) a7_3)))
noncomputable def spinetref18_Of_ir:IR:=(.seq (.reg false (i7 0)) (.seq (.reg false (i7 1)) (.seq (.reg false (i7 2)) a7_4)))
theorem spinetref18_Of_cfn:cFn Tryz.prog 7=some (spinetref18_Of_ir,[(.c 2 true 8),(.t 3)],129):=by kernel_rfl
def spinetref18_Of_V (r:(api_Inst × Bool)):V:=.tup [.agg [.s (.int .i64 r.1.Page),.s (.int .u8 r.1.Code),.s (.int .i64 r.1.Entry.Op),.s (.int .i64 r.1.Entry.Mode),.s (.int .i64 r.1.Entry.Reg),.s (.int .u8 r.1.Post),.s (.int .u16 r.1.Value),.s (.int .i64 r.1.Len)],.s (.bool r.2)]
def spinetref18_Of_C (r:(api_Inst × Bool)):X→Fr→Hp→Prop:=FinL [(.c 2 true 8),(.t 3)] [] (spinetref18_Of_V r) []
abbrev k7_0:List V:=[.s (.int .i64 0),.s (.int .u8 0),.s (.int .i64 0),.s (.int .i64 0),.s (.int .i64 0),.s (.int .u8 0),.s (.int .u16 0),.s (.int .i64 0)]
theorem spinetref18_Of_ok (b_:(List Int)) (r:(api_Inst × Bool)) (h:spinetref18_Of b_=some r):Pure Tryz.prog 7 [.sl false b_.length (cat (nI .u8) b_)] (spinetref18_Of_V r):=by
 refine CS spinetref18_Of_cfn (spinetref18_Of_C r) fun f hf => ?_
 unfold spinetref18_Of at h
 refine Kq<|Kr<|En hf fun f1 hf1=>Kc<|Kq<|Kr<|Sg 2 hf1 fun f2 hf2 => ?_
 obtain ⟨c1,h⟩:=as_ok h
 refine Ad (.app 5 1 1 (.t 12) (.t 13)) (.ref 1 1 0 (([]:List Int)++b_).length) hf2 (e_app (g:=(nI .u8)) (l:=([]:List Int)) (l':=b_) (b:=1) (ver:=0) (n:=0) rfl (by kernel_rfl) (by kernel_rfl) (live_grow (by kernel_rfl)) (by kernel_rfl) (slc_ev (v:=.sl false b_.length (cat (nI .u8) b_)) (by kernel_rfl) (slc_sl (g:=(nI .u8)) b_)) c1) fun f3 hf3=>Sg 1 hf3 fun f4 hf4 => ?_
 obtain ⟨c2,h⟩:=as_ok h
 refine Ad (.app 5 1 1 (.t 14) (.t 15)) (.ref 1 2 0 ((([]:List Int)++b_)++[0,0,0,0,0]).length) hf4 (e_app (g:=(nI .u8)) (l:=(([]:List Int)++b_)) (l':=[0,0,0,0,0]) (b:=1) (ver:=1) (n:=(([]:List Int)++b_).length) rfl (by kernel_rfl) rfl (live_grow (by kernel_rfl)) (sll_ev (v:=.ref 2 0 0 5) (by kernel_rfl) (sll_ref (B:=⟨0,.grow,1,cat (nI .u8) [0,0,0,0,0]⟩) (by kernel_rfl) (live_grow (by kernel_rfl)))) (slc_ev (v:=.ref 2 0 0 5) (by kernel_rfl) (slc_ref (g:=(nI .u8)) (l:=[0,0,0,0,0]) (kd:=.grow) (q:=1) (by kernel_rfl) (live_grow (by kernel_rfl)))) c2) fun f5 hf5=>En hf5 fun f6 hf6=>Kc<|Kq<|Kr<|Sg 1 hf6 fun f7 hf7 => ?_
 obtain ⟨c3,h⟩:=as_ok h
 refine Ad (.ias 1 (.t 17) (.k (.int .i64 0))) (.ptr 1 2 (0+(0:Int).toNat*1)) hf7 (e_ias_ref (l:=((([]:List Int)++b_)++[0,0,0,0,0])) (B:=⟨2,.grow,1,cat (nI .u8) ((([]:List Int)++b_)++[0,0,0,0,0])⟩) (b:=1) (ver:=2) (n:=((([]:List Int)++b_)++[0,0,0,0,0]).length) (k:=.i64) (iv:=0) (by kernel_rfl) (by kernel_rfl) rfl (live_grow (by kernel_rfl)) c3) fun f8 hf8=>Ad (.load false 1 (.t 18)) (.s (.int .u8 (gt ((([]:List Int)++b_)++[0,0,0,0,0]) (0)))) hf8 (e_load_pe (g:=(nI .u8)) (l:=((([]:List Int)++b_)++[0,0,0,0,0])) (iv:=0) (kd:=.grow) (q:=1) (b:=1) (ver:=2) [] (by kernel_rfl) (live_grow (by kernel_rfl)) c3 (by kernel_rfl) (by kernel_rfl)) fun f9 hf9=>En hf9 fun f10 hf10=>Kc<|Kq<|Kq<|Kr<|Sg 1 hf10 fun f11 hf11 => ?_
 obtain ⟨c4,h⟩:=as_ok h
 refine Ad (.ias 1 (.t 21) (.k (.int .i64 0))) (.ptr 1 2 (0+(0:Int).toNat*1)) hf11 (e_ias_ref (l:=((([]:List Int)++b_)++[0,0,0,0,0])) (B:=⟨2,.grow,1,cat (nI .u8) ((([]:List Int)++b_)++[0,0,0,0,0])⟩) (b:=1) (ver:=2) (n:=((([]:List Int)++b_)++[0,0,0,0,0]).length) (k:=.i64) (iv:=0) (by kernel_rfl) (by kernel_rfl) rfl (live_grow (by kernel_rfl)) c4) fun f12 hf12=>Ad (.load false 1 (.t 22)) (.s (.int .u8 (gt ((([]:List Int)++b_)++[0,0,0,0,0]) (0)))) hf12 (e_load_pe (g:=(nI .u8)) (l:=((([]:List Int)++b_)++[0,0,0,0,0])) (iv:=0) (kd:=.grow) (q:=1) (b:=1) (ver:=2) [] (by kernel_rfl) (live_grow (by kernel_rfl)) c4 (by kernel_rfl) (by kernel_rfl)) fun f13 hf13=>Sg 3 hf13 fun f14 hf14 => ?_
 obtain ⟨c5,h⟩:=as_ok h
 refine mops_gadv (dst:=(some 27)) (op:=(.ias 1 (.t 26) (.k (.int .i64 0)))) (aft:=[5,4]) (t:=25) (w:=false) (ch:=[(25,false)]) (b:=(!((gt ((([]:List Int)++b_)++[0,0,0,0,0]) (0)) == 16))) (v:=.ptr 1 2 (0+(0:Int).toNat*1)) (by kernel_rfl) hf14 (by kernel_rfl) (by kernel_rfl) (by kernel_rfl) (fun hb6=>e_ias_ref (l:=((([]:List Int)++b_)++[0,0,0,0,0])) (B:=⟨2,.grow,1,cat (nI .u8) ((([]:List Int)++b_)++[0,0,0,0,0])⟩) (b:=1) (ver:=2) (n:=((([]:List Int)++b_)++[0,0,0,0,0]).length) (k:=.i64) (iv:=0) (by kernel_rfl) (by kernel_rfl) rfl (live_grow (by kernel_rfl)) (c5 hb6)) fun f15 hf15=>mops_gadv (dst:=(some 28)) (op:=(.load false 1 (.t 27))) (aft:=[6,4]) (t:=25) (w:=false) (ch:=[(25,false)]) (b:=(!((gt ((([]:List Int)++b_)++[0,0,0,0,0]) (0)) == 16))) (v:=.s (.int .u8 (gt ((([]:List Int)++b_)++[0,0,0,0,0]) (0)))) (by kernel_rfl) hf15 (by kernel_rfl) (by kernel_rfl) (by kernel_rfl) (fun hb7=>e_load_pe (g:=(nI .u8)) (l:=((([]:List Int)++b_)++[0,0,0,0,0])) (iv:=0) (kd:=.grow) (q:=1) (b:=1) (ver:=2) [] (by kernel_rfl) (live_grow (by kernel_rfl)) (c5 hb7) (by kernel_rfl) (by kernel_rfl)) fun f16 hf16=>En hf16 fun f17 hf17=>Kc ?_
 have hj1:∀ (m_:Int) (m_1:Int) (m_2:Int),spinetref18_Of_j2 b_ m_ m_1 m_2=some r→∀ f,FOk f [⟨0,[],.sl false b_.length (cat (nI .u8) b_)⟩,⟨2,[],.ptr 0 0 0⟩,⟨3,[],.s (.bool false)⟩,⟨4,[],.ref 1 2 0 ((([]:List Int)++b_)++[0,0,0,0,0]).length⟩,⟨5,[],.ptr 3 0 0⟩]→kont Tryz.prog [] (spinetref18_Of_C r) ((.c (.seq (.reg false (i7 4)) (.seq (.reg false (i7 5)) a7_3)))::[]) .normal f [⟨0,.mem,1,k7_0⟩,⟨2,.grow,1,cat (nI .u8) ((([]:List Int)++b_)++[0,0,0,0,0])⟩,⟨0,.grow,1,cat (nI .u8) [0,0,0,0,0]⟩,⟨0,.mem,1,[.s (.int .i64 m_),.s (.int .u8 m_1),.s (.int .i64 0),.s (.int .i64 0),.s (.int .i64 0),.s (.int .u8 0),.s (.int .u16 0),.s (.int .i64 m_2)]⟩]:=by
  intro m_ m_1 m_2 h f hf
  unfold spinetref18_Of_j2 at h
  refine Kc<|Kq<|Kr<|Sg 5 hf fun f1 hf1 => ?_
  obtain ⟨r_,hx_r_,h⟩:=Bs h
  refine Cp (spinetref14_Of_ok _ _ _ hx_r_) hf1 fun f2 hf2=>En hf2 fun f3 hf3=>Kc<|Kq<|Kr<|Sg 3 hf3 fun f4 hf4 => ?_
  obtain ⟨r_1,hx_r_1,h⟩:=Bs h
  refine Cp (spinetref18_Shape_ok _ _ _ hx_r_1) hf4 fun f5 hf5=>En hf5 fun f6 hf6=>Kc<|Kq<|Kq<|Kr<|En hf6 fun f7 hf7=>Kc ?_
  have hj2:∀ (m_3:Int) (m_4:Int),spinetref18_Of_j1 b_ m_ m_1 r_ m_3 m_4=some r→∀ f,FOk f [⟨0,[],.sl false b_.length (cat (nI .u8) b_)⟩,⟨2,[],.ptr 0 0 0⟩,⟨3,[],.s (.bool false)⟩,⟨4,[],.ref 1 2 0 ((([]:List Int)++b_)++[0,0,0,0,0]).length⟩,⟨5,[],.ptr 3 0 0⟩]→kont Tryz.prog [] (spinetref18_Of_C r) ((.c (.seq (.reg false (i7 9)) a7_2))::[]) .normal f [⟨0,.mem,1,k7_0⟩,⟨2,.grow,1,cat (nI .u8) ((([]:List Int)++b_)++[0,0,0,0,0])⟩,⟨0,.grow,1,cat (nI .u8) [0,0,0,0,0]⟩,⟨0,.mem,1,[.s (.int .i64 m_),.s (.int .u8 m_1),.s (.int .i64 r_.Op),.s (.int .i64 r_.Mode),.s (.int .i64 r_.Reg),.s (.int .u8 m_3),.s (.int .u16 0),.s (.int .i64 m_4)]⟩]:=by
   intro m_3 m_4 h f hf
   unfold spinetref18_Of_j1 at h
   refine Kc<|Kq<|Kr<|Sg 5 hf fun f1 hf1 => ?_
   obtain ⟨r_2,hx_r_2,h⟩:=Bs h
   refine Cp (spinetref18_Shape_ok _ _ _ hx_r_2) hf1 fun f2 hf2=>En hf2 fun f3 hf3=>Kc<|Kq<|Kq<|Kr<|En hf3 fun f4 hf4=>Kc ?_
   have hj3:∀ (m_5:Int),spinetref18_Of_j0 b_ m_ m_1 r_ m_3 m_4 r_2 m_5=some r→∀ f,FOk f [⟨0,[],.sl false b_.length (cat (nI .u8) b_)⟩,⟨2,[],.ptr 0 0 0⟩,⟨3,[],.s (.bool false)⟩,⟨5,[],.ptr 3 0 0⟩,⟨10,[],.s (.int .i64 r_2.2.1)⟩]→kont Tryz.prog [] (spinetref18_Of_C r) ((.c (.seq (.reg false (i7 15)) a7_1))::[]) .normal f [⟨0,.mem,1,k7_0⟩,⟨2,.grow,1,cat (nI .u8) ((([]:List Int)++b_)++[0,0,0,0,0])⟩,⟨0,.grow,1,cat (nI .u8) [0,0,0,0,0]⟩,⟨0,.mem,1,[.s (.int .i64 m_),.s (.int .u8 m_1),.s (.int .i64 r_.Op),.s (.int .i64 r_.Mode),.s (.int .i64 r_.Reg),.s (.int .u8 m_3),.s (.int .u16 m_5),.s (.int .i64 m_4)]⟩]:=by
    intro m_5 h f hf
    unfold spinetref18_Of_j0 at h
    refine Kc<|Kq<|Kr<|En hf fun f1 hf1=>Kc<|Kq<|Kq<|Kr<|En hf1 fun f2 hf2=>Kc<|Kf hf2 h (fun hc20 h => ?_) fun hc20 h => ?_
    ·refine Kq<|Kr<|En hf2 fun f3 hf3 => ?_
     obtain rfl:=Oi h
     exact Kc<|Kt<|Xc<|k_fin (fin_ret (.inl rfl) hf3 (vs:=[.agg k7_0,.s (.bool false)]) (by kernel_rfl) (SettL.pure (FzL.tup (FzsL.cons (FzL.stat rfl) (FzsL.cons (FzL.stat rfl) FzsL.nil)))))
    ·refine Ks<|Kc<|Kq<|Kr<|En hf2 fun f3 hf3 => ?_
     obtain rfl:=Oi h
     exact Kc<|Kt<|k_fin (fin_ret (.inl rfl) hf3 (vs:=[.agg [.s (.int .i64 m_),.s (.int .u8 m_1),.s (.int .i64 r_.Op),.s (.int .i64 r_.Mode),.s (.int .i64 r_.Reg),.s (.int .u8 m_3),.s (.int .u16 m_5),.s (.int .i64 (IntKind.wrap .i64 (m_4+r_2.2.1)))],.s (.bool true)]) (by kernel_rfl) (SettL.pure (FzL.tup (FzsL.cons (FzL.stat rfl) (FzsL.cons (FzL.stat rfl) FzsL.nil)))))
   refine Kf hf4 h (fun hc13 h => ?_) fun hc13 h => ?_
   ·refine Kr<|Sg 3 hf4 fun f5 hf5 => ?_
    obtain ⟨c14,h⟩:=as_ok h
    refine Ad (.ias 1 (.t 83) (.t 85)) (.ptr 1 2 (0+(m_4:Int).toNat*1)) hf5 (e_ias_ref (l:=((([]:List Int)++b_)++[0,0,0,0,0])) (B:=⟨2,.grow,1,cat (nI .u8) ((([]:List Int)++b_)++[0,0,0,0,0])⟩) (b:=1) (ver:=2) (n:=((([]:List Int)++b_)++[0,0,0,0,0]).length) (k:=.i64) (iv:=m_4) (by kernel_rfl) (by kernel_rfl) rfl (live_grow (by kernel_rfl)) c14) fun f6 hf6=>Ad (.load false 1 (.t 86)) (.s (.int .u8 (gt ((([]:List Int)++b_)++[0,0,0,0,0]) m_4))) hf6 (e_load_pe (g:=(nI .u8)) (l:=((([]:List Int)++b_)++[0,0,0,0,0])) (iv:=m_4) (kd:=.grow) (q:=1) (b:=1) (ver:=2) [] (by kernel_rfl) (live_grow (by kernel_rfl)) c14 (by kernel_rfl) (by kernel_rfl)) fun f7 hf7 => ?_
    obtain ⟨r_3,hx_r_3,h⟩:=Bs h
    exact Cp (spinetref18_Sign_ok _ _ hx_r_3) hf7 fun f8 hf8=>En hf8 fun f9 hf9=>Kh (hj3 r_3 h _ (Of [0,2,3,5,10] hf9))
   ·refine Kq<|Kr<|En hf4 fun f5 hf5=>Kc<|Kf hf5 h (fun hc15 h => ?_) fun hc15 h => ?_
    ·refine Kr<|Sg 3 hf5 fun f6 hf6 => ?_
     obtain ⟨c16,h⟩:=as_ok h
     exact Ad (.ias 1 (.t 92) (.t 94)) (.ptr 1 2 (0+(m_4:Int).toNat*1)) hf6 (e_ias_ref (l:=((([]:List Int)++b_)++[0,0,0,0,0])) (B:=⟨2,.grow,1,cat (nI .u8) ((([]:List Int)++b_)++[0,0,0,0,0])⟩) (b:=1) (ver:=2) (n:=((([]:List Int)++b_)++[0,0,0,0,0]).length) (k:=.i64) (iv:=m_4) (by kernel_rfl) (by kernel_rfl) rfl (live_grow (by kernel_rfl)) c16) fun f7 hf7=>Ad (.load false 1 (.t 95)) (.s (.int .u8 (gt ((([]:List Int)++b_)++[0,0,0,0,0]) m_4))) hf7 (e_load_pe (g:=(nI .u8)) (l:=((([]:List Int)++b_)++[0,0,0,0,0])) (iv:=m_4) (kd:=.grow) (q:=1) (b:=1) (ver:=2) [] (by kernel_rfl) (live_grow (by kernel_rfl)) c16 (by kernel_rfl) (by kernel_rfl)) fun f8 hf8=>En hf8 fun f9 hf9=>Kh (hj3 (IntKind.wrap .u16 (gt ((([]:List Int)++b_)++[0,0,0,0,0]) m_4)) h _ (Of [0,2,3,5,10] hf9))
    ·refine Kq<|Kr<|En hf5 fun f6 hf6=>Kc<|Kf hf6 h (fun hc17 h => ?_) fun hc17 h => ?_
     ·refine Kw<|lw_tight 16 (by kernel_rfl)<|mops_seg [0,2,3,4,5,10,101,103] 3 hf6 (l':=[⟨0,[],.sl false b_.length (cat (nI .u8) b_)⟩,⟨2,[],.ptr 0 0 0⟩,⟨3,[],.s (.bool false)⟩,⟨4,[],.ref 1 2 0 ((([]:List Int)++b_)++[0,0,0,0,0]).length⟩,⟨5,[],.ptr 3 0 0⟩,⟨10,[],.s (.int .i64 r_2.2.1)⟩,⟨101,[],.ref 1 2 0 ((([]:List Int)++b_)++[0,0,0,0,0]).length⟩,⟨103,[],.s (.int .i64 m_4)⟩]) (L':=[⟨0,.mem,1,k7_0⟩,⟨2,.grow,1,cat (nI .u8) ((([]:List Int)++b_)++[0,0,0,0,0])⟩,⟨0,.grow,1,cat (nI .u8) [0,0,0,0,0]⟩,⟨0,.mem,1,[.s (.int .i64 m_),.s (.int .u8 m_1),.s (.int .i64 r_.Op),.s (.int .i64 r_.Mode),.s (.int .i64 r_.Reg),.s (.int .u8 m_3),.s (.int .u16 0),.s (.int .i64 m_4)]⟩]) (by kernel_rfl) fun f7 hf7 => ?_
      obtain ⟨c18,h⟩:=as_ok h
      refine Ad (.ias 1 (.t 101) (.t 103)) (.ptr 1 2 (0+(m_4:Int).toNat*1)) hf7 (e_ias_ref (l:=((([]:List Int)++b_)++[0,0,0,0,0])) (B:=⟨2,.grow,1,cat (nI .u8) ((([]:List Int)++b_)++[0,0,0,0,0])⟩) (b:=1) (ver:=2) (n:=((([]:List Int)++b_)++[0,0,0,0,0]).length) (k:=.i64) (iv:=m_4) (by kernel_rfl) (by kernel_rfl) rfl (live_grow (by kernel_rfl)) c18) fun f8 hf8=>Ad (.load false 1 (.t 104)) (.s (.int .u8 (gt ((([]:List Int)++b_)++[0,0,0,0,0]) m_4))) hf8 (e_load_pe (g:=(nI .u8)) (l:=((([]:List Int)++b_)++[0,0,0,0,0])) (iv:=m_4) (kd:=.grow) (q:=1) (b:=1) (ver:=2) [] (by kernel_rfl) (live_grow (by kernel_rfl)) c18 (by kernel_rfl) (by kernel_rfl)) fun f9 hf9=>mops_seg [0,2,3,5,10,107,108,111] 6 hf9 (l':=[⟨0,[],.sl false b_.length (cat (nI .u8) b_)⟩,⟨2,[],.ptr 0 0 0⟩,⟨3,[],.s (.bool false)⟩,⟨5,[],.ptr 3 0 0⟩,⟨10,[],.s (.int .i64 r_2.2.1)⟩,⟨107,[],.s (.int .u16 (IntKind.wrap .u16 ((IntKind.wrap .u16 (gt ((([]:List Int)++b_)++[0,0,0,0,0]) m_4))*256)))⟩,⟨108,[],.ref 1 2 0 ((([]:List Int)++b_)++[0,0,0,0,0]).length⟩,⟨111,[],.s (.int .i64 (IntKind.wrap .i64 (m_4+1)))⟩]) (L':=[⟨0,.mem,1,k7_0⟩,⟨2,.grow,1,cat (nI .u8) ((([]:List Int)++b_)++[0,0,0,0,0])⟩,⟨0,.grow,1,cat (nI .u8) [0,0,0,0,0]⟩,⟨0,.mem,1,[.s (.int .i64 m_),.s (.int .u8 m_1),.s (.int .i64 r_.Op),.s (.int .i64 r_.Mode),.s (.int .i64 r_.Reg),.s (.int .u8 m_3),.s (.int .u16 0),.s (.int .i64 m_4)]⟩]) (by kernel_rfl) fun f10 hf10 => ?_
      obtain ⟨c19,h⟩:=as_ok h
      refine Ad (.ias 1 (.t 108) (.t 111)) (.ptr 1 2 (0+((IntKind.wrap .i64 (m_4+1)):Int).toNat*1)) hf10 (e_ias_ref (l:=((([]:List Int)++b_)++[0,0,0,0,0])) (B:=⟨2,.grow,1,cat (nI .u8) ((([]:List Int)++b_)++[0,0,0,0,0])⟩) (b:=1) (ver:=2) (n:=((([]:List Int)++b_)++[0,0,0,0,0]).length) (k:=.i64) (iv:=(IntKind.wrap .i64 (m_4+1))) (by kernel_rfl) (by kernel_rfl) rfl (live_grow (by kernel_rfl)) c19) fun f11 hf11=>Ad (.load false 1 (.t 112)) (.s (.int .u8 (gt ((([]:List Int)++b_)++[0,0,0,0,0]) (IntKind.wrap .i64 (m_4+1))))) hf11 (e_load_pe (g:=(nI .u8)) (l:=((([]:List Int)++b_)++[0,0,0,0,0])) (iv:=(IntKind.wrap .i64 (m_4+1))) (kd:=.grow) (q:=1) (b:=1) (ver:=2) [] (by kernel_rfl) (live_grow (by kernel_rfl)) c19 (by kernel_rfl) (by kernel_rfl)) fun f12 hf12=>mops_end [0,2,3,5,10,115,116] hf12 (l':=[⟨0,[],.sl false b_.length (cat (nI .u8) b_)⟩,⟨2,[],.ptr 0 0 0⟩,⟨3,[],.s (.bool false)⟩,⟨5,[],.ptr 3 0 0⟩,⟨10,[],.s (.int .i64 r_2.2.1)⟩,⟨115,[],.s (.int .u16 (IntKind.wrap .u16 ((IntKind.wrap .u16 ((IntKind.wrap .u16 (gt ((([]:List Int)++b_)++[0,0,0,0,0]) m_4))*256))+(IntKind.wrap .u16 (gt ((([]:List Int)++b_)++[0,0,0,0,0]) (IntKind.wrap .i64 (m_4+1)))))))⟩,⟨116,[],.ptr 3 0 6⟩]) (L':=[⟨0,.mem,1,k7_0⟩,⟨2,.grow,1,cat (nI .u8) ((([]:List Int)++b_)++[0,0,0,0,0])⟩,⟨0,.grow,1,cat (nI .u8) [0,0,0,0,0]⟩,⟨0,.mem,1,[.s (.int .i64 m_),.s (.int .u8 m_1),.s (.int .i64 r_.Op),.s (.int .i64 r_.Mode),.s (.int .i64 r_.Reg),.s (.int .u8 m_3),.s (.int .u16 0),.s (.int .i64 m_4)]⟩]) (by kernel_rfl) fun f13 hf13 => ?_
      intro _
      refine lw_w (a:=⟨⟨none,(.e (.store 1 (.t 116) (.t 115))),none,[15,14,0,1,2,3,4,5,6,7,8,9,10,11,12,13,14]⟩,true,0,1⟩) (by kernel_rfl) rfl rfl<|mops_end [0,2,3,5,10] hf13 (l':=[⟨0,[],.sl false b_.length (cat (nI .u8) b_)⟩,⟨2,[],.ptr 0 0 0⟩,⟨3,[],.s (.bool false)⟩,⟨5,[],.ptr 3 0 0⟩,⟨10,[],.s (.int .i64 r_2.2.1)⟩]) (L':=[⟨0,.mem,1,k7_0⟩,⟨2,.grow,1,cat (nI .u8) ((([]:List Int)++b_)++[0,0,0,0,0])⟩,⟨0,.grow,1,cat (nI .u8) [0,0,0,0,0]⟩,⟨0,.mem,1,[.s (.int .i64 m_),.s (.int .u8 m_1),.s (.int .i64 r_.Op),.s (.int .i64 r_.Mode),.s (.int .i64 r_.Reg),.s (.int .u8 m_3),.s (.int .u16 (IntKind.wrap .u16 ((IntKind.wrap .u16 ((IntKind.wrap .u16 (gt ((([]:List Int)++b_)++[0,0,0,0,0]) m_4))*256))+(IntKind.wrap .u16 (gt ((([]:List Int)++b_)++[0,0,0,0,0]) (IntKind.wrap .i64 (m_4+1))))))),.s (.int .i64 m_4)]⟩]) (by kernel_rfl) fun f14 hf14=>⟨trivial,?_⟩
      exact lw_end (by kernel_rfl)<|hj3 (IntKind.wrap .u16 ((IntKind.wrap .u16 ((IntKind.wrap .u16 (gt ((([]:List Int)++b_)++[0,0,0,0,0]) m_4))*256))+(IntKind.wrap .u16 (gt ((([]:List Int)++b_)++[0,0,0,0,0]) (IntKind.wrap .i64 (m_4+1)))))) h _ (Of [0,2,3,5,10] hf14)
     ·exact Ks<|Kh (hj3 (0) h _ (Of [0,2,3,5,10] hf6))
  refine Kf hf7 h (fun hc11 h => ?_) fun hc11 h => ?_
  ·refine Kq<|Kr<|Sg 3 hf7 fun f8 hf8 => ?_
   obtain ⟨c12,h⟩:=as_ok h
   exact Ad (.ias 1 (.t 58) (.t 60)) (.ptr 1 2 (0+(m_2:Int).toNat*1)) hf8 (e_ias_ref (l:=((([]:List Int)++b_)++[0,0,0,0,0])) (B:=⟨2,.grow,1,cat (nI .u8) ((([]:List Int)++b_)++[0,0,0,0,0])⟩) (b:=1) (ver:=2) (n:=((([]:List Int)++b_)++[0,0,0,0,0]).length) (k:=.i64) (iv:=m_2) (by kernel_rfl) (by kernel_rfl) rfl (live_grow (by kernel_rfl)) c12) fun f9 hf9=>Ad (.load false 1 (.t 61)) (.s (.int .u8 (gt ((([]:List Int)++b_)++[0,0,0,0,0]) m_2))) hf9 (e_load_pe (g:=(nI .u8)) (l:=((([]:List Int)++b_)++[0,0,0,0,0])) (iv:=m_2) (kd:=.grow) (q:=1) (b:=1) (ver:=2) [] (by kernel_rfl) (live_grow (by kernel_rfl)) c12 (by kernel_rfl) (by kernel_rfl)) fun f10 hf10=>En hf10 fun f11 hf11=>Kc<|Kr<|En hf11 fun f12 hf12=>Kh (hj2 (gt ((([]:List Int)++b_)++[0,0,0,0,0]) m_2) (IntKind.wrap .i64 (m_2+1)) h _ (Of [0,2,3,4,5] hf12))
  ·exact Ks<|Kh (hj2 (0) m_2 h _ (Of [0,2,3,4,5] hf7))
 refine Kf hf17 h (fun hc8 h => ?_) fun hc8 h => ?_
 ·refine Kw<|lw_tight 5 (by kernel_rfl)<|mops_seg [0,2,3,4,5,31] 1 hf17 (l':=[⟨0,[],.sl false b_.length (cat (nI .u8) b_)⟩,⟨2,[],.ptr 0 0 0⟩,⟨3,[],.s (.bool false)⟩,⟨4,[],.ref 1 2 0 ((([]:List Int)++b_)++[0,0,0,0,0]).length⟩,⟨5,[],.ptr 3 0 0⟩,⟨31,[],.ref 1 2 0 ((([]:List Int)++b_)++[0,0,0,0,0]).length⟩]) (L':=[⟨0,.mem,1,k7_0⟩,⟨2,.grow,1,cat (nI .u8) ((([]:List Int)++b_)++[0,0,0,0,0])⟩,⟨0,.grow,1,cat (nI .u8) [0,0,0,0,0]⟩,⟨0,.mem,1,[.s (.int .i64 1),.s (.int .u8 (gt ((([]:List Int)++b_)++[0,0,0,0,0]) (0))),.s (.int .i64 0),.s (.int .i64 0),.s (.int .i64 0),.s (.int .u8 0),.s (.int .u16 0),.s (.int .i64 1)]⟩]) (by kernel_rfl) fun f18 hf18 => ?_
  obtain ⟨c9,h⟩:=as_ok h
  refine Ad (.ias 1 (.t 31) (.k (.int .i64 0))) (.ptr 1 2 (0+(0:Int).toNat*1)) hf18 (e_ias_ref (l:=((([]:List Int)++b_)++[0,0,0,0,0])) (B:=⟨2,.grow,1,cat (nI .u8) ((([]:List Int)++b_)++[0,0,0,0,0])⟩) (b:=1) (ver:=2) (n:=((([]:List Int)++b_)++[0,0,0,0,0]).length) (k:=.i64) (iv:=0) (by kernel_rfl) (by kernel_rfl) rfl (live_grow (by kernel_rfl)) c9) fun f19 hf19=>Ad (.load false 1 (.t 32)) (.s (.int .u8 (gt ((([]:List Int)++b_)++[0,0,0,0,0]) (0)))) hf19 (e_load_pe (g:=(nI .u8)) (l:=((([]:List Int)++b_)++[0,0,0,0,0])) (iv:=0) (kd:=.grow) (q:=1) (b:=1) (ver:=2) [] (by kernel_rfl) (live_grow (by kernel_rfl)) c9 (by kernel_rfl) (by kernel_rfl)) fun f20 hf20=>mops_end [0,2,3,4,5,35] hf20 (l':=[⟨0,[],.sl false b_.length (cat (nI .u8) b_)⟩,⟨2,[],.ptr 0 0 0⟩,⟨3,[],.s (.bool false)⟩,⟨4,[],.ref 1 2 0 ((([]:List Int)++b_)++[0,0,0,0,0]).length⟩,⟨5,[],.ptr 3 0 0⟩,⟨35,[],.s (.int .i64 (IntKind.wrap .i64 ((IntKind.wrap .i64 (gt ((([]:List Int)++b_)++[0,0,0,0,0]) (0))) - 14)))⟩]) (L':=[⟨0,.mem,1,k7_0⟩,⟨2,.grow,1,cat (nI .u8) ((([]:List Int)++b_)++[0,0,0,0,0])⟩,⟨0,.grow,1,cat (nI .u8) [0,0,0,0,0]⟩,⟨0,.mem,1,[.s (.int .i64 1),.s (.int .u8 (gt ((([]:List Int)++b_)++[0,0,0,0,0]) (0))),.s (.int .i64 0),.s (.int .i64 0),.s (.int .i64 0),.s (.int .u8 0),.s (.int .u16 0),.s (.int .i64 1)]⟩]) (by kernel_rfl) fun f21 hf21 => ?_
  intro _
  refine lw_free' (dst:=(some 36)) (op:=(.mv (.t 4))) (aft:=[]) (lo:=0) (hi:=1) (v:=.ref 1 2 0 ((([]:List Int)++b_)++[0,0,0,0,0]).length) (by kernel_rfl) (by kernel_rfl) hf21 (by kernel_rfl) (by kernel_rfl) trivial fun f22 hf22 => ?_
  obtain ⟨c10,h⟩:=as_ok h
  refine lw_free' (dst:=(some 37)) (op:=(.ias 1 (.t 36) (.k (.int .i64 1)))) (aft:=[5]) (lo:=0) (hi:=1) (v:=.ptr 1 2 (0+(1:Int).toNat*1)) (by kernel_rfl) (by kernel_rfl) hf22 (by kernel_rfl) (e_ias_ref (l:=((([]:List Int)++b_)++[0,0,0,0,0])) (B:=⟨2,.grow,1,cat (nI .u8) ((([]:List Int)++b_)++[0,0,0,0,0])⟩) (b:=1) (ver:=2) (n:=((([]:List Int)++b_)++[0,0,0,0,0]).length) (k:=.i64) (iv:=1) (by kernel_rfl) (by kernel_rfl) rfl (live_grow (by kernel_rfl)) c10) trivial fun f23 hf23=>lw_free' (dst:=(some 38)) (op:=(.load false 1 (.t 37))) (aft:=[6]) (lo:=0) (hi:=1) (v:=.s (.int .u8 (gt ((([]:List Int)++b_)++[0,0,0,0,0]) (1)))) (by kernel_rfl) (by kernel_rfl) hf23 (by kernel_rfl) (e_load_pe (g:=(nI .u8)) (l:=((([]:List Int)++b_)++[0,0,0,0,0])) (iv:=1) (kd:=.grow) (q:=1) (b:=1) (ver:=2) [] (by kernel_rfl) (live_grow (by kernel_rfl)) c10 (by kernel_rfl) (by kernel_rfl)) trivial fun f24 hf24=>lw_tight 1 (by kernel_rfl)<|mops_end [0,2,3,4,5,35,38,39] hf24 (l':=[⟨0,[],.sl false b_.length (cat (nI .u8) b_)⟩,⟨2,[],.ptr 0 0 0⟩,⟨3,[],.s (.bool false)⟩,⟨4,[],.ref 1 2 0 ((([]:List Int)++b_)++[0,0,0,0,0]).length⟩,⟨5,[],.ptr 3 0 0⟩,⟨35,[],.s (.int .i64 (IntKind.wrap .i64 ((IntKind.wrap .i64 (gt ((([]:List Int)++b_)++[0,0,0,0,0]) (0))) - 14)))⟩,⟨38,[],.s (.int .u8 (gt ((([]:List Int)++b_)++[0,0,0,0,0]) (1)))⟩,⟨39,[],.ptr 3 0 0⟩]) (L':=[⟨0,.mem,1,k7_0⟩,⟨2,.grow,1,cat (nI .u8) ((([]:List Int)++b_)++[0,0,0,0,0])⟩,⟨0,.grow,1,cat (nI .u8) [0,0,0,0,0]⟩,⟨0,.mem,1,[.s (.int .i64 1),.s (.int .u8 (gt ((([]:List Int)++b_)++[0,0,0,0,0]) (0))),.s (.int .i64 0),.s (.int .i64 0),.s (.int .i64 0),.s (.int .u8 0),.s (.int .u16 0),.s (.int .i64 1)]⟩]) (by kernel_rfl) fun f25 hf25 => ?_
  intro _
  refine lw_w (a:=⟨⟨none,(.e (.store 1 (.t 39) (.t 35))),none,[8,4,0,1,2,3,4]⟩,true,0,1⟩) (by kernel_rfl) rfl rfl<|mops_end [0,2,3,4,5,38] hf25 (l':=[⟨0,[],.sl false b_.length (cat (nI .u8) b_)⟩,⟨2,[],.ptr 0 0 0⟩,⟨3,[],.s (.bool false)⟩,⟨4,[],.ref 1 2 0 ((([]:List Int)++b_)++[0,0,0,0,0]).length⟩,⟨5,[],.ptr 3 0 0⟩,⟨38,[],.s (.int .u8 (gt ((([]:List Int)++b_)++[0,0,0,0,0]) (1)))⟩]) (L':=[⟨0,.mem,1,k7_0⟩,⟨2,.grow,1,cat (nI .u8) ((([]:List Int)++b_)++[0,0,0,0,0])⟩,⟨0,.grow,1,cat (nI .u8) [0,0,0,0,0]⟩,⟨0,.mem,1,[.s (.int .i64 (IntKind.wrap .i64 ((IntKind.wrap .i64 (gt ((([]:List Int)++b_)++[0,0,0,0,0]) (0))) - 14))),.s (.int .u8 (gt ((([]:List Int)++b_)++[0,0,0,0,0]) (0))),.s (.int .i64 0),.s (.int .i64 0),.s (.int .i64 0),.s (.int .u8 0),.s (.int .u16 0),.s (.int .i64 1)]⟩]) (by kernel_rfl) fun f26 hf26=>⟨(pend_ok hf23 (by kernel_rfl) (e_load_pe (g:=(nI .u8)) (l:=((([]:List Int)++b_)++[0,0,0,0,0])) (iv:=1) (kd:=.grow) (q:=1) (b:=1) (ver:=2) [] (by kernel_rfl) (live_grow (by kernel_rfl)) c10 (by kernel_rfl) (by kernel_rfl)) (pend_ok hf22 (by kernel_rfl) (e_ias_ref (l:=((([]:List Int)++b_)++[0,0,0,0,0])) (B:=⟨2,.grow,1,cat (nI .u8) ((([]:List Int)++b_)++[0,0,0,0,0])⟩) (b:=1) (ver:=2) (n:=((([]:List Int)++b_)++[0,0,0,0,0]).length) (k:=.i64) (iv:=1) (by kernel_rfl) (by kernel_rfl) rfl (live_grow (by kernel_rfl)) c10) (pend_ok hf21 (by kernel_rfl) (by kernel_rfl) trivial))),?_⟩
  refine lw_tight 1 (by kernel_rfl)<|mops_end [0,2,3,4,5,38,40] hf26 (l':=[⟨0,[],.sl false b_.length (cat (nI .u8) b_)⟩,⟨2,[],.ptr 0 0 0⟩,⟨3,[],.s (.bool false)⟩,⟨4,[],.ref 1 2 0 ((([]:List Int)++b_)++[0,0,0,0,0]).length⟩,⟨5,[],.ptr 3 0 0⟩,⟨38,[],.s (.int .u8 (gt ((([]:List Int)++b_)++[0,0,0,0,0]) (1)))⟩,⟨40,[],.ptr 3 0 1⟩]) (L':=[⟨0,.mem,1,k7_0⟩,⟨2,.grow,1,cat (nI .u8) ((([]:List Int)++b_)++[0,0,0,0,0])⟩,⟨0,.grow,1,cat (nI .u8) [0,0,0,0,0]⟩,⟨0,.mem,1,[.s (.int .i64 (IntKind.wrap .i64 ((IntKind.wrap .i64 (gt ((([]:List Int)++b_)++[0,0,0,0,0]) (0))) - 14))),.s (.int .u8 (gt ((([]:List Int)++b_)++[0,0,0,0,0]) (0))),.s (.int .i64 0),.s (.int .i64 0),.s (.int .i64 0),.s (.int .u8 0),.s (.int .u16 0),.s (.int .i64 1)]⟩]) (by kernel_rfl) fun f27 hf27 => ?_
  intro _
  refine lw_w (a:=⟨⟨none,(.e (.store 1 (.t 40) (.t 38))),none,[10,7,9,0,1,2,3,4,5,6,7,8,9]⟩,true,1,2⟩) (by kernel_rfl) rfl rfl<|mops_end [0,2,3,4,5] hf27 (l':=[⟨0,[],.sl false b_.length (cat (nI .u8) b_)⟩,⟨2,[],.ptr 0 0 0⟩,⟨3,[],.s (.bool false)⟩,⟨4,[],.ref 1 2 0 ((([]:List Int)++b_)++[0,0,0,0,0]).length⟩,⟨5,[],.ptr 3 0 0⟩]) (L':=[⟨0,.mem,1,k7_0⟩,⟨2,.grow,1,cat (nI .u8) ((([]:List Int)++b_)++[0,0,0,0,0])⟩,⟨0,.grow,1,cat (nI .u8) [0,0,0,0,0]⟩,⟨0,.mem,1,[.s (.int .i64 (IntKind.wrap .i64 ((IntKind.wrap .i64 (gt ((([]:List Int)++b_)++[0,0,0,0,0]) (0))) - 14))),.s (.int .u8 (gt ((([]:List Int)++b_)++[0,0,0,0,0]) (1))),.s (.int .i64 0),.s (.int .i64 0),.s (.int .i64 0),.s (.int .u8 0),.s (.int .u16 0),.s (.int .i64 1)]⟩]) (by kernel_rfl) fun f28 hf28=>⟨(pend_no (by kernel_rfl) (pend_no (by kernel_rfl) (pend_no (by kernel_rfl) trivial))),?_⟩
  refine lw_tight 1 (by kernel_rfl)<|mops_end [0,2,3,4,5,41] hf28 (l':=[⟨0,[],.sl false b_.length (cat (nI .u8) b_)⟩,⟨2,[],.ptr 0 0 0⟩,⟨3,[],.s (.bool false)⟩,⟨4,[],.ref 1 2 0 ((([]:List Int)++b_)++[0,0,0,0,0]).length⟩,⟨5,[],.ptr 3 0 0⟩,⟨41,[],.ptr 3 0 7⟩]) (L':=[⟨0,.mem,1,k7_0⟩,⟨2,.grow,1,cat (nI .u8) ((([]:List Int)++b_)++[0,0,0,0,0])⟩,⟨0,.grow,1,cat (nI .u8) [0,0,0,0,0]⟩,⟨0,.mem,1,[.s (.int .i64 (IntKind.wrap .i64 ((IntKind.wrap .i64 (gt ((([]:List Int)++b_)++[0,0,0,0,0]) (0))) - 14))),.s (.int .u8 (gt ((([]:List Int)++b_)++[0,0,0,0,0]) (1))),.s (.int .i64 0),.s (.int .i64 0),.s (.int .i64 0),.s (.int .u8 0),.s (.int .u16 0),.s (.int .i64 1)]⟩]) (by kernel_rfl) fun f29 hf29 => ?_
  intro _
  refine lw_w (a:=⟨⟨none,(.e (.store 1 (.t 41) (.k (.int .i64 2)))),none,[12,11,0,1,2,3,4,5,6,7,8,9,10,11]⟩,true,2,3⟩) (by kernel_rfl) rfl rfl<|mops_end [0,2,3,4,5] hf29 (l':=[⟨0,[],.sl false b_.length (cat (nI .u8) b_)⟩,⟨2,[],.ptr 0 0 0⟩,⟨3,[],.s (.bool false)⟩,⟨4,[],.ref 1 2 0 ((([]:List Int)++b_)++[0,0,0,0,0]).length⟩,⟨5,[],.ptr 3 0 0⟩]) (L':=[⟨0,.mem,1,k7_0⟩,⟨2,.grow,1,cat (nI .u8) ((([]:List Int)++b_)++[0,0,0,0,0])⟩,⟨0,.grow,1,cat (nI .u8) [0,0,0,0,0]⟩,⟨0,.mem,1,[.s (.int .i64 (IntKind.wrap .i64 ((IntKind.wrap .i64 (gt ((([]:List Int)++b_)++[0,0,0,0,0]) (0))) - 14))),.s (.int .u8 (gt ((([]:List Int)++b_)++[0,0,0,0,0]) (1))),.s (.int .i64 0),.s (.int .i64 0),.s (.int .i64 0),.s (.int .u8 0),.s (.int .u16 0),.s (.int .i64 2)]⟩]) (by kernel_rfl) fun f30 hf30=>⟨(pend_no (by kernel_rfl) (pend_no (by kernel_rfl) (pend_no (by kernel_rfl) trivial))),?_⟩
  exact lw_end (by kernel_rfl)<|hj1 (IntKind.wrap .i64 ((IntKind.wrap .i64 (gt ((([]:List Int)++b_)++[0,0,0,0,0]) (0))) - 14)) (gt ((([]:List Int)++b_)++[0,0,0,0,0]) (1)) (2) h _ (Of [0,2,3,4,5] hf30)
 ·exact Ks<|Kh (hj1 (1) (gt ((([]:List Int)++b_)++[0,0,0,0,0]) (0)) (1) h _ (Of [0,2,3,4,5] hf17))
@[irreducible] noncomputable def i10:Nat→List Op1:=rg Tryz.prog 10 []
noncomputable def a10_0:IR:=(.seq (.block 1 (.seq (.seq (.reg false (i10 5)) (.cond (.t 21) (.reg false (i10 6)) .skip)) (.reg false (i10 7)))) (.reg false (i10 8)))
noncomputable def a10_1:IR:=(.block 0 (.loop (.seq (.seq (.reg false (i10 4)) (.cond (.t 17) .skip (.exit 0))) a10_0)))
noncomputable def a10_2:IR:=(.cond (.t 13) (.seq (.reg false (i10 2)) (.seq (.seq (.reg false (i10 3)) a10_1) (.seq (.reg false (i10 9)) .ret))) .skip)
noncomputable def a10_3:IR:=(.cond (.t 84) (.reg true (i10 26)) (.seq (.reg false (i10 27)) (.cond (.t 98) (.reg false (i10 28)) .skip)))
noncomputable def a10_4:IR:=(.cond (.t 64) (.reg false (i10 21)) (.seq (.seq (.reg false (i10 22)) (.cond (.t 71) .skip (.reg false (i10 23)))) (.cond (.t 71) (.reg false (i10 24)) (.seq (.reg false (i10 25)) a10_3))))
noncomputable def a10_5:IR:=(.cond (.t 50) (.reg false (i10 17)) (.seq (.reg false (i10 18)) (.cond (.t 57) (.reg false (i10 19)) (.seq (.reg false (i10 20)) a10_4))))
noncomputable def a10_6:IR:=(.cond (.t 36) (.reg false (i10 13)) (.seq (.reg false (i10 14)) (.cond (.t 43) (.reg false (i10 15)) (.seq (.reg false (i10 16)) a10_5))))
noncomputable def a10_7:IR:=(.seq (.seq (.reg false (i10 30)) (.cond (.t 115) (.seq (.reg false (i10 31)) .ret) .skip)) (.seq (.reg false (i10 32)) .ret))
noncomputable def a10_8:IR:=(.seq (.seq (.reg false (i10 11)) (.block 2 (.seq (.reg false (i10 12)) a10_6))) (.seq (.reg false (i10 29)) a10_7))
noncomputable def spinetref42_Text_ir:IR:=(.seq (.reg false (i10 0)) (.seq (.seq (.reg false (i10 1)) a10_2) (.seq (.reg false (i10 10)) a10_8)))
theorem spinetref42_Text_cfn:cFn Tryz.prog 10=some (spinetref42_Text_ir,[(.t 6)],121):=by kernel_rfl
def spinetref42_Text_V (r:(ByteArray)):V:=.s (.string r)
def spinetref42_Text_C (r:(ByteArray)):X→Fr→Hp→Prop:=FinL [(.t 6)] [] (spinetref42_Text_V r) []
theorem spinetref42_Text_ok (i_:api_Inst) (at_:Int) (b_:(List Int)) (r:(ByteArray)) (h:spinetref42_Text i_ at_ b_=some r):Pure Tryz.prog 10 [.agg [.s (.int .i64 i_.Page),.s (.int .u8 i_.Code),.s (.int .i64 i_.Entry.Op),.s (.int .i64 i_.Entry.Mode),.s (.int .i64 i_.Entry.Reg),.s (.int .u8 i_.Post),.s (.int .u16 i_.Value),.s (.int .i64 i_.Len)],.s (.int .u16 at_),.sl false b_.length (cat (nI .u8) b_)] (spinetref42_Text_V r):=by
 refine CS spinetref42_Text_cfn (spinetref42_Text_C r) fun f hf => ?_
 unfold spinetref42_Text at h
 refine Kq<|Kr<|En hf fun f1 hf1=>Kc<|Kq<|Kq<|Kr<|Sg 1 hf1 fun f2 hf2 => ?_
 obtain ⟨r_,hx_r_,h⟩:=Bs h
 refine Cp (spinetref42_Sure_ok _ _ hx_r_) hf2 fun f3 hf3=>En hf3 fun f4 hf4=>Kc<|Kf hf4 h (fun hc1 h => ?_) fun hc1 h => ?_
 ·refine Kq<|Kr<|En hf4 fun f5 hf5=>Kc<|Kq<|Kq<|Kr<|En hf5 fun f6 hf6=>Kc<|Kb ?_
  obtain ⟨o0,hx0,h⟩:=Bs h
  have hgo0:∀ (s_4:ByteArray),s_4=o0→∀ f,FOk f [⟨1,[],.s (.int .u16 at_)⟩,⟨3,[],.ptr 0 0 0⟩,⟨6,[],.s (.string (⟨#[]⟩:ByteArray))⟩,⟨7,[],.s (.string s_4)⟩]→kont Tryz.prog [] (spinetref42_Text_C r) ((.c (.seq (.reg false (i10 9)) .ret))::(.c (.seq (.reg false (i10 10)) a10_8))::[]) .normal f [⟨0,.mem,1,[.s (.int .i64 i_.Page),.s (.int .u8 i_.Code),.s (.int .i64 i_.Entry.Op),.s (.int .i64 i_.Entry.Mode),.s (.int .i64 i_.Entry.Reg),.s (.int .u8 i_.Post),.s (.int .u16 i_.Value),.s (.int .i64 i_.Len)]⟩]:=by
   intro s_4 e f hf
   subst e
   refine Kc<|Kq<|Kr<|En hf fun f1 hf1 => ?_
   obtain rfl:=Oi h
   exact Kc<|Kt<|Xc<|Fp hf1
  refine k_loop BIG<|loop_ind (fun n f L=>∃ (s_3:ByteArray) (k_1:Int),spinetref42_Text_l0 b_ n s_3 k_1=some o0∧FOk f [⟨1,[],.s (.int .u16 at_)⟩,⟨2,[],.sl false b_.length (cat (nI .u8) b_)⟩,⟨3,[],.ptr 0 0 0⟩,⟨6,[],.s (.string (⟨#[]⟩:ByteArray))⟩,⟨7,[],.s (.string s_3)⟩,⟨8,[],.s (.int .i64 k_1)⟩]∧L=[⟨0,.mem,1,[.s (.int .i64 i_.Page),.s (.int .u8 i_.Code),.s (.int .i64 i_.Entry.Op),.s (.int .i64 i_.Entry.Mode),.s (.int .i64 i_.Entry.Reg),.s (.int .u8 i_.Post),.s (.int .u16 i_.Value),.s (.int .i64 i_.Len)]⟩]) ?_ ?_ BIG _ _ ⟨(⟨#[70,67,66,32]⟩:ByteArray),(0),hx0,FOk_of [1,2,3,6,7,8] hf6 (by kernel_rfl),(by kernel_rfl)⟩
  ·rintro f L ⟨s_3,k_1,h,_⟩
   cases (show (none:Option _)=some _ from h)
  ·rintro n0 R0 ih f L ⟨s_3,k_1,h,hf,rfl⟩
   rw [spinetref42_Text_l0] at h
   refine Kq<|Kq<|Kr<|En hf fun f1 hf1=>Kc<|Kf hf1 h (fun hc2 h => ?_) fun hc2 h => ?_
   ·refine Ks<|Kc<|Kq<|Kb<|Kq<|Kq<|Kr<|En hf1 fun f2 hf2=>Kc ?_
    have hj1:∀ (s_5:ByteArray),spinetref42_Text_j0 ((spinetref42_Text_l0 b_ n0)) b_ k_1 s_5=some o0→∀ f,FOk f [⟨1,[],.s (.int .u16 at_)⟩,⟨2,[],.sl false b_.length (cat (nI .u8) b_)⟩,⟨3,[],.ptr 0 0 0⟩,⟨6,[],.s (.string (⟨#[]⟩:ByteArray))⟩,⟨7,[],.s (.string s_5)⟩,⟨8,[],.s (.int .i64 k_1)⟩]→kont Tryz.prog [] (spinetref42_Text_C r) ((.c (.reg false (i10 7)))::(.b 1)::(.c (.reg false (i10 8)))::(.l R0)::(.b 0)::(.c (.seq (.reg false (i10 9)) .ret))::(.c (.seq (.reg false (i10 10)) a10_8))::[]) .normal f [⟨0,.mem,1,[.s (.int .i64 i_.Page),.s (.int .u8 i_.Code),.s (.int .i64 i_.Entry.Op),.s (.int .i64 i_.Entry.Mode),.s (.int .i64 i_.Entry.Reg),.s (.int .u8 i_.Post),.s (.int .u16 i_.Value),.s (.int .i64 i_.Len)]⟩]:=by
     intro s_5 h f hf
     unfold spinetref42_Text_j0 at h
     refine Kc<|Kr<|Sg 3 hf fun f1 hf1 => ?_
     obtain ⟨c5,h⟩:=as_ok h
     refine Ad (.ias 1 (.t 25) (.t 26)) (.ip ((cat (nI .u8) b_).drop ((k_1:Int).toNat*1))) hf1 (e_ias (n:=b_.length) (xv:=.sl false b_.length (cat (nI .u8) b_)) (k:=.i64) (iv:=k_1) (p:=.ip ((cat (nI .u8) b_).drop ((k_1:Int).toNat*1))) (by kernel_rfl) (by kernel_rfl) (by kernel_rfl) (by kernel_rfl) c5) fun f2 hf2=>Ad (.load false 1 (.t 27)) (.s (.int .u8 (gt b_ k_1))) hf2 (e_load_ip (g:=(nI .u8)) (l:=b_) (iv:=k_1) [] (by kernel_rfl) c5 (by kernel_rfl) (by kernel_rfl)) fun f3 hf3=>Sg 1 hf3 fun f4 hf4 => ?_
     obtain ⟨r_3,hx_r_3,h⟩:=Bs h
     refine Cp (spinetref42_Hex_ok _ _ _ hx_r_3) hf4 fun f5 hf5 => ?_
     obtain ⟨c6,h⟩:=as_ok h
     exact Ad (.bin .add (.t 24) (.t 30)) (.s (.string (s_5++r_3))) hf5 (e_sadd (t:=s_5) (t':=r_3) (by kernel_rfl) (by kernel_rfl) c6) fun f6 hf6=>En hf6 fun f7 hf7=>Kv<|Kc<|Kr<|En hf7 fun f8 hf8=>Kl<|ih _ _ ⟨(s_5++r_3),(IntKind.wrap .i64 (k_1+1)),h,FOk_of [1,2,3,6,7,8] hf8 (by kernel_rfl),(by kernel_rfl)⟩
    refine Kf hf2 h (fun hc3 h => ?_) fun hc3 h => ?_
    ·refine Kr<|Sg 1 hf2 fun f3 hf3 => ?_
     obtain ⟨c4,h⟩:=as_ok h
     exact Ad (.bin .add (.t 22) (.k (.string ⟨#[44]⟩))) (.s (.string (s_3++(⟨#[44]⟩:ByteArray)))) hf3 (e_sadd (t:=s_3) (t':=(⟨#[44]⟩:ByteArray)) (by kernel_rfl) (by kernel_rfl) c4) fun f4 hf4=>En hf4 fun f5 hf5=>Kh (hj1 (s_3++(⟨#[44]⟩:ByteArray)) h _ (Of [1,2,3,6,7,8] hf5))
    ·exact Ks<|Kh (hj1 s_3 h _ (Of [1,2,3,6,7,8] hf2))
   ·exact Kx<|Xc<|Xl<|Xb<|Kh (hgo0 s_3 (Option.some.inj h) _ (Of [1,3,6,7] hf1))
 ·refine Ks<|Kc<|Kq<|Kr<|En hf4 fun f5 hf5=>Kc<|Kq<|Kq<|Kr<|En hf5 fun f6 hf6=>Kc<|Kb<|Kq<|Kr<|En hf6 fun f7 hf7=>Kc ?_
  have hj2:∀ (o_:ByteArray),spinetref42_Text_j2 i_ o_=some r→∀ f,FOk f [⟨3,[],.ptr 0 0 0⟩,⟨6,[],.s (.string (⟨#[]⟩:ByteArray))⟩,⟨9,[],.s (.string o_)⟩]→kont Tryz.prog [] (spinetref42_Text_C r) ((.c (.seq (.reg false (i10 29)) a10_7))::[]) .normal f [⟨0,.mem,1,[.s (.int .i64 i_.Page),.s (.int .u8 i_.Code),.s (.int .i64 i_.Entry.Op),.s (.int .i64 i_.Entry.Mode),.s (.int .i64 i_.Entry.Reg),.s (.int .u8 i_.Post),.s (.int .u16 i_.Value),.s (.int .i64 i_.Len)]⟩]:=by
   intro o_ h f hf
   unfold spinetref42_Text_j2 at h
   refine Kc<|Kq<|Kr<|Sg 6 hf fun f1 hf1 => ?_
   obtain ⟨r_13,hx_r_13,h⟩:=Bs h
   refine Cp (spinetref13_Name_ok _ _ _ hx_r_13) hf1 fun f2 hf2=>En hf2 fun f3 hf3=>Kc<|Kq<|Kq<|Kr<|En hf3 fun f4 hf4=>Kc<|Kf hf4 h (fun hc22 h => ?_) fun hc22 h => ?_
   ·refine Kq<|Kr<|En hf4 fun f5 hf5 => ?_
    obtain rfl:=Oi h
    exact Kc<|Kt<|Xc<|Fp hf5
   ·refine Ks<|Kc<|Kq<|Kr<|Sg 1 hf4 fun f5 hf5 => ?_
    obtain ⟨c23,h⟩:=as_ok h
    refine Ad (.bin .add (.t 117) (.k (.string ⟨#[32]⟩))) (.s (.string (r_13++(⟨#[32]⟩:ByteArray)))) hf5 (e_sadd (t:=r_13) (t':=(⟨#[32]⟩:ByteArray)) (by kernel_rfl) (by kernel_rfl) c23) fun f6 hf6=>Sg 1 hf6 fun f7 hf7 => ?_
    obtain ⟨c24,h⟩:=as_ok h
    refine Ad (.bin .add (.t 118) (.t 119)) (.s (.string ((r_13++(⟨#[32]⟩:ByteArray))++o_))) hf7 (e_sadd (t:=(r_13++(⟨#[32]⟩:ByteArray))) (t':=o_) (by kernel_rfl) (by kernel_rfl) c24) fun f8 hf8=>En hf8 fun f9 hf9 => ?_
    obtain rfl:=Oi h
    exact Kc<|Kt<|Fp hf9
  refine Kf hf7 h (fun hc7 h => ?_) fun hc7 h => ?_
  ·refine Kr<|Sg 3 hf7 fun f8 hf8 => ?_
   obtain ⟨r_4,hx_r_4,h⟩:=Bs h
   refine Cp (spinetref42_Hex_ok _ _ _ hx_r_4) hf8 fun f9 hf9 => ?_
   obtain ⟨c8,h⟩:=as_ok h
   exact Ad (.bin .add (.k (.string ⟨#[35]⟩)) (.t 41)) (.s (.string ((⟨#[35]⟩:ByteArray)++r_4))) hf9 (e_sadd (t:=(⟨#[35]⟩:ByteArray)) (t':=r_4) (by kernel_rfl) (by kernel_rfl) c8) fun f10 hf10=>En hf10 fun f11 hf11=>Kv<|Kh (hj2 ((⟨#[35]⟩:ByteArray)++r_4) h _ (Of [3,6,9] hf11))
  ·refine Kq<|Kr<|En hf7 fun f8 hf8=>Kc<|Kf hf8 h (fun hc9 h => ?_) fun hc9 h => ?_
   ·refine Kr<|Sg 3 hf8 fun f9 hf9 => ?_
    obtain ⟨r_5,hx_r_5,h⟩:=Bs h
    refine Cp (spinetref42_Hex_ok _ _ _ hx_r_5) hf9 fun f10 hf10 => ?_
    obtain ⟨c10,h⟩:=as_ok h
    exact Ad (.bin .add (.k (.string ⟨#[35]⟩)) (.t 48)) (.s (.string ((⟨#[35]⟩:ByteArray)++r_5))) hf10 (e_sadd (t:=(⟨#[35]⟩:ByteArray)) (t':=r_5) (by kernel_rfl) (by kernel_rfl) c10) fun f11 hf11=>En hf11 fun f12 hf12=>Kv<|Kh (hj2 ((⟨#[35]⟩:ByteArray)++r_5) h _ (Of [3,6,9] hf12))
   ·refine Kq<|Kr<|En hf8 fun f9 hf9=>Kc<|Kf hf9 h (fun hc11 h => ?_) fun hc11 h => ?_
    ·refine Kr<|Sg 3 hf9 fun f10 hf10 => ?_
     obtain ⟨r_6,hx_r_6,h⟩:=Bs h
     refine Cp (spinetref42_Hex_ok _ _ _ hx_r_6) hf10 fun f11 hf11 => ?_
     obtain ⟨c12,h⟩:=as_ok h
     exact Ad (.bin .add (.k (.string ⟨#[60]⟩)) (.t 55)) (.s (.string ((⟨#[60]⟩:ByteArray)++r_6))) hf11 (e_sadd (t:=(⟨#[60]⟩:ByteArray)) (t':=r_6) (by kernel_rfl) (by kernel_rfl) c12) fun f12 hf12=>En hf12 fun f13 hf13=>Kv<|Kh (hj2 ((⟨#[60]⟩:ByteArray)++r_6) h _ (Of [3,6,9] hf13))
    ·refine Kq<|Kr<|En hf9 fun f10 hf10=>Kc<|Kf hf10 h (fun hc13 h => ?_) fun hc13 h => ?_
     ·refine Kr<|Sg 4 hf10 fun f11 hf11 => ?_
      obtain ⟨r_7,hx_r_7,h⟩:=Bs h
      exact Cp (spinetref42_indexed_ok _ _ _ hx_r_7) hf11 fun f12 hf12=>En hf12 fun f13 hf13=>Kv<|Kh (hj2 r_7 h _ (Of [3,6,9] hf13))
     ·refine Kq<|Kr<|En hf10 fun f11 hf11=>Kc<|Kf hf11 h (fun hc14 h => ?_) fun hc14 h => ?_
      ·refine Kr<|Sg 3 hf11 fun f12 hf12 => ?_
       obtain ⟨r_8,hx_r_8,h⟩:=Bs h
       refine Cp (spinetref42_Hex_ok _ _ _ hx_r_8) hf12 fun f13 hf13 => ?_
       obtain ⟨c15,h⟩:=as_ok h
       exact Ad (.bin .add (.k (.string ⟨#[62]⟩)) (.t 69)) (.s (.string ((⟨#[62]⟩:ByteArray)++r_8))) hf13 (e_sadd (t:=(⟨#[62]⟩:ByteArray)) (t':=r_8) (by kernel_rfl) (by kernel_rfl) c15) fun f14 hf14=>En hf14 fun f15 hf15=>Kv<|Kh (hj2 ((⟨#[62]⟩:ByteArray)++r_8) h _ (Of [3,6,9] hf15))
      ·refine Kq<|Kq<|Kr<|En hf11 fun f12 hf12=>Kc ?_
       have hj3:∀ (t_:Bool),spinetref42_Text_j1 i_ at_ t_=some r→∀ f,FOk f [⟨1,[],.s (.int .u16 at_)⟩,⟨3,[],.ptr 0 0 0⟩,⟨6,[],.s (.string (⟨#[]⟩:ByteArray))⟩,⟨9,[],.s (.string (⟨#[]⟩:ByteArray))⟩,⟨35,[],.s (.int .i64 i_.Entry.Mode)⟩,⟨71,[],.s (.bool t_)⟩]→kont Tryz.prog [] (spinetref42_Text_C r) ((.c (.cond (.t 71) (.reg false (i10 24)) (.seq (.reg false (i10 25)) a10_3)))::((.b 2)::(.c (.seq (.reg false (i10 29)) a10_7))::[])) .normal f [⟨0,.mem,1,[.s (.int .i64 i_.Page),.s (.int .u8 i_.Code),.s (.int .i64 i_.Entry.Op),.s (.int .i64 i_.Entry.Mode),.s (.int .i64 i_.Entry.Reg),.s (.int .u8 i_.Post),.s (.int .u16 i_.Value),.s (.int .i64 i_.Len)]⟩]:=by
        intro t_ h f hf
        unfold spinetref42_Text_j1 at h
        refine Kc<|Kf hf h (fun hc17 h => ?_) fun hc17 h => ?_
        ·refine Kr<|Sg 9 hf fun f1 hf1 => ?_
         obtain ⟨r_9,hx_r_9,h⟩:=Bs h
         exact Cp (spinetref42_Hex_ok _ _ _ hx_r_9) hf1 fun f2 hf2=>En hf2 fun f3 hf3=>Kv<|Kh (hj2 r_9 h _ (Of [3,6,9] hf3))
        ·refine Kq<|Kr<|En hf fun f1 hf1=>Kc<|Kf hf1 h (fun hc18 h => ?_) fun hc18 h => ?_
         ·refine Kd<|Sg 4 hf1 fun f2 hf2 => ?_
          obtain ⟨r_10,hx_r_10,h⟩:=Bs h
          refine Cp (spinetref42_Reg_ok _ _ hx_r_10) hf2 fun f3 hf3 => ?_
          obtain ⟨c19,h⟩:=as_ok h
          refine Ad (.bin .add (.t 90) (.k (.string ⟨#[44]⟩))) (.s (.string (r_10++(⟨#[44]⟩:ByteArray)))) hf3 (e_sadd (t:=r_10) (t':=(⟨#[44]⟩:ByteArray)) (by kernel_rfl) (by kernel_rfl) c19) fun f4 hf4=>Sg 4 hf4 fun f5 hf5 => ?_
          obtain ⟨r_11,hx_r_11,h⟩:=Bs h
          refine Cp (spinetref42_Reg_ok _ _ hx_r_11) hf5 fun f6 hf6 => ?_
          obtain ⟨c20,h⟩:=as_ok h
          exact Ad (.bin .add (.t 91) (.t 96)) (.s (.string ((r_10++(⟨#[44]⟩:ByteArray))++r_11))) hf6 (e_sadd (t:=(r_10++(⟨#[44]⟩:ByteArray))) (t':=r_11) (by kernel_rfl) (by kernel_rfl) c20) fun f7 hf7=>En hf7 fun f8 hf8=>Kv<|Kh (hj2 ((r_10++(⟨#[44]⟩:ByteArray))++r_11) h _ (Of [3,6,9] hf8))
         ·refine Kq<|Kr<|En hf1 fun f2 hf2=>Kc<|Kf hf2 h (fun hc21 h => ?_) fun hc21 h => ?_
          ·refine Kr<|Sg 6 hf2 fun f3 hf3 => ?_
           obtain ⟨r_12,hx_r_12,h⟩:=Bs h
           exact Cp (spinetref42_list_ok _ _ _ hx_r_12) hf3 fun f4 hf4=>En hf4 fun f5 hf5=>Kv<|Kh (hj2 r_12 h _ (Of [3,6,9] hf5))
          ·exact Ks<|Kv<|Kh (hj2 (⟨#[]⟩:ByteArray) h _ (Of [3,6,9] hf2))
       refine Kf hf12 h (fun hc16 h => ?_) fun hc16 h => ?_
       ·exact Ks<|Kh (hj3 (i_.Entry.Mode == 6) h _ (Of [1,3,6,9,35,71] hf12))
       ·exact Kr<|En hf12 fun f13 hf13=>Kh (hj3 (i_.Entry.Mode == 7) h _ (Of [1,3,6,9,35,71] hf13))
end Go.Proofs.YtfcegejpdlbkdaaGreatK
