/- The Go functions come to the functions over typed data. Printed by a program of this work. -/
import Derived.Test.YtfcegejpdlbkdaaGreatF
import Derived.Test.YtfcegejpdlbkdaaGreatProg
import Derived.Test.YtfcegejpdlbkdaaGreatRp
import Derived.Test.YtfcegejpdlbkdaaGreatRq
import Derived.Test.YtfcegejpdlbkdaaGreatSr
import Derived.Test.YtfcegejpdlbkdaaGreatG0
import Derived.Test.YtfcegejpdlbkdaaGreatG1
import Derived.Test.YtfcegejpdlbkdaaGreatG2
import Derived.Test.YtfcegejpdlbkdaaGreatG3
namespace Go.Proofs.YtfcegejpdlbkdaaGreatK
set_option linter.unusedVariables false
set_option linter.unusedSimpArgs false
set_option maxHeartbeats 4000000
open Go.RowKit
attribute [local irreducible] dwv mops lops lqops lwops kont iter run runK rk okK ex E1 vals val chain chB sel resF
@[irreducible] noncomputable def i37:Nat→List Op1:=rg Tryz.prog 37 [58,61]
noncomputable def a37_0:IR:=(.seq (.seq (.reg false (i37 12)) (.cond (.t 60) (.seq (.reg false (i37 13)) .ret) .skip)) (.seq (.reg false (i37 14)) .ret))
noncomputable def a37_1:IR:=(.seq (.reg false (i37 9)) (.seq (.reg false (i37 10)) (.seq (.reg false (i37 11)) a37_0)))
noncomputable def a37_2:IR:=(.seq (.reg false (i37 6)) (.seq (.seq (.reg false (i37 7)) (.cond (.t 34) (.reg false (i37 8)) .skip)) a37_1))
noncomputable def a37_3:IR:=(.seq (.seq (.reg false (i37 3)) (.seq (.reg false (i37 4)) (.cond (.t 19) (.reg false (i37 5)) .skip))) a37_2)
noncomputable def inst_Of_ir:IR:=(.seq (.reg false (i37 0)) (.seq (.reg false (i37 1)) (.seq (.reg false (i37 2)) a37_3)))
theorem inst_Of_cfn:cFn Tryz.prog 37 [58,61]=some (inst_Of_ir,[(.c 2 true 8),(.t 3)],63):=by kernel_rfl
def inst_Of_V (r:(api_Inst × Int)):V:=.tup [.agg [.s (.int .i64 r.1.Page),.s (.int .u8 r.1.Code),.s (.int .i64 r.1.Entry.Op),.s (.int .i64 r.1.Entry.Mode),.s (.int .i64 r.1.Entry.Reg),.s (.int .u8 r.1.Post),.s (.int .u16 r.1.Value),.s (.int .i64 r.1.Len)],.s (.int .i64 r.2)]
def inst_Of_C (r:(api_Inst × Int)):X→Fr→Hp→Prop:=FinL [(.c 2 true 8),(.t 3)] [] (inst_Of_V r) []
abbrev k37_0:List V:=[.s (.int .i64 0),.s (.int .u8 0),.s (.int .i64 0),.s (.int .i64 0),.s (.int .i64 0),.s (.int .u8 0),.s (.int .u16 0),.s (.int .i64 0)]
theorem inst_Of_ok (b_:(List Int)) (r:(api_Inst × Int)) (h:inst_Of b_=some r):Pure Tryz.prog 37 [.sl false b_.length (cat (nI .u8) b_)] (inst_Of_V r):=by
 refine CS inst_Of_cfn (inst_Of_C r) fun f hf => ?_
 unfold inst_Of at h
 refine Kq<|Kr<|En hf fun f1 hf1=>Kc<|Kq<|Kr<|En hf1 fun f2 hf2=>Kc<|Kq<|Kr<|Sg 1 hf2 fun f3 hf3 => ?_
 obtain ⟨r_,hx_r_,h⟩:=Bs h
 refine Ca hf3 (av:=[.ptr 1 0 0]) (v:=.s (.int .u8 r_.1)) (L':=[⟨0,.mem,1,k37_0⟩,⟨0,.mem,1,[.sl false r_.2.b.length (cat (nI .u8) r_.2.b),.s (.int .i64 r_.2.n),.s (.bool r_.2.short)]⟩]) (CalL.borrow (M:=[⟨0,.mem,1,[.sl false b_.length (cat (nI .u8) b_),.s (.int .i64 0),.s (.bool false)]⟩]) (M':=[⟨0,.mem,1,[.sl false r_.2.b.length (cat (nI .u8) r_.2.b),.s (.int .i64 r_.2.n),.s (.bool r_.2.short)]⟩]) [1] (inst_reader_next_ok (inst_reader.mk b_ (0) false) r_ hx_r_) (by kernel_rfl) (RNs.cons (RN.ptr (by kernel_rfl)) RNs.nil) (RN.stat rfl) (RBs.cons (RNs.stat (by simp [statics,V.static,cat_stat])) RBs.nil) (RBs.cons (RNs.stat (by simp [statics,V.static,cat_stat])) RBs.nil) (by kernel_rfl) (by kernel_rfl)) (by intro h; cases h) fun f4 hf4=>En hf4 fun f5 hf5=>Kc<|Kq<|Kq<|Kr<|Sg 2 hf5 fun f6 hf6 => ?_
 obtain ⟨r_1,hx_r_1,h⟩:=Bs h
 refine Cp (page_Prefix_ok _ _ hx_r_1) hf6 fun f7 hf7=>En hf7 fun f8 hf8=>Kc<|Kq<|Kr<|En hf8 fun f9 hf9=>Kc ?_
 have hj1:∀ (m_:(List Int)) (m_1:Int) (m_2:Bool) (m_3:Int) (m_4:Int),inst_Of_j1 m_ m_1 m_2 m_3 m_4=some r→∀ f,FOk f [⟨2,[],.ptr 0 0 0⟩,⟨3,[],.s (.int .i64 0)⟩,⟨4,[],.ptr 1 0 0⟩,⟨5,[],.ptr 2 0 0⟩]→kont Tryz.prog [] (inst_Of_C r) ((.c a37_2)::[]) .normal f [⟨0,.mem,1,k37_0⟩,⟨0,.mem,1,[.sl false m_.length (cat (nI .u8) m_),.s (.int .i64 m_1),.s (.bool m_2)]⟩,⟨0,.mem,1,[.s (.int .i64 m_3),.s (.int .u8 m_4),.s (.int .i64 0),.s (.int .i64 0),.s (.int .i64 0),.s (.int .u8 0),.s (.int .u16 0),.s (.int .i64 0)]⟩]:=by
  intro m_ m_1 m_2 m_3 m_4 h f hf
  unfold inst_Of_j1 at h
  refine Kc<|Kq<|Kr<|Sg 4 hf fun f1 hf1 => ?_
  obtain ⟨r_3,hx_r_3,h⟩:=Bs h
  refine Cp (page_Of_ok _ _ _ hx_r_3) hf1 fun f2 hf2=>En hf2 fun f3 hf3=>Kc<|Kq<|Kq<|Kr<|Sg 3 hf3 fun f4 hf4 => ?_
  obtain ⟨r_4,hx_r_4,h⟩:=Bs h
  refine Cp (inst_posted_ok _ _ hx_r_4) hf4 fun f5 hf5=>En hf5 fun f6 hf6=>Kc ?_
  have hj2:∀ (m_5:(List Int)) (m_6:Int) (m_7:Bool) (m_8:Int),inst_Of_j0 m_3 m_4 r_3 m_5 m_6 m_7 m_8=some r→∀ f,FOk f [⟨2,[],.ptr 0 0 0⟩,⟨3,[],.s (.int .i64 0)⟩,⟨4,[],.ptr 1 0 0⟩,⟨5,[],.ptr 2 0 0⟩]→kont Tryz.prog [] (inst_Of_C r) ((.c a37_1)::[]) .normal f [⟨0,.mem,1,k37_0⟩,⟨0,.mem,1,[.sl false m_5.length (cat (nI .u8) m_5),.s (.int .i64 m_6),.s (.bool m_7)]⟩,⟨0,.mem,1,[.s (.int .i64 m_3),.s (.int .u8 m_4),.s (.int .i64 r_3.Op),.s (.int .i64 r_3.Mode),.s (.int .i64 r_3.Reg),.s (.int .u8 m_8),.s (.int .u16 0),.s (.int .i64 0)]⟩]:=by
   intro m_5 m_6 m_7 m_8 h f hf
   unfold inst_Of_j0 at h
   refine Kc<|Kq<|Kr<|Sg 5 hf fun f1 hf1 => ?_
   obtain ⟨r_6,hx_r_6,h⟩:=Bs h
   refine Cp (inst_behind_ok _ _ _ hx_r_6) hf1 fun f2 hf2=>En hf2 fun f3 hf3=>Kc<|Kq<|Kr<|Sg 3 hf3 fun f4 hf4 => ?_
   obtain ⟨r_7,hx_r_7,h⟩:=Bs h
   refine Ca hf4 (av:=[.ptr 1 0 0,.s (.int .i64 r_6.1),.s (.bool r_6.2)]) (v:=.s (.int .u16 r_7.1)) (L':=[⟨0,.mem,1,k37_0⟩,⟨0,.mem,1,[.sl false r_7.2.b.length (cat (nI .u8) r_7.2.b),.s (.int .i64 r_7.2.n),.s (.bool r_7.2.short)]⟩,⟨0,.mem,1,[.s (.int .i64 m_3),.s (.int .u8 m_4),.s (.int .i64 r_3.Op),.s (.int .i64 r_3.Mode),.s (.int .i64 r_3.Reg),.s (.int .u8 m_8),.s (.int .u16 0),.s (.int .i64 0)]⟩]) (CalL.borrow (M:=[⟨0,.mem,1,[.sl false m_5.length (cat (nI .u8) m_5),.s (.int .i64 m_6),.s (.bool m_7)]⟩]) (M':=[⟨0,.mem,1,[.sl false r_7.2.b.length (cat (nI .u8) r_7.2.b),.s (.int .i64 r_7.2.n),.s (.bool r_7.2.short)]⟩]) [1] (inst_reader_value_ok (inst_reader.mk m_5 m_6 m_7) r_6.1 r_6.2 r_7 hx_r_7) (by kernel_rfl) (RNs.cons (RN.ptr (by kernel_rfl)) (RNs.cons (RN.stat rfl) (RNs.cons (RN.stat rfl) RNs.nil))) (RN.stat rfl) (RBs.cons (RNs.stat (by simp [statics,V.static,cat_stat])) RBs.nil) (RBs.cons (RNs.stat (by simp [statics,V.static,cat_stat])) RBs.nil) (by kernel_rfl) (by kernel_rfl)) (by intro h; cases h) fun f5 hf5=>En hf5 fun f6 hf6=>Kc<|Kq<|Kr<|En hf6 fun f7 hf7=>Kc<|Kq<|Kq<|Kr<|En hf7 fun f8 hf8=>Kc<|Kf hf8 h (fun hc3 h => ?_) fun hc3 h => ?_
   ·refine Kq<|Kr<|En hf8 fun f9 hf9 => ?_
    obtain rfl:=Oi h
    exact Kc<|Kt<|Xc<|k_fin (fin_ret (.inl rfl) hf9 (vs:=[.agg k37_0,.s (.int .i64 20)]) (by kernel_rfl) (SettL.pure (FzL.tup (FzsL.cons (FzL.stat rfl) (FzsL.cons (FzL.stat rfl) FzsL.nil)))))
   ·refine Ks<|Kc<|Kq<|Kr<|En hf8 fun f9 hf9 => ?_
    obtain rfl:=Oi h
    exact Kc<|Kt<|k_fin (fin_ret (.inl rfl) hf9 (vs:=[.agg [.s (.int .i64 m_3),.s (.int .u8 m_4),.s (.int .i64 r_3.Op),.s (.int .i64 r_3.Mode),.s (.int .i64 r_3.Reg),.s (.int .u8 m_8),.s (.int .u16 r_7.1),.s (.int .i64 r_7.2.n)],.s (.int .i64 0)]) (by kernel_rfl) (SettL.pure (FzL.tup (FzsL.cons (FzL.stat rfl) (FzsL.cons (FzL.stat rfl) FzsL.nil)))))
  refine Kf hf6 h (fun hc2 h => ?_) fun hc2 h => ?_
  ·refine Kr<|Sg 1 hf6 fun f7 hf7 => ?_
   obtain ⟨r_5,hx_r_5,h⟩:=Bs h
   exact Ca hf7 (av:=[.ptr 1 0 0]) (v:=.s (.int .u8 r_5.1)) (L':=[⟨0,.mem,1,k37_0⟩,⟨0,.mem,1,[.sl false r_5.2.b.length (cat (nI .u8) r_5.2.b),.s (.int .i64 r_5.2.n),.s (.bool r_5.2.short)]⟩,⟨0,.mem,1,[.s (.int .i64 m_3),.s (.int .u8 m_4),.s (.int .i64 r_3.Op),.s (.int .i64 r_3.Mode),.s (.int .i64 r_3.Reg),.s (.int .u8 0),.s (.int .u16 0),.s (.int .i64 0)]⟩]) (CalL.borrow (M:=[⟨0,.mem,1,[.sl false m_.length (cat (nI .u8) m_),.s (.int .i64 m_1),.s (.bool m_2)]⟩]) (M':=[⟨0,.mem,1,[.sl false r_5.2.b.length (cat (nI .u8) r_5.2.b),.s (.int .i64 r_5.2.n),.s (.bool r_5.2.short)]⟩]) [1] (inst_reader_next_ok (inst_reader.mk m_ m_1 m_2) r_5 hx_r_5) (by kernel_rfl) (RNs.cons (RN.ptr (by kernel_rfl)) RNs.nil) (RN.stat rfl) (RBs.cons (RNs.stat (by simp [statics,V.static,cat_stat])) RBs.nil) (RBs.cons (RNs.stat (by simp [statics,V.static,cat_stat])) RBs.nil) (by kernel_rfl) (by kernel_rfl)) (by intro h; cases h) fun f8 hf8=>En hf8 fun f9 hf9=>Kh (hj2 r_5.2.b r_5.2.n r_5.2.short r_5.1 h _ (Of [2,3,4,5] hf9))
  ·exact Ks<|Kh (hj2 m_ m_1 m_2 (0) h _ (Of [2,3,4,5] hf6))
 refine Kf hf9 h (fun hc1 h => ?_) fun hc1 h => ?_
 ·refine Kr<|Sg 2 hf9 fun f10 hf10 => ?_
  obtain ⟨r_2,hx_r_2,h⟩:=Bs h
  exact Ca hf10 (av:=[.ptr 1 0 0]) (v:=.s (.int .u8 r_2.1)) (L':=[⟨0,.mem,1,k37_0⟩,⟨0,.mem,1,[.sl false r_2.2.b.length (cat (nI .u8) r_2.2.b),.s (.int .i64 r_2.2.n),.s (.bool r_2.2.short)]⟩,⟨0,.mem,1,[.s (.int .i64 1),.s (.int .u8 r_.1),.s (.int .i64 0),.s (.int .i64 0),.s (.int .i64 0),.s (.int .u8 0),.s (.int .u16 0),.s (.int .i64 0)]⟩]) (CalL.borrow (M:=[⟨0,.mem,1,[.sl false r_.2.b.length (cat (nI .u8) r_.2.b),.s (.int .i64 r_.2.n),.s (.bool r_.2.short)]⟩]) (M':=[⟨0,.mem,1,[.sl false r_2.2.b.length (cat (nI .u8) r_2.2.b),.s (.int .i64 r_2.2.n),.s (.bool r_2.2.short)]⟩]) [1] (inst_reader_next_ok r_.2 r_2 hx_r_2) (by kernel_rfl) (RNs.cons (RN.ptr (by kernel_rfl)) RNs.nil) (RN.stat rfl) (RBs.cons (RNs.stat (by simp [statics,V.static,cat_stat])) RBs.nil) (RBs.cons (RNs.stat (by simp [statics,V.static,cat_stat])) RBs.nil) (by kernel_rfl) (by kernel_rfl)) (by intro h; cases h) fun f11 hf11=>En hf11 fun f12 hf12=>Kh (hj1 r_2.2.b r_2.2.n r_2.2.short r_1 r_2.1 h _ (Of [2,3,4,5] hf12))
 ·exact Ks<|Kh (hj1 r_.2.b r_.2.n r_.2.short (1) r_.1 h _ (Of [2,3,4,5] hf9))
@[irreducible] noncomputable def i52:Nat→List Op1:=rg Tryz.prog 52 []
noncomputable def a52_0:IR:=(.seq (.seq (.reg false (i52 20)) (.seq (.reg false (i52 21)) (.cond (.t 82) (.seq (.reg false (i52 22)) .ret) .skip))) (.seq (.reg false (i52 23)) .ret))
noncomputable def a52_1:IR:=(.cond (.t 63) (.seq (.reg false (i52 17)) .ret) (.seq (.reg false (i52 18)) (.cond (.t 71) (.seq (.reg false (i52 19)) a52_0) .skip)))
noncomputable def a52_2:IR:=(.cond (.t 38) (.seq (.reg false (i52 12)) (.seq (.reg false (i52 13)) .ret)) (.seq (.reg false (i52 14)) (.cond (.t 49) (.seq (.reg true (i52 15)) .ret) (.seq (.reg false (i52 16)) a52_1))))
noncomputable def a52_3:IR:=(.cond (.t 32) (.seq (.reg false (i52 9)) .ret) (.seq (.seq (.reg false (i52 10)) (.cond (.t 38) .skip (.reg false (i52 11)))) a52_2))
noncomputable def a52_4:IR:=(.cond (.t 19) (.seq (.reg false (i52 5)) .ret) (.seq (.reg false (i52 6)) (.cond (.t 25) (.seq (.reg false (i52 7)) .ret) (.seq (.reg false (i52 8)) a52_3))))
noncomputable def a52_5:IR:=(.block 0 (.seq (.reg false (i52 2)) (.cond (.t 12) (.seq (.reg false (i52 3)) .ret) (.seq (.reg false (i52 4)) a52_4))))
noncomputable def dis_operand_ir:IR:=(.seq (.reg false (i52 0)) (.seq (.seq (.reg false (i52 1)) a52_5) (.seq (.reg false (i52 24)) .ret)))
theorem dis_operand_cfn:cFn Tryz.prog 52=some (dis_operand_ir,[(.t 4)],90):=by kernel_rfl
def dis_operand_V (r:(ByteArray)):V:=.s (.string r)
def dis_operand_C (r:(ByteArray)):X→Fr→Hp→Prop:=FinL [(.t 4)] [] (dis_operand_V r) []
theorem dis_operand_ok (i_:api_Inst) (at_:Int) (r:(ByteArray)) (h:dis_operand i_ at_=some r):Pure Tryz.prog 52 [.agg [.s (.int .i64 i_.Page),.s (.int .u8 i_.Code),.s (.int .i64 i_.Entry.Op),.s (.int .i64 i_.Entry.Mode),.s (.int .i64 i_.Entry.Reg),.s (.int .u8 i_.Post),.s (.int .u16 i_.Value),.s (.int .i64 i_.Len)],.s (.int .u16 at_)] (dis_operand_V r):=by
 refine CS dis_operand_cfn (dis_operand_C r) fun f hf => ?_
 unfold dis_operand at h
 refine Kq<|Kr<|En hf fun f1 hf1=>Kc<|Kq<|Kq<|Kr<|En hf1 fun f2 hf2=>Kc<|Kb<|Kq<|Kr<|En hf2 fun f3 hf3=>Kc<|Kf hf3 h (fun hc1 h => ?_) fun hc1 h => ?_
 ·refine Kq<|Kr<|Sg 2 hf3 fun f4 hf4 => ?_
  obtain ⟨r_,hx_r_,h⟩:=Bs h
  refine Cp (octet_Low_ok _ _ hx_r_) hf4 fun f5 hf5 => ?_
  obtain ⟨r_1,hx_r_1,h⟩:=Bs h
  refine Cp (dis_Byte_ok _ _ hx_r_1) hf5 fun f6 hf6 => ?_
  obtain ⟨c2,h⟩:=as_ok h
  refine Ad (.bin .add (.k (.string ⟨#[35]⟩)) (.t 17)) (.s (.string ((⟨#[35]⟩:ByteArray)++r_1))) hf6 (e_sadd (t:=(⟨#[35]⟩:ByteArray)) (t':=r_1) (by kernel_rfl) (by kernel_rfl) c2) fun f7 hf7=>En hf7 fun f8 hf8 => ?_
  obtain rfl:=Oi h
  exact Kc<|Kt<|Xr<|Xc<|Fp hf8
 ·refine Kq<|Kr<|En hf3 fun f4 hf4=>Kc<|Kf hf4 h (fun hc3 h => ?_) fun hc3 h => ?_
  ·refine Kq<|Kr<|Sg 2 hf4 fun f5 hf5 => ?_
   obtain ⟨r_2,hx_r_2,h⟩:=Bs h
   refine Cp (dis_Word_ok _ _ hx_r_2) hf5 fun f6 hf6 => ?_
   obtain ⟨c4,h⟩:=as_ok h
   refine Ad (.bin .add (.k (.string ⟨#[35]⟩)) (.t 23)) (.s (.string ((⟨#[35]⟩:ByteArray)++r_2))) hf6 (e_sadd (t:=(⟨#[35]⟩:ByteArray)) (t':=r_2) (by kernel_rfl) (by kernel_rfl) c4) fun f7 hf7=>En hf7 fun f8 hf8 => ?_
   obtain rfl:=Oi h
   exact Kc<|Kt<|Xr<|Xc<|Fp hf8
  ·refine Kq<|Kr<|En hf4 fun f5 hf5=>Kc<|Kf hf5 h (fun hc5 h => ?_) fun hc5 h => ?_
   ·refine Kq<|Kr<|Sg 2 hf5 fun f6 hf6 => ?_
    obtain ⟨r_3,hx_r_3,h⟩:=Bs h
    refine Cp (octet_Low_ok _ _ hx_r_3) hf6 fun f7 hf7 => ?_
    obtain ⟨r_4,hx_r_4,h⟩:=Bs h
    refine Cp (dis_Byte_ok _ _ hx_r_4) hf7 fun f8 hf8 => ?_
    obtain ⟨c6,h⟩:=as_ok h
    refine Ad (.bin .add (.k (.string ⟨#[60]⟩)) (.t 30)) (.s (.string ((⟨#[60]⟩:ByteArray)++r_4))) hf8 (e_sadd (t:=(⟨#[60]⟩:ByteArray)) (t':=r_4) (by kernel_rfl) (by kernel_rfl) c6) fun f9 hf9=>En hf9 fun f10 hf10 => ?_
    obtain rfl:=Oi h
    exact Kc<|Kt<|Xr<|Xc<|Fp hf10
   ·refine Kq<|Kr<|En hf5 fun f6 hf6=>Kc<|Kf hf6 h (fun hc7 h => ?_) fun hc7 h => ?_
    ·refine Kq<|Kr<|Sg 2 hf6 fun f7 hf7 => ?_
     obtain ⟨r_5,hx_r_5,h⟩:=Bs h
     refine Cp (dis_Word_ok _ _ hx_r_5) hf7 fun f8 hf8 => ?_
     obtain ⟨c8,h⟩:=as_ok h
     refine Ad (.bin .add (.k (.string ⟨#[62]⟩)) (.t 36)) (.s (.string ((⟨#[62]⟩:ByteArray)++r_5))) hf8 (e_sadd (t:=(⟨#[62]⟩:ByteArray)) (t':=r_5) (by kernel_rfl) (by kernel_rfl) c8) fun f9 hf9=>En hf9 fun f10 hf10 => ?_
     obtain rfl:=Oi h
     exact Kc<|Kt<|Xr<|Xc<|Fp hf10
    ·refine Kq<|Kq<|Kr<|En hf6 fun f7 hf7=>Kc ?_
     have hj1:∀ (t_:Bool),dis_operand_j0 i_ at_ t_=some r→∀ f,FOk f [⟨1,[],.s (.int .u16 at_)⟩,⟨2,[],.ptr 0 0 0⟩,⟨4,[],.s (.string (⟨#[]⟩:ByteArray))⟩,⟨11,[],.s (.int .i64 i_.Entry.Mode)⟩,⟨38,[],.s (.bool t_)⟩]→kont Tryz.prog [] (dis_operand_C r) ((.c a52_2)::(.b 0)::(.c (.seq (.reg false (i52 24)) .ret))::[]) .normal f [⟨0,.mem,1,[.s (.int .i64 i_.Page),.s (.int .u8 i_.Code),.s (.int .i64 i_.Entry.Op),.s (.int .i64 i_.Entry.Mode),.s (.int .i64 i_.Entry.Reg),.s (.int .u8 i_.Post),.s (.int .u16 i_.Value),.s (.int .i64 i_.Len)]⟩]:=by
      intro t_ h f hf
      unfold dis_operand_j0 at h
      refine Kc<|Kf hf h (fun hc10 h => ?_) fun hc10 h => ?_
      ·refine Kq<|Kr<|Sg 2 hf fun f1 hf1 => ?_
       obtain ⟨r_6,hx_r_6,h⟩:=Bs h
       refine Cp (inst_Target_ok _ _ _ hx_r_6) hf1 fun f2 hf2=>En hf2 fun f3 hf3=>Kc<|Kq<|Kr<|Sg 1 hf3 fun f4 hf4 => ?_
       obtain ⟨r_7,hx_r_7,h⟩:=Bs h
       refine Cp (dis_Word_ok _ _ hx_r_7) hf4 fun f5 hf5=>En hf5 fun f6 hf6 => ?_
       obtain rfl:=Oi h
       exact Kc<|Kt<|Xr<|Xc<|Fp hf6
      ·refine Kq<|Kr<|En hf fun f1 hf1=>Kc<|Kf hf1 h (fun hc11 h => ?_) fun hc11 h => ?_
       ·refine Kq<|Kd<|Sg 4 hf1 fun f2 hf2 => ?_
        obtain ⟨r_8,hx_r_8,h⟩:=Bs h
        refine Cp (dis_Reg_ok _ _ hx_r_8) hf2 fun f3 hf3 => ?_
        obtain ⟨c12,h⟩:=as_ok h
        refine Ad (.bin .add (.t 55) (.k (.string ⟨#[44]⟩))) (.s (.string (r_8++(⟨#[44]⟩:ByteArray)))) hf3 (e_sadd (t:=r_8) (t':=(⟨#[44]⟩:ByteArray)) (by kernel_rfl) (by kernel_rfl) c12) fun f4 hf4=>Sg 4 hf4 fun f5 hf5 => ?_
        obtain ⟨r_9,hx_r_9,h⟩:=Bs h
        refine Cp (dis_Reg_ok _ _ hx_r_9) hf5 fun f6 hf6 => ?_
        obtain ⟨c13,h⟩:=as_ok h
        refine Ad (.bin .add (.t 56) (.t 61)) (.s (.string ((r_8++(⟨#[44]⟩:ByteArray))++r_9))) hf6 (e_sadd (t:=(r_8++(⟨#[44]⟩:ByteArray))) (t':=r_9) (by kernel_rfl) (by kernel_rfl) c13) fun f7 hf7=>En hf7 fun f8 hf8 => ?_
        obtain rfl:=Oi h
        exact Kc<|Kt<|Xr<|Xc<|Fp hf8
       ·refine Kq<|Kr<|En hf1 fun f2 hf2=>Kc<|Kf hf2 h (fun hc14 h => ?_) fun hc14 h => ?_
        ·refine Kq<|Kr<|Sg 5 hf2 fun f3 hf3 => ?_
         obtain ⟨r_10,hx_r_10,h⟩:=Bs h
         refine Cp (lists_Text_ok _ _ _ hx_r_10) hf3 fun f4 hf4=>En hf4 fun f5 hf5 => ?_
         obtain rfl:=Oi h
         exact Kc<|Kt<|Xr<|Xc<|Fp hf5
        ·refine Kq<|Kr<|En hf2 fun f3 hf3=>Kc<|Kf hf3 h (fun hc15 h => ?_) fun hc15 h => ?_
         ·refine Kq<|Kr<|Sg 2 hf3 fun f4 hf4 => ?_
          obtain ⟨r_11,hx_r_11,h⟩:=Bs h
          refine Cp (post_Of_ok _ _ hx_r_11) hf4 fun f5 hf5=>En hf5 fun f6 hf6=>Kc<|Kq<|Kq<|Kr<|Sg 3 hf6 fun f7 hf7 => ?_
          obtain ⟨r_12,hx_r_12,h⟩:=Bs h
          refine Cp (dis_indexed_ok _ _ _ hx_r_12) hf7 fun f8 hf8=>En hf8 fun f9 hf9=>Kc<|Kq<|Kr<|En hf9 fun f10 hf10=>Kc<|Kf hf10 h (fun hc16 h => ?_) fun hc16 h => ?_
          ·refine Kq<|Kr<|En hf10 fun f11 hf11 => ?_
           obtain rfl:=Oi h
           exact Kc<|Kt<|Xc<|Xr<|Xc<|Fp hf11
          ·refine Ks<|Kc<|Kq<|Kr<|Sg 3 hf10 fun f11 hf11 => ?_
           obtain ⟨r_13,hx_r_13,h⟩:=Bs h
           refine Cp (dis_indexed_ok _ _ _ hx_r_13) hf11 fun f12 hf12 => ?_
           obtain ⟨c17,h⟩:=as_ok h
           refine Ad (.bin .add (.k (.string ⟨#[91]⟩)) (.t 87)) (.s (.string ((⟨#[91]⟩:ByteArray)++r_13))) hf12 (e_sadd (t:=(⟨#[91]⟩:ByteArray)) (t':=r_13) (by kernel_rfl) (by kernel_rfl) c17) fun f13 hf13 => ?_
           obtain ⟨c18,h⟩:=as_ok h
           refine Ad (.bin .add (.t 88) (.k (.string ⟨#[93]⟩))) (.s (.string (((⟨#[91]⟩:ByteArray)++r_13)++(⟨#[93]⟩:ByteArray)))) hf13 (e_sadd (t:=((⟨#[91]⟩:ByteArray)++r_13)) (t':=(⟨#[93]⟩:ByteArray)) (by kernel_rfl) (by kernel_rfl) c18) fun f14 hf14=>En hf14 fun f15 hf15 => ?_
           obtain rfl:=Oi h
           exact Kc<|Kt<|Xr<|Xc<|Fp hf15
         ·refine Ks<|Kv<|Kc<|Kq<|Kr<|En hf3 fun f4 hf4 => ?_
          obtain rfl:=Oi h
          exact Kc<|Kt<|Fp hf4
     refine Kf hf7 h (fun hc9 h => ?_) fun hc9 h => ?_
     ·exact Ks<|Kh (hj1 (i_.Entry.Mode == 6) h _ (Of [1,2,4,11,38] hf7))
     ·exact Kr<|En hf7 fun f8 hf8=>Kh (hj1 (i_.Entry.Mode == 7) h _ (Of [1,2,4,11,38] hf8))
@[irreducible] noncomputable def i23:Nat→List Op1:=rg Tryz.prog 23 []
noncomputable def a23_0:IR:=(.seq (.cond (.t 10) .skip (.exit 0)) (.seq (.block 1 (.seq (.reg false (i23 4)) (.reg false (i23 5)))) (.reg false (i23 6))))
noncomputable def a23_1:IR:=(.seq (.seq (.reg false (i23 2)) (.block 0 (.loop (.seq (.reg false (i23 3)) a23_0)))) (.seq (.reg false (i23 7)) (.seq (.reg false (i23 8)) .ret)))
noncomputable def fast_Decode_ir:IR:=(.seq (.reg false (i23 0)) (.seq (.reg false (i23 1)) a23_1))
theorem fast_Decode_cfn:cFn Tryz.prog 23=some (fast_Decode_ir,[(.c 4 true 8)],27):=by kernel_rfl
def fast_Decode_V (r:(api_Inst)):V:=.agg [.s (.int .i64 r.Page),.s (.int .u8 r.Code),.s (.int .i64 r.Entry.Op),.s (.int .i64 r.Entry.Mode),.s (.int .i64 r.Entry.Reg),.s (.int .u8 r.Post),.s (.int .u16 r.Value),.s (.int .i64 r.Len)]
def fast_Decode_C (r:(api_Inst)):X→Fr→Hp→Prop:=FinL [(.c 4 true 8)] [] (fast_Decode_V r) []
abbrev k23_0:List V:=[.s (.int .i64 0),.s (.int .u8 0),.s (.int .i64 0),.s (.int .i64 0),.s (.int .i64 0),.s (.int .u8 0),.s (.int .u16 0),.s (.int .i64 0)]
theorem fast_Decode_ok (at_:Int) (m_:RamT) (r:(api_Inst)) (h:fast_Decode at_ m_=some r):Pure Tryz.prog 23 [.s (.int .u16 at_),.ifc 28 (RamT.v m_)] (fast_Decode_V r):=by
 refine CS fast_Decode_cfn (fast_Decode_C r) fun f hf => ?_
 unfold fast_Decode at h
 refine Kq<|Kr<|En hf fun f1 hf1=>Kc<|Kq<|Kr<|En hf1 fun f2 hf2=>Kc<|Kq<|Kq<|Kr<|En hf2 fun f3 hf3=>Kc<|Kb ?_
 obtain ⟨o0,hx0,h⟩:=Bs h
 have hgo0:∀ (l_2:(List Int)) (v_2:Nat),l_2=o0→∀ f,FOk f [⟨4,[],.ptr 0 0 0⟩,⟨5,[],.ref 1 v_2 0 l_2.length⟩]→kont Tryz.prog [] (fast_Decode_C r) ((.c (.seq (.reg false (i23 7)) (.seq (.reg false (i23 8)) .ret)))::[]) .normal f [⟨0,.mem,1,k23_0⟩,⟨v_2,.grow,1,cat (nI .u8) l_2⟩]:=by
  intro l_2 v_2 e f hf
  subst e
  refine Kc<|Kq<|Kr<|Sg 1 hf fun f1 hf1 => ?_
  obtain ⟨r_3,hx_r_3,h⟩:=Bs h
  refine Ca hf1 (av:=[.ref 1 v_2 0 l_2.length]) (v:=.tup [.agg [.s (.int .i64 r_3.1.Page),.s (.int .u8 r_3.1.Code),.s (.int .i64 r_3.1.Entry.Op),.s (.int .i64 r_3.1.Entry.Mode),.s (.int .i64 r_3.1.Entry.Reg),.s (.int .u8 r_3.1.Post),.s (.int .u16 r_3.1.Value),.s (.int .i64 r_3.1.Len)],.s (.int .i64 r_3.2)]) (CalL.lend (inst_Of_ok l_2 r_3 hx_r_3) rfl (Lends.cons (Lend.whole (g:=(nI .u8)) (kd:=.grow) (l:=l_2) rfl (live_grow (by kernel_rfl))) Lends.nil) (by kernel_rfl)) (fun _=>rfl) fun f2 hf2=>En hf2 fun f3 hf3=>Kc<|Kq<|Kr<|En hf3 fun f4 hf4 => ?_
  obtain rfl:=Oi h
  exact Kc<|Kt<|Fp hf4
 refine k_loop BIG<|loop_ind (fun n f L=>∃ (l_1:(List Int)) (t_1:Int) (v_1:Nat),fast_Decode_l0 at_ m_ n l_1 t_1=some o0∧FOk f [⟨0,[],.s (.int .u16 at_)⟩,⟨1,[],.ifc 28 (RamT.v m_)⟩,⟨4,[],.ptr 0 0 0⟩,⟨5,[],.ref 1 v_1 0 l_1.length⟩,⟨9,[],.s (.int .u16 t_1)⟩]∧L=[⟨0,.mem,1,k23_0⟩,⟨v_1,.grow,1,cat (nI .u8) l_1⟩]) ?_ ?_ BIG _ _ ⟨([]:List Int),(0),(0),hx0,FOk_of [0,1,4,5,9] hf3 (by kernel_rfl),(by kernel_rfl)⟩
 ·rintro f L ⟨l_1,t_1,v_1,h,_⟩
  cases (show (none:Option _)=some _ from h)
 ·rintro n0 R0 ih f L ⟨l_1,t_1,v_1,h,hf,rfl⟩
  rw [fast_Decode_l0] at h
  refine Kq<|Kr<|En hf fun f1 hf1=>Kc<|Kq<|Kf hf1 h (fun hc1 h => ?_) fun hc1 h => ?_
  ·refine Ks<|Kc<|Kq<|Kb<|Kq<|Kr<|En hf1 fun f2 hf2=>Kc<|Kr<|Sg 5 hf2 fun f3 hf3 => ?_
   obtain ⟨r_2,hx_r_2,h⟩:=Bs h
   refine Ca hf3 (av:=[.ifc 28 (RamT.v m_),.s (.int .u16 (IntKind.wrap .u16 (at_+t_1)))]) (v:=.s (.int .u8 r_2)) (CalL.inv (s := "Read") (t:=28) (CalL.pure (ram_Read_ok m_ (IntKind.wrap .u16 (at_+t_1)) r_2 hx_r_2) (by simp [V.static,statics,cat_stat,RamT.v_stat,RamT.c_stat]) rfl (Nat.le_of_ble_eq_true (by kernel_rfl))) rfl ram_method) (fun _=>rfl) fun f4 hf4=>Sg 1 hf4 fun f5 hf5 => ?_
   obtain ⟨c2,h⟩:=as_ok h
   refine Ad (.app 5 1 1 (.t 12) (.t 18)) (.ref 1 (v_1+1) 0 (l_1++[r_2]).length) hf5 (e_app (g:=(nI .u8)) (l:=l_1) (l':=[r_2]) (b:=1) (ver:=v_1) (n:=l_1.length) rfl (by kernel_rfl) rfl (live_grow (by kernel_rfl)) (sll_ev (v:=.ref 2 0 0 1) (by kernel_rfl) (sll_ref (B:=⟨0,.grow,1,cat (nI .u8) [r_2]⟩) (by kernel_rfl) (live_grow (by kernel_rfl)))) (slc_ev (v:=.ref 2 0 0 1) (by kernel_rfl) (slc_ref (g:=(nI .u8)) (l:=[r_2]) (kd:=.grow) (q:=1) (by kernel_rfl) (live_grow (by kernel_rfl)))) c2) fun f6 hf6=>En hf6 fun f7 hf7=>Kv<|Kc<|Kr<|En hf7 fun f8 hf8=>k_l' (vs_cut (l:=[⟨0,[],.s (.int .u16 at_)⟩,⟨1,[],.ifc 28 (RamT.v m_)⟩,⟨4,[],.ptr 0 0 0⟩,⟨5,[],.ref 1 (v_1+1) 0 (l_1++[r_2]).length⟩,⟨9,[],.s (.int .u16 (IntKind.wrap .u16 (t_1+1)))⟩]) 2 (by kernel_rfl) (by kernel_rfl) (L':=[⟨0,.mem,1,k23_0⟩,⟨(v_1+1),.grow,1,cat (nI .u8) (l_1++[r_2])⟩]) (by kernel_rfl) ⟨⟨rfl,rfl⟩,⟨rfl,(static_under _ _ (by simp [V.static,statics,cat_stat,RamT.v_stat,RamT.c_stat,dropcat_stat,RamT.v_stat,RamT.c_stat]))⟩,⟨rfl,rfl⟩,⟨rfl,rfl⟩,⟨rfl,rfl⟩,trivial⟩ ⟨.inr (.inr rfl),.inr (.inr (statics_unders _ _ (cat_stat _))),trivial⟩ (Of [0,1,4,5,9] hf8) fun f hf => ?_)
   exact ih _ _ ⟨(l_1++[r_2]),(IntKind.wrap .u16 (t_1+1)),(v_1+1),h,hf,rfl⟩
  ·exact Kx<|Xc<|Xl<|Xb<|Kh (hgo0 l_1 v_1 (Option.some.inj h) _ (Of [4,5] hf1))
@[irreducible] noncomputable def i24:Nat→List Op1:=rg Tryz.prog 24 []
noncomputable def a24_0:IR:=(.cond (.t 48) (.reg false (i24 10)) (.seq (.reg false (i24 11)) (.cond (.t 56) (.reg false (i24 12)) .skip)))
noncomputable def a24_1:IR:=(.seq (.seq (.reg false (i24 13)) (.seq (.reg false (i24 14)) (.cond (.t 75) (.seq (.reg false (i24 15)) .ret) .skip))) (.seq (.reg false (i24 16)) .ret))
noncomputable def a24_2:IR:=(.seq (.seq (.reg false (i24 7)) (.seq (.reg false (i24 8)) (.block 0 (.seq (.reg false (i24 9)) a24_0)))) a24_1)
noncomputable def a24_3:IR:=(.seq (.reg false (i24 4)) (.seq (.seq (.reg false (i24 5)) (.cond (.t 32) (.reg false (i24 6)) .skip)) a24_2))
noncomputable def a24_4:IR:=(.seq (.reg false (i24 1)) (.seq (.seq (.reg false (i24 2)) (.cond (.t 16) (.reg false (i24 3)) .skip)) a24_3))
noncomputable def inst_Put_ir:IR:=(.seq (.reg false (i24 0)) a24_4)
theorem inst_Put_cfn:cFn Tryz.prog 24=some (inst_Put_ir,[(.t 2),(.t 3)],77):=by kernel_rfl
def inst_Put_V (r:((List Int) × Int)):V:=.tup [.sl false r.1.length (cat (nI .u8) r.1),.s (.int .i64 r.2)]
def inst_Put_C (r:((List Int) × Int)):X→Fr→Hp→Prop:=FinL [(.t 2),(.t 3)] [] (inst_Put_V r) []
theorem inst_Put_ok (i_:api_Inst) (r:((List Int) × Int)) (h:inst_Put i_=some r):Pure Tryz.prog 24 [.agg [.s (.int .i64 i_.Page),.s (.int .u8 i_.Code),.s (.int .i64 i_.Entry.Op),.s (.int .i64 i_.Entry.Mode),.s (.int .i64 i_.Entry.Reg),.s (.int .u8 i_.Post),.s (.int .u16 i_.Value),.s (.int .i64 i_.Len)]] (inst_Put_V r):=by
 refine CS inst_Put_cfn (inst_Put_C r) fun f hf => ?_
 unfold inst_Put at h
 refine Kq<|Kr<|En hf fun f1 hf1=>Kc<|Kq<|Kr<|En hf1 fun f2 hf2=>Kc<|Kq<|Kq<|Kr<|En hf2 fun f3 hf3=>Kc ?_
 have hj1:∀ (l_:(List Int)) (v_:Nat),inst_Put_j2 i_ l_=some r→∀ f,FOk f [⟨1,[],.ptr 0 0 0⟩,⟨2,[],.ref 1 0 0 0⟩,⟨3,[],.s (.int .i64 0)⟩,⟨4,[],.ref 2 v_ 0 l_.length⟩]→kont Tryz.prog [] (inst_Put_C r) ((.c a24_3)::[]) .normal f [⟨0,.mem,1,[.s (.int .i64 i_.Page),.s (.int .u8 i_.Code),.s (.int .i64 i_.Entry.Op),.s (.int .i64 i_.Entry.Mode),.s (.int .i64 i_.Entry.Reg),.s (.int .u8 i_.Post),.s (.int .u16 i_.Value),.s (.int .i64 i_.Len)]⟩,⟨0,.grow,1,cat (nI .u8) ([]:List Int)⟩,⟨v_,.grow,1,cat (nI .u8) l_⟩]:=by
  intro l_ v_ h f hf
  unfold inst_Put_j2 at h
  refine Kc<|Kq<|Kr<|Sg 4 hf fun f1 hf1 => ?_
  obtain ⟨c3,h⟩:=as_ok h
  refine Ad (.app 5 1 1 (.t 24) (.t 27)) (.ref 2 (v_+1) 0 (l_++[i_.Code]).length) hf1 (e_app (g:=(nI .u8)) (l:=l_) (l':=[i_.Code]) (b:=2) (ver:=v_) (n:=l_.length) rfl (by kernel_rfl) rfl (live_grow (by kernel_rfl)) (sll_ev (v:=.ref 3 0 0 1) (by kernel_rfl) (sll_ref (B:=⟨0,.grow,1,cat (nI .u8) [i_.Code]⟩) (by kernel_rfl) (live_grow (by kernel_rfl)))) (slc_ev (v:=.ref 3 0 0 1) (by kernel_rfl) (slc_ref (g:=(nI .u8)) (l:=[i_.Code]) (kd:=.grow) (q:=1) (by kernel_rfl) (live_grow (by kernel_rfl)))) c3) fun f2 hf2=>En hf2 fun f3 hf3=>Kc<|Kq<|Kq<|Kr<|Sg 3 hf3 fun f4 hf4 => ?_
  obtain ⟨r_,hx_r_,h⟩:=Bs h
  refine Cp (inst_posted_ok _ _ hx_r_) hf4 fun f5 hf5=>En hf5 fun f6 hf6=>Kc ?_
  have hj2:∀ (l_1:(List Int)) (v_1:Nat),inst_Put_j1 i_ l_1=some r→∀ f,FOk f [⟨1,[],.ptr 0 0 0⟩,⟨2,[],.ref 1 0 0 0⟩,⟨3,[],.s (.int .i64 0)⟩,⟨4,[],.ref 2 v_1 0 l_1.length⟩]→kont Tryz.prog [] (inst_Put_C r) ((.c a24_2)::[]) .normal f [⟨0,.mem,1,[.s (.int .i64 i_.Page),.s (.int .u8 i_.Code),.s (.int .i64 i_.Entry.Op),.s (.int .i64 i_.Entry.Mode),.s (.int .i64 i_.Entry.Reg),.s (.int .u8 i_.Post),.s (.int .u16 i_.Value),.s (.int .i64 i_.Len)]⟩,⟨0,.grow,1,cat (nI .u8) ([]:List Int)⟩,⟨v_1,.grow,1,cat (nI .u8) l_1⟩,⟨0,.grow,1,cat (nI .u8) [i_.Code]⟩]:=by
   intro l_1 v_1 h f hf
   unfold inst_Put_j1 at h
   refine Kc<|Kq<|Kq<|Kr<|Sg 5 hf fun f1 hf1 => ?_
   obtain ⟨r_1,hx_r_1,h⟩:=Bs h
   refine Cp (inst_behind_ok _ _ _ hx_r_1) hf1 fun f2 hf2=>En hf2 fun f3 hf3=>Kc<|Kq<|Kr<|En hf3 fun f4 hf4=>Kc<|Kb<|Kq<|Kr<|En hf4 fun f5 hf5=>Kc ?_
   have hj3:∀ (l_2:(List Int)) (v_2:Nat),inst_Put_j0 i_ l_2=some r→∀ f,FOk f [⟨1,[],.ptr 0 0 0⟩,⟨2,[],.ref 1 0 0 0⟩,⟨3,[],.s (.int .i64 0)⟩,⟨4,[],.ref 2 v_2 0 l_2.length⟩]→kont Tryz.prog [] (inst_Put_C r) ((.c a24_1)::[]) .normal f [⟨0,.mem,1,[.s (.int .i64 i_.Page),.s (.int .u8 i_.Code),.s (.int .i64 i_.Entry.Op),.s (.int .i64 i_.Entry.Mode),.s (.int .i64 i_.Entry.Reg),.s (.int .u8 i_.Post),.s (.int .u16 i_.Value),.s (.int .i64 i_.Len)]⟩,⟨0,.grow,1,cat (nI .u8) ([]:List Int)⟩,⟨v_2,.grow,1,cat (nI .u8) l_2⟩,⟨0,.grow,1,cat (nI .u8) [i_.Code]⟩]:=by
    intro l_2 v_2 h f hf
    unfold inst_Put_j0 at h
    refine Kc<|Kq<|Kq<|Kr<|Sg 1 hf fun f1 hf1 => ?_
    obtain ⟨r_4,hx_r_4,h⟩:=Bs h
    refine Ca hf1 (av:=[.ref 2 v_2 0 l_2.length]) (v:=.tup [.agg [.s (.int .i64 r_4.1.Page),.s (.int .u8 r_4.1.Code),.s (.int .i64 r_4.1.Entry.Op),.s (.int .i64 r_4.1.Entry.Mode),.s (.int .i64 r_4.1.Entry.Reg),.s (.int .u8 r_4.1.Post),.s (.int .u16 r_4.1.Value),.s (.int .i64 r_4.1.Len)],.s (.int .i64 r_4.2)]) (CalL.lend (inst_Of_ok l_2 r_4 hx_r_4) rfl (Lends.cons (Lend.whole (g:=(nI .u8)) (kd:=.grow) (l:=l_2) rfl (live_grow (by kernel_rfl))) Lends.nil) (by kernel_rfl)) (fun _=>rfl) fun f2 hf2=>En hf2 fun f3 hf3=>Kc<|Kq<|Kr<|En hf3 fun f4 hf4=>Kc<|Kf hf4 h (fun hc10 h => ?_) fun hc10 h => ?_
    ·refine Kq<|Kr<|En hf4 fun f5 hf5 => ?_
     obtain rfl:=Oi h
     exact Kc<|Kt<|Xc<|k_fin (fin_ret (.inl rfl) hf5 (vs:=[.ref 5 0 0 0,.s (.int .i64 10)]) (by kernel_rfl) (SettL.pure (FzL.tup (FzsL.cons (FzL.whole (g:=(nI .u8)) (kd:=.grow) (l:=([]:List Int)) (by kernel_rfl) rfl (live_grow (by kernel_rfl))) (FzsL.cons (FzL.stat rfl) FzsL.nil)))))
    ·refine Ks<|Kc<|Kq<|Kr<|En hf4 fun f5 hf5 => ?_
     obtain rfl:=Oi h
     exact Kc<|Kt<|k_fin (fin_ret (.inl rfl) hf5 (vs:=[.ref 2 v_2 0 l_2.length,.s (.int .i64 0)]) (by kernel_rfl) (SettL.pure (FzL.tup (FzsL.cons (FzL.whole (g:=(nI .u8)) (kd:=.grow) (l:=l_2) (by kernel_rfl) rfl (live_grow (by kernel_rfl))) (FzsL.cons (FzL.stat rfl) FzsL.nil)))))
   refine Kf hf5 h (fun hc6 h => ?_) fun hc6 h => ?_
   ·refine Kr<|Sg 3 hf5 fun f6 hf6 => ?_
    obtain ⟨r_2,hx_r_2,h⟩:=Bs h
    refine Cp (octet_Low_ok _ _ hx_r_2) hf6 fun f7 hf7=>Sg 1 hf7 fun f8 hf8 => ?_
    obtain ⟨c7,h⟩:=as_ok h
    refine Ad (.app 5 1 1 (.t 50) (.t 54)) (.ref 2 (v_1+1) 0 (l_1++[r_2]).length) hf8 (e_app (g:=(nI .u8)) (l:=l_1) (l':=[r_2]) (b:=2) (ver:=v_1) (n:=l_1.length) rfl (by kernel_rfl) rfl (live_grow (by kernel_rfl)) (sll_ev (v:=.ref 4 0 0 1) (by kernel_rfl) (sll_ref (B:=⟨0,.grow,1,cat (nI .u8) [r_2]⟩) (by kernel_rfl) (live_grow (by kernel_rfl)))) (slc_ev (v:=.ref 4 0 0 1) (by kernel_rfl) (slc_ref (g:=(nI .u8)) (l:=[r_2]) (kd:=.grow) (q:=1) (by kernel_rfl) (live_grow (by kernel_rfl)))) c7) fun f9 hf9=>En hf9 fun f10 hf10=>Kv<|k_c' (vs_vs (vs_cut (l:=[⟨1,[],.ptr 0 0 0⟩,⟨2,[],.ref 1 0 0 0⟩,⟨3,[],.s (.int .i64 0)⟩,⟨4,[],.ref 2 (v_1+1) 0 (l_1++[r_2]).length⟩]) 4 (by kernel_rfl) (by kernel_rfl) (L':=[⟨0,.mem,1,[.s (.int .i64 i_.Page),.s (.int .u8 i_.Code),.s (.int .i64 i_.Entry.Op),.s (.int .i64 i_.Entry.Mode),.s (.int .i64 i_.Entry.Reg),.s (.int .u8 i_.Post),.s (.int .u16 i_.Value),.s (.int .i64 i_.Len)]⟩,⟨0,.grow,1,cat (nI .u8) ([]:List Int)⟩,⟨(v_1+1),.grow,1,cat (nI .u8) (l_1++[r_2])⟩,⟨0,.grow,1,cat (nI .u8) [i_.Code]⟩]) (by kernel_rfl) ⟨⟨rfl,rfl⟩,⟨rfl,rfl⟩,⟨rfl,rfl⟩,⟨rfl,rfl⟩,trivial⟩ ⟨.inr (.inr rfl),.inr (.inr (statics_unders _ _ (cat_stat _))),.inr (.inr (statics_unders _ _ (cat_stat _))),.inr (.inr (statics_unders _ _ (cat_stat _))),trivial⟩ (Of [1,2,3,4] hf10) fun f hf => ?_))
    exact k_un (hj3 (l_1++[r_2]) (v_1+1) h _ hf)
   ·refine Kq<|Kr<|En hf5 fun f6 hf6=>Kc<|Kf hf6 h (fun hc8 h => ?_) fun hc8 h => ?_
    ·refine Kr<|Sg 4 hf6 fun f7 hf7 => ?_
     obtain ⟨r_3,hx_r_3,h⟩:=Bs h
     refine Ca hf7 (av:=[.sl true [i_.Value].length (cat (nI .u16) [i_.Value])]) (v:=.sl false r_3.length (cat (nI .u8) r_3)) (CalL.purew (octet_Bytes_ok [i_.Value] r_3 hx_r_3) (Wks.cons Wk.slf Wks.nil) (by simp [V.static,statics,cat_stat]) (by simp [V.static,statics,cat_stat,octet_Bytes_V]) (by kernel_rfl)) (fun _=>rfl) fun f8 hf8 => ?_
     obtain ⟨c9,h⟩:=as_ok h
     exact Ad (.app 5 1 1 (.t 58) (.t 62)) (.ref 2 (v_1+1) 0 (l_1++r_3).length) hf8 (e_app (g:=(nI .u8)) (l:=l_1) (l':=r_3) (b:=2) (ver:=v_1) (n:=l_1.length) rfl (by kernel_rfl) rfl (live_grow (by kernel_rfl)) (by kernel_rfl) (slc_ev (v:=.sl false r_3.length (cat (nI .u8) r_3)) (by kernel_rfl) (slc_sl (g:=(nI .u8)) r_3)) c9) fun f9 hf9=>En hf9 fun f10 hf10=>Kv<|Kh (hj3 (l_1++r_3) (v_1+1) h _ (Of [1,2,3,4] hf10))
    ·exact Ks<|Kv<|Kh (hj3 l_1 v_1 h _ (Of [1,2,3,4] hf6))
  refine Kf hf6 h (fun hc4 h => ?_) fun hc4 h => ?_
  ·refine Kr<|Sg 4 hf6 fun f7 hf7 => ?_
   obtain ⟨c5,h⟩:=as_ok h
   refine Ad (.app 5 1 1 (.t 33) (.t 36)) (.ref 2 (((v_+1))+1) 0 ((l_++[i_.Code])++[i_.Post]).length) hf7 (e_app (g:=(nI .u8)) (l:=(l_++[i_.Code])) (l':=[i_.Post]) (b:=2) (ver:=(v_+1)) (n:=(l_++[i_.Code]).length) rfl (by kernel_rfl) rfl (live_grow (by kernel_rfl)) (sll_ev (v:=.ref 4 0 0 1) (by kernel_rfl) (sll_ref (B:=⟨0,.grow,1,cat (nI .u8) [i_.Post]⟩) (by kernel_rfl) (live_grow (by kernel_rfl)))) (slc_ev (v:=.ref 4 0 0 1) (by kernel_rfl) (slc_ref (g:=(nI .u8)) (l:=[i_.Post]) (kd:=.grow) (q:=1) (by kernel_rfl) (live_grow (by kernel_rfl)))) c5) fun f8 hf8=>En hf8 fun f9 hf9=>k_c' (vs_vs (vs_cut (l:=[⟨1,[],.ptr 0 0 0⟩,⟨2,[],.ref 1 0 0 0⟩,⟨3,[],.s (.int .i64 0)⟩,⟨4,[],.ref 2 (((v_+1))+1) 0 ((l_++[i_.Code])++[i_.Post]).length⟩]) 4 (by kernel_rfl) (by kernel_rfl) (L':=[⟨0,.mem,1,[.s (.int .i64 i_.Page),.s (.int .u8 i_.Code),.s (.int .i64 i_.Entry.Op),.s (.int .i64 i_.Entry.Mode),.s (.int .i64 i_.Entry.Reg),.s (.int .u8 i_.Post),.s (.int .u16 i_.Value),.s (.int .i64 i_.Len)]⟩,⟨0,.grow,1,cat (nI .u8) ([]:List Int)⟩,⟨(((v_+1))+1),.grow,1,cat (nI .u8) ((l_++[i_.Code])++[i_.Post])⟩,⟨0,.grow,1,cat (nI .u8) [i_.Code]⟩]) (by kernel_rfl) ⟨⟨rfl,rfl⟩,⟨rfl,rfl⟩,⟨rfl,rfl⟩,⟨rfl,rfl⟩,trivial⟩ ⟨.inr (.inr rfl),.inr (.inr (statics_unders _ _ (cat_stat _))),.inr (.inr (statics_unders _ _ (cat_stat _))),.inr (.inr (statics_unders _ _ (cat_stat _))),trivial⟩ (Of [1,2,3,4] hf9) fun f hf => ?_))
   exact k_un (hj2 ((l_++[i_.Code])++[i_.Post]) (((v_+1))+1) h _ hf)
  ·exact Ks<|Kh (hj2 (l_++[i_.Code]) (v_+1) h _ (Of [1,2,3,4] hf6))
 refine Kf hf3 h (fun hc1 h => ?_) fun hc1 h => ?_
 ·refine Kr<|Sg 6 hf3 fun f4 hf4 => ?_
  obtain ⟨c2,h⟩:=as_ok h
  refine Ad (.app 5 1 1 (.t 17) (.t 22)) (.ref 2 1 0 (([]:List Int)++[(IntKind.wrap .u8 (IntKind.wrap .i64 (14+i_.Page)))]).length) hf4 (e_app (g:=(nI .u8)) (l:=([]:List Int)) (l':=[(IntKind.wrap .u8 (IntKind.wrap .i64 (14+i_.Page)))]) (b:=2) (ver:=0) (n:=0) rfl (by kernel_rfl) rfl (live_grow (by kernel_rfl)) (sll_ev (v:=.ref 3 0 0 1) (by kernel_rfl) (sll_ref (B:=⟨0,.grow,1,cat (nI .u8) [(IntKind.wrap .u8 (IntKind.wrap .i64 (14+i_.Page)))]⟩) (by kernel_rfl) (live_grow (by kernel_rfl)))) (slc_ev (v:=.ref 3 0 0 1) (by kernel_rfl) (slc_ref (g:=(nI .u8)) (l:=[(IntKind.wrap .u8 (IntKind.wrap .i64 (14+i_.Page)))]) (kd:=.grow) (q:=1) (by kernel_rfl) (live_grow (by kernel_rfl)))) c2) fun f5 hf5=>En hf5 fun f6 hf6=>k_c' (vs_vs (vs_cut (l:=[⟨1,[],.ptr 0 0 0⟩,⟨2,[],.ref 1 0 0 0⟩,⟨3,[],.s (.int .i64 0)⟩,⟨4,[],.ref 2 1 0 (([]:List Int)++[(IntKind.wrap .u8 (IntKind.wrap .i64 (14+i_.Page)))]).length⟩]) 3 (by kernel_rfl) (by kernel_rfl) (L':=[⟨0,.mem,1,[.s (.int .i64 i_.Page),.s (.int .u8 i_.Code),.s (.int .i64 i_.Entry.Op),.s (.int .i64 i_.Entry.Mode),.s (.int .i64 i_.Entry.Reg),.s (.int .u8 i_.Post),.s (.int .u16 i_.Value),.s (.int .i64 i_.Len)]⟩,⟨0,.grow,1,cat (nI .u8) ([]:List Int)⟩,⟨1,.grow,1,cat (nI .u8) (([]:List Int)++[(IntKind.wrap .u8 (IntKind.wrap .i64 (14+i_.Page)))])⟩]) (by kernel_rfl) ⟨⟨rfl,rfl⟩,⟨rfl,rfl⟩,⟨rfl,rfl⟩,⟨rfl,rfl⟩,trivial⟩ ⟨.inr (.inr rfl),.inr (.inr (statics_unders _ _ (cat_stat _))),.inr (.inr (statics_unders _ _ (cat_stat _))),trivial⟩ (Of [1,2,3,4] hf6) fun f hf => ?_))
  exact k_un (hj1 (([]:List Int)++[(IntKind.wrap .u8 (IntKind.wrap .i64 (14+i_.Page)))]) (1) h _ hf)
 ·exact Ks<|Kh (hj1 ([]:List Int) (0) h _ (Of [1,2,3,4] hf3))
@[irreducible] noncomputable def i28:Nat→List Op1:=rg Tryz.prog 28 []
noncomputable def a28_0:IR:=(.seq (.seq (.reg false (i28 5)) (.seq (.reg false (i28 6)) (.cond (.t 30) (.seq (.reg false (i28 7)) .ret) .skip))) (.seq (.reg false (i28 8)) .ret))
noncomputable def a28_1:IR:=(.seq (.seq (.reg false (i28 1)) (.cond (.t 11) (.seq (.reg false (i28 2)) (.seq (.reg false (i28 3)) .ret)) .skip)) (.seq (.reg false (i28 4)) a28_0))
noncomputable def dis_Text_ir:IR:=(.seq (.reg false (i28 0)) a28_1)
theorem dis_Text_cfn:cFn Tryz.prog 28=some (dis_Text_ir,[(.t 4)],36):=by kernel_rfl
def dis_Text_V (r:(ByteArray)):V:=.s (.string r)
def dis_Text_C (r:(ByteArray)):X→Fr→Hp→Prop:=FinL [(.t 4)] [] (dis_Text_V r) []
theorem dis_Text_ok (i_:api_Inst) (at_:Int) (r:(ByteArray)) (h:dis_Text i_ at_=some r):Pure Tryz.prog 28 [.agg [.s (.int .i64 i_.Page),.s (.int .u8 i_.Code),.s (.int .i64 i_.Entry.Op),.s (.int .i64 i_.Entry.Mode),.s (.int .i64 i_.Entry.Reg),.s (.int .u8 i_.Post),.s (.int .u16 i_.Value),.s (.int .i64 i_.Len)],.s (.int .u16 at_)] (dis_Text_V r):=by
 refine CS dis_Text_cfn (dis_Text_C r) fun f hf => ?_
 unfold dis_Text at h
 refine Kq<|Kr<|En hf fun f1 hf1=>Kc<|Kq<|Kq<|Kr<|Sg 1 hf1 fun f2 hf2 => ?_
 obtain ⟨r_,hx_r_,h⟩:=Bs h
 refine Cp (dis_Sure_ok _ _ hx_r_) hf2 fun f3 hf3=>En hf3 fun f4 hf4=>Kc<|Kf hf4 h (fun hc1 h => ?_) fun hc1 h => ?_
 ·refine Kq<|Kr<|Sg 1 hf4 fun f5 hf5 => ?_
  obtain ⟨r_1,hx_r_1,h⟩:=Bs h
  refine Ca hf5 (av:=[.agg [.s (.int .i64 i_.Page),.s (.int .u8 i_.Code),.s (.int .i64 i_.Entry.Op),.s (.int .i64 i_.Entry.Mode),.s (.int .i64 i_.Entry.Reg),.s (.int .u8 i_.Post),.s (.int .u16 i_.Value),.s (.int .i64 i_.Len)]]) (v:=.tup [.sl false r_1.1.length (cat (nI .u8) r_1.1),.s (.int .i64 r_1.2)]) (CalL.pure (inst_Put_ok i_ r_1 hx_r_1) rfl (by simp [V.static,statics,cat_stat,inst_Put_V]) (Nat.le_of_ble_eq_true (by kernel_rfl))) (fun _=>rfl) fun f6 hf6=>En hf6 fun f7 hf7=>Kc<|Kq<|Kr<|Sg 1 hf7 fun f8 hf8 => ?_
  obtain ⟨r_2,hx_r_2,h⟩:=Bs h
  refine Cp (dis_bytes_ok _ _ hx_r_2) hf8 fun f9 hf9=>En hf9 fun f10 hf10 => ?_
  obtain rfl:=Oi h
  exact Kc<|Kt<|Xc<|Fp hf10
 ·refine Ks<|Kc<|Kq<|Kr<|Sg 6 hf4 fun f5 hf5 => ?_
  obtain ⟨r_3,hx_r_3,h⟩:=Bs h
  refine Cp (ops_Name_ok _ _ _ hx_r_3) hf5 fun f6 hf6=>En hf6 fun f7 hf7=>Kc<|Kq<|Kq<|Kr<|Sg 2 hf7 fun f8 hf8 => ?_
  obtain ⟨r_4,hx_r_4,h⟩:=Bs h
  refine Cp (dis_operand_ok _ _ _ hx_r_4) hf8 fun f9 hf9=>En hf9 fun f10 hf10=>Kc<|Kq<|Kr<|En hf10 fun f11 hf11=>Kc<|Kf hf11 h (fun hc2 h => ?_) fun hc2 h => ?_
  ·refine Kq<|Kr<|Sg 1 hf11 fun f12 hf12 => ?_
   obtain ⟨c3,h⟩:=as_ok h
   refine Ad (.bin .add (.t 31) (.k (.string ⟨#[32]⟩))) (.s (.string (r_3++(⟨#[32]⟩:ByteArray)))) hf12 (e_sadd (t:=r_3) (t':=(⟨#[32]⟩:ByteArray)) (by kernel_rfl) (by kernel_rfl) c3) fun f13 hf13=>Sg 1 hf13 fun f14 hf14 => ?_
   obtain ⟨c4,h⟩:=as_ok h
   refine Ad (.bin .add (.t 32) (.t 33)) (.s (.string ((r_3++(⟨#[32]⟩:ByteArray))++r_4))) hf14 (e_sadd (t:=(r_3++(⟨#[32]⟩:ByteArray))) (t':=r_4) (by kernel_rfl) (by kernel_rfl) c4) fun f15 hf15=>En hf15 fun f16 hf16 => ?_
   obtain rfl:=Oi h
   exact Kc<|Kt<|Xc<|Fp hf16
  ·refine Ks<|Kc<|Kq<|Kr<|En hf11 fun f12 hf12 => ?_
   obtain rfl:=Oi h
   exact Kc<|Kt<|Fp hf12
@[irreducible] noncomputable def i11:Nat→List Op1:=rg Tryz.prog 11 []
noncomputable def a11_0:IR:=(.seq (.reg false (i11 1)) (.seq (.reg false (i11 2)) (.seq (.reg false (i11 3)) (.seq (.reg true (i11 4)) .ret))))
noncomputable def dis_Line_ir:IR:=(.seq (.reg false (i11 0)) a11_0)
theorem dis_Line_cfn:cFn Tryz.prog 11=some (dis_Line_ir,[(.t 4),(.t 5)],38):=by kernel_rfl
def dis_Line_V (r:(ByteArray × Int)):V:=.tup [.s (.string r.1),.s (.int .u16 r.2)]
def dis_Line_C (r:(ByteArray × Int)):X→Fr→Hp→Prop:=FinL [(.t 4),(.t 5)] [] (dis_Line_V r) []
theorem dis_Line_ok (at_:Int) (m_:RamT) (r:(ByteArray × Int)) (h:dis_Line at_ m_=some r):Pure Tryz.prog 11 [.s (.int .u16 at_),.ifc 28 (RamT.v m_)] (dis_Line_V r):=by
 refine CS dis_Line_cfn (dis_Line_C r) fun f hf => ?_
 unfold dis_Line at h
 refine Kq<|Kr<|En hf fun f1 hf1=>Kc<|Kq<|Kr<|Sg 2 hf1 fun f2 hf2 => ?_
 obtain ⟨r_,hx_r_,h⟩:=Bs h
 refine Ca hf2 (av:=[.s (.int .u16 at_),.ifc 28 (RamT.v m_)]) (v:=.agg [.s (.int .i64 r_.Page),.s (.int .u8 r_.Code),.s (.int .i64 r_.Entry.Op),.s (.int .i64 r_.Entry.Mode),.s (.int .i64 r_.Entry.Reg),.s (.int .u8 r_.Post),.s (.int .u16 r_.Value),.s (.int .i64 r_.Len)]) (CalL.pure (fast_Decode_ok at_ m_ r_ hx_r_) (by simp [V.static,statics,cat_stat,RamT.v_stat,RamT.c_stat]) rfl (Nat.le_of_ble_eq_true (by kernel_rfl))) (fun _=>rfl) fun f3 hf3=>En hf3 fun f4 hf4=>Kc<|Kq<|Kr<|Sg 1 hf4 fun f5 hf5 => ?_
 obtain ⟨r_1,hx_r_1,h⟩:=Bs h
 refine Ca hf5 (av:=[.agg [.s (.int .i64 r_.Page),.s (.int .u8 r_.Code),.s (.int .i64 r_.Entry.Op),.s (.int .i64 r_.Entry.Mode),.s (.int .i64 r_.Entry.Reg),.s (.int .u8 r_.Post),.s (.int .u16 r_.Value),.s (.int .i64 r_.Len)]]) (v:=.tup [.sl false r_1.1.length (cat (nI .u8) r_1.1),.s (.int .i64 r_1.2)]) (CalL.pure (inst_Put_ok r_ r_1 hx_r_1) rfl (by simp [V.static,statics,cat_stat,RamT.v_stat,RamT.c_stat,inst_Put_V]) (Nat.le_of_ble_eq_true (by kernel_rfl))) (fun _=>rfl) fun f6 hf6=>En hf6 fun f7 hf7=>Kc<|Kq<|Kr<|Sg 1 hf7 fun f8 hf8 => ?_
 obtain ⟨r_2,hx_r_2,h⟩:=Bs h
 refine Cp (digit_Pairs_ok _ _ hx_r_2) hf8 fun f9 hf9=>En hf9 fun f10 hf10=>Kc<|Kq<|Kd<|Sg 2 hf10 fun f11 hf11 => ?_
 obtain ⟨r_3,hx_r_3,h⟩:=Bs h
 refine Cp (digit_Hex_ok _ _ _ hx_r_3) hf11 fun f12 hf12 => ?_
 obtain ⟨c1,h⟩:=as_ok h
 refine Ad (.bin .add (.t 22) (.k (.string ⟨#[32]⟩))) (.s (.string (r_3++(⟨#[32]⟩:ByteArray)))) hf12 (e_sadd (t:=r_3) (t':=(⟨#[32]⟩:ByteArray)) (by kernel_rfl) (by kernel_rfl) c1) fun f13 hf13=>Sg 1 hf13 fun f14 hf14 => ?_
 obtain ⟨c2,h⟩:=as_ok h
 refine Ad (.bin .add (.t 23) (.t 24)) (.s (.string ((r_3++(⟨#[32]⟩:ByteArray))++r_2))) hf14 (e_sadd (t:=(r_3++(⟨#[32]⟩:ByteArray))) (t':=r_2) (by kernel_rfl) (by kernel_rfl) c2) fun f15 hf15=>Sg 3 hf15 fun f16 hf16 => ?_
 obtain ⟨r_4,hx_r_4,h⟩:=Bs h
 refine Cp (strings_Repeat_ok _ _ _ hx_r_4) hf16 fun f17 hf17 => ?_
 obtain ⟨c3,h⟩:=as_ok h
 refine Ad (.bin .add (.t 25) (.t 29)) (.s (.string (((r_3++(⟨#[32]⟩:ByteArray))++r_2)++r_4))) hf17 (e_sadd (t:=((r_3++(⟨#[32]⟩:ByteArray))++r_2)) (t':=r_4) (by kernel_rfl) (by kernel_rfl) c3) fun f18 hf18=>Sg 2 hf18 fun f19 hf19 => ?_
 obtain ⟨r_5,hx_r_5,h⟩:=Bs h
 refine Cp (dis_Text_ok _ _ _ hx_r_5) hf19 fun f20 hf20 => ?_
 obtain ⟨c4,h⟩:=as_ok h
 refine Ad (.bin .add (.t 30) (.t 33)) (.s (.string ((((r_3++(⟨#[32]⟩:ByteArray))++r_2)++r_4)++r_5))) hf20 (e_sadd (t:=(((r_3++(⟨#[32]⟩:ByteArray))++r_2)++r_4)) (t':=r_5) (by kernel_rfl) (by kernel_rfl) c4) fun f21 hf21=>mops_seg [4,5,34,35,36] 2 hf21 (l':=[⟨4,[],.s (.string (⟨#[]⟩:ByteArray))⟩,⟨5,[],.s (.int .u16 0)⟩,⟨34,[],.s (.string ((((r_3++(⟨#[32]⟩:ByteArray))++r_2)++r_4)++r_5))⟩,⟨35,[],.agg [.s (.int .i64 r_.Page),.s (.int .u8 r_.Code),.s (.int .i64 r_.Entry.Op),.s (.int .i64 r_.Entry.Mode),.s (.int .i64 r_.Entry.Reg),.s (.int .u8 r_.Post),.s (.int .u16 r_.Value),.s (.int .i64 r_.Len)]⟩,⟨36,[],.s (.int .u16 at_)⟩]) (L':=[⟨0,.mem,1,[.s (.int .i64 r_.Page),.s (.int .u8 r_.Code),.s (.int .i64 r_.Entry.Op),.s (.int .i64 r_.Entry.Mode),.s (.int .i64 r_.Entry.Reg),.s (.int .u8 r_.Post),.s (.int .u16 r_.Value),.s (.int .i64 r_.Len)]⟩]) (by kernel_rfl) fun f22 hf22 => ?_
 obtain ⟨r_6,hx_r_6,h⟩:=Bs h
 refine Cp (inst_Next_ok _ _ _ hx_r_6) hf22 fun f23 hf23=>En hf23 fun f24 hf24 => ?_
 obtain rfl:=Oi h
 exact Kc<|Kt<|k_fin (fin_ret (.inl rfl) hf24 (vs:=[.s (.string ((((r_3++(⟨#[32]⟩:ByteArray))++r_2)++r_4)++r_5)),.s (.int .u16 r_6)]) (by kernel_rfl) (SettL.pure (FzL.tup (FzsL.cons (FzL.stat rfl) (FzsL.cons (FzL.stat rfl) FzsL.nil)))))
@[irreducible] noncomputable def i12:Nat→List Op1:=rg Tryz.prog 12 []
noncomputable def spinetlaw42_alive_ir:IR:=(.seq (.reg false (i12 0)) (.seq (.reg false (i12 1)) (.seq (.reg false (i12 2)) (.seq (.reg false (i12 3)) .ret))))
theorem spinetlaw42_alive_cfn:cFn Tryz.prog 12=some (spinetlaw42_alive_ir,[(.t 0)],29):=by kernel_rfl
def spinetlaw42_alive_V (r:(Bool)):V:=.s (.bool r)
def spinetlaw42_alive_C (r:(Bool)):X→Fr→Hp→Prop:=FinL [(.t 0)] [] (spinetlaw42_alive_V r) []
theorem spinetlaw42_alive_ok (r:(Bool)) (h:spinetlaw42_alive=some r):Pure Tryz.prog 12 [] (spinetlaw42_alive_V r):=by
 refine CS spinetlaw42_alive_cfn (spinetlaw42_alive_C r) fun f hf => ?_
 unfold spinetlaw42_alive at h
 refine Kq<|Kr<|En hf fun f1 hf1=>Kc<|Kq<|Kr<|Sg 1 hf1 fun f2 hf2 => ?_
 obtain ⟨r_,hx_r_,h⟩:=Bs h
 refine Ca hf2 (av:=[.sl true [166,132].length (cat (nI .u8) [166,132])]) (v:=.tup [.agg [.s (.int .i64 r_.1.Page),.s (.int .u8 r_.1.Code),.s (.int .i64 r_.1.Entry.Op),.s (.int .i64 r_.1.Entry.Mode),.s (.int .i64 r_.1.Entry.Reg),.s (.int .u8 r_.1.Post),.s (.int .u16 r_.1.Value),.s (.int .i64 r_.1.Len)],.s (.bool r_.2)]) (CalL.purew (spinetref18_Of_ok [166,132] r_ hx_r_) (Wks.cons Wk.slf Wks.nil) (by simp [V.static,statics,cat_stat]) rfl (by kernel_rfl)) (fun _=>rfl) fun f3 hf3=>En hf3 fun f4 hf4=>Kc<|Kq<|Kr<|Sg 1 hf4 fun f5 hf5 => ?_
 obtain ⟨r_1,hx_r_1,h⟩:=Bs h
 refine Ca hf5 (av:=[.sl true [32,254].length (cat (nI .u8) [32,254])]) (v:=.tup [.agg [.s (.int .i64 r_1.1.Page),.s (.int .u8 r_1.1.Code),.s (.int .i64 r_1.1.Entry.Op),.s (.int .i64 r_1.1.Entry.Mode),.s (.int .i64 r_1.1.Entry.Reg),.s (.int .u8 r_1.1.Post),.s (.int .u16 r_1.1.Value),.s (.int .i64 r_1.1.Len)],.s (.bool r_1.2)]) (CalL.purew (spinetref18_Of_ok [32,254] r_1 hx_r_1) (Wks.cons Wk.slf Wks.nil) (by simp [V.static,statics,cat_stat]) rfl (by kernel_rfl)) (fun _=>rfl) fun f6 hf6=>En hf6 fun f7 hf7=>Kc<|Kq<|Kr<|Sg 6 hf7 fun f8 hf8 => ?_
 obtain ⟨r_2,hx_r_2,h⟩:=Bs h
 refine mops_gcall (dst:=(some 21)) (m:=28) (args:=[(.t 20),(.k (.int .u16 0))]) (aft:=[5,4,4]) (t:=19) (w:=true) (ch:=[(19,true)]) (b:=(r_.2&&r_1.2)) (by kernel_rfl) hf8 (by kernel_rfl) (by kernel_rfl) (av:=[.agg [.s (.int .i64 r_.1.Page),.s (.int .u8 r_.1.Code),.s (.int .i64 r_.1.Entry.Op),.s (.int .i64 r_.1.Entry.Mode),.s (.int .i64 r_.1.Entry.Reg),.s (.int .u8 r_.1.Post),.s (.int .u16 r_.1.Value),.s (.int .i64 r_.1.Len)],.s (.int .u16 0)]) (by kernel_rfl) (v:=.s (.string r_2)) (by kernel_rfl) (fun hb1=>(CalL.pure (dis_Text_ok r_.1 (0) r_2 (if_t hx_r_2 hb1)) rfl rfl (Nat.le_of_ble_eq_true (by kernel_rfl)))) fun f9 hf9=>Sg 4 hf9 fun f10 hf10 => ?_
 obtain ⟨r_3,hx_r_3,h⟩:=Bs h
 refine mops_gcall (dst:=(some 26)) (m:=28) (args:=[(.t 25),(.k (.int .u16 4096))]) (aft:=[10,9,9]) (t:=24) (w:=true) (ch:=[(24,true)]) (b:=((r_.2&&r_1.2)&&(r_2.toList == (⟨#[76,68,65,32,44,88]⟩:ByteArray).toList))) (by kernel_rfl) hf10 (by kernel_rfl) (by kernel_rfl) (av:=[.agg [.s (.int .i64 r_1.1.Page),.s (.int .u8 r_1.1.Code),.s (.int .i64 r_1.1.Entry.Op),.s (.int .i64 r_1.1.Entry.Mode),.s (.int .i64 r_1.1.Entry.Reg),.s (.int .u8 r_1.1.Post),.s (.int .u16 r_1.1.Value),.s (.int .i64 r_1.1.Len)],.s (.int .u16 4096)]) (by kernel_rfl) (v:=.s (.string r_3)) (by kernel_rfl) (fun hb2=>(CalL.pure (dis_Text_ok r_1.1 (4096) r_3 (if_t hx_r_3 hb2)) rfl rfl (Nat.le_of_ble_eq_true (by kernel_rfl)))) fun f11 hf11=>En hf11 fun f12 hf12 => ?_
 obtain rfl:=Oi h
 exact Kc<|Kt<|Fp hf12
@[irreducible] noncomputable def i6:Nat→List Op1:=rg Tryz.prog 6 []
noncomputable def a6_0:IR:=(.seq (.block 1 (.seq (.reg false (i6 4)) (.seq (.reg false (i6 5)) (.reg false (i6 6))))) (.reg false (i6 7)))
noncomputable def a6_1:IR:=(.seq (.seq (.reg false (i6 2)) (.block 0 (.loop (.seq (.reg false (i6 3)) (.seq (.cond (.t 11) .skip (.exit 0)) a6_0))))) (.seq (.reg false (i6 8)) .ret))
noncomputable def dis_Lines_ir:IR:=(.seq (.reg false (i6 0)) (.seq (.reg false (i6 1)) a6_1))
theorem dis_Lines_cfn:cFn Tryz.prog 6=some (dis_Lines_ir,[(.t 6)],24):=by kernel_rfl
def dis_Lines_V (r:((List ByteArray))):V:=.sl false r.length (cat nS r)
def dis_Lines_C (r:((List ByteArray))):X→Fr→Hp→Prop:=FinL [(.t 6)] [] (dis_Lines_V r) []
theorem dis_Lines_ok (at_:Int) (many_:Int) (m_:RamT) (r:((List ByteArray))) (h:dis_Lines at_ many_ m_=some r):Pure Tryz.prog 6 [.s (.int .u16 at_),.s (.int .i64 many_),.ifc 28 (RamT.v m_)] (dis_Lines_V r):=by
 refine CS dis_Lines_cfn (dis_Lines_C r) fun f hf => ?_
 unfold dis_Lines at h
 refine Kq<|Kr<|En hf fun f1 hf1=>Kc<|Kq<|Kr<|En hf1 fun f2 hf2=>Kc<|Kq<|Kq<|Kr<|En hf2 fun f3 hf3=>Kc<|Kb ?_
 obtain ⟨o0,hx0,h⟩:=Bs h
 have hgo0:∀ (l_2:(List ByteArray)) (v_2:Nat),l_2=o0→∀ f,FOk f [⟨6,[],.ref 0 0 0 0⟩,⟨7,[],.ref 1 v_2 0 l_2.length⟩]→kont Tryz.prog [] (dis_Lines_C r) ((.c (.seq (.reg false (i6 8)) .ret))::[]) .normal f [⟨0,.grow,1,cat nS ([]:List ByteArray)⟩,⟨v_2,.grow,1,cat nS l_2⟩]:=by
  intro l_2 v_2 e f hf
  subst e
  refine Kc<|Kq<|Kr<|En hf fun f1 hf1 => ?_
  obtain rfl:=Oi h
  exact Kc<|Kt<|k_fin (fin_ret (.inl rfl) hf1 (vs:=[.ref 1 v_2 0 l_2.length]) (by kernel_rfl) (SettL.pure (FzL.whole (g:=nS) (kd:=.grow) (l:=l_2) (by kernel_rfl) rfl (live_grow (by kernel_rfl)))))
 refine k_loop BIG<|loop_ind (fun n f L=>∃ (l_1:(List ByteArray)) (t_2:Int) (t_3:Int) (v_1:Nat),dis_Lines_l0 many_ m_ n l_1 t_2 t_3=some o0∧FOk f [⟨0,[],.s (.int .u16 t_2)⟩,⟨2,[],.ifc 28 (RamT.v m_)⟩,⟨6,[],.ref 0 0 0 0⟩,⟨7,[],.ref 1 v_1 0 l_1.length⟩,⟨9,[],.s (.int .i64 many_)⟩,⟨10,[],.s (.int .i64 t_3)⟩]∧L=[⟨0,.grow,1,cat nS ([]:List ByteArray)⟩,⟨v_1,.grow,1,cat nS l_1⟩]) ?_ ?_ BIG _ _ ⟨([]:List ByteArray),at_,(0),(0),hx0,FOk_of [0,2,6,7,9,10] hf3 (by kernel_rfl),(by kernel_rfl)⟩
 ·rintro f L ⟨l_1,t_2,t_3,v_1,h,_⟩
  cases (show (none:Option _)=some _ from h)
 ·rintro n0 R0 ih f L ⟨l_1,t_2,t_3,v_1,h,hf,rfl⟩
  rw [dis_Lines_l0] at h
  refine Kq<|Kr<|En hf fun f1 hf1=>Kc<|Kq<|Kf hf1 h (fun hc1 h => ?_) fun hc1 h => ?_
  ·refine Ks<|Kc<|Kq<|Kb<|Kq<|Kr<|En hf1 fun f2 hf2=>Kc<|Kq<|Kr<|Sg 2 hf2 fun f3 hf3 => ?_
   obtain ⟨r_2,hx_r_2,h⟩:=Bs h
   refine Ca hf3 (av:=[.s (.int .u16 t_2),.ifc 28 (RamT.v m_)]) (v:=.tup [.s (.string r_2.1),.s (.int .u16 r_2.2)]) (CalL.pure (dis_Line_ok t_2 m_ r_2 hx_r_2) (by simp [V.static,statics,cat_stat,RamT.v_stat,RamT.c_stat]) rfl (Nat.le_of_ble_eq_true (by kernel_rfl))) (fun _=>rfl) fun f4 hf4=>En hf4 fun f5 hf5=>Kc<|Kr<|Sg 3 hf5 fun f6 hf6 => ?_
   obtain ⟨c2,h⟩:=as_ok h
   refine Ad (.app 9 1 16 (.t 18) (.t 20)) (.ref 1 (v_1+1) 0 (l_1++[r_2.1]).length) hf6 (e_app (g:=nS) (l:=l_1) (l':=[r_2.1]) (b:=1) (ver:=v_1) (n:=l_1.length) rfl (by kernel_rfl) rfl (live_grow (by kernel_rfl)) (sll_ev (v:=.ref 2 0 0 1) (by kernel_rfl) (sll_ref (B:=⟨0,.grow,1,cat nS [r_2.1]⟩) (by kernel_rfl) (live_grow (by kernel_rfl)))) (slc_ev (v:=.ref 2 0 0 1) (by kernel_rfl) (slc_ref (g:=nS) (l:=[r_2.1]) (kd:=.grow) (q:=1) (by kernel_rfl) (live_grow (by kernel_rfl)))) c2) fun f7 hf7=>En hf7 fun f8 hf8=>Kv<|Kc<|Kr<|En hf8 fun f9 hf9=>k_l' (vs_cut (l:=[⟨0,[],.s (.int .u16 r_2.2)⟩,⟨2,[],.ifc 28 (RamT.v m_)⟩,⟨6,[],.ref 0 0 0 0⟩,⟨7,[],.ref 1 (v_1+1) 0 (l_1++[r_2.1]).length⟩,⟨9,[],.s (.int .i64 many_)⟩,⟨10,[],.s (.int .i64 (IntKind.wrap .i64 (t_3+1)))⟩]) 2 (by kernel_rfl) (by kernel_rfl) (L':=[⟨0,.grow,1,cat nS ([]:List ByteArray)⟩,⟨(v_1+1),.grow,1,cat nS (l_1++[r_2.1])⟩]) (by kernel_rfl) ⟨⟨rfl,rfl⟩,⟨rfl,(static_under _ _ (by simp [V.static,statics,cat_stat,RamT.v_stat,RamT.c_stat,dropcat_stat,RamT.v_stat,RamT.c_stat]))⟩,⟨rfl,rfl⟩,⟨rfl,rfl⟩,⟨rfl,rfl⟩,⟨rfl,rfl⟩,trivial⟩ ⟨.inr (.inr (statics_unders _ _ (cat_stat _))),.inr (.inr (statics_unders _ _ (cat_stat _))),trivial⟩ (Of [0,2,6,7,9,10] hf9) fun f hf => ?_)
   exact ih _ _ ⟨(l_1++[r_2.1]),r_2.2,(IntKind.wrap .i64 (t_3+1)),(v_1+1),h,hf,rfl⟩
  ·exact Kx<|Xc<|Xl<|Xb<|Kh (hgo0 l_1 v_1 (Option.some.inj h) _ (Of [6,7] hf1))
end Go.Proofs.YtfcegejpdlbkdaaGreatK
