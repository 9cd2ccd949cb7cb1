/- The Go functions come to the functions over typed data. Printed by a program of this work. -/
import Derived.Test.YtfcegejpdlbkdaaGreatF
import Derived.Test.YtfcegejpdlbkdaaGreatProg
import Derived.Test.YtfcegejpdlbkdaaGreatRp
import Derived.Test.YtfcegejpdlbkdaaGreatRq
import Derived.Test.YtfcegejpdlbkdaaGreatSr
import Derived.Test.YtfcegejpdlbkdaaGreatG0
import Derived.Test.YtfcegejpdlbkdaaGreatG1
import Derived.Test.YtfcegejpdlbkdaaGreatG3
import Derived.Test.YtfcegejpdlbkdaaGreatG4
namespace Go.Proofs.YtfcegejpdlbkdaaGreatK
set_option linter.unusedVariables false
set_option linter.unusedSimpArgs false
set_option maxHeartbeats 4000000
open Go.RowKit
attribute [local irreducible] dwv mops lops lqops lwops kont iter run runK rk okK ex E1 vals val chain chB sel resF
@[irreducible] noncomputable def i3:Nat→List Op1:=rg Tryz.prog 3 []
@[irreducible] noncomputable def j3:Nat→List An:=rgw Tryz.prog 3 []
noncomputable def a3_0:IR:=(.seq (.seq (.reg false (i3 14)) (.cond (.t 59) .skip (.exit 2))) (.seq (.block 3 (.reg false (i3 15))) (.reg false (i3 16))))
noncomputable def a3_1:IR:=(.seq (.seq (.reg false (i3 19)) (.cond (.t 90) .skip (.exit 4))) (.block 5 (.reg false (i3 20))))
noncomputable def a3_2:IR:=(.seq (.seq (.reg false (i3 22)) (.cond (.t 128) (.seq (.reg false (i3 23)) .ret) .skip)) (.reg false (i3 24)))
noncomputable def a3_3:IR:=(.seq (.reg true (i3 18)) (.seq (.block 4 (.loop a3_1)) (.seq (.regw (j3 0)) (.seq (.reg false (i3 21)) a3_2))))
noncomputable def a3_4:IR:=(.seq (.seq (.reg false (i3 13)) (.block 2 (.loop a3_0))) (.seq (.reg false (i3 17)) a3_3))
noncomputable def a3_5:IR:=(.seq (.seq (.reg false (i3 11)) (.cond (.t 55) .skip (.exit 0))) (.seq (.block 1 (.seq (.reg false (i3 12)) a3_4)) (.reg false (i3 25))))
noncomputable def a3_6:IR:=(.seq (.seq (.reg false (i3 10)) (.block 0 (.loop a3_5))) (.seq (.reg false (i3 26)) .ret))
noncomputable def a3_7:IR:=(.seq (.seq (.reg false (i3 8)) (.cond (.t 51) (.seq (.reg false (i3 9)) .ret) .skip)) a3_6)
noncomputable def a3_8:IR:=(.seq (.seq (.reg false (i3 5)) (.cond (.t 41) (.seq (.reg false (i3 6)) .ret) .skip)) (.seq (.reg false (i3 7)) a3_7))
noncomputable def a3_9:IR:=(.seq (.seq (.reg false (i3 2)) (.cond (.t 30) (.seq (.reg false (i3 3)) .ret) .skip)) (.seq (.reg false (i3 4)) a3_8))
noncomputable def spinetlaw42_DisLines_ir:IR:=(.seq (.reg false (i3 0)) (.seq (.reg false (i3 1)) a3_9))
theorem spinetlaw42_DisLines_cfn:cFn Tryz.prog 3=some (spinetlaw42_DisLines_ir,[(.t 6)],131):=by kernel_rfl
def spinetlaw42_DisLines_V (r:(Bool)):V:=.s (.bool r)
def spinetlaw42_DisLines_C (r:(Bool)):X→Fr→Hp→Prop:=FinL [(.t 6)] [] (spinetlaw42_DisLines_V r) []
theorem spinetlaw42_DisLines_ok (w_:spinetlaw34_World) (at_:Int) (many_:Int) (r:(Bool)) (h:spinetlaw42_DisLines w_ at_ many_=some r):Pure Tryz.prog 3 [.agg [.sl false w_.Low.length (cat (nI .u8) w_.Low),.sl false w_.High.length (cat (nI .u8) w_.High)],.s (.int .u16 at_),.s (.int .i64 many_)] (spinetlaw42_DisLines_V r):=by
 refine CS spinetlaw42_DisLines_cfn (spinetlaw42_DisLines_C r) fun f hf => ?_
 unfold spinetlaw42_DisLines at h
 refine Kq<|Kr<|En hf fun f1 hf1=>Kc<|Kq<|Kr<|Sg 1 hf1 fun f2 hf2 => ?_
 obtain ⟨r_,hx_r_,h⟩:=Bs h
 refine Ca hf2 (av:=[.agg [.sl false w_.Low.length (cat (nI .u8) w_.Low),.sl false w_.High.length (cat (nI .u8) w_.High)]]) (v:=.tup [.sl false r_.1.length (cat (nI .u8) r_.1),.s (.bool r_.2)]) (CalL.pure (spinetlaw34_Image_ok w_ r_ hx_r_) (by simp [V.static,statics,cat_stat,RamT.v_stat,RamT.c_stat]) (by simp [V.static,statics,cat_stat,RamT.v_stat,RamT.c_stat,spinetlaw34_Image_V]) (Nat.le_of_ble_eq_true (by kernel_rfl))) (fun _=>rfl) fun f3 hf3=>En hf3 fun f4 hf4=>Kc<|Kq<|Kq<|Kr<|En hf4 fun f5 hf5=>Kc<|Kf hf5 h (fun hc1 h => ?_) fun hc1 h => ?_
 ·refine Kq<|Kr<|En hf5 fun f6 hf6 => ?_
  obtain rfl:=Oi h
  exact Kc<|Kt<|Xc<|Fp hf6
 ·refine Ks<|Kc<|Kq<|Kr<|Sg 1 hf5 fun f6 hf6 => ?_
  obtain ⟨r_1,hx_r_1,h⟩:=Bs h
  refine Ca hf6 (av:=[.sl false r_.1.length (cat (nI .u8) r_.1),.s (.int .i64 65536)]) (v:=.tup [RamT.v r_1.1,.s (.int .i64 r_1.2)]) (CalL.pure (ram_New_ok r_.1 (65536) r_1 hx_r_1) (by simp [V.static,statics,cat_stat,RamT.v_stat,RamT.c_stat]) (by simp [V.static,statics,cat_stat,RamT.v_stat,RamT.c_stat]) (Nat.le_of_ble_eq_true (by kernel_rfl))) (fun _=>rfl) fun f7 hf7=>En hf7 fun f8 hf8=>Kc<|Kq<|Kq<|Kr<|En hf8 fun f9 hf9=>Kc<|Kf hf9 h (fun hc2 h => ?_) fun hc2 h => ?_
  ·refine Kq<|Kr<|En hf9 fun f10 hf10 => ?_
   obtain rfl:=Oi h
   exact Kc<|Kt<|Xc<|Fp hf10
  ·refine Ks<|Kc<|Kq<|Kr<|Sg 4 hf9 fun f10 hf10 => ?_
   obtain ⟨r_2,hx_r_2,h⟩:=Bs h
   refine Ca hf10 (av:=[.s (.int .u16 at_),.s (.int .i64 many_),.ifc 28 (RamT.v r_1.1)]) (v:=.sl false r_2.length (cat nS r_2)) (CalL.pure (dis_Lines_ok at_ many_ r_1.1 r_2 hx_r_2) (by simp [V.static,statics,cat_stat,RamT.v_stat,RamT.c_stat]) (by simp [V.static,statics,cat_stat,RamT.v_stat,RamT.c_stat,dis_Lines_V]) (Nat.le_of_ble_eq_true (by kernel_rfl))) (fun _=>rfl) fun f11 hf11=>mops_end [1,2,6,7,9,11] hf11 (l':=[⟨1,[],.s (.int .u16 at_)⟩,⟨2,[],.s (.int .i64 many_)⟩,⟨6,[],.s (.bool false)⟩,⟨7,[],.sl false r_.1.length (cat (nI .u8) r_.1)⟩,⟨9,[],RamT.v r_1.1⟩,⟨11,[],.sl false r_2.length (cat nS r_2)⟩]) (L':=[⟨0,.mem,1,[.sl false w_.Low.length (cat (nI .u8) w_.Low),.sl false w_.High.length (cat (nI .u8) w_.High)]⟩]) (by kernel_rfl) fun f12 hf12=>Kc<|Kq<|Kq<|Kr<|En hf12 fun f13 hf13=>Kc<|Kf hf13 h (fun hc3 h => ?_) fun hc3 h => ?_
   ·refine Kq<|Kr<|En hf13 fun f14 hf14 => ?_
    obtain rfl:=Oi h
    exact Kc<|Kt<|Xc<|Fp hf14
   ·refine Ks<|Kc<|Kq<|Kq<|Kr<|En hf13 fun f14 hf14=>Kc<|Kb ?_
    obtain ⟨o0,hx0,h⟩:=Bs h
    have hret0:∀ r0,.ret r0=o0→r0=r:=fun r0 e=>by subst e; exact Option.some.inj h
    have hgo0:.go ()=o0→∀ f,FOk f [⟨6,[],.s (.bool false)⟩]→kont Tryz.prog [] (spinetlaw42_DisLines_C r) ((.c (.seq (.reg false (i3 26)) .ret))::[]) .normal f [⟨0,.mem,1,[.sl false w_.Low.length (cat (nI .u8) w_.Low),.sl false w_.High.length (cat (nI .u8) w_.High)]⟩]:=by
     intro  e f hf
     subst e
     refine Kc<|Kq<|Kr ?_
     obtain ⟨r_18,hx_r_18,h⟩:=Bs h
     refine Cp (spinetlaw42_alive_ok _ hx_r_18) hf fun f1 hf1=>En hf1 fun f2 hf2 => ?_
     obtain rfl:=Oi h
     exact Kc<|Kt<|Fp hf2
    refine k_loop BIG<|loop_ind (fun n f L=>∃ (t_1:Int) (n_1:Int),spinetlaw42_DisLines_l4 r_ r_1 r_2 n t_1 n_1=some o0∧FOk f [⟨1,[],.s (.int .u16 t_1)⟩,⟨6,[],.s (.bool false)⟩,⟨7,[],.sl false r_.1.length (cat (nI .u8) r_.1)⟩,⟨9,[],RamT.v r_1.1⟩,⟨11,[],.sl false r_2.length (cat nS r_2)⟩,⟨12,[],.s (.int .i64 n_1)⟩]∧L=[⟨0,.mem,1,[.sl false w_.Low.length (cat (nI .u8) w_.Low),.sl false w_.High.length (cat (nI .u8) w_.High)]⟩]) ?_ ?_ BIG _ _ ⟨at_,(0),hx0,FOk_of [1,6,7,9,11,12] hf14 (by kernel_rfl),(by kernel_rfl)⟩
    ·rintro f L ⟨t_1,n_1,h,_⟩
     cases (show (none:Option _)=some _ from h)
    ·rintro n0 R0 ih f L ⟨t_1,n_1,h,hf,rfl⟩
     rw [spinetlaw42_DisLines_l4] at h
     refine Kq<|Kq<|Kr<|En hf fun f1 hf1=>Kc<|Kf hf1 h (fun hc4 h => ?_) fun hc4 h => ?_
     ·refine Ks<|Kc<|Kq<|Kb<|Kq<|Kr<|En hf1 fun f2 hf2=>Kc<|Kq<|Kq<|Kr<|En hf2 fun f3 hf3=>Kc<|Kb ?_
      obtain ⟨o1,hx1,h⟩:=Bs h
      have hgo1:∀ (l_8:(List Int)) (v_8:Nat),l_8=o1→∀ f,FOk f [⟨1,[],.s (.int .u16 t_1)⟩,⟨6,[],.s (.bool false)⟩,⟨7,[],.sl false r_.1.length (cat (nI .u8) r_.1)⟩,⟨9,[],RamT.v r_1.1⟩,⟨11,[],.sl false r_2.length (cat nS r_2)⟩,⟨12,[],.s (.int .i64 n_1)⟩,⟨13,[],.ref 1 v_8 0 l_8.length⟩]→kont Tryz.prog [] (spinetlaw42_DisLines_C r) ((.c (.seq (.reg false (i3 17)) a3_3))::(.b 1)::(.c (.reg false (i3 25)))::(.l R0)::(.b 0)::(.c (.seq (.reg false (i3 26)) .ret))::[]) .normal f [⟨0,.mem,1,[.sl false w_.Low.length (cat (nI .u8) w_.Low),.sl false w_.High.length (cat (nI .u8) w_.High)]⟩,⟨v_8,.grow,1,cat (nI .u8) l_8⟩]:=by
       intro l_8 v_8 e f hf
       subst e
       refine Kc<|Kq<|Kr<|Sg 1 hf fun f1 hf1 => ?_
       obtain ⟨r_13,hx_r_13,h⟩:=Bs h
       refine Ca hf1 (av:=[.ref 1 v_8 0 l_8.length]) (v:=.tup [.agg [.s (.int .i64 r_13.1.Page),.s (.int .u8 r_13.1.Code),.s (.int .i64 r_13.1.Entry.Op),.s (.int .i64 r_13.1.Entry.Mode),.s (.int .i64 r_13.1.Entry.Reg),.s (.int .u8 r_13.1.Post),.s (.int .u16 r_13.1.Value),.s (.int .i64 r_13.1.Len)],.s (.bool r_13.2)]) (CalL.lend (spinetref18_Of_ok l_8 r_13 hx_r_13) rfl (Lends.cons (Lend.whole (g:=(nI .u8)) (kd:=.grow) (l:=l_8) rfl (live_grow (by kernel_rfl))) Lends.nil) (by kernel_rfl)) (fun _=>rfl) fun f2 hf2=>En hf2 fun f3 hf3=>Kc<|Kq<|Kd<|Sg 2 hf3 fun f4 hf4 => ?_
       obtain ⟨r_14,hx_r_14,h⟩:=Bs h
       refine Cp (spinetref02_Digits_ok _ _ _ _ hx_r_14) hf4 fun f5 hf5 => ?_
       obtain ⟨c8,h⟩:=as_ok h
       refine Ad (.bin .add (.t 80) (.k (.string ⟨#[32]⟩))) (.s (.string (r_14++(⟨#[32]⟩:ByteArray)))) hf5 (e_sadd (t:=r_14) (t':=(⟨#[32]⟩:ByteArray)) (by kernel_rfl) (by kernel_rfl) c8) fun f6 hf6=>Sg 3 hf6 fun f7 hf7 => ?_
       obtain ⟨c9,h⟩:=as_ok h
       refine Ad (.slice 1 (.t 82) none (some (.t 84))) (.ref 1 v_8 (0+0*1) ((r_13.1.Len:Int).toNat - 0)) hf7 (e_slice_ref (B:=⟨v_8,.grow,1,cat (nI .u8) l_8⟩) (n:=l_8.length) (o:=0) (by kernel_rfl) (live_grow (by kernel_rfl)) rfl (b_ns (k:=.i64) (iv:=r_13.1.Len) (by kernel_rfl) c9)) fun f8 hf8 => ?_
       obtain ⟨r_15,hx_r_15,h⟩:=Bs h
       refine Ca hf8 (av:=[.ref 1 v_8 (0+0*1) ((r_13.1.Len:Int).toNat - 0)]) (v:=.s (.string r_15)) (CalL.lend (spinetref02_Pairs_ok ((l_8.drop 0).take ((r_13.1.Len:Int).toNat - 0)) r_15 hx_r_15) rfl (Lends.cons (Lend.partr (g:=(nI .u8)) (kd:=.grow) (l:=l_8) (n:=l_8.length) (a:=0) (b:=(r_13.1.Len:Int).toNat) (cut_ns (n:=l_8.length) c9) rfl (live_grow (by kernel_rfl))) Lends.nil) (by kernel_rfl)) (fun _=>rfl) fun f9 hf9 => ?_
       obtain ⟨c10,h⟩:=as_ok h
       refine Ad (.bin .add (.t 81) (.t 86)) (.s (.string ((r_14++(⟨#[32]⟩:ByteArray))++r_15))) hf9 (e_sadd (t:=(r_14++(⟨#[32]⟩:ByteArray))) (t':=r_15) (by kernel_rfl) (by kernel_rfl) c10) fun f10 hf10=>En hf10 fun f11 hf11=>Kc<|Kq<|Kb ?_
       obtain ⟨o2,hx2,h⟩:=Bs h
       have hgo2:∀ (want_8:ByteArray),want_8=o2→∀ f,FOk f [⟨1,[],.s (.int .u16 t_1)⟩,⟨6,[],.s (.bool false)⟩,⟨7,[],.sl false r_.1.length (cat (nI .u8) r_.1)⟩,⟨9,[],RamT.v r_1.1⟩,⟨11,[],.sl false r_2.length (cat nS r_2)⟩,⟨12,[],.s (.int .i64 n_1)⟩,⟨13,[],.ref 1 v_8 0 l_8.length⟩,⟨15,[],.ptr 2 0 0⟩,⟨17,[],.s (.string want_8)⟩]→kont Tryz.prog [] (spinetlaw42_DisLines_C r) ((.c (.seq (.regw (j3 0)) (.seq (.reg false (i3 21)) a3_2)))::(.b 1)::(.c (.reg false (i3 25)))::(.l R0)::(.b 0)::(.c (.seq (.reg false (i3 26)) .ret))::[]) .normal f [⟨0,.mem,1,[.sl false w_.Low.length (cat (nI .u8) w_.Low),.sl false w_.High.length (cat (nI .u8) w_.High)]⟩,⟨v_8,.grow,1,cat (nI .u8) l_8⟩,⟨0,.mem,1,[.s (.int .i64 r_13.1.Page),.s (.int .u8 r_13.1.Code),.s (.int .i64 r_13.1.Entry.Op),.s (.int .i64 r_13.1.Entry.Mode),.s (.int .i64 r_13.1.Entry.Reg),.s (.int .u8 r_13.1.Post),.s (.int .u16 r_13.1.Value),.s (.int .i64 r_13.1.Len)]⟩]:=by
        intro want_8 e f hf
        subst e
        refine Kc<|Kq<|Kw<|lw_tight 10 (by kernel_rfl)<|mops_seg [1,6,7,9,11,12,15,17,93,94,95,96,98] 6 hf (l':=[⟨1,[],.s (.int .u16 t_1)⟩,⟨6,[],.s (.bool false)⟩,⟨7,[],.sl false r_.1.length (cat (nI .u8) r_.1)⟩,⟨9,[],RamT.v r_1.1⟩,⟨11,[],.sl false r_2.length (cat nS r_2)⟩,⟨12,[],.s (.int .i64 n_1)⟩,⟨15,[],.ptr 2 0 0⟩,⟨17,[],.s (.string want_8)⟩,⟨93,[],.s (.string want_8)⟩,⟨94,[],.agg [.s (.int .i64 r_13.1.Page),.s (.int .u8 r_13.1.Code),.s (.int .i64 r_13.1.Entry.Op),.s (.int .i64 r_13.1.Entry.Mode),.s (.int .i64 r_13.1.Entry.Reg),.s (.int .u8 r_13.1.Post),.s (.int .u16 r_13.1.Value),.s (.int .i64 r_13.1.Len)]⟩,⟨95,[],.s (.int .u16 t_1)⟩,⟨96,[],.ref 1 v_8 0 l_8.length⟩,⟨98,[],.s (.int .i64 r_13.1.Len)⟩]) (L':=[⟨0,.mem,1,[.sl false w_.Low.length (cat (nI .u8) w_.Low),.sl false w_.High.length (cat (nI .u8) w_.High)]⟩,⟨v_8,.grow,1,cat (nI .u8) l_8⟩,⟨0,.mem,1,[.s (.int .i64 r_13.1.Page),.s (.int .u8 r_13.1.Code),.s (.int .i64 r_13.1.Entry.Op),.s (.int .i64 r_13.1.Entry.Mode),.s (.int .i64 r_13.1.Entry.Reg),.s (.int .u8 r_13.1.Post),.s (.int .u16 r_13.1.Value),.s (.int .i64 r_13.1.Len)]⟩]) (by kernel_rfl) fun f1 hf1 => ?_
        obtain ⟨c13,h⟩:=as_ok h
        refine Ad (.slice 1 (.t 96) none (some (.t 98))) (.ref 1 v_8 (0+0*1) ((r_13.1.Len:Int).toNat - 0)) hf1 (e_slice_ref (B:=⟨v_8,.grow,1,cat (nI .u8) l_8⟩) (n:=l_8.length) (o:=0) (by kernel_rfl) (live_grow (by kernel_rfl)) rfl (b_ns (k:=.i64) (iv:=r_13.1.Len) (by kernel_rfl) c13)) fun f2 hf2 => ?_
        obtain ⟨r_16,hx_r_16,h⟩:=Bs h
        refine Ca hf2 (av:=[.agg [.s (.int .i64 r_13.1.Page),.s (.int .u8 r_13.1.Code),.s (.int .i64 r_13.1.Entry.Op),.s (.int .i64 r_13.1.Entry.Mode),.s (.int .i64 r_13.1.Entry.Reg),.s (.int .u8 r_13.1.Post),.s (.int .u16 r_13.1.Value),.s (.int .i64 r_13.1.Len)],.s (.int .u16 t_1),.ref 1 v_8 (0+0*1) ((r_13.1.Len:Int).toNat - 0)]) (v:=.s (.string r_16)) (CalL.lend (spinetref42_Text_ok r_13.1 t_1 ((l_8.drop 0).take ((r_13.1.Len:Int).toNat - 0)) r_16 hx_r_16) rfl (Lends.cons (Lend.stat rfl) (Lends.cons (Lend.stat rfl) (Lends.cons (Lend.partr (g:=(nI .u8)) (kd:=.grow) (l:=l_8) (n:=l_8.length) (a:=0) (b:=(r_13.1.Len:Int).toNat) (cut_ns (n:=l_8.length) c13) rfl (live_grow (by kernel_rfl))) Lends.nil))) (by kernel_rfl)) (fun _=>rfl) fun f3 hf3 => ?_
        obtain ⟨c14,h⟩:=as_ok h
        refine Ad (.bin .add (.t 93) (.t 100)) (.s (.string (want_8++r_16))) hf3 (e_sadd (t:=want_8) (t':=r_16) (by kernel_rfl) (by kernel_rfl) c14) fun f4 hf4=>mops_end [1,6,7,9,11,12,15,17] hf4 (l':=[⟨1,[],.s (.int .u16 t_1)⟩,⟨6,[],.s (.bool false)⟩,⟨7,[],.sl false r_.1.length (cat (nI .u8) r_.1)⟩,⟨9,[],RamT.v r_1.1⟩,⟨11,[],.sl false r_2.length (cat nS r_2)⟩,⟨12,[],.s (.int .i64 n_1)⟩,⟨15,[],.ptr 2 0 0⟩,⟨17,[],.s (.string (want_8++r_16))⟩]) (L':=[⟨0,.mem,1,[.sl false w_.Low.length (cat (nI .u8) w_.Low),.sl false w_.High.length (cat (nI .u8) w_.High)]⟩,⟨v_8,.grow,1,cat (nI .u8) l_8⟩,⟨0,.mem,1,[.s (.int .i64 r_13.1.Page),.s (.int .u8 r_13.1.Code),.s (.int .i64 r_13.1.Entry.Op),.s (.int .i64 r_13.1.Entry.Mode),.s (.int .i64 r_13.1.Entry.Reg),.s (.int .u8 r_13.1.Post),.s (.int .u16 r_13.1.Value),.s (.int .i64 r_13.1.Len)]⟩]) (by kernel_rfl) fun f5 hf5 => ?_
        intro _
        refine lw_end (by kernel_rfl)<|Kc<|Kq<|Kr<|Sg 3 hf5 fun f6 hf6 => ?_
        obtain ⟨r_17,hx_r_17,h⟩:=Bs h
        refine Ca hf6 (av:=[.s (.int .u16 t_1),.ifc 28 (RamT.v r_1.1)]) (v:=.tup [.s (.string r_17.1),.s (.int .u16 r_17.2)]) (CalL.pure (dis_Line_ok t_1 r_1.1 r_17 hx_r_17) (by simp [V.static,statics,cat_stat,RamT.v_stat,RamT.c_stat]) rfl (Nat.le_of_ble_eq_true (by kernel_rfl))) (fun _=>rfl) fun f7 hf7=>En hf7 fun f8 hf8=>Kc<|Kq<|Kq<|Kr<|Sg 2 hf8 fun f9 hf9 => ?_
        obtain ⟨c15,h⟩:=as_ok h
        refine Ad (.ias 1 (.t 109) (.t 110)) (.ip ((cat nS r_2).drop ((n_1:Int).toNat*1))) hf9 (e_ias (n:=r_2.length) (xv:=.sl false r_2.length (cat nS r_2)) (k:=.i64) (iv:=n_1) (p:=.ip ((cat nS r_2).drop ((n_1:Int).toNat*1))) (by kernel_rfl) (by kernel_rfl) (by kernel_rfl) (by kernel_rfl) c15) fun f10 hf10=>Ad (.load false 1 (.t 111)) (.s (.string (gt r_2 n_1))) hf10 (e_load_ip (g:=nS) (l:=r_2) (iv:=n_1) [] (by kernel_rfl) c15 (by kernel_rfl) (by kernel_rfl)) fun f11 hf11=>En hf11 fun f12 hf12=>Kc<|Kf hf12 h (fun hc16 h => ?_) fun hc16 h => ?_
        ·refine Kq<|Kr<|En hf12 fun f13 hf13=>Kc<|Kt<|Xc<|Xr<|Xc<|Xl<|Xr<|Xc ?_
         obtain rfl:=hret0 _ (Option.some.inj h)
         exact Fp hf13
        ·refine Ks<|Kc<|Kr<|En hf12 fun f13 hf13=>Kv<|Kc<|Kr<|En hf13 fun f14 hf14=>k_l' (vs_cut (l:=[⟨1,[],.s (.int .u16 r_17.2)⟩,⟨6,[],.s (.bool false)⟩,⟨7,[],.sl false r_.1.length (cat (nI .u8) r_.1)⟩,⟨9,[],RamT.v r_1.1⟩,⟨11,[],.sl false r_2.length (cat nS r_2)⟩,⟨12,[],.s (.int .i64 (IntKind.wrap .i64 (n_1+1)))⟩]) 1 (by kernel_rfl) (by kernel_rfl) (L':=[⟨0,.mem,1,[.sl false w_.Low.length (cat (nI .u8) w_.Low),.sl false w_.High.length (cat (nI .u8) w_.High)]⟩]) (by kernel_rfl) ⟨⟨rfl,rfl⟩,⟨rfl,rfl⟩,⟨rfl,(static_under _ _ (by simp [V.static,statics,cat_stat,RamT.v_stat,RamT.c_stat,dropcat_stat,RamT.v_stat,RamT.c_stat]))⟩,⟨rfl,(static_under _ _ (by simp [V.static,statics,cat_stat,RamT.v_stat,RamT.c_stat,dropcat_stat,RamT.v_stat,RamT.c_stat]))⟩,⟨rfl,(static_under _ _ (by simp [V.static,statics,cat_stat,RamT.v_stat,RamT.c_stat,dropcat_stat,RamT.v_stat,RamT.c_stat]))⟩,⟨rfl,rfl⟩,trivial⟩ ⟨.inr (.inr (statics_unders _ _ (by simp [V.static,statics,cat_stat,RamT.v_stat,RamT.c_stat,dropcat_stat,RamT.v_stat,RamT.c_stat]))),trivial⟩ (Of [1,6,7,9,11,12] hf14) fun f hf => ?_)
         exact ih _ _ ⟨r_17.2,(IntKind.wrap .i64 (n_1+1)),h,hf,rfl⟩
       refine k_loop BIG<|loop_ind (fun n f L=>∃ (want_7:ByteArray),spinetlaw42_DisLines_l6 n want_7=some o2∧FOk f [⟨1,[],.s (.int .u16 t_1)⟩,⟨6,[],.s (.bool false)⟩,⟨7,[],.sl false r_.1.length (cat (nI .u8) r_.1)⟩,⟨9,[],RamT.v r_1.1⟩,⟨11,[],.sl false r_2.length (cat nS r_2)⟩,⟨12,[],.s (.int .i64 n_1)⟩,⟨13,[],.ref 1 v_8 0 l_8.length⟩,⟨15,[],.ptr 2 0 0⟩,⟨17,[],.s (.string want_7)⟩]∧L=[⟨0,.mem,1,[.sl false w_.Low.length (cat (nI .u8) w_.Low),.sl false w_.High.length (cat (nI .u8) w_.High)]⟩,⟨v_8,.grow,1,cat (nI .u8) l_8⟩,⟨0,.mem,1,[.s (.int .i64 r_13.1.Page),.s (.int .u8 r_13.1.Code),.s (.int .i64 r_13.1.Entry.Op),.s (.int .i64 r_13.1.Entry.Mode),.s (.int .i64 r_13.1.Entry.Reg),.s (.int .u8 r_13.1.Post),.s (.int .u16 r_13.1.Value),.s (.int .i64 r_13.1.Len)]⟩]) ?_ ?_ BIG _ _ ⟨((r_14++(⟨#[32]⟩:ByteArray))++r_15),hx2,FOk_of [1,6,7,9,11,12,13,15,17] hf11 (by kernel_rfl),(by kernel_rfl)⟩
       ·rintro f L ⟨want_7,h,_⟩
        cases (show (none:Option _)=some _ from h)
       ·rintro n2 R2 ih f L ⟨want_7,h,hf,rfl⟩
        rw [spinetlaw42_DisLines_l6] at h
        refine Kq<|Kq<|Kr<|En hf fun f1 hf1=>Kc<|Kf hf1 h (fun hc11 h => ?_) fun hc11 h => ?_
        ·refine Ks<|Kc<|Kb<|Kr<|Sg 1 hf1 fun f2 hf2 => ?_
         obtain ⟨c12,h⟩:=as_ok h
         exact Ad (.bin .add (.t 91) (.k (.string ⟨#[32]⟩))) (.s (.string (want_7++(⟨#[32]⟩:ByteArray)))) hf2 (e_sadd (t:=want_7) (t':=(⟨#[32]⟩:ByteArray)) (by kernel_rfl) (by kernel_rfl) c12) fun f3 hf3=>En hf3 fun f4 hf4=>Kv<|Kl<|ih _ _ ⟨(want_7++(⟨#[32]⟩:ByteArray)),h,FOk_of [1,6,7,9,11,12,13,15,17] hf4 (by kernel_rfl),(by kernel_rfl)⟩
        ·exact Kx<|Xc<|Xl<|Xb<|Kh (hgo2 want_7 (Option.some.inj h) _ (Of [1,6,7,9,11,12,13,15,17] hf1))
      refine k_loop BIG<|loop_ind (fun n f L=>∃ (l_7:(List Int)) (k_5:Int) (v_7:Nat),spinetlaw42_DisLines_l5 r_ t_1 n l_7 k_5=some o1∧FOk f [⟨1,[],.s (.int .u16 t_1)⟩,⟨6,[],.s (.bool false)⟩,⟨7,[],.sl false r_.1.length (cat (nI .u8) r_.1)⟩,⟨9,[],RamT.v r_1.1⟩,⟨11,[],.sl false r_2.length (cat nS r_2)⟩,⟨12,[],.s (.int .i64 n_1)⟩,⟨13,[],.ref 1 v_7 0 l_7.length⟩,⟨14,[],.s (.int .i64 k_5)⟩]∧L=[⟨0,.mem,1,[.sl false w_.Low.length (cat (nI .u8) w_.Low),.sl false w_.High.length (cat (nI .u8) w_.High)]⟩,⟨v_7,.grow,1,cat (nI .u8) l_7⟩]) ?_ ?_ BIG _ _ ⟨([]:List Int),(0),(0),hx1,FOk_of [1,6,7,9,11,12,13,14] hf3 (by kernel_rfl),(by kernel_rfl)⟩
      ·rintro f L ⟨l_7,k_5,v_7,h,_⟩
       cases (show (none:Option _)=some _ from h)
      ·rintro n1 R1 ih f L ⟨l_7,k_5,v_7,h,hf,rfl⟩
       rw [spinetlaw42_DisLines_l5] at h
       refine Kq<|Kq<|Kr<|En hf fun f1 hf1=>Kc<|Kf hf1 h (fun hc5 h => ?_) fun hc5 h => ?_
       ·refine Ks<|Kc<|Kq<|Kb<|Kr<|Sg 7 hf1 fun f2 hf2 => ?_
        obtain ⟨c6,h⟩:=as_ok h
        refine Ad (.ias 1 (.t 63) (.t 68)) (.ip ((cat (nI .u8) r_.1).drop (((Int.tmod (IntKind.wrap .i64 ((IntKind.wrap .i64 t_1)+k_5)) 65536):Int).toNat*1))) hf2 (e_ias (n:=r_.1.length) (xv:=.sl false r_.1.length (cat (nI .u8) r_.1)) (k:=.i64) (iv:=(Int.tmod (IntKind.wrap .i64 ((IntKind.wrap .i64 t_1)+k_5)) 65536)) (p:=.ip ((cat (nI .u8) r_.1).drop (((Int.tmod (IntKind.wrap .i64 ((IntKind.wrap .i64 t_1)+k_5)) 65536):Int).toNat*1))) (by kernel_rfl) (by kernel_rfl) (by kernel_rfl) (by kernel_rfl) c6) fun f3 hf3=>Ad (.load false 1 (.t 69)) (.s (.int .u8 (gt r_.1 (Int.tmod (IntKind.wrap .i64 ((IntKind.wrap .i64 t_1)+k_5)) 65536)))) hf3 (e_load_ip (g:=(nI .u8)) (l:=r_.1) (iv:=(Int.tmod (IntKind.wrap .i64 ((IntKind.wrap .i64 t_1)+k_5)) 65536)) [] (by kernel_rfl) c6 (by kernel_rfl) (by kernel_rfl)) fun f4 hf4=>Sg 1 hf4 fun f5 hf5 => ?_
        obtain ⟨c7,h⟩:=as_ok h
        refine Ad (.app 5 1 1 (.t 62) (.t 71)) (.ref 1 (v_7+1) 0 (l_7++[(gt r_.1 (Int.tmod (IntKind.wrap .i64 ((IntKind.wrap .i64 t_1)+k_5)) 65536))]).length) hf5 (e_app (g:=(nI .u8)) (l:=l_7) (l':=[(gt r_.1 (Int.tmod (IntKind.wrap .i64 ((IntKind.wrap .i64 t_1)+k_5)) 65536))]) (b:=1) (ver:=v_7) (n:=l_7.length) rfl (by kernel_rfl) rfl (live_grow (by kernel_rfl)) (sll_ev (v:=.ref 2 0 0 1) (by kernel_rfl) (sll_ref (B:=⟨0,.grow,1,cat (nI .u8) [(gt r_.1 (Int.tmod (IntKind.wrap .i64 ((IntKind.wrap .i64 t_1)+k_5)) 65536))]⟩) (by kernel_rfl) (live_grow (by kernel_rfl)))) (slc_ev (v:=.ref 2 0 0 1) (by kernel_rfl) (slc_ref (g:=(nI .u8)) (l:=[(gt r_.1 (Int.tmod (IntKind.wrap .i64 ((IntKind.wrap .i64 t_1)+k_5)) 65536))]) (kd:=.grow) (q:=1) (by kernel_rfl) (live_grow (by kernel_rfl)))) c7) fun f6 hf6=>En hf6 fun f7 hf7=>Kv<|Kc<|Kr<|En hf7 fun f8 hf8=>k_l' (vs_cut (l:=[⟨1,[],.s (.int .u16 t_1)⟩,⟨6,[],.s (.bool false)⟩,⟨7,[],.sl false r_.1.length (cat (nI .u8) r_.1)⟩,⟨9,[],RamT.v r_1.1⟩,⟨11,[],.sl false r_2.length (cat nS r_2)⟩,⟨12,[],.s (.int .i64 n_1)⟩,⟨13,[],.ref 1 (v_7+1) 0 (l_7++[(gt r_.1 (Int.tmod (IntKind.wrap .i64 ((IntKind.wrap .i64 t_1)+k_5)) 65536))]).length⟩,⟨14,[],.s (.int .i64 (IntKind.wrap .i64 (k_5+1)))⟩]) 2 (by kernel_rfl) (by kernel_rfl) (L':=[⟨0,.mem,1,[.sl false w_.Low.length (cat (nI .u8) w_.Low),.sl false w_.High.length (cat (nI .u8) w_.High)]⟩,⟨(v_7+1),.grow,1,cat (nI .u8) (l_7++[(gt r_.1 (Int.tmod (IntKind.wrap .i64 ((IntKind.wrap .i64 t_1)+k_5)) 65536))])⟩]) (by kernel_rfl) ⟨⟨rfl,rfl⟩,⟨rfl,rfl⟩,⟨rfl,(static_under _ _ (by simp [V.static,statics,cat_stat,RamT.v_stat,RamT.c_stat,dropcat_stat,RamT.v_stat,RamT.c_stat]))⟩,⟨rfl,(static_under _ _ (by simp [V.static,statics,cat_stat,RamT.v_stat,RamT.c_stat,dropcat_stat,RamT.v_stat,RamT.c_stat]))⟩,⟨rfl,(static_under _ _ (by simp [V.static,statics,cat_stat,RamT.v_stat,RamT.c_stat,dropcat_stat,RamT.v_stat,RamT.c_stat]))⟩,⟨rfl,rfl⟩,⟨rfl,rfl⟩,⟨rfl,rfl⟩,trivial⟩ ⟨.inr (.inr (statics_unders _ _ (by simp [V.static,statics,cat_stat,RamT.v_stat,RamT.c_stat,dropcat_stat,RamT.v_stat,RamT.c_stat]))),.inr (.inr (statics_unders _ _ (cat_stat _))),trivial⟩ (Of [1,6,7,9,11,12,13,14] hf8) fun f hf => ?_)
        exact ih _ _ ⟨(l_7++[(gt r_.1 (Int.tmod (IntKind.wrap .i64 ((IntKind.wrap .i64 t_1)+k_5)) 65536))]),(IntKind.wrap .i64 (k_5+1)),(v_7+1),h,hf,rfl⟩
       ·exact Kx<|Xc<|Xl<|Xb<|Kh (hgo1 l_7 v_7 (Option.some.inj h) _ (Of [1,6,7,9,11,12,13] hf1))
     ·exact Kx<|Xc<|Xl<|Xb<|Kh (hgo0  (Option.some.inj h) _ (Of [6] hf1))
end Go.Proofs.YtfcegejpdlbkdaaGreatK
