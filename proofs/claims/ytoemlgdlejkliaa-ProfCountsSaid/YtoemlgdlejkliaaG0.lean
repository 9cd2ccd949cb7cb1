/- The Go functions come to the functions over typed data. Printed by a program of this work. -/
import Derived.Test.YtoemlgdlejkliaaF
import Derived.Test.YtoemlgdlejkliaaProg
import Derived.Test.YtoemlgdlejkliaaPg
namespace Go.Proofs.YtoemlgdlejkliaaK
set_option linter.unusedVariables false
set_option linter.unusedSimpArgs false
set_option maxHeartbeats 4000000
open Go.RowKit
attribute [local irreducible] dwv mops lops lqops lwops kont iter run runK rk okK ex E1 vals val chain chB sel resF
def slice_Part_Start_i0:List Op1:=[(oE 1 (.box (.t 0)) []),(oM 2 (.k (.int .u16 0)) []),(oM 3 (.k (.bool false)) [1])]
def slice_Part_Start_i1:List Op1:=[(oE 6 (.fld 0 (.t 1)) []),(oE 7 (.load false 1 (.t 6)) [0]),(oE 8 (.len (.t 7)) [1]),(oM 9 (.k (.int .i64 0)) [])]
def slice_Part_Start_i2:List Op1:=[(oE 10 (.bin .lss (.t 9) (.t 8)) [])]
def slice_Part_Start_i3:List Op1:=[(oE 11 (.ias 9 (.t 7) (.t 9)) []),(oE 12 (.load true 9 (.t 11)) [0]),(oE 5 (.zero [(.int .u16 0),(.int .u8 0),(.bool false),(.bool false),(.bool false),(.bool false),(.bool false),(.bool false),(.bool false)]) []),(oN (.store 9 (.t 5) (.t 12)) [2,1,0,1,2])]
def slice_Part_Start_i4:List Op1:=[(oE 13 (.fld 8 (.t 5)) []),(oE 14 (.load false 1 (.t 13)) [0])]
def slice_Part_Start_i5:List Op1:=[(oE 15 (.fld 0 (.t 5)) []),(oE 16 (.load false 1 (.t 15)) [0]),(oM 2 (.t 16) [1,0,1]),(oM 3 (.k (.bool true)) [2,0,1,2])]
def slice_Part_Start_i6:IR:=.ret
def slice_Part_Start_i7:IR:=(.cond (.t 14) (.seq (.reg false slice_Part_Start_i5) slice_Part_Start_i6) .skip)
def slice_Part_Start_i8:IR:=(.seq (.reg false slice_Part_Start_i4) slice_Part_Start_i7)
def slice_Part_Start_i9:List Op1:=[(oE 17 (.bin .add (.t 9) (.k (.int .i64 1))) []),(oM 9 (.t 17) [0])]
def slice_Part_Start_i10:IR:=(.reg false slice_Part_Start_i9)
def slice_Part_Start_i11:IR:=(.seq (.block 1 (.seq (.reg false slice_Part_Start_i3) slice_Part_Start_i8)) slice_Part_Start_i10)
def slice_Part_Start_i12:IR:=(.seq (.cond (.t 10) .skip (.exit 0)) slice_Part_Start_i11)
def slice_Part_Start_i13:IR:=(.seq (.reg false slice_Part_Start_i2) slice_Part_Start_i12)
def slice_Part_Start_i14:IR:=(.block 0 (.loop slice_Part_Start_i13))
def slice_Part_Start_i15:List Op1:=[(oM 2 (.k (.int .u16 0)) []),(oM 3 (.k (.bool false)) [0,0])]
def slice_Part_Start_i16:IR:=.ret
def slice_Part_Start_i17:IR:=(.seq (.reg false slice_Part_Start_i15) slice_Part_Start_i16)
def slice_Part_Start_i18:IR:=(.seq (.seq (.reg false slice_Part_Start_i1) slice_Part_Start_i14) slice_Part_Start_i17)
def slice_Part_Start_ir:IR:=(.seq (.reg false slice_Part_Start_i0) slice_Part_Start_i18)
theorem slice_Part_Start_cfn:cFn Try.prog 14=some (slice_Part_Start_ir,[(.t 2),(.t 3)],18):=by kernel_rfl
def slice_Part_Start_V (r:(Int × Bool)):V:=.tup [.s (.int .u16 r.1),.s (.bool r.2)]
def slice_Part_Start_C (r:(Int × Bool)):X→Fr→Hp→Prop:=FinL [(.t 2),(.t 3)] [] (slice_Part_Start_V r) []
theorem slice_Part_Start_ok (p_:slice_Part) (r:(Int × Bool)) (h:slice_Part_Start p_=some r):Pure Try.prog 14 [.agg [.sl false p_.Recs.length (cat api_Rec.v p_.Recs),.s (.bool p_.Ended)]] (slice_Part_Start_V r):=by
  refine ConL.of slice_Part_Start_cfn (Nat.le_of_ble_eq_true (by kernel_rfl)) (Nat.le_of_ble_eq_true (by kernel_rfl)) ?_
  refine k_start ?_
  show dwv Try.prog [] slice_Part_Start_ir (kont Try.prog [] (slice_Part_Start_C r) []) (fr0 [.agg [.sl false p_.Recs.length (cat api_Rec.v p_.Recs),.s (.bool p_.Ended)]]) []
  have hf:FOk (fr0 [.agg [.sl false p_.Recs.length (cat api_Rec.v p_.Recs),.s (.bool p_.Ended)]]) [⟨0,[],.agg [.sl false p_.Recs.length (cat api_Rec.v p_.Recs),.s (.bool p_.Ended)]⟩]:=⟨⟨fun _=>rfl,fun h=>(h trivial).elim⟩,trivial⟩
  generalize fr0 [.agg [.sl false p_.Recs.length (cat api_Rec.v p_.Recs),.s (.bool p_.Ended)]]=f at hf ⊢
  unfold slice_Part_Start at h
  refine k_seq ?_
  refine k_reg ?_
  refine mops_en hf (by kernel_rfl) fun f1 hf1 => ?_
  refine k_c ?_
  refine k_seq ?_
  refine k_seq ?_
  refine k_reg ?_
  refine mops_en hf1 (by kernel_rfl) fun f2 hf2 => ?_
  refine k_c ?_
  refine k_block ?_
  obtain ⟨o0,hx0,h⟩:=Option.bind_eq_some_iff.1 h
  have hret0:∀ r0,.ret r0=o0→r0=r:=fun r0 e=>by subst e; exact Option.some.inj h
  have hgo0:.go ()=o0→∀ f,FOk f [⟨2,[],.s (.int .u16 0)⟩,⟨3,[],.s (.bool false)⟩]→kont Try.prog [] (slice_Part_Start_C r) ((.c slice_Part_Start_i17)::[]) .normal f [⟨0,.mem,1,[.sl false p_.Recs.length (cat api_Rec.v p_.Recs),.s (.bool p_.Ended)]⟩]:=by
    intro  e f hf
    subst e
    refine k_c ?_
    refine k_seq ?_
    refine k_reg ?_
    refine mops_en hf (by kernel_rfl) fun f1 hf1 => ?_
    refine k_c ?_
    refine k_ret ?_
    obtain rfl:=Option.some.inj h
    exact k_fin (fin_ret (.inl rfl) hf1 (vs:=[.s (.int .u16 0),.s (.bool false)]) (by kernel_rfl) (SettL.pure (FzL.tup (FzsL.cons (FzL.stat rfl) (FzsL.cons (FzL.stat rfl) FzsL.nil)))))
  refine k_loop BIG ?_
  refine loop_ind (fun n f L=>∃ (t_1:Int),slice_Part_Start_l0 p_ n t_1=some o0∧FOk f [⟨2,[],.s (.int .u16 0)⟩,⟨3,[],.s (.bool false)⟩,⟨7,[],.sl false p_.Recs.length (cat api_Rec.v p_.Recs)⟩,⟨8,[],.s (.int .i64 (ln p_.Recs))⟩,⟨9,[],.s (.int .i64 t_1)⟩]∧L=[⟨0,.mem,1,[.sl false p_.Recs.length (cat api_Rec.v p_.Recs),.s (.bool p_.Ended)]⟩]) ?_ ?_ BIG _ _ ⟨(0),hx0,FOk_of [2,3,7,8,9] hf2 (by kernel_rfl),(by kernel_rfl)⟩
  · rintro f L ⟨t_1,h,_⟩
    cases (show (none:Option _)=some _ from h)
  · rintro n0 R0 ih f L ⟨t_1,h,hf,rfl⟩
    rw [slice_Part_Start_l0] at h
    refine k_seq ?_
    refine k_reg ?_
    refine mops_en hf (by kernel_rfl) fun f1 hf1 => ?_
    refine k_c ?_
    refine k_seq ?_
    refine k_cond hf1 (t:=(decide (t_1 < (ln p_.Recs)))) (by kernel_rfl) (fun hc1 => ?_) (fun hc1 => ?_)
    · have h:=if_t h hc1
      refine k_skip ?_
      refine k_c ?_
      refine k_seq ?_
      refine k_block ?_
      refine k_seq ?_
      refine k_reg ?_
      obtain ⟨c2,h⟩:=as_ok h
      refine mops_adv rfl (v:=.ip ((cat api_Rec.v p_.Recs).drop ((t_1:Int).toNat*9))) hf1 (by kernel_rfl) (e_ias (n:=p_.Recs.length) (xv:=.sl false p_.Recs.length (cat api_Rec.v p_.Recs)) (k:=.i64) (iv:=t_1) (p:=.ip ((cat api_Rec.v p_.Recs).drop ((t_1:Int).toNat*9))) (by kernel_rfl) (by kernel_rfl) (by kernel_rfl) (by kernel_rfl) c2) fun f2 hf2 => ?_
      refine mops_adv rfl (v:=.agg [.s (.int .u16 (gt p_.Recs t_1).Addr),.s (.int .u8 (gt p_.Recs t_1).Data),.s (.bool (gt p_.Recs t_1).Read),.s (.bool (gt p_.Recs t_1).BA),.s (.bool (gt p_.Recs t_1).BS),.s (.bool (gt p_.Recs t_1).LIC),.s (.bool (gt p_.Recs t_1).AVMA),.s (.bool (gt p_.Recs t_1).BUSY),.s (.bool (gt p_.Recs t_1).Mine)]) hf2 (by kernel_rfl) (e_load_ip (g:=api_Rec.v) (l:=p_.Recs) (iv:=t_1) [] (by kernel_rfl) c2 (by kernel_rfl) (by kernel_rfl)) fun f3 hf3 => ?_
      refine mops_en hf3 (by kernel_rfl) fun f4 hf4 => ?_
      refine k_c ?_
      refine k_seq ?_
      refine k_reg ?_
      refine mops_en hf4 (by kernel_rfl) fun f5 hf5 => ?_
      refine k_c ?_
      refine k_cond hf5 (t:=(gt p_.Recs t_1).Mine) (by kernel_rfl) (fun hc3 => ?_) (fun hc3 => ?_)
      · have h:=if_t h hc3
        refine k_seq ?_
        refine k_reg ?_
        refine mops_en hf5 (by kernel_rfl) fun f6 hf6 => ?_
        refine k_c ?_
        refine k_ret ?_
        refine x_br ?_
        refine x_c nofun ?_
        refine x_l nofun ?_
        refine x_br ?_
        refine x_c nofun ?_
        obtain rfl:=hret0 _ (Option.some.inj h)
        exact k_fin (fin_ret (.inl rfl) hf6 (vs:=[.s (.int .u16 (gt p_.Recs t_1).Addr),.s (.bool true)]) (by kernel_rfl) (SettL.pure (FzL.tup (FzsL.cons (FzL.stat rfl) (FzsL.cons (FzL.stat rfl) FzsL.nil)))))
      · have h:=if_f h hc3
        refine k_skip ?_
        refine k_b ?_
        refine k_c ?_
        refine k_reg ?_
        refine mops_en hf5 (by kernel_rfl) fun f6 hf6 => ?_
        refine k_l' (vs_cut (l:=[⟨2,[],.s (.int .u16 0)⟩,⟨3,[],.s (.bool false)⟩,⟨7,[],.sl false p_.Recs.length (cat api_Rec.v p_.Recs)⟩,⟨8,[],.s (.int .i64 (ln p_.Recs))⟩,⟨9,[],.s (.int .i64 (IntKind.wrap .i64 (t_1+1)))⟩]) 1 (by kernel_rfl) (by kernel_rfl) (L':=[⟨0,.mem,1,[.sl false p_.Recs.length (cat api_Rec.v p_.Recs),.s (.bool p_.Ended)]⟩]) (by kernel_rfl) ⟨⟨rfl,rfl⟩,⟨rfl,rfl⟩,⟨rfl,(static_under _ _ (by simp [V.static,statics,cat_stat,dropcat_stat]))⟩,⟨rfl,rfl⟩,⟨rfl,rfl⟩,trivial⟩ ⟨.inr (.inr (statics_unders _ _ (by simp [V.static,statics,cat_stat,dropcat_stat]))),trivial⟩ (FOk_of [2,3,7,8,9] hf6 (by kernel_rfl)) fun f hf => ?_)
        exact ih _ _ ⟨(IntKind.wrap .i64 (t_1+1)),h,hf,rfl⟩
    · have h:=if_f h hc1
      refine k_exit ?_
      refine x_c nofun ?_
      refine x_l nofun ?_
      refine x_b ?_
      refine k_hp (L':=[⟨0,.mem,1,[.sl false p_.Recs.length (cat api_Rec.v p_.Recs),.s (.bool p_.Ended)]⟩]) (by kernel_rfl) ?_
      exact hgo0  (Option.some.inj h) _ (FOk_of [2,3] hf1 (by kernel_rfl))
def slice_Part_Own_i0:List Op1:=[(oE 1 (.box (.t 0)) []),(oM 2 (.k (.int .i64 0)) [])]
def slice_Part_Own_i1:List Op1:=[(oM 3 (.k (.int .i64 0)) [])]
def slice_Part_Own_i2:List Op1:=[(oE 6 (.fld 0 (.t 1)) []),(oE 7 (.load false 1 (.t 6)) [0]),(oE 8 (.len (.t 7)) [1]),(oM 9 (.k (.int .i64 0)) [])]
def slice_Part_Own_i3:List Op1:=[(oE 10 (.bin .lss (.t 9) (.t 8)) [])]
def slice_Part_Own_i4:List Op1:=[(oE 11 (.ias 9 (.t 7) (.t 9)) []),(oE 12 (.load true 9 (.t 11)) [0]),(oE 5 (.zero [(.int .u16 0),(.int .u8 0),(.bool false),(.bool false),(.bool false),(.bool false),(.bool false),(.bool false),(.bool false)]) []),(oN (.store 9 (.t 5) (.t 12)) [2,1,0,1,2])]
def slice_Part_Own_i5:List Op1:=[(oE 13 (.fld 8 (.t 5)) []),(oE 14 (.load false 1 (.t 13)) [0])]
def slice_Part_Own_i6:List Op1:=[(oM 15 (.t 3) []),(oE 16 (.bin .add (.t 15) (.k (.int .i64 1))) [0]),(oM 3 (.t 16) [1,0,1])]
def slice_Part_Own_i7:IR:=(.cond (.t 14) (.reg false slice_Part_Own_i6) .skip)
def slice_Part_Own_i8:IR:=(.seq (.reg false slice_Part_Own_i5) slice_Part_Own_i7)
def slice_Part_Own_i9:List Op1:=[(oE 17 (.bin .add (.t 9) (.k (.int .i64 1))) []),(oM 9 (.t 17) [0])]
def slice_Part_Own_i10:IR:=(.reg false slice_Part_Own_i9)
def slice_Part_Own_i11:IR:=(.seq (.block 1 (.seq (.reg false slice_Part_Own_i4) slice_Part_Own_i8)) slice_Part_Own_i10)
def slice_Part_Own_i12:IR:=(.seq (.cond (.t 10) .skip (.exit 0)) slice_Part_Own_i11)
def slice_Part_Own_i13:IR:=(.seq (.reg false slice_Part_Own_i3) slice_Part_Own_i12)
def slice_Part_Own_i14:IR:=(.block 0 (.loop slice_Part_Own_i13))
def slice_Part_Own_i15:List Op1:=[(oM 18 (.t 3) []),(oM 2 (.t 18) [0,0])]
def slice_Part_Own_i16:IR:=.ret
def slice_Part_Own_i17:IR:=(.seq (.reg false slice_Part_Own_i15) slice_Part_Own_i16)
def slice_Part_Own_i18:IR:=(.seq (.seq (.reg false slice_Part_Own_i2) slice_Part_Own_i14) slice_Part_Own_i17)
def slice_Part_Own_i19:IR:=(.seq (.reg false slice_Part_Own_i1) slice_Part_Own_i18)
def slice_Part_Own_ir:IR:=(.seq (.reg false slice_Part_Own_i0) slice_Part_Own_i19)
theorem slice_Part_Own_cfn:cFn Try.prog 15=some (slice_Part_Own_ir,[(.t 2)],19):=by kernel_rfl
def slice_Part_Own_V (r:(Int)):V:=.s (.int .i64 r)
def slice_Part_Own_C (r:(Int)):X→Fr→Hp→Prop:=FinL [(.t 2)] [] (slice_Part_Own_V r) []
theorem slice_Part_Own_ok (p_:slice_Part) (r:(Int)) (h:slice_Part_Own p_=some r):Pure Try.prog 15 [.agg [.sl false p_.Recs.length (cat api_Rec.v p_.Recs),.s (.bool p_.Ended)]] (slice_Part_Own_V r):=by
  refine ConL.of slice_Part_Own_cfn (Nat.le_of_ble_eq_true (by kernel_rfl)) (Nat.le_of_ble_eq_true (by kernel_rfl)) ?_
  refine k_start ?_
  show dwv Try.prog [] slice_Part_Own_ir (kont Try.prog [] (slice_Part_Own_C r) []) (fr0 [.agg [.sl false p_.Recs.length (cat api_Rec.v p_.Recs),.s (.bool p_.Ended)]]) []
  have hf:FOk (fr0 [.agg [.sl false p_.Recs.length (cat api_Rec.v p_.Recs),.s (.bool p_.Ended)]]) [⟨0,[],.agg [.sl false p_.Recs.length (cat api_Rec.v p_.Recs),.s (.bool p_.Ended)]⟩]:=⟨⟨fun _=>rfl,fun h=>(h trivial).elim⟩,trivial⟩
  generalize fr0 [.agg [.sl false p_.Recs.length (cat api_Rec.v p_.Recs),.s (.bool p_.Ended)]]=f at hf ⊢
  unfold slice_Part_Own at h
  refine k_seq ?_
  refine k_reg ?_
  refine mops_en hf (by kernel_rfl) fun f1 hf1 => ?_
  refine k_c ?_
  refine k_seq ?_
  refine k_reg ?_
  refine mops_en hf1 (by kernel_rfl) fun f2 hf2 => ?_
  refine k_c ?_
  refine k_seq ?_
  refine k_seq ?_
  refine k_reg ?_
  refine mops_en hf2 (by kernel_rfl) fun f3 hf3 => ?_
  refine k_c ?_
  refine k_block ?_
  obtain ⟨o0,hx0,h⟩:=Option.bind_eq_some_iff.1 h
  have hgo0:∀ (n_2:Int),n_2=o0→∀ f,FOk f [⟨2,[],.s (.int .i64 0)⟩,⟨3,[],.s (.int .i64 n_2)⟩]→kont Try.prog [] (slice_Part_Own_C r) ((.c slice_Part_Own_i17)::[]) .normal f [⟨0,.mem,1,[.sl false p_.Recs.length (cat api_Rec.v p_.Recs),.s (.bool p_.Ended)]⟩]:=by
    intro n_2 e f hf
    subst e
    refine k_c ?_
    refine k_seq ?_
    refine k_reg ?_
    refine mops_en hf (by kernel_rfl) fun f1 hf1 => ?_
    refine k_c ?_
    refine k_ret ?_
    obtain rfl:=Option.some.inj h
    exact k_fin (fin_ret (.inl rfl) hf1 (vs:=[.s (.int .i64 n_2)]) (by kernel_rfl) (SettL.pure (FzL.stat rfl)))
  refine k_loop BIG ?_
  refine loop_ind (fun n f L=>∃ (n_1:Int) (t_1:Int),slice_Part_Own_l0 p_ n n_1 t_1=some o0∧FOk f [⟨2,[],.s (.int .i64 0)⟩,⟨3,[],.s (.int .i64 n_1)⟩,⟨7,[],.sl false p_.Recs.length (cat api_Rec.v p_.Recs)⟩,⟨8,[],.s (.int .i64 (ln p_.Recs))⟩,⟨9,[],.s (.int .i64 t_1)⟩]∧L=[⟨0,.mem,1,[.sl false p_.Recs.length (cat api_Rec.v p_.Recs),.s (.bool p_.Ended)]⟩]) ?_ ?_ BIG _ _ ⟨(0),(0),hx0,FOk_of [2,3,7,8,9] hf3 (by kernel_rfl),(by kernel_rfl)⟩
  · rintro f L ⟨n_1,t_1,h,_⟩
    cases (show (none:Option _)=some _ from h)
  · rintro n0 R0 ih f L ⟨n_1,t_1,h,hf,rfl⟩
    rw [slice_Part_Own_l0] at h
    refine k_seq ?_
    refine k_reg ?_
    refine mops_en hf (by kernel_rfl) fun f1 hf1 => ?_
    refine k_c ?_
    refine k_seq ?_
    refine k_cond hf1 (t:=(decide (t_1 < (ln p_.Recs)))) (by kernel_rfl) (fun hc1 => ?_) (fun hc1 => ?_)
    · have h:=if_t h hc1
      refine k_skip ?_
      refine k_c ?_
      refine k_seq ?_
      refine k_block ?_
      refine k_seq ?_
      refine k_reg ?_
      obtain ⟨c2,h⟩:=as_ok h
      refine mops_adv rfl (v:=.ip ((cat api_Rec.v p_.Recs).drop ((t_1:Int).toNat*9))) hf1 (by kernel_rfl) (e_ias (n:=p_.Recs.length) (xv:=.sl false p_.Recs.length (cat api_Rec.v p_.Recs)) (k:=.i64) (iv:=t_1) (p:=.ip ((cat api_Rec.v p_.Recs).drop ((t_1:Int).toNat*9))) (by kernel_rfl) (by kernel_rfl) (by kernel_rfl) (by kernel_rfl) c2) fun f2 hf2 => ?_
      refine mops_adv rfl (v:=.agg [.s (.int .u16 (gt p_.Recs t_1).Addr),.s (.int .u8 (gt p_.Recs t_1).Data),.s (.bool (gt p_.Recs t_1).Read),.s (.bool (gt p_.Recs t_1).BA),.s (.bool (gt p_.Recs t_1).BS),.s (.bool (gt p_.Recs t_1).LIC),.s (.bool (gt p_.Recs t_1).AVMA),.s (.bool (gt p_.Recs t_1).BUSY),.s (.bool (gt p_.Recs t_1).Mine)]) hf2 (by kernel_rfl) (e_load_ip (g:=api_Rec.v) (l:=p_.Recs) (iv:=t_1) [] (by kernel_rfl) c2 (by kernel_rfl) (by kernel_rfl)) fun f3 hf3 => ?_
      refine mops_en hf3 (by kernel_rfl) fun f4 hf4 => ?_
      refine k_c ?_
      refine k_seq ?_
      refine k_reg ?_
      refine mops_en hf4 (by kernel_rfl) fun f5 hf5 => ?_
      refine k_c ?_
      refine k_cond hf5 (t:=(gt p_.Recs t_1).Mine) (by kernel_rfl) (fun hc3 => ?_) (fun hc3 => ?_)
      · have h:=if_t h hc3
        refine k_reg ?_
        refine mops_en hf5 (by kernel_rfl) fun f6 hf6 => ?_
        refine k_b ?_
        refine k_c ?_
        refine k_reg ?_
        refine mops_en hf6 (by kernel_rfl) fun f7 hf7 => ?_
        refine k_l' (vs_cut (l:=[⟨2,[],.s (.int .i64 0)⟩,⟨3,[],.s (.int .i64 (IntKind.wrap .i64 (n_1+1)))⟩,⟨7,[],.sl false p_.Recs.length (cat api_Rec.v p_.Recs)⟩,⟨8,[],.s (.int .i64 (ln p_.Recs))⟩,⟨9,[],.s (.int .i64 (IntKind.wrap .i64 (t_1+1)))⟩]) 1 (by kernel_rfl) (by kernel_rfl) (L':=[⟨0,.mem,1,[.sl false p_.Recs.length (cat api_Rec.v p_.Recs),.s (.bool p_.Ended)]⟩]) (by kernel_rfl) ⟨⟨rfl,rfl⟩,⟨rfl,rfl⟩,⟨rfl,(static_under _ _ (by simp [V.static,statics,cat_stat,dropcat_stat]))⟩,⟨rfl,rfl⟩,⟨rfl,rfl⟩,trivial⟩ ⟨.inr (.inr (statics_unders _ _ (by simp [V.static,statics,cat_stat,dropcat_stat]))),trivial⟩ (FOk_of [2,3,7,8,9] hf7 (by kernel_rfl)) fun f hf => ?_)
        exact ih _ _ ⟨(IntKind.wrap .i64 (n_1+1)),(IntKind.wrap .i64 (t_1+1)),h,hf,rfl⟩
      · have h:=if_f h hc3
        refine k_skip ?_
        refine k_b ?_
        refine k_c ?_
        refine k_reg ?_
        refine mops_en hf5 (by kernel_rfl) fun f6 hf6 => ?_
        refine k_l' (vs_cut (l:=[⟨2,[],.s (.int .i64 0)⟩,⟨3,[],.s (.int .i64 n_1)⟩,⟨7,[],.sl false p_.Recs.length (cat api_Rec.v p_.Recs)⟩,⟨8,[],.s (.int .i64 (ln p_.Recs))⟩,⟨9,[],.s (.int .i64 (IntKind.wrap .i64 (t_1+1)))⟩]) 1 (by kernel_rfl) (by kernel_rfl) (L':=[⟨0,.mem,1,[.sl false p_.Recs.length (cat api_Rec.v p_.Recs),.s (.bool p_.Ended)]⟩]) (by kernel_rfl) ⟨⟨rfl,rfl⟩,⟨rfl,rfl⟩,⟨rfl,(static_under _ _ (by simp [V.static,statics,cat_stat,dropcat_stat]))⟩,⟨rfl,rfl⟩,⟨rfl,rfl⟩,trivial⟩ ⟨.inr (.inr (statics_unders _ _ (by simp [V.static,statics,cat_stat,dropcat_stat]))),trivial⟩ (FOk_of [2,3,7,8,9] hf6 (by kernel_rfl)) fun f hf => ?_)
        exact ih _ _ ⟨n_1,(IntKind.wrap .i64 (t_1+1)),h,hf,rfl⟩
    · have h:=if_f h hc1
      refine k_exit ?_
      refine x_c nofun ?_
      refine x_l nofun ?_
      refine x_b ?_
      refine k_hp (L':=[⟨0,.mem,1,[.sl false p_.Recs.length (cat api_Rec.v p_.Recs),.s (.bool p_.Ended)]⟩]) (by kernel_rfl) ?_
      exact hgo0 n_1 (Option.some.inj h) _ (FOk_of [2,3] hf1 (by kernel_rfl))
def spinetlaw53_add_i0:List Op1:=[(oE 4 (.nilg 4) [])]
def spinetlaw53_add_i1:List Op1:=[(oM 5 (.k (.int .i64 0)) []),(oM 6 (.k (.int .u16 0)) [0,0])]
def spinetlaw53_add_i2:List Op1:=[(oM 10 (.t 1) []),(oE 11 (.len (.t 10)) [0]),(oE 12 (.bin .sub (.t 11) (.k (.int .i64 1))) [1]),(oM 7 (.t 12) [2,0,1,2])]
def spinetlaw53_add_i3:List Op1:=[(oM 13 (.t 7) []),(oE 14 (.bin .geq (.t 13) (.k (.int .i64 0))) [0])]
def spinetlaw53_add_i4:IR:=(.cond (.t 14) .skip (.exit 0))
def spinetlaw53_add_i5:List Op1:=[(oM 17 (.t 1) []),(oM 18 (.t 7) []),(oE 19 (.ias 9 (.t 17) (.t 18)) [0,1]),(oE 20 (.fld 8 (.t 19)) [2]),(oE 21 (.load false 1 (.t 20)) [3])]
def spinetlaw53_add_i6:List Op1:=[(oM 22 (.t 5) []),(oE 23 (.bin .add (.t 22) (.k (.int .i64 1))) [0]),(oM 5 (.t 23) [1,0,1])]
def spinetlaw53_add_i7:List Op1:=[(oM 24 (.t 1) []),(oM 25 (.t 7) []),(oE 26 (.ias 9 (.t 24) (.t 25)) [0,1]),(oE 27 (.fld 0 (.t 26)) [2]),(oE 28 (.load false 1 (.t 27)) [3]),(oM 6 (.t 28) [4,0,1,2,3,4])]
def spinetlaw53_add_i8:IR:=(.reg false spinetlaw53_add_i7)
def spinetlaw53_add_i9:IR:=(.cond (.t 21) (.seq (.reg false spinetlaw53_add_i6) spinetlaw53_add_i8) .skip)
def spinetlaw53_add_i10:List Op1:=[(oM 15 (.t 7) []),(oE 16 (.bin .sub (.t 15) (.k (.int .i64 1))) [0]),(oM 7 (.t 16) [1,0,1])]
def spinetlaw53_add_i11:IR:=(.reg false spinetlaw53_add_i10)
def spinetlaw53_add_i12:IR:=(.seq (.block 1 (.seq (.reg false spinetlaw53_add_i5) spinetlaw53_add_i9)) spinetlaw53_add_i11)
def spinetlaw53_add_i13:IR:=(.seq (.seq (.reg false spinetlaw53_add_i3) spinetlaw53_add_i4) spinetlaw53_add_i12)
def spinetlaw53_add_i14:IR:=(.block 0 (.loop spinetlaw53_add_i13))
def spinetlaw53_add_i15:List Op1:=[(oM 29 (.t 5) []),(oE 30 (.bin .eql (.t 29) (.k (.int .i64 0))) [0])]
def spinetlaw53_add_i16:List Op1:=[(oM 31 (.t 0) []),(oM 4 (.t 31) [0,0])]
def spinetlaw53_add_i17:IR:=.ret
def spinetlaw53_add_i18:IR:=(.cond (.t 30) (.seq (.reg false spinetlaw53_add_i16) spinetlaw53_add_i17) .skip)
def spinetlaw53_add_i19:List Op1:=[(oM 32 (.t 0) []),(oC 33 17 [(.t 32)] [0]),(oM 8 (.t 33) [1,1,0,1])]
def spinetlaw53_add_i20:List Op1:=[(oM 9 (.k (.int .i64 0)) [])]
def spinetlaw53_add_i21:List Op1:=[(oM 34 (.t 9) []),(oM 35 (.t 8) []),(oE 36 (.len (.t 35)) [1]),(oE 37 (.bin .lss (.t 34) (.t 36)) [0,2])]
def spinetlaw53_add_i22:IR:=(.cond (.t 37) .skip (.exit 2))
def spinetlaw53_add_i23:List Op1:=[(oM 40 (.t 8) []),(oM 41 (.t 9) []),(oE 42 (.ias 4 (.t 40) (.t 41)) [0,1]),(oE 43 (.fld 0 (.t 42)) [2]),(oE 44 (.load false 1 (.t 43)) [3]),(oM 45 (.t 6) []),(oE 46 (.bin .eql (.t 44) (.t 45)) [4,5])]
def spinetlaw53_add_i24:List Op1:=[(oM 47 (.t 8) []),(oM 48 (.t 9) []),(oE 49 (.ias 4 (.t 47) (.t 48)) [0,1]),(oE 50 (.fld 1 (.t 49)) [2]),(oE 51 (.load false 1 (.t 50)) [3]),(oE 52 (.bin .add (.t 51) (.k (.int .i64 1))) [4]),(oE 53 (.ias 4 (.t 47) (.t 48)) [0,1,0,1,2,3,4,5]),(oE 54 (.fld 1 (.t 53)) [6,0,1,2,3,4,5]),(oN (.store 1 (.t 54) (.t 52)) [7,5,0,1,2,3,4,5])]
def spinetlaw53_add_i25:List Op1:=[(oM 55 (.t 8) []),(oM 56 (.t 9) []),(oE 57 (.ias 4 (.t 55) (.t 56)) [0,1]),(oE 58 (.fld 2 (.t 57)) [2]),(oE 59 (.load false 1 (.t 58)) [3]),(oM 60 (.t 5) []),(oE 61 (.bin .add (.t 59) (.t 60)) [4,5]),(oE 62 (.ias 4 (.t 55) (.t 56)) [0,1,0,1,2,3,4,5,6]),(oE 63 (.fld 2 (.t 62)) [7,0,1,2,3,4,5,6]),(oN (.store 1 (.t 63) (.t 61)) [8,6,0,1,2,3,4,5,6])]
def spinetlaw53_add_i26:List Op1:=[(oM 64 (.t 8) []),(oM 65 (.t 9) []),(oE 66 (.ias 4 (.t 64) (.t 65)) [0,1]),(oE 67 (.fld 3 (.t 66)) [2]),(oE 68 (.load false 1 (.t 67)) [3]),(oM 69 (.t 1) []),(oE 70 (.len (.t 69)) [5]),(oM 71 (.t 5) []),(oE 72 (.bin .sub (.t 70) (.t 71)) [6,7]),(oE 73 (.bin .add (.t 68) (.t 72)) [4,8]),(oE 74 (.ias 4 (.t 64) (.t 65)) [0,1,0,1,2,3,4,5,6,7,8,9]),(oE 75 (.fld 3 (.t 74)) [10,0,1,2,3,4,5,6,7,8,9]),(oN (.store 1 (.t 75) (.t 73)) [11,9,0,1,2,3,4,5,6,7,8,9])]
def spinetlaw53_add_i27:List Op1:=[(oM 76 (.t 8) []),(oM 4 (.t 76) [0,0])]
def spinetlaw53_add_i28:IR:=.ret
def spinetlaw53_add_i29:IR:=(.seq (.reg false spinetlaw53_add_i27) spinetlaw53_add_i28)
def spinetlaw53_add_i30:IR:=(.seq (.reg false spinetlaw53_add_i26) spinetlaw53_add_i29)
def spinetlaw53_add_i31:IR:=(.seq (.reg false spinetlaw53_add_i25) spinetlaw53_add_i30)
def spinetlaw53_add_i32:IR:=(.cond (.t 46) (.seq (.reg false spinetlaw53_add_i24) spinetlaw53_add_i31) .skip)
def spinetlaw53_add_i33:List Op1:=[(oM 38 (.t 9) []),(oE 39 (.bin .add (.t 38) (.k (.int .i64 1))) [0]),(oM 9 (.t 39) [1,0,1])]
def spinetlaw53_add_i34:IR:=(.reg false spinetlaw53_add_i33)
def spinetlaw53_add_i35:IR:=(.seq (.block 3 (.seq (.reg false spinetlaw53_add_i23) spinetlaw53_add_i32)) spinetlaw53_add_i34)
def spinetlaw53_add_i36:IR:=(.seq (.seq (.reg false spinetlaw53_add_i21) spinetlaw53_add_i22) spinetlaw53_add_i35)
def spinetlaw53_add_i37:IR:=(.block 2 (.loop spinetlaw53_add_i36))
def spinetlaw53_add_i38:List Op1:=[(oM 77 (.t 8) []),(oM 78 (.t 6) []),(oM 79 (.t 5) []),(oM 80 (.t 1) []),(oE 81 (.len (.t 80)) [3]),(oM 82 (.t 5) []),(oE 83 (.bin .sub (.t 81) (.t 82)) [4,5]),(oE 84 (.build [(.int .u16 0),(.int .i64 0),(.int .i64 0),(.int .i64 0)] [(0,(1,(.t 78))),(1,(1,(.k (.int .i64 1)))),(2,(1,(.t 79))),(3,(1,(.t 83)))]) [1,2,6]),(oE 85 (.bslo 4 1 [(.int .u16 0),(.int .i64 0),(.int .i64 0),(.int .i64 0)] [(0,(4,(.t 84)))]) [7]),(oE 86 (.app 35 4 32 (.t 77) (.t 85)) [0,8]),(oM 4 (.t 86) [9,9,0,1,2,3,4,5,6,7,8,9])]
def spinetlaw53_add_i39:IR:=.ret
def spinetlaw53_add_i40:IR:=(.seq (.reg false spinetlaw53_add_i38) spinetlaw53_add_i39)
def spinetlaw53_add_i41:IR:=(.seq (.seq (.reg false spinetlaw53_add_i20) spinetlaw53_add_i37) spinetlaw53_add_i40)
def spinetlaw53_add_i42:IR:=(.seq (.reg false spinetlaw53_add_i19) spinetlaw53_add_i41)
def spinetlaw53_add_i43:IR:=(.seq (.seq (.reg false spinetlaw53_add_i15) spinetlaw53_add_i18) spinetlaw53_add_i42)
def spinetlaw53_add_i44:IR:=(.seq (.seq (.reg false spinetlaw53_add_i2) spinetlaw53_add_i14) spinetlaw53_add_i43)
def spinetlaw53_add_i45:IR:=(.seq (.reg false spinetlaw53_add_i1) spinetlaw53_add_i44)
def spinetlaw53_add_ir:IR:=(.seq (.reg false spinetlaw53_add_i0) spinetlaw53_add_i45)
theorem spinetlaw53_add_cfn:cFn Try.prog 5=some (spinetlaw53_add_ir,[(.t 4)],87):=by kernel_rfl
def spinetlaw53_add_V (r:((List prof_Spot))):V:=.sl false r.length (cat prof_Spot.v r)
def spinetlaw53_add_C (r:((List prof_Spot))):X→Fr→Hp→Prop:=FinL [(.t 4)] [] (spinetlaw53_add_V r) []
theorem spinetlaw53_add_ok (l_:(List prof_Spot)) (recs_:(List api_Rec)) (r:((List prof_Spot))) (h:spinetlaw53_add l_ recs_=some r):Pure Try.prog 5 [.sl false l_.length (cat prof_Spot.v l_),.sl false recs_.length (cat api_Rec.v recs_)] (spinetlaw53_add_V r):=by
  refine ConL.of spinetlaw53_add_cfn (Nat.le_of_ble_eq_true (by kernel_rfl)) (Nat.le_of_ble_eq_true (by kernel_rfl)) ?_
  refine k_start ?_
  show dwv Try.prog [] spinetlaw53_add_ir (kont Try.prog [] (spinetlaw53_add_C r) []) (fr0 [.sl false l_.length (cat prof_Spot.v l_),.sl false recs_.length (cat api_Rec.v recs_)]) []
  have hf:FOk (fr0 [.sl false l_.length (cat prof_Spot.v l_),.sl false recs_.length (cat api_Rec.v recs_)]) [⟨0,[],.sl false l_.length (cat prof_Spot.v l_)⟩,⟨1,[],.sl false recs_.length (cat api_Rec.v recs_)⟩]:=⟨⟨fun _=>rfl,fun h=>(h trivial).elim⟩,⟨fun _=>rfl,fun h=>(h trivial).elim⟩,trivial⟩
  generalize fr0 [.sl false l_.length (cat prof_Spot.v l_),.sl false recs_.length (cat api_Rec.v recs_)]=f at hf ⊢
  unfold spinetlaw53_add at h
  refine k_seq ?_
  refine k_reg ?_
  refine mops_en hf (by kernel_rfl) fun f1 hf1 => ?_
  refine k_c ?_
  refine k_seq ?_
  refine k_reg ?_
  refine mops_en hf1 (by kernel_rfl) fun f2 hf2 => ?_
  refine k_c ?_
  refine k_seq ?_
  refine k_seq ?_
  refine k_reg ?_
  refine mops_en hf2 (by kernel_rfl) fun f3 hf3 => ?_
  refine k_c ?_
  refine k_block ?_
  obtain ⟨o0,hx0,h⟩:=Option.bind_eq_some_iff.1 h
  have hgo0:∀ (own_2:Int) (at_2:Int),(own_2,at_2)=o0→∀ f,FOk f [⟨0,[],.sl false l_.length (cat prof_Spot.v l_)⟩,⟨1,[],.sl false recs_.length (cat api_Rec.v recs_)⟩,⟨4,[],.ref 0 0 0 0⟩,⟨5,[],.s (.int .i64 own_2)⟩,⟨6,[],.s (.int .u16 at_2)⟩]→kont Try.prog [] (spinetlaw53_add_C r) ((.c spinetlaw53_add_i43)::[]) .normal f [⟨0,.grow,4,cat prof_Spot.v ([]:List prof_Spot)⟩]:=by
    intro own_2 at_2 e f hf
    subst e
    refine k_c ?_
    refine k_seq ?_
    refine k_seq ?_
    refine k_reg ?_
    refine mops_en hf (by kernel_rfl) fun f1 hf1 => ?_
    refine k_c ?_
    refine k_cond hf1 (t:=(own_2 == 0)) (by kernel_rfl) (fun hc5 => ?_) (fun hc5 => ?_)
    · have h:=if_t h hc5
      refine k_seq ?_
      refine k_reg ?_
      refine mops_en hf1 (by kernel_rfl) fun f2 hf2 => ?_
      refine k_c ?_
      refine k_ret ?_
      refine x_c nofun ?_
      obtain rfl:=Option.some.inj h
      exact k_fin (fin_ret (.inl rfl) hf2 (vs:=[.sl false l_.length (cat prof_Spot.v l_)]) (by kernel_rfl) (SettL.pure (FzL.slf (g:=prof_Spot.v))))
    · have h:=if_f h hc5
      refine k_skip ?_
      refine k_c ?_
      refine k_seq ?_
      refine k_reg ?_
      refine mops_sg 1 hf1 (by kernel_rfl) fun f2 hf2 => ?_
      obtain ⟨c6,h⟩:=as_ok h
      refine mops_call rfl hf2 (av:=[.sl false l_.length (cat prof_Spot.v l_)]) (by kernel_rfl) (v:=.ref 1 0 0 l_.length) (L':=[⟨0,.grow,4,cat prof_Spot.v ([]:List prof_Spot)⟩,⟨0,.grow,4,cat prof_Spot.v l_⟩]) (CalL.told (L0:=[⟨0,.grow,4,cat prof_Spot.v ([]:List prof_Spot)⟩]) (spots_clone (fun s=>(s.At,s.Times,s.Cycles,s.Lost)) prof_Spot.v (fun _=>rfl) l_ (by kernel_rfl) c6) (by kernel_rfl) (by kernel_rfl) (by kernel_rfl)) (by intro h; cases h) fun f3 hf3 => ?_
      refine mops_en hf3 (by kernel_rfl) fun f4 hf4 => ?_
      refine k_c ?_
      refine k_seq ?_
      refine k_seq ?_
      refine k_reg ?_
      refine mops_en hf4 (by kernel_rfl) fun f5 hf5 => ?_
      refine k_c ?_
      refine k_block ?_
      obtain ⟨o1,hx1,h⟩:=Option.bind_eq_some_iff.1 h
      have hret1:∀ r0,.ret r0=o1→r0=r:=fun r0 e=>by subst e; exact Option.some.inj h
      have hgo1:.go ()=o1→∀ f,FOk f [⟨1,[],.sl false recs_.length (cat api_Rec.v recs_)⟩,⟨4,[],.ref 0 0 0 0⟩,⟨5,[],.s (.int .i64 own_2)⟩,⟨6,[],.s (.int .u16 at_2)⟩,⟨8,[],.ref 1 0 0 l_.length⟩]→kont Try.prog [] (spinetlaw53_add_C r) ((.c spinetlaw53_add_i40)::[]) .normal f [⟨0,.grow,4,cat prof_Spot.v ([]:List prof_Spot)⟩,⟨0,.grow,4,cat prof_Spot.v l_⟩]:=by
        intro  e f hf
        subst e
        refine k_c ?_
        refine k_seq ?_
        refine k_reg ?_
        refine mops_sg 9 hf (by kernel_rfl) fun f1 hf1 => ?_
        obtain ⟨c16,h⟩:=as_ok h
        refine mops_adv rfl (v:=.ref 1 1 0 (l_++[(prof_Spot.mk at_2 (1) own_2 (IntKind.wrap .i64 ((ln recs_) - own_2)))]).length) hf1 (by kernel_rfl) (e_app (g:=prof_Spot.v) (l:=l_) (l':=[(prof_Spot.mk at_2 (1) own_2 (IntKind.wrap .i64 ((ln recs_) - own_2)))]) (b:=1) (ver:=0) (n:=l_.length) rfl (by kernel_rfl) rfl (live_grow (by kernel_rfl)) (sll_ev (v:=.ref 2 0 0 1) (by kernel_rfl) (sll_ref (B:=⟨0,.grow,4,cat prof_Spot.v [(prof_Spot.mk at_2 (1) own_2 (IntKind.wrap .i64 ((ln recs_) - own_2)))]⟩) (by kernel_rfl) (live_grow (by kernel_rfl)))) (slc_ev (v:=.ref 2 0 0 1) (by kernel_rfl) (slc_ref (g:=prof_Spot.v) (l:=[(prof_Spot.mk at_2 (1) own_2 (IntKind.wrap .i64 ((ln recs_) - own_2)))]) (kd:=.grow) (q:=4) (by kernel_rfl) (live_grow (by kernel_rfl)))) c16) fun f2 hf2 => ?_
        refine mops_en hf2 (by kernel_rfl) fun f3 hf3 => ?_
        refine k_c ?_
        refine k_ret ?_
        obtain rfl:=Option.some.inj h
        exact k_fin (fin_ret (.inl rfl) hf3 (vs:=[.ref 1 1 0 (l_++[(prof_Spot.mk at_2 (1) own_2 (IntKind.wrap .i64 ((ln recs_) - own_2)))]).length]) (by kernel_rfl) (SettL.pure (FzL.whole (g:=prof_Spot.v) (kd:=.grow) (l:=(l_++[(prof_Spot.mk at_2 (1) own_2 (IntKind.wrap .i64 ((ln recs_) - own_2)))])) (by kernel_rfl) rfl (live_grow (by kernel_rfl)))))
      refine k_loop BIG ?_
      refine loop_ind (fun n f L=>∃ (i_3:Int),spinetlaw53_add_l1 l_ recs_ own_2 at_2 n i_3=some o1∧FOk f [⟨1,[],.sl false recs_.length (cat api_Rec.v recs_)⟩,⟨4,[],.ref 0 0 0 0⟩,⟨5,[],.s (.int .i64 own_2)⟩,⟨6,[],.s (.int .u16 at_2)⟩,⟨8,[],.ref 1 0 0 l_.length⟩,⟨9,[],.s (.int .i64 i_3)⟩]∧L=[⟨0,.grow,4,cat prof_Spot.v ([]:List prof_Spot)⟩,⟨0,.grow,4,cat prof_Spot.v l_⟩]) ?_ ?_ BIG _ _ ⟨(0),hx1,FOk_of [1,4,5,6,8,9] hf5 (by kernel_rfl),(by kernel_rfl)⟩
      · rintro f L ⟨i_3,h,_⟩
        cases (show (none:Option _)=some _ from h)
      · rintro n1 R1 ih f L ⟨i_3,h,hf,rfl⟩
        rw [spinetlaw53_add_l1] at h
        refine k_seq ?_
        refine k_seq ?_
        refine k_reg ?_
        refine mops_sg 2 hf (by kernel_rfl) fun f1 hf1 => ?_
        refine mops_adv rfl (v:=.s (.int .i64 (ln l_))) hf1 (by kernel_rfl) (e_len_ref (l:=l_) (B:=⟨0,.grow,4,cat prof_Spot.v l_⟩) (b:=1) (ver:=0) (n:=l_.length) (by kernel_rfl) rfl (live_grow (by kernel_rfl))) fun f2 hf2 => ?_
        refine mops_en hf2 (by kernel_rfl) fun f3 hf3 => ?_
        refine k_c ?_
        refine k_cond hf3 (t:=(decide (i_3 < (ln l_)))) (by kernel_rfl) (fun hc7 => ?_) (fun hc7 => ?_)
        · have h:=if_t h hc7
          refine k_skip ?_
          refine k_c ?_
          refine k_seq ?_
          refine k_block ?_
          refine k_seq ?_
          refine k_reg ?_
          refine mops_sg 2 hf3 (by kernel_rfl) fun f4 hf4 => ?_
          obtain ⟨c8,h⟩:=as_ok h
          refine mops_adv rfl (v:=.ptr 1 0 (0+(i_3:Int).toNat*4)) hf4 (by kernel_rfl) (e_ias_ref (l:=l_) (B:=⟨0,.grow,4,cat prof_Spot.v l_⟩) (b:=1) (ver:=0) (n:=l_.length) (k:=.i64) (iv:=i_3) (by kernel_rfl) (by kernel_rfl) rfl (live_grow (by kernel_rfl)) c8) fun f5 hf5 => ?_
          refine mops_sg 1 hf5 (by kernel_rfl) fun f6 hf6 => ?_
          refine mops_adv rfl (v:=.s (.int .u16 (gt l_ i_3).At)) hf6 (by kernel_rfl) (e_load_pe (g:=prof_Spot.v) (l:=l_) (iv:=i_3) (kd:=.grow) (q:=4) (b:=1) (ver:=0) [0] (by kernel_rfl) (live_grow (by kernel_rfl)) c8 (by kernel_rfl) (by kernel_rfl)) fun f7 hf7 => ?_
          refine mops_en hf7 (by kernel_rfl) fun f8 hf8 => ?_
          refine k_c ?_
          refine k_cond hf8 (t:=((gt l_ i_3).At == at_2)) (by kernel_rfl) (fun hc9 => ?_) (fun hc9 => ?_)
          · have h:=if_t h hc9
            refine k_seq ?_
            refine k_reg ?_
            refine mops_sg 2 hf8 (by kernel_rfl) fun f9 hf9 => ?_
            obtain ⟨c10,h⟩:=as_ok h
            refine mops_adv rfl (v:=.ptr 1 0 (0+(i_3:Int).toNat*4)) hf9 (by kernel_rfl) (e_ias_ref (l:=l_) (B:=⟨0,.grow,4,cat prof_Spot.v l_⟩) (b:=1) (ver:=0) (n:=l_.length) (k:=.i64) (iv:=i_3) (by kernel_rfl) (by kernel_rfl) rfl (live_grow (by kernel_rfl)) c10) fun f10 hf10 => ?_
            refine mops_sg 1 hf10 (by kernel_rfl) fun f11 hf11 => ?_
            refine mops_adv rfl (v:=.s (.int .i64 (gt l_ i_3).Times)) hf11 (by kernel_rfl) (e_load_pe (g:=prof_Spot.v) (l:=l_) (iv:=i_3) (kd:=.grow) (q:=4) (b:=1) (ver:=0) [1] (by kernel_rfl) (live_grow (by kernel_rfl)) c10 (by kernel_rfl) (by kernel_rfl)) fun f12 hf12 => ?_
            refine mops_sg 1 hf12 (by kernel_rfl) fun f13 hf13 => ?_
            obtain ⟨c11,h⟩:=as_ok h
            refine mops_adv rfl (v:=.ptr 1 0 (0+(i_3:Int).toNat*4)) hf13 (by kernel_rfl) (e_ias_ref (l:=l_) (B:=⟨0,.grow,4,cat prof_Spot.v l_⟩) (b:=1) (ver:=0) (n:=l_.length) (k:=.i64) (iv:=i_3) (by kernel_rfl) (by kernel_rfl) rfl (live_grow (by kernel_rfl)) c11) fun f14 hf14 => ?_
            refine mops_sg 1 hf14 (by kernel_rfl) fun f15 hf15 => ?_
            refine mops_adv rfl (v:=.s undef) hf15 (by kernel_rfl) (e_store_pe (g:=prof_Spot.v) (l:=l_) (iv:=i_3) (kd:=.grow) (q:=4) (b:=1) (ver:=0) (ys:=[.s (.int .i64 (IntKind.wrap .i64 ((gt l_ i_3).Times+1)))]) (a:=(prof_Spot.mk ((gt l_ i_3).At) (IntKind.wrap .i64 ((gt l_ i_3).Times+1)) ((gt l_ i_3).Cycles) ((gt l_ i_3).Lost))) [1] (by kernel_rfl) (live_grow (by kernel_rfl)) (by kernel_rfl) (by kernel_rfl) (by kernel_rfl) c11 (by kernel_rfl) (by kernel_rfl)) fun f16 hf16 => ?_
            refine mops_en hf16 (by kernel_rfl) fun f17 hf17 => ?_
            refine k_c ?_
            refine k_seq ?_
            refine k_reg ?_
            refine mops_sg 2 hf17 (by kernel_rfl) fun f18 hf18 => ?_
            obtain ⟨c12,h⟩:=as_ok h
            refine mops_adv rfl (v:=.ptr 1 0 (0+(i_3:Int).toNat*4)) hf18 (by kernel_rfl) (e_ias_ref (l:=(st l_ i_3 (prof_Spot.mk ((gt l_ i_3).At) (IntKind.wrap .i64 ((gt l_ i_3).Times+1)) ((gt l_ i_3).Cycles) ((gt l_ i_3).Lost)))) (B:=⟨0,.grow,4,cat prof_Spot.v (st l_ i_3 (prof_Spot.mk ((gt l_ i_3).At) (IntKind.wrap .i64 ((gt l_ i_3).Times+1)) ((gt l_ i_3).Cycles) ((gt l_ i_3).Lost)))⟩) (b:=1) (ver:=0) (n:=l_.length) (k:=.i64) (iv:=i_3) (by kernel_rfl) (by kernel_rfl) (st_len.trans rfl) (live_grow (by kernel_rfl)) c12) fun f19 hf19 => ?_
            refine mops_sg 1 hf19 (by kernel_rfl) fun f20 hf20 => ?_
            refine mops_adv rfl (v:=.s (.int .i64 (gt (st l_ i_3 (prof_Spot.mk ((gt l_ i_3).At) (IntKind.wrap .i64 ((gt l_ i_3).Times+1)) ((gt l_ i_3).Cycles) ((gt l_ i_3).Lost))) i_3).Cycles)) hf20 (by kernel_rfl) (e_load_pe (g:=prof_Spot.v) (l:=(st l_ i_3 (prof_Spot.mk ((gt l_ i_3).At) (IntKind.wrap .i64 ((gt l_ i_3).Times+1)) ((gt l_ i_3).Cycles) ((gt l_ i_3).Lost)))) (iv:=i_3) (kd:=.grow) (q:=4) (b:=1) (ver:=0) [2] (by kernel_rfl) (live_grow (by kernel_rfl)) c12 (by kernel_rfl) (by kernel_rfl)) fun f21 hf21 => ?_
            refine mops_sg 2 hf21 (by kernel_rfl) fun f22 hf22 => ?_
            obtain ⟨c13,h⟩:=as_ok h
            refine mops_adv rfl (v:=.ptr 1 0 (0+(i_3:Int).toNat*4)) hf22 (by kernel_rfl) (e_ias_ref (l:=(st l_ i_3 (prof_Spot.mk ((gt l_ i_3).At) (IntKind.wrap .i64 ((gt l_ i_3).Times+1)) ((gt l_ i_3).Cycles) ((gt l_ i_3).Lost)))) (B:=⟨0,.grow,4,cat prof_Spot.v (st l_ i_3 (prof_Spot.mk ((gt l_ i_3).At) (IntKind.wrap .i64 ((gt l_ i_3).Times+1)) ((gt l_ i_3).Cycles) ((gt l_ i_3).Lost)))⟩) (b:=1) (ver:=0) (n:=l_.length) (k:=.i64) (iv:=i_3) (by kernel_rfl) (by kernel_rfl) (st_len.trans rfl) (live_grow (by kernel_rfl)) c13) fun f23 hf23 => ?_
            refine mops_seg [1,4,5,6,8,9,61,63] 1 hf23 (l':=[⟨1,[],.sl false recs_.length (cat api_Rec.v recs_)⟩,⟨4,[],.ref 0 0 0 0⟩,⟨5,[],.s (.int .i64 own_2)⟩,⟨6,[],.s (.int .u16 at_2)⟩,⟨8,[],.ref 1 0 0 l_.length⟩,⟨9,[],.s (.int .i64 i_3)⟩,⟨61,[],.s (.int .i64 (IntKind.wrap .i64 ((gt (st l_ i_3 (prof_Spot.mk ((gt l_ i_3).At) (IntKind.wrap .i64 ((gt l_ i_3).Times+1)) ((gt l_ i_3).Cycles) ((gt l_ i_3).Lost))) i_3).Cycles+own_2)))⟩,⟨63,[],.ptr 1 0 (0+(i_3:Int).toNat*4+2)⟩]) (L':=[⟨0,.grow,4,cat prof_Spot.v ([]:List prof_Spot)⟩,⟨0,.grow,4,cat prof_Spot.v (st l_ i_3 (prof_Spot.mk ((gt l_ i_3).At) (IntKind.wrap .i64 ((gt l_ i_3).Times+1)) ((gt l_ i_3).Cycles) ((gt l_ i_3).Lost)))⟩]) (by kernel_rfl) fun f24 hf24 => ?_
            refine mops_adv rfl (v:=.s undef) hf24 (by kernel_rfl) (e_store_pe (g:=prof_Spot.v) (l:=(st l_ i_3 (prof_Spot.mk ((gt l_ i_3).At) (IntKind.wrap .i64 ((gt l_ i_3).Times+1)) ((gt l_ i_3).Cycles) ((gt l_ i_3).Lost)))) (iv:=i_3) (kd:=.grow) (q:=4) (b:=1) (ver:=0) (ys:=[.s (.int .i64 (IntKind.wrap .i64 ((gt (st l_ i_3 (prof_Spot.mk ((gt l_ i_3).At) (IntKind.wrap .i64 ((gt l_ i_3).Times+1)) ((gt l_ i_3).Cycles) ((gt l_ i_3).Lost))) i_3).Cycles+own_2)))]) (a:=(prof_Spot.mk ((gt (st l_ i_3 (prof_Spot.mk ((gt l_ i_3).At) (IntKind.wrap .i64 ((gt l_ i_3).Times+1)) ((gt l_ i_3).Cycles) ((gt l_ i_3).Lost))) i_3).At) ((gt (st l_ i_3 (prof_Spot.mk ((gt l_ i_3).At) (IntKind.wrap .i64 ((gt l_ i_3).Times+1)) ((gt l_ i_3).Cycles) ((gt l_ i_3).Lost))) i_3).Times) (IntKind.wrap .i64 ((gt (st l_ i_3 (prof_Spot.mk ((gt l_ i_3).At) (IntKind.wrap .i64 ((gt l_ i_3).Times+1)) ((gt l_ i_3).Cycles) ((gt l_ i_3).Lost))) i_3).Cycles+own_2)) ((gt (st l_ i_3 (prof_Spot.mk ((gt l_ i_3).At) (IntKind.wrap .i64 ((gt l_ i_3).Times+1)) ((gt l_ i_3).Cycles) ((gt l_ i_3).Lost))) i_3).Lost))) [2] (by kernel_rfl) (live_grow (by kernel_rfl)) (by kernel_rfl) (by kernel_rfl) (by kernel_rfl) c13 (by kernel_rfl) (by kernel_rfl)) fun f25 hf25 => ?_
            refine mops_en hf25 (by kernel_rfl) fun f26 hf26 => ?_
            refine k_c ?_
            refine k_seq ?_
            refine k_reg ?_
            refine mops_sg 2 hf26 (by kernel_rfl) fun f27 hf27 => ?_
            obtain ⟨c14,h⟩:=as_ok h
            refine mops_adv rfl (v:=.ptr 1 0 (0+(i_3:Int).toNat*4)) hf27 (by kernel_rfl) (e_ias_ref (l:=(st (st l_ i_3 (prof_Spot.mk ((gt l_ i_3).At) (IntKind.wrap .i64 ((gt l_ i_3).Times+1)) ((gt l_ i_3).Cycles) ((gt l_ i_3).Lost))) i_3 (prof_Spot.mk ((gt (st l_ i_3 (prof_Spot.mk ((gt l_ i_3).At) (IntKind.wrap .i64 ((gt l_ i_3).Times+1)) ((gt l_ i_3).Cycles) ((gt l_ i_3).Lost))) i_3).At) ((gt (st l_ i_3 (prof_Spot.mk ((gt l_ i_3).At) (IntKind.wrap .i64 ((gt l_ i_3).Times+1)) ((gt l_ i_3).Cycles) ((gt l_ i_3).Lost))) i_3).Times) (IntKind.wrap .i64 ((gt (st l_ i_3 (prof_Spot.mk ((gt l_ i_3).At) (IntKind.wrap .i64 ((gt l_ i_3).Times+1)) ((gt l_ i_3).Cycles) ((gt l_ i_3).Lost))) i_3).Cycles+own_2)) ((gt (st l_ i_3 (prof_Spot.mk ((gt l_ i_3).At) (IntKind.wrap .i64 ((gt l_ i_3).Times+1)) ((gt l_ i_3).Cycles) ((gt l_ i_3).Lost))) i_3).Lost)))) (B:=⟨0,.grow,4,cat prof_Spot.v (st (st l_ i_3 (prof_Spot.mk ((gt l_ i_3).At) (IntKind.wrap .i64 ((gt l_ i_3).Times+1)) ((gt l_ i_3).Cycles) ((gt l_ i_3).Lost))) i_3 (prof_Spot.mk ((gt (st l_ i_3 (prof_Spot.mk ((gt l_ i_3).At) (IntKind.wrap .i64 ((gt l_ i_3).Times+1)) ((gt l_ i_3).Cycles) ((gt l_ i_3).Lost))) i_3).At) ((gt (st l_ i_3 (prof_Spot.mk ((gt l_ i_3).At) (IntKind.wrap .i64 ((gt l_ i_3).Times+1)) ((gt l_ i_3).Cycles) ((gt l_ i_3).Lost))) i_3).Times) (IntKind.wrap .i64 ((gt (st l_ i_3 (prof_Spot.mk ((gt l_ i_3).At) (IntKind.wrap .i64 ((gt l_ i_3).Times+1)) ((gt l_ i_3).Cycles) ((gt l_ i_3).Lost))) i_3).Cycles+own_2)) ((gt (st l_ i_3 (prof_Spot.mk ((gt l_ i_3).At) (IntKind.wrap .i64 ((gt l_ i_3).Times+1)) ((gt l_ i_3).Cycles) ((gt l_ i_3).Lost))) i_3).Lost)))⟩) (b:=1) (ver:=0) (n:=l_.length) (k:=.i64) (iv:=i_3) (by kernel_rfl) (by kernel_rfl) (st_len.trans (st_len.trans rfl)) (live_grow (by kernel_rfl)) c14) fun f28 hf28 => ?_
            refine mops_sg 1 hf28 (by kernel_rfl) fun f29 hf29 => ?_
            refine mops_adv rfl (v:=.s (.int .i64 (gt (st (st l_ i_3 (prof_Spot.mk ((gt l_ i_3).At) (IntKind.wrap .i64 ((gt l_ i_3).Times+1)) ((gt l_ i_3).Cycles) ((gt l_ i_3).Lost))) i_3 (prof_Spot.mk ((gt (st l_ i_3 (prof_Spot.mk ((gt l_ i_3).At) (IntKind.wrap .i64 ((gt l_ i_3).Times+1)) ((gt l_ i_3).Cycles) ((gt l_ i_3).Lost))) i_3).At) ((gt (st l_ i_3 (prof_Spot.mk ((gt l_ i_3).At) (IntKind.wrap .i64 ((gt l_ i_3).Times+1)) ((gt l_ i_3).Cycles) ((gt l_ i_3).Lost))) i_3).Times) (IntKind.wrap .i64 ((gt (st l_ i_3 (prof_Spot.mk ((gt l_ i_3).At) (IntKind.wrap .i64 ((gt l_ i_3).Times+1)) ((gt l_ i_3).Cycles) ((gt l_ i_3).Lost))) i_3).Cycles+own_2)) ((gt (st l_ i_3 (prof_Spot.mk ((gt l_ i_3).At) (IntKind.wrap .i64 ((gt l_ i_3).Times+1)) ((gt l_ i_3).Cycles) ((gt l_ i_3).Lost))) i_3).Lost))) i_3).Lost)) hf29 (by kernel_rfl) (e_load_pe (g:=prof_Spot.v) (l:=(st (st l_ i_3 (prof_Spot.mk ((gt l_ i_3).At) (IntKind.wrap .i64 ((gt l_ i_3).Times+1)) ((gt l_ i_3).Cycles) ((gt l_ i_3).Lost))) i_3 (prof_Spot.mk ((gt (st l_ i_3 (prof_Spot.mk ((gt l_ i_3).At) (IntKind.wrap .i64 ((gt l_ i_3).Times+1)) ((gt l_ i_3).Cycles) ((gt l_ i_3).Lost))) i_3).At) ((gt (st l_ i_3 (prof_Spot.mk ((gt l_ i_3).At) (IntKind.wrap .i64 ((gt l_ i_3).Times+1)) ((gt l_ i_3).Cycles) ((gt l_ i_3).Lost))) i_3).Times) (IntKind.wrap .i64 ((gt (st l_ i_3 (prof_Spot.mk ((gt l_ i_3).At) (IntKind.wrap .i64 ((gt l_ i_3).Times+1)) ((gt l_ i_3).Cycles) ((gt l_ i_3).Lost))) i_3).Cycles+own_2)) ((gt (st l_ i_3 (prof_Spot.mk ((gt l_ i_3).At) (IntKind.wrap .i64 ((gt l_ i_3).Times+1)) ((gt l_ i_3).Cycles) ((gt l_ i_3).Lost))) i_3).Lost)))) (iv:=i_3) (kd:=.grow) (q:=4) (b:=1) (ver:=0) [3] (by kernel_rfl) (live_grow (by kernel_rfl)) c14 (by kernel_rfl) (by kernel_rfl)) fun f30 hf30 => ?_
            refine mops_sg 5 hf30 (by kernel_rfl) fun f31 hf31 => ?_
            obtain ⟨c15,h⟩:=as_ok h
            refine mops_adv rfl (v:=.ptr 1 0 (0+(i_3:Int).toNat*4)) hf31 (by kernel_rfl) (e_ias_ref (l:=(st (st l_ i_3 (prof_Spot.mk ((gt l_ i_3).At) (IntKind.wrap .i64 ((gt l_ i_3).Times+1)) ((gt l_ i_3).Cycles) ((gt l_ i_3).Lost))) i_3 (prof_Spot.mk ((gt (st l_ i_3 (prof_Spot.mk ((gt l_ i_3).At) (IntKind.wrap .i64 ((gt l_ i_3).Times+1)) ((gt l_ i_3).Cycles) ((gt l_ i_3).Lost))) i_3).At) ((gt (st l_ i_3 (prof_Spot.mk ((gt l_ i_3).At) (IntKind.wrap .i64 ((gt l_ i_3).Times+1)) ((gt l_ i_3).Cycles) ((gt l_ i_3).Lost))) i_3).Times) (IntKind.wrap .i64 ((gt (st l_ i_3 (prof_Spot.mk ((gt l_ i_3).At) (IntKind.wrap .i64 ((gt l_ i_3).Times+1)) ((gt l_ i_3).Cycles) ((gt l_ i_3).Lost))) i_3).Cycles+own_2)) ((gt (st l_ i_3 (prof_Spot.mk ((gt l_ i_3).At) (IntKind.wrap .i64 ((gt l_ i_3).Times+1)) ((gt l_ i_3).Cycles) ((gt l_ i_3).Lost))) i_3).Lost)))) (B:=⟨0,.grow,4,cat prof_Spot.v (st (st l_ i_3 (prof_Spot.mk ((gt l_ i_3).At) (IntKind.wrap .i64 ((gt l_ i_3).Times+1)) ((gt l_ i_3).Cycles) ((gt l_ i_3).Lost))) i_3 (prof_Spot.mk ((gt (st l_ i_3 (prof_Spot.mk ((gt l_ i_3).At) (IntKind.wrap .i64 ((gt l_ i_3).Times+1)) ((gt l_ i_3).Cycles) ((gt l_ i_3).Lost))) i_3).At) ((gt (st l_ i_3 (prof_Spot.mk ((gt l_ i_3).At) (IntKind.wrap .i64 ((gt l_ i_3).Times+1)) ((gt l_ i_3).Cycles) ((gt l_ i_3).Lost))) i_3).Times) (IntKind.wrap .i64 ((gt (st l_ i_3 (prof_Spot.mk ((gt l_ i_3).At) (IntKind.wrap .i64 ((gt l_ i_3).Times+1)) ((gt l_ i_3).Cycles) ((gt l_ i_3).Lost))) i_3).Cycles+own_2)) ((gt (st l_ i_3 (prof_Spot.mk ((gt l_ i_3).At) (IntKind.wrap .i64 ((gt l_ i_3).Times+1)) ((gt l_ i_3).Cycles) ((gt l_ i_3).Lost))) i_3).Lost)))⟩) (b:=1) (ver:=0) (n:=l_.length) (k:=.i64) (iv:=i_3) (by kernel_rfl) (by kernel_rfl) (st_len.trans (st_len.trans rfl)) (live_grow (by kernel_rfl)) c15) fun f32 hf32 => ?_
            refine mops_sg 1 hf32 (by kernel_rfl) fun f33 hf33 => ?_
            refine mops_adv rfl (v:=.s undef) hf33 (by kernel_rfl) (e_store_pe (g:=prof_Spot.v) (l:=(st (st l_ i_3 (prof_Spot.mk ((gt l_ i_3).At) (IntKind.wrap .i64 ((gt l_ i_3).Times+1)) ((gt l_ i_3).Cycles) ((gt l_ i_3).Lost))) i_3 (prof_Spot.mk ((gt (st l_ i_3 (prof_Spot.mk ((gt l_ i_3).At) (IntKind.wrap .i64 ((gt l_ i_3).Times+1)) ((gt l_ i_3).Cycles) ((gt l_ i_3).Lost))) i_3).At) ((gt (st l_ i_3 (prof_Spot.mk ((gt l_ i_3).At) (IntKind.wrap .i64 ((gt l_ i_3).Times+1)) ((gt l_ i_3).Cycles) ((gt l_ i_3).Lost))) i_3).Times) (IntKind.wrap .i64 ((gt (st l_ i_3 (prof_Spot.mk ((gt l_ i_3).At) (IntKind.wrap .i64 ((gt l_ i_3).Times+1)) ((gt l_ i_3).Cycles) ((gt l_ i_3).Lost))) i_3).Cycles+own_2)) ((gt (st l_ i_3 (prof_Spot.mk ((gt l_ i_3).At) (IntKind.wrap .i64 ((gt l_ i_3).Times+1)) ((gt l_ i_3).Cycles) ((gt l_ i_3).Lost))) i_3).Lost)))) (iv:=i_3) (kd:=.grow) (q:=4) (b:=1) (ver:=0) (ys:=[.s (.int .i64 (IntKind.wrap .i64 ((gt (st (st l_ i_3 (prof_Spot.mk ((gt l_ i_3).At) (IntKind.wrap .i64 ((gt l_ i_3).Times+1)) ((gt l_ i_3).Cycles) ((gt l_ i_3).Lost))) i_3 (prof_Spot.mk ((gt (st l_ i_3 (prof_Spot.mk ((gt l_ i_3).At) (IntKind.wrap .i64 ((gt l_ i_3).Times+1)) ((gt l_ i_3).Cycles) ((gt l_ i_3).Lost))) i_3).At) ((gt (st l_ i_3 (prof_Spot.mk ((gt l_ i_3).At) (IntKind.wrap .i64 ((gt l_ i_3).Times+1)) ((gt l_ i_3).Cycles) ((gt l_ i_3).Lost))) i_3).Times) (IntKind.wrap .i64 ((gt (st l_ i_3 (prof_Spot.mk ((gt l_ i_3).At) (IntKind.wrap .i64 ((gt l_ i_3).Times+1)) ((gt l_ i_3).Cycles) ((gt l_ i_3).Lost))) i_3).Cycles+own_2)) ((gt (st l_ i_3 (prof_Spot.mk ((gt l_ i_3).At) (IntKind.wrap .i64 ((gt l_ i_3).Times+1)) ((gt l_ i_3).Cycles) ((gt l_ i_3).Lost))) i_3).Lost))) i_3).Lost+(IntKind.wrap .i64 ((ln recs_) - own_2)))))]) (a:=(prof_Spot.mk ((gt (st (st l_ i_3 (prof_Spot.mk ((gt l_ i_3).At) (IntKind.wrap .i64 ((gt l_ i_3).Times+1)) ((gt l_ i_3).Cycles) ((gt l_ i_3).Lost))) i_3 (prof_Spot.mk ((gt (st l_ i_3 (prof_Spot.mk ((gt l_ i_3).At) (IntKind.wrap .i64 ((gt l_ i_3).Times+1)) ((gt l_ i_3).Cycles) ((gt l_ i_3).Lost))) i_3).At) ((gt (st l_ i_3 (prof_Spot.mk ((gt l_ i_3).At) (IntKind.wrap .i64 ((gt l_ i_3).Times+1)) ((gt l_ i_3).Cycles) ((gt l_ i_3).Lost))) i_3).Times) (IntKind.wrap .i64 ((gt (st l_ i_3 (prof_Spot.mk ((gt l_ i_3).At) (IntKind.wrap .i64 ((gt l_ i_3).Times+1)) ((gt l_ i_3).Cycles) ((gt l_ i_3).Lost))) i_3).Cycles+own_2)) ((gt (st l_ i_3 (prof_Spot.mk ((gt l_ i_3).At) (IntKind.wrap .i64 ((gt l_ i_3).Times+1)) ((gt l_ i_3).Cycles) ((gt l_ i_3).Lost))) i_3).Lost))) i_3).At) ((gt (st (st l_ i_3 (prof_Spot.mk ((gt l_ i_3).At) (IntKind.wrap .i64 ((gt l_ i_3).Times+1)) ((gt l_ i_3).Cycles) ((gt l_ i_3).Lost))) i_3 (prof_Spot.mk ((gt (st l_ i_3 (prof_Spot.mk ((gt l_ i_3).At) (IntKind.wrap .i64 ((gt l_ i_3).Times+1)) ((gt l_ i_3).Cycles) ((gt l_ i_3).Lost))) i_3).At) ((gt (st l_ i_3 (prof_Spot.mk ((gt l_ i_3).At) (IntKind.wrap .i64 ((gt l_ i_3).Times+1)) ((gt l_ i_3).Cycles) ((gt l_ i_3).Lost))) i_3).Times) (IntKind.wrap .i64 ((gt (st l_ i_3 (prof_Spot.mk ((gt l_ i_3).At) (IntKind.wrap .i64 ((gt l_ i_3).Times+1)) ((gt l_ i_3).Cycles) ((gt l_ i_3).Lost))) i_3).Cycles+own_2)) ((gt (st l_ i_3 (prof_Spot.mk ((gt l_ i_3).At) (IntKind.wrap .i64 ((gt l_ i_3).Times+1)) ((gt l_ i_3).Cycles) ((gt l_ i_3).Lost))) i_3).Lost))) i_3).Times) ((gt (st (st l_ i_3 (prof_Spot.mk ((gt l_ i_3).At) (IntKind.wrap .i64 ((gt l_ i_3).Times+1)) ((gt l_ i_3).Cycles) ((gt l_ i_3).Lost))) i_3 (prof_Spot.mk ((gt (st l_ i_3 (prof_Spot.mk ((gt l_ i_3).At) (IntKind.wrap .i64 ((gt l_ i_3).Times+1)) ((gt l_ i_3).Cycles) ((gt l_ i_3).Lost))) i_3).At) ((gt (st l_ i_3 (prof_Spot.mk ((gt l_ i_3).At) (IntKind.wrap .i64 ((gt l_ i_3).Times+1)) ((gt l_ i_3).Cycles) ((gt l_ i_3).Lost))) i_3).Times) (IntKind.wrap .i64 ((gt (st l_ i_3 (prof_Spot.mk ((gt l_ i_3).At) (IntKind.wrap .i64 ((gt l_ i_3).Times+1)) ((gt l_ i_3).Cycles) ((gt l_ i_3).Lost))) i_3).Cycles+own_2)) ((gt (st l_ i_3 (prof_Spot.mk ((gt l_ i_3).At) (IntKind.wrap .i64 ((gt l_ i_3).Times+1)) ((gt l_ i_3).Cycles) ((gt l_ i_3).Lost))) i_3).Lost))) i_3).Cycles) (IntKind.wrap .i64 ((gt (st (st l_ i_3 (prof_Spot.mk ((gt l_ i_3).At) (IntKind.wrap .i64 ((gt l_ i_3).Times+1)) ((gt l_ i_3).Cycles) ((gt l_ i_3).Lost))) i_3 (prof_Spot.mk ((gt (st l_ i_3 (prof_Spot.mk ((gt l_ i_3).At) (IntKind.wrap .i64 ((gt l_ i_3).Times+1)) ((gt l_ i_3).Cycles) ((gt l_ i_3).Lost))) i_3).At) ((gt (st l_ i_3 (prof_Spot.mk ((gt l_ i_3).At) (IntKind.wrap .i64 ((gt l_ i_3).Times+1)) ((gt l_ i_3).Cycles) ((gt l_ i_3).Lost))) i_3).Times) (IntKind.wrap .i64 ((gt (st l_ i_3 (prof_Spot.mk ((gt l_ i_3).At) (IntKind.wrap .i64 ((gt l_ i_3).Times+1)) ((gt l_ i_3).Cycles) ((gt l_ i_3).Lost))) i_3).Cycles+own_2)) ((gt (st l_ i_3 (prof_Spot.mk ((gt l_ i_3).At) (IntKind.wrap .i64 ((gt l_ i_3).Times+1)) ((gt l_ i_3).Cycles) ((gt l_ i_3).Lost))) i_3).Lost))) i_3).Lost+(IntKind.wrap .i64 ((ln recs_) - own_2)))))) [3] (by kernel_rfl) (live_grow (by kernel_rfl)) (by kernel_rfl) (by kernel_rfl) (by kernel_rfl) c15 (by kernel_rfl) (by kernel_rfl)) fun f34 hf34 => ?_
            refine mops_en hf34 (by kernel_rfl) fun f35 hf35 => ?_
            refine k_c ?_
            refine k_seq ?_
            refine k_reg ?_
            refine mops_en hf35 (by kernel_rfl) fun f36 hf36 => ?_
            refine k_c ?_
            refine k_ret ?_
            refine x_br ?_
            refine x_c nofun ?_
            refine x_l nofun ?_
            refine x_br ?_
            refine x_c nofun ?_
            obtain rfl:=hret1 _ (Option.some.inj h)
            exact k_fin (fin_ret (.inl rfl) hf36 (vs:=[.ref 1 0 0 l_.length]) (by kernel_rfl) (SettL.pure (FzL.whole (g:=prof_Spot.v) (kd:=.grow) (l:=(st (st (st l_ i_3 (prof_Spot.mk ((gt l_ i_3).At) (IntKind.wrap .i64 ((gt l_ i_3).Times+1)) ((gt l_ i_3).Cycles) ((gt l_ i_3).Lost))) i_3 (prof_Spot.mk ((gt (st l_ i_3 (prof_Spot.mk ((gt l_ i_3).At) (IntKind.wrap .i64 ((gt l_ i_3).Times+1)) ((gt l_ i_3).Cycles) ((gt l_ i_3).Lost))) i_3).At) ((gt (st l_ i_3 (prof_Spot.mk ((gt l_ i_3).At) (IntKind.wrap .i64 ((gt l_ i_3).Times+1)) ((gt l_ i_3).Cycles) ((gt l_ i_3).Lost))) i_3).Times) (IntKind.wrap .i64 ((gt (st l_ i_3 (prof_Spot.mk ((gt l_ i_3).At) (IntKind.wrap .i64 ((gt l_ i_3).Times+1)) ((gt l_ i_3).Cycles) ((gt l_ i_3).Lost))) i_3).Cycles+own_2)) ((gt (st l_ i_3 (prof_Spot.mk ((gt l_ i_3).At) (IntKind.wrap .i64 ((gt l_ i_3).Times+1)) ((gt l_ i_3).Cycles) ((gt l_ i_3).Lost))) i_3).Lost))) i_3 (prof_Spot.mk ((gt (st (st l_ i_3 (prof_Spot.mk ((gt l_ i_3).At) (IntKind.wrap .i64 ((gt l_ i_3).Times+1)) ((gt l_ i_3).Cycles) ((gt l_ i_3).Lost))) i_3 (prof_Spot.mk ((gt (st l_ i_3 (prof_Spot.mk ((gt l_ i_3).At) (IntKind.wrap .i64 ((gt l_ i_3).Times+1)) ((gt l_ i_3).Cycles) ((gt l_ i_3).Lost))) i_3).At) ((gt (st l_ i_3 (prof_Spot.mk ((gt l_ i_3).At) (IntKind.wrap .i64 ((gt l_ i_3).Times+1)) ((gt l_ i_3).Cycles) ((gt l_ i_3).Lost))) i_3).Times) (IntKind.wrap .i64 ((gt (st l_ i_3 (prof_Spot.mk ((gt l_ i_3).At) (IntKind.wrap .i64 ((gt l_ i_3).Times+1)) ((gt l_ i_3).Cycles) ((gt l_ i_3).Lost))) i_3).Cycles+own_2)) ((gt (st l_ i_3 (prof_Spot.mk ((gt l_ i_3).At) (IntKind.wrap .i64 ((gt l_ i_3).Times+1)) ((gt l_ i_3).Cycles) ((gt l_ i_3).Lost))) i_3).Lost))) i_3).At) ((gt (st (st l_ i_3 (prof_Spot.mk ((gt l_ i_3).At) (IntKind.wrap .i64 ((gt l_ i_3).Times+1)) ((gt l_ i_3).Cycles) ((gt l_ i_3).Lost))) i_3 (prof_Spot.mk ((gt (st l_ i_3 (prof_Spot.mk ((gt l_ i_3).At) (IntKind.wrap .i64 ((gt l_ i_3).Times+1)) ((gt l_ i_3).Cycles) ((gt l_ i_3).Lost))) i_3).At) ((gt (st l_ i_3 (prof_Spot.mk ((gt l_ i_3).At) (IntKind.wrap .i64 ((gt l_ i_3).Times+1)) ((gt l_ i_3).Cycles) ((gt l_ i_3).Lost))) i_3).Times) (IntKind.wrap .i64 ((gt (st l_ i_3 (prof_Spot.mk ((gt l_ i_3).At) (IntKind.wrap .i64 ((gt l_ i_3).Times+1)) ((gt l_ i_3).Cycles) ((gt l_ i_3).Lost))) i_3).Cycles+own_2)) ((gt (st l_ i_3 (prof_Spot.mk ((gt l_ i_3).At) (IntKind.wrap .i64 ((gt l_ i_3).Times+1)) ((gt l_ i_3).Cycles) ((gt l_ i_3).Lost))) i_3).Lost))) i_3).Times) ((gt (st (st l_ i_3 (prof_Spot.mk ((gt l_ i_3).At) (IntKind.wrap .i64 ((gt l_ i_3).Times+1)) ((gt l_ i_3).Cycles) ((gt l_ i_3).Lost))) i_3 (prof_Spot.mk ((gt (st l_ i_3 (prof_Spot.mk ((gt l_ i_3).At) (IntKind.wrap .i64 ((gt l_ i_3).Times+1)) ((gt l_ i_3).Cycles) ((gt l_ i_3).Lost))) i_3).At) ((gt (st l_ i_3 (prof_Spot.mk ((gt l_ i_3).At) (IntKind.wrap .i64 ((gt l_ i_3).Times+1)) ((gt l_ i_3).Cycles) ((gt l_ i_3).Lost))) i_3).Times) (IntKind.wrap .i64 ((gt (st l_ i_3 (prof_Spot.mk ((gt l_ i_3).At) (IntKind.wrap .i64 ((gt l_ i_3).Times+1)) ((gt l_ i_3).Cycles) ((gt l_ i_3).Lost))) i_3).Cycles+own_2)) ((gt (st l_ i_3 (prof_Spot.mk ((gt l_ i_3).At) (IntKind.wrap .i64 ((gt l_ i_3).Times+1)) ((gt l_ i_3).Cycles) ((gt l_ i_3).Lost))) i_3).Lost))) i_3).Cycles) (IntKind.wrap .i64 ((gt (st (st l_ i_3 (prof_Spot.mk ((gt l_ i_3).At) (IntKind.wrap .i64 ((gt l_ i_3).Times+1)) ((gt l_ i_3).Cycles) ((gt l_ i_3).Lost))) i_3 (prof_Spot.mk ((gt (st l_ i_3 (prof_Spot.mk ((gt l_ i_3).At) (IntKind.wrap .i64 ((gt l_ i_3).Times+1)) ((gt l_ i_3).Cycles) ((gt l_ i_3).Lost))) i_3).At) ((gt (st l_ i_3 (prof_Spot.mk ((gt l_ i_3).At) (IntKind.wrap .i64 ((gt l_ i_3).Times+1)) ((gt l_ i_3).Cycles) ((gt l_ i_3).Lost))) i_3).Times) (IntKind.wrap .i64 ((gt (st l_ i_3 (prof_Spot.mk ((gt l_ i_3).At) (IntKind.wrap .i64 ((gt l_ i_3).Times+1)) ((gt l_ i_3).Cycles) ((gt l_ i_3).Lost))) i_3).Cycles+own_2)) ((gt (st l_ i_3 (prof_Spot.mk ((gt l_ i_3).At) (IntKind.wrap .i64 ((gt l_ i_3).Times+1)) ((gt l_ i_3).Cycles) ((gt l_ i_3).Lost))) i_3).Lost))) i_3).Lost+(IntKind.wrap .i64 ((ln recs_) - own_2))))))) (by kernel_rfl) (st_len.trans (st_len.trans (st_len.trans rfl))) (live_grow (by kernel_rfl)))))
          · have h:=if_f h hc9
            refine k_skip ?_
            refine k_b ?_
            refine k_c ?_
            refine k_reg ?_
            refine mops_en hf8 (by kernel_rfl) fun f9 hf9 => ?_
            refine k_l ?_
            exact ih _ _ ⟨(IntKind.wrap .i64 (i_3+1)),h,FOk_of [1,4,5,6,8,9] hf9 (by kernel_rfl),(by kernel_rfl)⟩
        · have h:=if_f h hc7
          refine k_exit ?_
          refine x_c nofun ?_
          refine x_l nofun ?_
          refine x_b ?_
          refine k_hp (L':=[⟨0,.grow,4,cat prof_Spot.v ([]:List prof_Spot)⟩,⟨0,.grow,4,cat prof_Spot.v l_⟩]) (by kernel_rfl) ?_
          exact hgo1  (Option.some.inj h) _ (FOk_of [1,4,5,6,8] hf3 (by kernel_rfl))
  refine k_loop BIG ?_
  refine loop_ind (fun n f L=>∃ (own_1:Int) (at_1:Int) (i_1:Int),spinetlaw53_add_l0 recs_ n own_1 at_1 i_1=some o0∧FOk f [⟨0,[],.sl false l_.length (cat prof_Spot.v l_)⟩,⟨1,[],.sl false recs_.length (cat api_Rec.v recs_)⟩,⟨4,[],.ref 0 0 0 0⟩,⟨5,[],.s (.int .i64 own_1)⟩,⟨6,[],.s (.int .u16 at_1)⟩,⟨7,[],.s (.int .i64 i_1)⟩]∧L=[⟨0,.grow,4,cat prof_Spot.v ([]:List prof_Spot)⟩]) ?_ ?_ BIG _ _ ⟨(0),(0),(IntKind.wrap .i64 ((ln recs_) - 1)),hx0,FOk_of [0,1,4,5,6,7] hf3 (by kernel_rfl),(by kernel_rfl)⟩
  · rintro f L ⟨own_1,at_1,i_1,h,_⟩
    cases (show (none:Option _)=some _ from h)
  · rintro n0 R0 ih f L ⟨own_1,at_1,i_1,h,hf,rfl⟩
    rw [spinetlaw53_add_l0] at h
    refine k_seq ?_
    refine k_seq ?_
    refine k_reg ?_
    refine mops_en hf (by kernel_rfl) fun f1 hf1 => ?_
    refine k_c ?_
    refine k_cond hf1 (t:=(decide (0≤i_1))) (by kernel_rfl) (fun hc1 => ?_) (fun hc1 => ?_)
    · have h:=if_t h hc1
      refine k_skip ?_
      refine k_c ?_
      refine k_seq ?_
      refine k_block ?_
      refine k_seq ?_
      refine k_reg ?_
      refine mops_sg 2 hf1 (by kernel_rfl) fun f2 hf2 => ?_
      obtain ⟨c2,h⟩:=as_ok h
      refine mops_adv rfl (v:=.ip ((cat api_Rec.v recs_).drop ((i_1:Int).toNat*9))) hf2 (by kernel_rfl) (e_ias (n:=recs_.length) (xv:=.sl false recs_.length (cat api_Rec.v recs_)) (k:=.i64) (iv:=i_1) (p:=.ip ((cat api_Rec.v recs_).drop ((i_1:Int).toNat*9))) (by kernel_rfl) (by kernel_rfl) (by kernel_rfl) (by kernel_rfl) c2) fun f3 hf3 => ?_
      refine mops_sg 1 hf3 (by kernel_rfl) fun f4 hf4 => ?_
      refine mops_adv rfl (v:=.s (.bool (gt recs_ i_1).Mine)) hf4 (by kernel_rfl) (e_load_ip (g:=api_Rec.v) (l:=recs_) (iv:=i_1) [8] (by kernel_rfl) c2 (by kernel_rfl) (by kernel_rfl)) fun f5 hf5 => ?_
      refine mops_en hf5 (by kernel_rfl) fun f6 hf6 => ?_
      refine k_c ?_
      refine k_cond hf6 (t:=(gt recs_ i_1).Mine) (by kernel_rfl) (fun hc3 => ?_) (fun hc3 => ?_)
      · have h:=if_t h hc3
        refine k_seq ?_
        refine k_reg ?_
        refine mops_en hf6 (by kernel_rfl) fun f7 hf7 => ?_
        refine k_c ?_
        refine k_reg ?_
        refine mops_sg 2 hf7 (by kernel_rfl) fun f8 hf8 => ?_
        obtain ⟨c4,h⟩:=as_ok h
        refine mops_adv rfl (v:=.ip ((cat api_Rec.v recs_).drop ((i_1:Int).toNat*9))) hf8 (by kernel_rfl) (e_ias (n:=recs_.length) (xv:=.sl false recs_.length (cat api_Rec.v recs_)) (k:=.i64) (iv:=i_1) (p:=.ip ((cat api_Rec.v recs_).drop ((i_1:Int).toNat*9))) (by kernel_rfl) (by kernel_rfl) (by kernel_rfl) (by kernel_rfl) c4) fun f9 hf9 => ?_
        refine mops_sg 1 hf9 (by kernel_rfl) fun f10 hf10 => ?_
        refine mops_adv rfl (v:=.s (.int .u16 (gt recs_ i_1).Addr)) hf10 (by kernel_rfl) (e_load_ip (g:=api_Rec.v) (l:=recs_) (iv:=i_1) [0] (by kernel_rfl) c4 (by kernel_rfl) (by kernel_rfl)) fun f11 hf11 => ?_
        refine mops_en hf11 (by kernel_rfl) fun f12 hf12 => ?_
        refine k_b ?_
        refine k_c ?_
        refine k_reg ?_
        refine mops_en hf12 (by kernel_rfl) fun f13 hf13 => ?_
        refine k_l ?_
        exact ih _ _ ⟨(IntKind.wrap .i64 (own_1+1)),((gt recs_ i_1).Addr),(IntKind.wrap .i64 (i_1 - 1)),h,FOk_of [0,1,4,5,6,7] hf13 (by kernel_rfl),(by kernel_rfl)⟩
      · have h:=if_f h hc3
        refine k_skip ?_
        refine k_b ?_
        refine k_c ?_
        refine k_reg ?_
        refine mops_en hf6 (by kernel_rfl) fun f7 hf7 => ?_
        refine k_l ?_
        exact ih _ _ ⟨own_1,at_1,(IntKind.wrap .i64 (i_1 - 1)),h,FOk_of [0,1,4,5,6,7] hf7 (by kernel_rfl),(by kernel_rfl)⟩
    · have h:=if_f h hc1
      refine k_exit ?_
      refine x_c nofun ?_
      refine x_l nofun ?_
      refine x_b ?_
      refine k_hp (L':=[⟨0,.grow,4,cat prof_Spot.v ([]:List prof_Spot)⟩]) (by kernel_rfl) ?_
      exact hgo0 own_1 at_1 (Option.some.inj h) _ (FOk_of [0,1,4,5,6] hf1 (by kernel_rfl))
def spinetlaw53_before_i0:List Op1:=[(oE 2 (.box (.t 0)) []),(oE 3 (.box (.t 1)) []),(oM 4 (.k (.bool false)) [])]
def spinetlaw53_before_i1:List Op1:=[(oE 5 (.fld 2 (.t 2)) []),(oE 6 (.load false 1 (.t 5)) [0]),(oE 7 (.fld 2 (.t 3)) []),(oE 8 (.load false 1 (.t 7)) [2]),(oE 9 (.bin .gtr (.t 6) (.t 8)) [1,3]),(oM 10 (.t 9) [4]),(oG 11 (.fld 2 (.t 2)) 10 false [5]),(oG 12 (.load false 1 (.t 11)) 10 false [6,5]),(oG 13 (.fld 2 (.t 3)) 10 false [5]),(oG 14 (.load false 1 (.t 13)) 10 false [8,5]),(oG 15 (.bin .eql (.t 12) (.t 14)) 10 false [7,9,5]),(oG 16 (.mv (.t 15)) 10 false [10,5,5]),(oG 17 (.fld 0 (.t 2)) 16 true [11]),(oG 18 (.load false 1 (.t 17)) 16 true [12,11]),(oG 19 (.fld 0 (.t 3)) 16 true [11]),(oG 20 (.load false 1 (.t 19)) 16 true [14,11]),(oG 21 (.bin .lss (.t 18) (.t 20)) 16 true [13,15,11]),(oG 22 (.pick (.t 16) (.t 21) (.k (.bool false))) 10 false [11,16,5]),(oE 23 (.pick (.t 10) (.k (.bool true)) (.t 22)) [5,17]),(oM 4 (.t 23) [18,11,0,1,2,3,4,5,6,7,8,9,10,11,12,13,14,15,16,17,18])]
def spinetlaw53_before_i2:IR:=.ret
def spinetlaw53_before_i3:IR:=(.seq (.reg false spinetlaw53_before_i1) spinetlaw53_before_i2)
def spinetlaw53_before_ir:IR:=(.seq (.reg false spinetlaw53_before_i0) spinetlaw53_before_i3)
theorem spinetlaw53_before_cfn:cFn Try.prog 6=some (spinetlaw53_before_ir,[(.t 4)],24):=by kernel_rfl
def spinetlaw53_before_V (r:(Bool)):V:=.s (.bool r)
def spinetlaw53_before_C (r:(Bool)):X→Fr→Hp→Prop:=FinL [(.t 4)] [] (spinetlaw53_before_V r) []
theorem spinetlaw53_before_ok (a_:prof_Spot) (b_:prof_Spot) (r:(Bool)) (h:spinetlaw53_before a_ b_=some r):Pure Try.prog 6 [.agg [.s (.int .u16 a_.At),.s (.int .i64 a_.Times),.s (.int .i64 a_.Cycles),.s (.int .i64 a_.Lost)],.agg [.s (.int .u16 b_.At),.s (.int .i64 b_.Times),.s (.int .i64 b_.Cycles),.s (.int .i64 b_.Lost)]] (spinetlaw53_before_V r):=by
  refine ConL.of spinetlaw53_before_cfn (Nat.le_of_ble_eq_true (by kernel_rfl)) (Nat.le_of_ble_eq_true (by kernel_rfl)) ?_
  refine k_start ?_
  show dwv Try.prog [] spinetlaw53_before_ir (kont Try.prog [] (spinetlaw53_before_C r) []) (fr0 [.agg [.s (.int .u16 a_.At),.s (.int .i64 a_.Times),.s (.int .i64 a_.Cycles),.s (.int .i64 a_.Lost)],.agg [.s (.int .u16 b_.At),.s (.int .i64 b_.Times),.s (.int .i64 b_.Cycles),.s (.int .i64 b_.Lost)]]) []
  have hf:FOk (fr0 [.agg [.s (.int .u16 a_.At),.s (.int .i64 a_.Times),.s (.int .i64 a_.Cycles),.s (.int .i64 a_.Lost)],.agg [.s (.int .u16 b_.At),.s (.int .i64 b_.Times),.s (.int .i64 b_.Cycles),.s (.int .i64 b_.Lost)]]) [⟨0,[],.agg [.s (.int .u16 a_.At),.s (.int .i64 a_.Times),.s (.int .i64 a_.Cycles),.s (.int .i64 a_.Lost)]⟩,⟨1,[],.agg [.s (.int .u16 b_.At),.s (.int .i64 b_.Times),.s (.int .i64 b_.Cycles),.s (.int .i64 b_.Lost)]⟩]:=⟨⟨fun _=>rfl,fun h=>(h trivial).elim⟩,⟨fun _=>rfl,fun h=>(h trivial).elim⟩,trivial⟩
  generalize fr0 [.agg [.s (.int .u16 a_.At),.s (.int .i64 a_.Times),.s (.int .i64 a_.Cycles),.s (.int .i64 a_.Lost)],.agg [.s (.int .u16 b_.At),.s (.int .i64 b_.Times),.s (.int .i64 b_.Cycles),.s (.int .i64 b_.Lost)]]=f at hf ⊢
  unfold spinetlaw53_before at h
  refine k_seq ?_
  refine k_reg ?_
  refine mops_en hf (by kernel_rfl) fun f1 hf1 => ?_
  refine k_c ?_
  refine k_seq ?_
  refine k_reg ?_
  refine mops_en hf1 (by kernel_rfl) fun f2 hf2 => ?_
  refine k_c ?_
  refine k_ret ?_
  obtain rfl:=Option.some.inj h
  exact k_fin (fin_ret (.inl rfl) hf2 (vs:=[.s (.bool ((decide (b_.Cycles < a_.Cycles))||((a_.Cycles == b_.Cycles)&&(decide (a_.At < b_.At)))))]) (by kernel_rfl) (SettL.pure (FzL.stat rfl)))
end Go.Proofs.YtoemlgdlejkliaaK
