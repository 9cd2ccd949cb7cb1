/- The Go functions come to the functions over typed data. Printed by a program of this work. -/
import Derived.Test.YtoemlgdlejkliaaF
import Derived.Test.YtoemlgdlejkliaaProg
import Derived.Test.YtoemlgdlejkliaaPg
namespace Go.Proofs.YtoemlgdlejkliaaK
set_option linter.unusedVariables false
set_option linter.unusedSimpArgs false
set_option maxHeartbeats 4000000
open Go.RowKit
attribute [local irreducible] dwv mops lops lqops lwops kont iter run runK rk okK ex E1 vals val chain chB sel resF
def slices_Concat_sl_prof_Spot_prof_Spot_i0:List Op1:=[(oE 2 (.nilg 4) [])]
def slices_Concat_sl_prof_Spot_prof_Spot_i1:List Op1:=[(oM 3 (.k (.int .i64 0)) [])]
def slices_Concat_sl_prof_Spot_prof_Spot_i2:List Op1:=[(oM 9 (.t 0) []),(oE 10 (.len (.t 9)) [0]),(oM 11 (.k (.int .i64 0)) [])]
def slices_Concat_sl_prof_Spot_prof_Spot_i3:List Op1:=[(oE 12 (.bin .lss (.t 11) (.t 10)) [])]
def slices_Concat_sl_prof_Spot_prof_Spot_i4:List Op1:=[(oE 13 (.ias 1 (.t 9) (.t 11)) []),(oE 14 (.load false 1 (.t 13)) [0]),(oM 5 (.t 14) [1,0,1])]
def slices_Concat_sl_prof_Spot_prof_Spot_i5:List Op1:=[(oM 15 (.t 3) []),(oM 16 (.t 5) []),(oE 17 (.len (.t 16)) [1]),(oE 18 (.bin .add (.t 15) (.t 17)) [0,2]),(oM 3 (.t 18) [3,0,1,2,3])]
def slices_Concat_sl_prof_Spot_prof_Spot_i6:List Op1:=[(oM 19 (.t 3) []),(oE 20 (.bin .lss (.t 19) (.k (.int .i64 0))) [0])]
def slices_Concat_sl_prof_Spot_prof_Spot_i7:List Op1:=[(oE 21 (.mki 9 (.k (.string ⟨#[108,101,110,32,111,117,116,32,111,102,32,114,97,110,103,101]⟩))) []),(oN (.lens (.k (.bool false))) [0])]
def slices_Concat_sl_prof_Spot_prof_Spot_i8:IR:=(.cond (.t 20) (.reg false slices_Concat_sl_prof_Spot_prof_Spot_i7) .skip)
def slices_Concat_sl_prof_Spot_prof_Spot_i9:IR:=(.seq (.reg false slices_Concat_sl_prof_Spot_prof_Spot_i6) slices_Concat_sl_prof_Spot_prof_Spot_i8)
def slices_Concat_sl_prof_Spot_prof_Spot_i10:IR:=(.seq (.reg false slices_Concat_sl_prof_Spot_prof_Spot_i5) slices_Concat_sl_prof_Spot_prof_Spot_i9)
def slices_Concat_sl_prof_Spot_prof_Spot_i11:List Op1:=[(oE 22 (.bin .add (.t 11) (.k (.int .i64 1))) []),(oM 11 (.t 22) [0])]
def slices_Concat_sl_prof_Spot_prof_Spot_i12:IR:=(.reg false slices_Concat_sl_prof_Spot_prof_Spot_i11)
def slices_Concat_sl_prof_Spot_prof_Spot_i13:IR:=(.seq (.block 1 (.seq (.reg false slices_Concat_sl_prof_Spot_prof_Spot_i4) slices_Concat_sl_prof_Spot_prof_Spot_i10)) slices_Concat_sl_prof_Spot_prof_Spot_i12)
def slices_Concat_sl_prof_Spot_prof_Spot_i14:IR:=(.seq (.cond (.t 12) .skip (.exit 0)) slices_Concat_sl_prof_Spot_prof_Spot_i13)
def slices_Concat_sl_prof_Spot_prof_Spot_i15:IR:=(.seq (.reg false slices_Concat_sl_prof_Spot_prof_Spot_i3) slices_Concat_sl_prof_Spot_prof_Spot_i14)
def slices_Concat_sl_prof_Spot_prof_Spot_i16:IR:=(.block 0 (.loop slices_Concat_sl_prof_Spot_prof_Spot_i15))
def slices_Concat_sl_prof_Spot_prof_Spot_i17:List Op1:=[(oM 23 (.t 3) []),(oC 24 18 [(.k (.slice none 0 0)),(.t 23)] [0]),(oM 6 (.t 24) [1,1,0,1])]
def slices_Concat_sl_prof_Spot_prof_Spot_i18:List Op1:=[(oM 25 (.t 0) []),(oE 26 (.len (.t 25)) [0]),(oM 27 (.k (.int .i64 0)) [])]
def slices_Concat_sl_prof_Spot_prof_Spot_i19:List Op1:=[(oE 28 (.bin .lss (.t 27) (.t 26)) [])]
def slices_Concat_sl_prof_Spot_prof_Spot_i20:List Op1:=[(oE 29 (.ias 1 (.t 25) (.t 27)) []),(oE 30 (.load false 1 (.t 29)) [0]),(oM 8 (.t 30) [1,0,1])]
def slices_Concat_sl_prof_Spot_prof_Spot_i21:List Op1:=[(oM 31 (.t 6) []),(oM 32 (.t 8) []),(oE 33 (.app 35 4 32 (.t 31) (.t 32)) [0,1]),(oM 6 (.t 33) [2,2,0,1,2])]
def slices_Concat_sl_prof_Spot_prof_Spot_i22:IR:=(.reg false slices_Concat_sl_prof_Spot_prof_Spot_i21)
def slices_Concat_sl_prof_Spot_prof_Spot_i23:List Op1:=[(oE 34 (.bin .add (.t 27) (.k (.int .i64 1))) []),(oM 27 (.t 34) [0])]
def slices_Concat_sl_prof_Spot_prof_Spot_i24:IR:=(.reg false slices_Concat_sl_prof_Spot_prof_Spot_i23)
def slices_Concat_sl_prof_Spot_prof_Spot_i25:IR:=(.seq (.block 3 (.seq (.reg false slices_Concat_sl_prof_Spot_prof_Spot_i20) slices_Concat_sl_prof_Spot_prof_Spot_i22)) slices_Concat_sl_prof_Spot_prof_Spot_i24)
def slices_Concat_sl_prof_Spot_prof_Spot_i26:IR:=(.seq (.cond (.t 28) .skip (.exit 2)) slices_Concat_sl_prof_Spot_prof_Spot_i25)
def slices_Concat_sl_prof_Spot_prof_Spot_i27:IR:=(.seq (.reg false slices_Concat_sl_prof_Spot_prof_Spot_i19) slices_Concat_sl_prof_Spot_prof_Spot_i26)
def slices_Concat_sl_prof_Spot_prof_Spot_i28:IR:=(.block 2 (.loop slices_Concat_sl_prof_Spot_prof_Spot_i27))
def slices_Concat_sl_prof_Spot_prof_Spot_i29:List Op1:=[(oM 35 (.t 6) []),(oM 2 (.t 35) [0,0])]
def slices_Concat_sl_prof_Spot_prof_Spot_i30:IR:=.ret
def slices_Concat_sl_prof_Spot_prof_Spot_i31:IR:=(.seq (.reg false slices_Concat_sl_prof_Spot_prof_Spot_i29) slices_Concat_sl_prof_Spot_prof_Spot_i30)
def slices_Concat_sl_prof_Spot_prof_Spot_i32:IR:=(.seq (.seq (.reg false slices_Concat_sl_prof_Spot_prof_Spot_i18) slices_Concat_sl_prof_Spot_prof_Spot_i28) slices_Concat_sl_prof_Spot_prof_Spot_i31)
def slices_Concat_sl_prof_Spot_prof_Spot_i33:IR:=(.seq (.reg false slices_Concat_sl_prof_Spot_prof_Spot_i17) slices_Concat_sl_prof_Spot_prof_Spot_i32)
def slices_Concat_sl_prof_Spot_prof_Spot_i34:IR:=(.seq (.seq (.reg false slices_Concat_sl_prof_Spot_prof_Spot_i2) slices_Concat_sl_prof_Spot_prof_Spot_i16) slices_Concat_sl_prof_Spot_prof_Spot_i33)
def slices_Concat_sl_prof_Spot_prof_Spot_i35:IR:=(.seq (.reg false slices_Concat_sl_prof_Spot_prof_Spot_i1) slices_Concat_sl_prof_Spot_prof_Spot_i34)
def slices_Concat_sl_prof_Spot_prof_Spot_ir:IR:=(.seq (.reg false slices_Concat_sl_prof_Spot_prof_Spot_i0) slices_Concat_sl_prof_Spot_prof_Spot_i35)
theorem slices_Concat_sl_prof_Spot_prof_Spot_cfn:cFn Try.prog 7=some (slices_Concat_sl_prof_Spot_prof_Spot_ir,[(.t 2)],36):=by kernel_rfl
def slices_Concat_sl_prof_Spot_prof_Spot_V (r:((List prof_Spot))):V:=.sl false r.length (cat prof_Spot.v r)
def slices_Concat_sl_prof_Spot_prof_Spot_C (r:((List prof_Spot))):X→Fr→Hp→Prop:=FinL [(.t 2)] [] (slices_Concat_sl_prof_Spot_prof_Spot_V r) []
theorem slices_Concat_sl_prof_Spot_prof_Spot_ok (slices_:(List (List prof_Spot))) (r:((List prof_Spot))) (h:slices_Concat_sl_prof_Spot_prof_Spot slices_=some r):Pure Try.prog 7 [.sl false slices_.length (cat sl_prof_Spot slices_)] (slices_Concat_sl_prof_Spot_prof_Spot_V r):=by
  refine ConL.of slices_Concat_sl_prof_Spot_prof_Spot_cfn (Nat.le_of_ble_eq_true (by kernel_rfl)) (Nat.le_of_ble_eq_true (by kernel_rfl)) ?_
  refine k_start ?_
  show dwv Try.prog [] slices_Concat_sl_prof_Spot_prof_Spot_ir (kont Try.prog [] (slices_Concat_sl_prof_Spot_prof_Spot_C r) []) (fr0 [.sl false slices_.length (cat sl_prof_Spot slices_)]) []
  have hf:FOk (fr0 [.sl false slices_.length (cat sl_prof_Spot slices_)]) [⟨0,[],.sl false slices_.length (cat sl_prof_Spot slices_)⟩]:=⟨⟨fun _=>rfl,fun h=>(h trivial).elim⟩,trivial⟩
  generalize fr0 [.sl false slices_.length (cat sl_prof_Spot slices_)]=f at hf ⊢
  unfold slices_Concat_sl_prof_Spot_prof_Spot at h
  refine k_seq ?_
  refine k_reg ?_
  refine mops_en hf (by kernel_rfl) fun f1 hf1 => ?_
  refine k_c ?_
  refine k_seq ?_
  refine k_reg ?_
  refine mops_en hf1 (by kernel_rfl) fun f2 hf2 => ?_
  refine k_c ?_
  refine k_seq ?_
  refine k_seq ?_
  refine k_reg ?_
  refine mops_en hf2 (by kernel_rfl) fun f3 hf3 => ?_
  refine k_c ?_
  refine k_block ?_
  obtain ⟨o0,hx0,h⟩:=Option.bind_eq_some_iff.1 h
  have hgo0:∀ (size_2:Int),size_2=o0→∀ f,FOk f [⟨0,[],.sl false slices_.length (cat sl_prof_Spot slices_)⟩,⟨2,[],.ref 0 0 0 0⟩,⟨3,[],.s (.int .i64 size_2)⟩]→kont Try.prog [] (slices_Concat_sl_prof_Spot_prof_Spot_C r) ((.c slices_Concat_sl_prof_Spot_prof_Spot_i33)::[]) .normal f [⟨0,.grow,4,cat prof_Spot.v ([]:List prof_Spot)⟩]:=by
    intro size_2 e f hf
    subst e
    refine k_c ?_
    refine k_seq ?_
    refine k_reg ?_
    refine mops_sg 1 hf (by kernel_rfl) fun f1 hf1 => ?_
    obtain ⟨c4,h⟩:=as_ok h
    refine mops_call rfl hf1 (av:=[.s (.slice none 0 0),.s (.int .i64 size_2)]) (by kernel_rfl) (v:=.ref 1 0 0 0) (L':=[⟨0,.grow,4,cat prof_Spot.v ([]:List prof_Spot)⟩,⟨0,.grow,4,cat prof_Spot.v ([]:List prof_Spot)⟩]) (CalL.told (L0:=[⟨0,.grow,4,cat prof_Spot.v ([]:List prof_Spot)⟩]) (spots_grow (α:=prof_Spot) prof_Spot.v size_2 (by kernel_rfl) c4) (by kernel_rfl) (by kernel_rfl) (by kernel_rfl)) (by intro h; cases h) fun f2 hf2 => ?_
    refine mops_en hf2 (by kernel_rfl) fun f3 hf3 => ?_
    refine k_c ?_
    refine k_seq ?_
    refine k_seq ?_
    refine k_reg ?_
    refine mops_en hf3 (by kernel_rfl) fun f4 hf4 => ?_
    refine k_c ?_
    refine k_block ?_
    obtain ⟨o1,hx1,h⟩:=Option.bind_eq_some_iff.1 h
    have hgo1:∀ (l_2:(List prof_Spot)) (v_2:Nat),l_2=o1→∀ f,FOk f [⟨2,[],.ref 0 0 0 0⟩,⟨6,[],.ref 1 v_2 0 l_2.length⟩]→kont Try.prog [] (slices_Concat_sl_prof_Spot_prof_Spot_C r) ((.c slices_Concat_sl_prof_Spot_prof_Spot_i31)::[]) .normal f [⟨0,.grow,4,cat prof_Spot.v ([]:List prof_Spot)⟩,⟨v_2,.grow,4,cat prof_Spot.v l_2⟩]:=by
      intro l_2 v_2 e f hf
      subst e
      refine k_c ?_
      refine k_seq ?_
      refine k_reg ?_
      refine mops_en hf (by kernel_rfl) fun f1 hf1 => ?_
      refine k_c ?_
      refine k_ret ?_
      obtain rfl:=Option.some.inj h
      exact k_fin (fin_ret (.inl rfl) hf1 (vs:=[.ref 1 v_2 0 l_2.length]) (by kernel_rfl) (SettL.pure (FzL.whole (g:=prof_Spot.v) (kd:=.grow) (l:=l_2) (by kernel_rfl) rfl (live_grow (by kernel_rfl)))))
    refine k_loop BIG ?_
    refine loop_ind (fun n f L=>∃ (l_1:(List prof_Spot)) (t_3:Int) (v_1:Nat),slices_Concat_sl_prof_Spot_prof_Spot_l1 slices_ n l_1 t_3=some o1∧FOk f [⟨2,[],.ref 0 0 0 0⟩,⟨6,[],.ref 1 v_1 0 l_1.length⟩,⟨25,[],.sl false slices_.length (cat sl_prof_Spot slices_)⟩,⟨26,[],.s (.int .i64 (ln slices_))⟩,⟨27,[],.s (.int .i64 t_3)⟩]∧L=[⟨0,.grow,4,cat prof_Spot.v ([]:List prof_Spot)⟩,⟨v_1,.grow,4,cat prof_Spot.v l_1⟩]) ?_ ?_ BIG _ _ ⟨([]:List prof_Spot),(0),(0),hx1,FOk_of [2,6,25,26,27] hf4 (by kernel_rfl),(by kernel_rfl)⟩
    · rintro f L ⟨l_1,t_3,v_1,h,_⟩
      cases (show (none:Option _)=some _ from h)
    · rintro n1 R1 ih f L ⟨l_1,t_3,v_1,h,hf,rfl⟩
      rw [slices_Concat_sl_prof_Spot_prof_Spot_l1] at h
      refine k_seq ?_
      refine k_reg ?_
      refine mops_en hf (by kernel_rfl) fun f1 hf1 => ?_
      refine k_c ?_
      refine k_seq ?_
      refine k_cond hf1 (t:=(decide (t_3 < (ln slices_)))) (by kernel_rfl) (fun hc5 => ?_) (fun hc5 => ?_)
      · have h:=if_t h hc5
        refine k_skip ?_
        refine k_c ?_
        refine k_seq ?_
        refine k_block ?_
        refine k_seq ?_
        refine k_reg ?_
        obtain ⟨c6,h⟩:=as_ok h
        refine mops_adv rfl (v:=.ip ((cat sl_prof_Spot slices_).drop ((t_3:Int).toNat*1))) hf1 (by kernel_rfl) (e_ias (n:=slices_.length) (xv:=.sl false slices_.length (cat sl_prof_Spot slices_)) (k:=.i64) (iv:=t_3) (p:=.ip ((cat sl_prof_Spot slices_).drop ((t_3:Int).toNat*1))) (by kernel_rfl) (by kernel_rfl) (by kernel_rfl) (by kernel_rfl) c6) fun f2 hf2 => ?_
        refine mops_adv rfl (v:=.sl false (gt slices_ t_3).length (cat prof_Spot.v (gt slices_ t_3))) hf2 (by kernel_rfl) (e_load_ip (g:=sl_prof_Spot) (l:=slices_) (iv:=t_3) [] (by kernel_rfl) c6 (by kernel_rfl) (by kernel_rfl)) fun f3 hf3 => ?_
        refine mops_en hf3 (by kernel_rfl) fun f4 hf4 => ?_
        refine k_c ?_
        refine k_reg ?_
        refine mops_sg 2 hf4 (by kernel_rfl) fun f5 hf5 => ?_
        obtain ⟨c7,h⟩:=as_ok h
        refine mops_adv rfl (v:=.ref 1 (v_1+1) 0 (l_1++(gt slices_ t_3)).length) hf5 (by kernel_rfl) (e_app (g:=prof_Spot.v) (l:=l_1) (l':=(gt slices_ t_3)) (b:=1) (ver:=v_1) (n:=l_1.length) rfl (by kernel_rfl) rfl (live_grow (by kernel_rfl)) (by kernel_rfl) (slc_ev (v:=.sl false (gt slices_ t_3).length (cat prof_Spot.v (gt slices_ t_3))) (by kernel_rfl) (slc_sl (g:=prof_Spot.v) (gt slices_ t_3))) c7) fun f6 hf6 => ?_
        refine mops_en hf6 (by kernel_rfl) fun f7 hf7 => ?_
        refine k_b ?_
        refine k_c ?_
        refine k_reg ?_
        refine mops_en hf7 (by kernel_rfl) fun f8 hf8 => ?_
        refine k_l ?_
        exact ih _ _ ⟨(l_1++(gt slices_ t_3)),(IntKind.wrap .i64 (t_3+1)),(v_1+1),h,FOk_of [2,6,25,26,27] hf8 (by kernel_rfl),(by kernel_rfl)⟩
      · have h:=if_f h hc5
        refine k_exit ?_
        refine x_c nofun ?_
        refine x_l nofun ?_
        refine x_b ?_
        refine k_hp (L':=[⟨0,.grow,4,cat prof_Spot.v ([]:List prof_Spot)⟩,⟨v_1,.grow,4,cat prof_Spot.v l_1⟩]) (by kernel_rfl) ?_
        exact hgo1 l_1 v_1 (Option.some.inj h) _ (FOk_of [2,6] hf1 (by kernel_rfl))
  refine k_loop BIG ?_
  refine loop_ind (fun n f L=>∃ (size_1:Int) (t_1:Int),slices_Concat_sl_prof_Spot_prof_Spot_l0 slices_ n size_1 t_1=some o0∧FOk f [⟨0,[],.sl false slices_.length (cat sl_prof_Spot slices_)⟩,⟨2,[],.ref 0 0 0 0⟩,⟨3,[],.s (.int .i64 size_1)⟩,⟨9,[],.sl false slices_.length (cat sl_prof_Spot slices_)⟩,⟨10,[],.s (.int .i64 (ln slices_))⟩,⟨11,[],.s (.int .i64 t_1)⟩]∧L=[⟨0,.grow,4,cat prof_Spot.v ([]:List prof_Spot)⟩]) ?_ ?_ BIG _ _ ⟨(0),(0),hx0,FOk_of [0,2,3,9,10,11] hf3 (by kernel_rfl),(by kernel_rfl)⟩
  · rintro f L ⟨size_1,t_1,h,_⟩
    cases (show (none:Option _)=some _ from h)
  · rintro n0 R0 ih f L ⟨size_1,t_1,h,hf,rfl⟩
    rw [slices_Concat_sl_prof_Spot_prof_Spot_l0] at h
    refine k_seq ?_
    refine k_reg ?_
    refine mops_en hf (by kernel_rfl) fun f1 hf1 => ?_
    refine k_c ?_
    refine k_seq ?_
    refine k_cond hf1 (t:=(decide (t_1 < (ln slices_)))) (by kernel_rfl) (fun hc1 => ?_) (fun hc1 => ?_)
    · have h:=if_t h hc1
      refine k_skip ?_
      refine k_c ?_
      refine k_seq ?_
      refine k_block ?_
      refine k_seq ?_
      refine k_reg ?_
      obtain ⟨c2,h⟩:=as_ok h
      refine mops_adv rfl (v:=.ip ((cat sl_prof_Spot slices_).drop ((t_1:Int).toNat*1))) hf1 (by kernel_rfl) (e_ias (n:=slices_.length) (xv:=.sl false slices_.length (cat sl_prof_Spot slices_)) (k:=.i64) (iv:=t_1) (p:=.ip ((cat sl_prof_Spot slices_).drop ((t_1:Int).toNat*1))) (by kernel_rfl) (by kernel_rfl) (by kernel_rfl) (by kernel_rfl) c2) fun f2 hf2 => ?_
      refine mops_adv rfl (v:=.sl false (gt slices_ t_1).length (cat prof_Spot.v (gt slices_ t_1))) hf2 (by kernel_rfl) (e_load_ip (g:=sl_prof_Spot) (l:=slices_) (iv:=t_1) [] (by kernel_rfl) c2 (by kernel_rfl) (by kernel_rfl)) fun f3 hf3 => ?_
      refine mops_en hf3 (by kernel_rfl) fun f4 hf4 => ?_
      refine k_c ?_
      refine k_seq ?_
      refine k_reg ?_
      refine mops_en hf4 (by kernel_rfl) fun f5 hf5 => ?_
      refine k_c ?_
      refine k_seq ?_
      refine k_reg ?_
      refine mops_en hf5 (by kernel_rfl) fun f6 hf6 => ?_
      refine k_c ?_
      refine k_cond hf6 (t:=(decide ((IntKind.wrap .i64 (size_1+(ln (gt slices_ t_1)))) < 0))) (by kernel_rfl) (fun hc3 => ?_) (fun hc3 => ?_)
      · have h:=if_t h hc3
        cases h
      · have h:=if_f h hc3
        refine k_skip ?_
        refine k_b ?_
        refine k_c ?_
        refine k_reg ?_
        refine mops_en hf6 (by kernel_rfl) fun f7 hf7 => ?_
        refine k_l ?_
        exact ih _ _ ⟨(IntKind.wrap .i64 (size_1+(ln (gt slices_ t_1)))),(IntKind.wrap .i64 (t_1+1)),h,FOk_of [0,2,3,9,10,11] hf7 (by kernel_rfl),(by kernel_rfl)⟩
    · have h:=if_f h hc1
      refine k_exit ?_
      refine x_c nofun ?_
      refine x_l nofun ?_
      refine x_b ?_
      refine k_hp (L':=[⟨0,.grow,4,cat prof_Spot.v ([]:List prof_Spot)⟩]) (by kernel_rfl) ?_
      exact hgo0 size_1 (Option.some.inj h) _ (FOk_of [0,2,3] hf1 (by kernel_rfl))
def slices_Equal_sl_prof_Spot_prof_Spot_i0:List Op1:=[(oM 4 (.k (.bool false)) [])]
def slices_Equal_sl_prof_Spot_prof_Spot_i1:List Op1:=[(oM 6 (.t 0) []),(oE 7 (.len (.t 6)) [0]),(oM 8 (.t 1) []),(oE 9 (.len (.t 8)) [2]),(oE 10 (.bin .neq (.t 7) (.t 9)) [1,3])]
def slices_Equal_sl_prof_Spot_prof_Spot_i2:List Op1:=[(oM 4 (.k (.bool false)) [])]
def slices_Equal_sl_prof_Spot_prof_Spot_i3:IR:=.ret
def slices_Equal_sl_prof_Spot_prof_Spot_i4:IR:=(.cond (.t 10) (.seq (.reg false slices_Equal_sl_prof_Spot_prof_Spot_i2) slices_Equal_sl_prof_Spot_prof_Spot_i3) .skip)
def slices_Equal_sl_prof_Spot_prof_Spot_i5:List Op1:=[(oM 11 (.t 0) []),(oE 12 (.len (.t 11)) [0]),(oM 13 (.k (.int .i64 0)) [])]
def slices_Equal_sl_prof_Spot_prof_Spot_i6:List Op1:=[(oE 14 (.bin .lss (.t 13) (.t 12)) [])]
def slices_Equal_sl_prof_Spot_prof_Spot_i7:List Op1:=[(oM 15 (.t 13) []),(oM 5 (.t 15) [0,0])]
def slices_Equal_sl_prof_Spot_prof_Spot_i8:List Op1:=[(oM 16 (.t 0) []),(oM 17 (.t 5) []),(oE 18 (.ias 4 (.t 16) (.t 17)) [0,1]),(oE 19 (.load true 4 (.t 18)) [2]),(oM 20 (.t 1) []),(oM 21 (.t 5) []),(oE 22 (.ias 4 (.t 20) (.t 21)) [4,5]),(oE 23 (.load true 4 (.t 22)) [6]),(oE 24 (.eqa true [.int,.int,.int,.int] (.t 19) (.t 23)) [3,7])]
def slices_Equal_sl_prof_Spot_prof_Spot_i9:List Op1:=[(oM 4 (.k (.bool false)) [])]
def slices_Equal_sl_prof_Spot_prof_Spot_i10:IR:=.ret
def slices_Equal_sl_prof_Spot_prof_Spot_i11:IR:=(.cond (.t 24) (.seq (.reg false slices_Equal_sl_prof_Spot_prof_Spot_i9) slices_Equal_sl_prof_Spot_prof_Spot_i10) .skip)
def slices_Equal_sl_prof_Spot_prof_Spot_i12:IR:=(.seq (.reg true slices_Equal_sl_prof_Spot_prof_Spot_i8) slices_Equal_sl_prof_Spot_prof_Spot_i11)
def slices_Equal_sl_prof_Spot_prof_Spot_i13:List Op1:=[(oE 25 (.bin .add (.t 13) (.k (.int .i64 1))) []),(oM 13 (.t 25) [0])]
def slices_Equal_sl_prof_Spot_prof_Spot_i14:IR:=(.reg false slices_Equal_sl_prof_Spot_prof_Spot_i13)
def slices_Equal_sl_prof_Spot_prof_Spot_i15:IR:=(.seq (.block 1 (.seq (.reg false slices_Equal_sl_prof_Spot_prof_Spot_i7) slices_Equal_sl_prof_Spot_prof_Spot_i12)) slices_Equal_sl_prof_Spot_prof_Spot_i14)
def slices_Equal_sl_prof_Spot_prof_Spot_i16:IR:=(.seq (.cond (.t 14) .skip (.exit 0)) slices_Equal_sl_prof_Spot_prof_Spot_i15)
def slices_Equal_sl_prof_Spot_prof_Spot_i17:IR:=(.seq (.reg false slices_Equal_sl_prof_Spot_prof_Spot_i6) slices_Equal_sl_prof_Spot_prof_Spot_i16)
def slices_Equal_sl_prof_Spot_prof_Spot_i18:IR:=(.block 0 (.loop slices_Equal_sl_prof_Spot_prof_Spot_i17))
def slices_Equal_sl_prof_Spot_prof_Spot_i19:List Op1:=[(oM 4 (.k (.bool true)) [])]
def slices_Equal_sl_prof_Spot_prof_Spot_i20:IR:=.ret
def slices_Equal_sl_prof_Spot_prof_Spot_i21:IR:=(.seq (.reg false slices_Equal_sl_prof_Spot_prof_Spot_i19) slices_Equal_sl_prof_Spot_prof_Spot_i20)
def slices_Equal_sl_prof_Spot_prof_Spot_i22:IR:=(.seq (.seq (.reg false slices_Equal_sl_prof_Spot_prof_Spot_i5) slices_Equal_sl_prof_Spot_prof_Spot_i18) slices_Equal_sl_prof_Spot_prof_Spot_i21)
def slices_Equal_sl_prof_Spot_prof_Spot_i23:IR:=(.seq (.seq (.reg false slices_Equal_sl_prof_Spot_prof_Spot_i1) slices_Equal_sl_prof_Spot_prof_Spot_i4) slices_Equal_sl_prof_Spot_prof_Spot_i22)
def slices_Equal_sl_prof_Spot_prof_Spot_ir:IR:=(.seq (.reg false slices_Equal_sl_prof_Spot_prof_Spot_i0) slices_Equal_sl_prof_Spot_prof_Spot_i23)
theorem slices_Equal_sl_prof_Spot_prof_Spot_cfn:cFn Try.prog 10=some (slices_Equal_sl_prof_Spot_prof_Spot_ir,[(.t 4)],26):=by kernel_rfl
def slices_Equal_sl_prof_Spot_prof_Spot_V (r:(Bool)):V:=.s (.bool r)
def slices_Equal_sl_prof_Spot_prof_Spot_C (r:(Bool)):X→Fr→Hp→Prop:=FinL [(.t 4)] [] (slices_Equal_sl_prof_Spot_prof_Spot_V r) []
theorem slices_Equal_sl_prof_Spot_prof_Spot_ok (s1_:(List prof_Spot)) (s2_:(List prof_Spot)) (r:(Bool)) (h:slices_Equal_sl_prof_Spot_prof_Spot s1_ s2_=some r):Pure Try.prog 10 [.sl false s1_.length (cat prof_Spot.v s1_),.sl false s2_.length (cat prof_Spot.v s2_)] (slices_Equal_sl_prof_Spot_prof_Spot_V r):=by
  refine ConL.of slices_Equal_sl_prof_Spot_prof_Spot_cfn (Nat.le_of_ble_eq_true (by kernel_rfl)) (Nat.le_of_ble_eq_true (by kernel_rfl)) ?_
  refine k_start ?_
  show dwv Try.prog [] slices_Equal_sl_prof_Spot_prof_Spot_ir (kont Try.prog [] (slices_Equal_sl_prof_Spot_prof_Spot_C r) []) (fr0 [.sl false s1_.length (cat prof_Spot.v s1_),.sl false s2_.length (cat prof_Spot.v s2_)]) []
  have hf:FOk (fr0 [.sl false s1_.length (cat prof_Spot.v s1_),.sl false s2_.length (cat prof_Spot.v s2_)]) [⟨0,[],.sl false s1_.length (cat prof_Spot.v s1_)⟩,⟨1,[],.sl false s2_.length (cat prof_Spot.v s2_)⟩]:=⟨⟨fun _=>rfl,fun h=>(h trivial).elim⟩,⟨fun _=>rfl,fun h=>(h trivial).elim⟩,trivial⟩
  generalize fr0 [.sl false s1_.length (cat prof_Spot.v s1_),.sl false s2_.length (cat prof_Spot.v s2_)]=f at hf ⊢
  unfold slices_Equal_sl_prof_Spot_prof_Spot at h
  refine k_seq ?_
  refine k_reg ?_
  refine mops_en hf (by kernel_rfl) fun f1 hf1 => ?_
  refine k_c ?_
  refine k_seq ?_
  refine k_seq ?_
  refine k_reg ?_
  refine mops_en hf1 (by kernel_rfl) fun f2 hf2 => ?_
  refine k_c ?_
  refine k_cond hf2 (t:=((ln s1_) != (ln s2_))) (by kernel_rfl) (fun hc1 => ?_) (fun hc1 => ?_)
  · have h:=if_t h hc1
    refine k_seq ?_
    refine k_reg ?_
    refine mops_en hf2 (by kernel_rfl) fun f3 hf3 => ?_
    refine k_c ?_
    refine k_ret ?_
    refine x_c nofun ?_
    obtain rfl:=Option.some.inj h
    exact k_fin (fin_ret (.inl rfl) hf3 (vs:=[.s (.bool false)]) (by kernel_rfl) (SettL.pure (FzL.stat rfl)))
  · have h:=if_f h hc1
    refine k_skip ?_
    refine k_c ?_
    refine k_seq ?_
    refine k_seq ?_
    refine k_reg ?_
    refine mops_en hf2 (by kernel_rfl) fun f3 hf3 => ?_
    refine k_c ?_
    refine k_block ?_
    obtain ⟨o0,hx0,h⟩:=Option.bind_eq_some_iff.1 h
    have hret0:∀ r0,.ret r0=o0→r0=r:=fun r0 e=>by subst e; exact Option.some.inj h
    have hgo0:.go ()=o0→∀ f,FOk f [⟨4,[],.s (.bool false)⟩]→kont Try.prog [] (slices_Equal_sl_prof_Spot_prof_Spot_C r) ((.c slices_Equal_sl_prof_Spot_prof_Spot_i21)::[]) .normal f []:=by
      intro  e f hf
      subst e
      refine k_c ?_
      refine k_seq ?_
      refine k_reg ?_
      refine mops_en hf (by kernel_rfl) fun f1 hf1 => ?_
      refine k_c ?_
      refine k_ret ?_
      obtain rfl:=Option.some.inj h
      exact k_fin (fin_ret (.inl rfl) hf1 (vs:=[.s (.bool true)]) (by kernel_rfl) (SettL.pure (FzL.stat rfl)))
    refine k_loop BIG ?_
    refine loop_ind (fun n f L=>∃ (t_1:Int),slices_Equal_sl_prof_Spot_prof_Spot_l0 s1_ s2_ n t_1=some o0∧FOk f [⟨0,[],.sl false s1_.length (cat prof_Spot.v s1_)⟩,⟨1,[],.sl false s2_.length (cat prof_Spot.v s2_)⟩,⟨4,[],.s (.bool false)⟩,⟨12,[],.s (.int .i64 (ln s1_))⟩,⟨13,[],.s (.int .i64 t_1)⟩]∧L=[]) ?_ ?_ BIG _ _ ⟨(0),hx0,FOk_of [0,1,4,12,13] hf3 (by kernel_rfl),(by kernel_rfl)⟩
    · rintro f L ⟨t_1,h,_⟩
      cases (show (none:Option _)=some _ from h)
    · rintro n0 R0 ih f L ⟨t_1,h,hf,rfl⟩
      rw [slices_Equal_sl_prof_Spot_prof_Spot_l0] at h
      refine k_seq ?_
      refine k_reg ?_
      refine mops_en hf (by kernel_rfl) fun f1 hf1 => ?_
      refine k_c ?_
      refine k_seq ?_
      refine k_cond hf1 (t:=(decide (t_1 < (ln s1_)))) (by kernel_rfl) (fun hc2 => ?_) (fun hc2 => ?_)
      · have h:=if_t h hc2
        refine k_skip ?_
        refine k_c ?_
        refine k_seq ?_
        refine k_block ?_
        refine k_seq ?_
        refine k_reg ?_
        refine mops_en hf1 (by kernel_rfl) fun f2 hf2 => ?_
        refine k_c ?_
        refine k_seq ?_
        refine k_regq ?_
        refine mops_sg 2 hf2 (by kernel_rfl) fun f3 hf3 => ?_
        obtain ⟨c3,h⟩:=as_ok h
        refine mops_adv rfl (v:=.ip ((cat prof_Spot.v s1_).drop ((t_1:Int).toNat*4))) hf3 (by kernel_rfl) (e_ias (n:=s1_.length) (xv:=.sl false s1_.length (cat prof_Spot.v s1_)) (k:=.i64) (iv:=t_1) (p:=.ip ((cat prof_Spot.v s1_).drop ((t_1:Int).toNat*4))) (by kernel_rfl) (by kernel_rfl) (by kernel_rfl) (by kernel_rfl) c3) fun f4 hf4 => ?_
        refine mops_adv rfl (v:=.agg [.s (.int .u16 (gt s1_ t_1).At),.s (.int .i64 (gt s1_ t_1).Times),.s (.int .i64 (gt s1_ t_1).Cycles),.s (.int .i64 (gt s1_ t_1).Lost)]) hf4 (by kernel_rfl) (e_load_ip (g:=prof_Spot.v) (l:=s1_) (iv:=t_1) [] (by kernel_rfl) c3 (by kernel_rfl) (by kernel_rfl)) fun f5 hf5 => ?_
        refine mops_sg 2 hf5 (by kernel_rfl) fun f6 hf6 => ?_
        obtain ⟨c4,h⟩:=as_ok h
        refine mops_adv rfl (v:=.ip ((cat prof_Spot.v s2_).drop ((t_1:Int).toNat*4))) hf6 (by kernel_rfl) (e_ias (n:=s2_.length) (xv:=.sl false s2_.length (cat prof_Spot.v s2_)) (k:=.i64) (iv:=t_1) (p:=.ip ((cat prof_Spot.v s2_).drop ((t_1:Int).toNat*4))) (by kernel_rfl) (by kernel_rfl) (by kernel_rfl) (by kernel_rfl) c4) fun f7 hf7 => ?_
        refine mops_adv rfl (v:=.agg [.s (.int .u16 (gt s2_ t_1).At),.s (.int .i64 (gt s2_ t_1).Times),.s (.int .i64 (gt s2_ t_1).Cycles),.s (.int .i64 (gt s2_ t_1).Lost)]) hf7 (by kernel_rfl) (e_load_ip (g:=prof_Spot.v) (l:=s2_) (iv:=t_1) [] (by kernel_rfl) c4 (by kernel_rfl) (by kernel_rfl)) fun f8 hf8 => ?_
        refine mops_en hf8 (by kernel_rfl) fun f9 hf9 => ?_
        refine k_c ?_
        refine k_cond hf9 (t:=(!(((gt s1_ t_1).At == (gt s2_ t_1).At)&&(((gt s1_ t_1).Times == (gt s2_ t_1).Times)&&(((gt s1_ t_1).Cycles == (gt s2_ t_1).Cycles)&&(((gt s1_ t_1).Lost == (gt s2_ t_1).Lost)&&true)))))) (by kernel_rfl) (fun hc5 => ?_) (fun hc5 => ?_)
        · have h:=if_t h hc5
          refine k_seq ?_
          refine k_reg ?_
          refine mops_en hf9 (by kernel_rfl) fun f10 hf10 => ?_
          refine k_c ?_
          refine k_ret ?_
          refine x_br ?_
          refine x_c nofun ?_
          refine x_l nofun ?_
          refine x_br ?_
          refine x_c nofun ?_
          obtain rfl:=hret0 _ (Option.some.inj h)
          exact k_fin (fin_ret (.inl rfl) hf10 (vs:=[.s (.bool false)]) (by kernel_rfl) (SettL.pure (FzL.stat rfl)))
        · have h:=if_f h hc5
          refine k_skip ?_
          refine k_b ?_
          refine k_c ?_
          refine k_reg ?_
          refine mops_en hf9 (by kernel_rfl) fun f10 hf10 => ?_
          refine k_l ?_
          exact ih _ _ ⟨(IntKind.wrap .i64 (t_1+1)),h,FOk_of [0,1,4,12,13] hf10 (by kernel_rfl),(by kernel_rfl)⟩
      · have h:=if_f h hc2
        refine k_exit ?_
        refine x_c nofun ?_
        refine x_l nofun ?_
        refine x_b ?_
        refine k_hp (L':=[]) (by kernel_rfl) ?_
        exact hgo0  (Option.some.inj h) _ (FOk_of [4] hf1 (by kernel_rfl))
end Go.Proofs.YtoemlgdlejkliaaK
