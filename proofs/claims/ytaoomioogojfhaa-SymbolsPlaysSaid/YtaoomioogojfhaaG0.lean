/- The Go functions come to the functions over typed data. Printed by a program of this work. -/
import Derived.Test.YtaoomioogojfhaaF
import Derived.Test.YtaoomioogojfhaaProg
namespace Go.Proofs.YtaoomioogojfhaaK
set_option linter.unusedVariables false
set_option linter.unusedSimpArgs false
set_option maxHeartbeats 4000000
open Go.RowKit
attribute [local irreducible] dwv mops lops lqops lwops kont iter run runK rk okK ex E1 vals val chain chB sel resF
def symbols_Right_i0:List Op1:=[(oM 2 (.k (.bool false)) [])]
def symbols_Right_i1:List Op1:=[(oM 6 (.t 0) []),(oE 7 (.lens (.t 6)) [0]),(oM 8 (.k (.int .i64 0)) [])]
def symbols_Right_i2:List Op1:=[(oE 9 (.bin .lss (.t 8) (.t 7)) [])]
def symbols_Right_i3:List Op1:=[(oM 10 (.t 8) []),(oM 3 (.t 10) [0,0])]
def symbols_Right_i4:List Op1:=[(oM 11 (.t 0) []),(oM 12 (.t 3) []),(oE 13 (.ixs (.t 11) (.t 12)) [0,1]),(oM 4 (.t 13) [2,0,1,2])]
def symbols_Right_i5:List Op1:=[(oM 14 (.t 4) []),(oE 15 (.bin .geq (.t 14) (.k (.int .u8 65))) [0]),(oM 16 (.t 15) [1]),(oG 17 (.mv (.t 4)) 16 true [2]),(oG 18 (.bin .leq (.t 17) (.k (.int .u8 90))) 16 true [3,2]),(oE 19 (.pick (.t 16) (.t 18) (.k (.bool false))) [2,4]),(oM 20 (.t 19) [5,2]),(oG 21 (.mv (.t 4)) 20 false [6]),(oG 22 (.bin .geq (.t 21) (.k (.int .u8 97))) 20 false [7,6]),(oG 23 (.mv (.t 22)) 20 false [8,6,6]),(oG 24 (.mv (.t 4)) 23 true [9]),(oG 25 (.bin .leq (.t 24) (.k (.int .u8 122))) 23 true [10,9]),(oG 26 (.pick (.t 23) (.t 25) (.k (.bool false))) 20 false [9,11,6]),(oE 27 (.pick (.t 20) (.k (.bool true)) (.t 26)) [6,12]),(oM 28 (.t 27) [13,9]),(oG 29 (.mv (.t 4)) 28 false [14]),(oG 30 (.bin .eql (.t 29) (.k (.int .u8 95))) 28 false [15,14]),(oE 31 (.pick (.t 28) (.k (.bool true)) (.t 30)) [14,16]),(oM 32 (.t 31) [17,14]),(oG 33 (.mv (.t 4)) 32 false [18]),(oG 34 (.bin .eql (.t 33) (.k (.int .u8 46))) 32 false [19,18]),(oE 35 (.pick (.t 32) (.k (.bool true)) (.t 34)) [18,20]),(oM 5 (.t 35) [21,18,0,1,2,3,4,5,6,7,8,9,10,11,12,13,14,15,16,17,18,19,20,21])]
def symbols_Right_i6:List Op1:=[(oM 36 (.t 5) []),(oE 37 (.un .not (.t 36)) [0]),(oM 38 (.t 37) [1]),(oG 39 (.mv (.t 3)) 38 true [2]),(oG 40 (.bin .eql (.t 39) (.k (.int .i64 0))) 38 true [3,2]),(oG 41 (.mv (.t 40)) 38 true [4,2,2]),(oG 42 (.mv (.t 4)) 41 false [5]),(oG 43 (.bin .lss (.t 42) (.k (.int .u8 48))) 41 false [6,5]),(oG 44 (.pick (.t 41) (.k (.bool true)) (.t 43)) 38 true [5,7,2]),(oG 45 (.mv (.t 44)) 38 true [8,5,2]),(oG 46 (.mv (.t 4)) 45 false [9]),(oG 47 (.bin .gtr (.t 46) (.k (.int .u8 57))) 45 false [10,9]),(oG 48 (.pick (.t 45) (.k (.bool true)) (.t 47)) 38 true [9,11,2]),(oE 49 (.pick (.t 38) (.t 48) (.k (.bool false))) [2,12])]
def symbols_Right_i7:List Op1:=[(oM 2 (.k (.bool false)) [])]
def symbols_Right_i8:IR:=.ret
def symbols_Right_i9:IR:=(.cond (.t 49) (.seq (.reg false symbols_Right_i7) symbols_Right_i8) .skip)
def symbols_Right_i10:IR:=(.seq (.reg false symbols_Right_i6) symbols_Right_i9)
def symbols_Right_i11:IR:=(.seq (.reg false symbols_Right_i5) symbols_Right_i10)
def symbols_Right_i12:IR:=(.seq (.reg false symbols_Right_i4) symbols_Right_i11)
def symbols_Right_i13:List Op1:=[(oE 50 (.bin .add (.t 8) (.k (.int .i64 1))) []),(oM 8 (.t 50) [0])]
def symbols_Right_i14:IR:=(.reg false symbols_Right_i13)
def symbols_Right_i15:IR:=(.seq (.block 1 (.seq (.reg false symbols_Right_i3) symbols_Right_i12)) symbols_Right_i14)
def symbols_Right_i16:IR:=(.seq (.cond (.t 9) .skip (.exit 0)) symbols_Right_i15)
def symbols_Right_i17:IR:=(.seq (.reg false symbols_Right_i2) symbols_Right_i16)
def symbols_Right_i18:IR:=(.block 0 (.loop symbols_Right_i17))
def symbols_Right_i19:List Op1:=[(oM 51 (.t 0) []),(oE 52 (.lens (.t 51)) [0]),(oE 53 (.bin .geq (.t 52) (.k (.int .i64 1))) [1]),(oM 54 (.t 53) [2]),(oG 55 (.mv (.t 0)) 54 true [3]),(oG 56 (.lens (.t 55)) 54 true [4,3]),(oG 57 (.bin .leq (.t 56) (.k (.int .i64 16))) 54 true [5,3]),(oE 58 (.pick (.t 54) (.t 57) (.k (.bool false))) [3,6]),(oM 2 (.t 58) [7,3,0,1,2,3,4,5,6,7])]
def symbols_Right_i20:IR:=.ret
def symbols_Right_i21:IR:=(.seq (.reg false symbols_Right_i19) symbols_Right_i20)
def symbols_Right_i22:IR:=(.seq (.seq (.reg false symbols_Right_i1) symbols_Right_i18) symbols_Right_i21)
def symbols_Right_ir:IR:=(.seq (.reg false symbols_Right_i0) symbols_Right_i22)
theorem symbols_Right_cfn:cFn Try.prog 4=some (symbols_Right_ir,[(.t 2)],59):=by kernel_rfl
def symbols_Right_V (r:(Bool)):V:=.s (.bool r)
def symbols_Right_C (r:(Bool)):X→Fr→Hp→Prop:=FinL [(.t 2)] [] (symbols_Right_V r) []
theorem symbols_Right_ok (s_:ByteArray) (r:(Bool)) (h:symbols_Right s_=some r):Pure Try.prog 4 [.s (.string s_)] (symbols_Right_V r):=by
  refine ConL.of symbols_Right_cfn (Nat.le_of_ble_eq_true (by kernel_rfl)) (Nat.le_of_ble_eq_true (by kernel_rfl)) ?_
  refine k_start ?_
  show dwv Try.prog [] symbols_Right_ir (kont Try.prog [] (symbols_Right_C r) []) (fr0 [.s (.string s_)]) []
  have hf:FOk (fr0 [.s (.string s_)]) [⟨0,[],.s (.string s_)⟩]:=⟨⟨fun _=>rfl,fun h=>(h trivial).elim⟩,trivial⟩
  generalize fr0 [.s (.string s_)]=f at hf ⊢
  unfold symbols_Right at h
  refine k_seq ?_
  refine k_reg ?_
  refine mops_en hf (by kernel_rfl) fun f1 hf1 => ?_
  refine k_c ?_
  refine k_seq ?_
  refine k_seq ?_
  refine k_reg ?_
  refine mops_en hf1 (by kernel_rfl) fun f2 hf2 => ?_
  refine k_c ?_
  refine k_block ?_
  obtain ⟨o0,hx0,h⟩:=Option.bind_eq_some_iff.1 h
  have hret0:∀ r0,.ret r0=o0→r0=r:=fun r0 e=>by subst e; exact Option.some.inj h
  have hgo0:.go ()=o0→∀ f,FOk f [⟨0,[],.s (.string s_)⟩,⟨2,[],.s (.bool false)⟩]→kont Try.prog [] (symbols_Right_C r) ((.c symbols_Right_i21)::[]) .normal f []:=by
    intro  e f hf
    subst e
    refine k_c ?_
    refine k_seq ?_
    refine k_reg ?_
    refine mops_en hf (by kernel_rfl) fun f1 hf1 => ?_
    refine k_c ?_
    refine k_ret ?_
    obtain rfl:=Option.some.inj h
    exact k_fin (fin_ret (.inl rfl) hf1 (vs:=[.s (.bool ((decide (1≤(sln s_)))&&(decide ((sln s_)≤16))))]) (by kernel_rfl) (SettL.pure (FzL.stat rfl)))
  refine k_loop BIG ?_
  refine loop_ind (fun n f L=>∃ (t_1:Int),symbols_Right_l0 s_ n t_1=some o0∧FOk f [⟨0,[],.s (.string s_)⟩,⟨2,[],.s (.bool false)⟩,⟨7,[],.s (.int .i64 (sln s_))⟩,⟨8,[],.s (.int .i64 t_1)⟩]∧L=[]) ?_ ?_ BIG _ _ ⟨(0),hx0,FOk_of [0,2,7,8] hf2 (by kernel_rfl),(by kernel_rfl)⟩
  · rintro f L ⟨t_1,h,_⟩
    cases (show (none:Option _)=some _ from h)
  · rintro n0 R0 ih f L ⟨t_1,h,hf,rfl⟩
    rw [symbols_Right_l0] at h
    refine k_seq ?_
    refine k_reg ?_
    refine mops_en hf (by kernel_rfl) fun f1 hf1 => ?_
    refine k_c ?_
    refine k_seq ?_
    refine k_cond hf1 (t:=(decide (t_1 < (sln s_)))) (by kernel_rfl) (fun hc1 => ?_) (fun hc1 => ?_)
    · have h:=if_t h hc1
      refine k_skip ?_
      refine k_c ?_
      refine k_seq ?_
      refine k_block ?_
      refine k_seq ?_
      refine k_reg ?_
      refine mops_en hf1 (by kernel_rfl) fun f2 hf2 => ?_
      refine k_c ?_
      refine k_seq ?_
      refine k_reg ?_
      refine mops_sg 2 hf2 (by kernel_rfl) fun f3 hf3 => ?_
      obtain ⟨c2,h⟩:=as_ok h
      refine mops_adv rfl (v:=.s (.int .u8 (bt s_ t_1))) hf3 (by kernel_rfl) (e_ixs (t:=s_) (k:=.i64) (iv:=t_1) (by kernel_rfl) (by kernel_rfl) c2) fun f4 hf4 => ?_
      refine mops_en hf4 (by kernel_rfl) fun f5 hf5 => ?_
      refine k_c ?_
      refine k_seq ?_
      refine k_reg ?_
      refine mops_en hf5 (by kernel_rfl) fun f6 hf6 => ?_
      refine k_c ?_
      refine k_seq ?_
      refine k_reg ?_
      refine mops_end [0,2,7,8,16,17,18,20,21,22,23,24,25,26,28,29,30,32,33,34,38,39,40,41,42,43,44,45,46,47,48,49] hf6 (l':=[⟨0,[],.s (.string s_)⟩,⟨2,[],.s (.bool false)⟩,⟨7,[],.s (.int .i64 (sln s_))⟩,⟨8,[],.s (.int .i64 t_1)⟩,⟨16,[],.s (.bool (decide (65≤(bt s_ t_1))))⟩,⟨17,[(16,true)],.s (.int .u8 (bt s_ t_1))⟩,⟨18,[(16,true)],.s (.bool (decide ((bt s_ t_1)≤90)))⟩,⟨20,[],.s (.bool ((decide (65≤(bt s_ t_1)))&&(decide ((bt s_ t_1)≤90))))⟩,⟨21,[(20,false)],.s (.int .u8 (bt s_ t_1))⟩,⟨22,[(20,false)],.s (.bool (decide (97≤(bt s_ t_1))))⟩,⟨23,[(20,false)],.s (.bool (decide (97≤(bt s_ t_1))))⟩,⟨24,[(23,true),(20,false)],.s (.int .u8 (bt s_ t_1))⟩,⟨25,[(23,true),(20,false)],.s (.bool (decide ((bt s_ t_1)≤122)))⟩,⟨26,[(20,false)],.s (.bool ((decide (97≤(bt s_ t_1)))&&(decide ((bt s_ t_1)≤122))))⟩,⟨28,[],.s (.bool (((decide (65≤(bt s_ t_1)))&&(decide ((bt s_ t_1)≤90)))||((decide (97≤(bt s_ t_1)))&&(decide ((bt s_ t_1)≤122)))))⟩,⟨29,[(28,false)],.s (.int .u8 (bt s_ t_1))⟩,⟨30,[(28,false)],.s (.bool ((bt s_ t_1) == 95))⟩,⟨32,[],.s (.bool ((((decide (65≤(bt s_ t_1)))&&(decide ((bt s_ t_1)≤90)))||((decide (97≤(bt s_ t_1)))&&(decide ((bt s_ t_1)≤122))))||((bt s_ t_1) == 95)))⟩,⟨33,[(32,false)],.s (.int .u8 (bt s_ t_1))⟩,⟨34,[(32,false)],.s (.bool ((bt s_ t_1) == 46))⟩,⟨38,[],.s (.bool (!(((((decide (65≤(bt s_ t_1)))&&(decide ((bt s_ t_1)≤90)))||((decide (97≤(bt s_ t_1)))&&(decide ((bt s_ t_1)≤122))))||((bt s_ t_1) == 95))||((bt s_ t_1) == 46))))⟩,⟨39,[(38,true)],.s (.int .i64 t_1)⟩,⟨40,[(38,true)],.s (.bool (t_1 == 0))⟩,⟨41,[(38,true)],.s (.bool (t_1 == 0))⟩,⟨42,[(41,false),(38,true)],.s (.int .u8 (bt s_ t_1))⟩,⟨43,[(41,false),(38,true)],.s (.bool (decide ((bt s_ t_1) < 48)))⟩,⟨44,[(38,true)],.s (.bool ((t_1 == 0)||(decide ((bt s_ t_1) < 48))))⟩,⟨45,[(38,true)],.s (.bool ((t_1 == 0)||(decide ((bt s_ t_1) < 48))))⟩,⟨46,[(45,false),(38,true)],.s (.int .u8 (bt s_ t_1))⟩,⟨47,[(45,false),(38,true)],.s (.bool (decide (57 < (bt s_ t_1))))⟩,⟨48,[(38,true)],.s (.bool (((t_1 == 0)||(decide ((bt s_ t_1) < 48)))||(decide (57 < (bt s_ t_1)))))⟩,⟨49,[],.s (.bool ((!(((((decide (65≤(bt s_ t_1)))&&(decide ((bt s_ t_1)≤90)))||((decide (97≤(bt s_ t_1)))&&(decide ((bt s_ t_1)≤122))))||((bt s_ t_1) == 95))||((bt s_ t_1) == 46)))&&(((t_1 == 0)||(decide ((bt s_ t_1) < 48)))||(decide (57 < (bt s_ t_1))))))⟩]) (L':=[]) (by kernel_rfl) fun f7 hf7 => ?_
      refine k_c ?_
      refine k_cond hf7 (t:=((!(((((decide (65≤(bt s_ t_1)))&&(decide ((bt s_ t_1)≤90)))||((decide (97≤(bt s_ t_1)))&&(decide ((bt s_ t_1)≤122))))||((bt s_ t_1) == 95))||((bt s_ t_1) == 46)))&&(((t_1 == 0)||(decide ((bt s_ t_1) < 48)))||(decide (57 < (bt s_ t_1)))))) (by kernel_rfl) (fun hc3 => ?_) (fun hc3 => ?_)
      · have h:=if_t h hc3
        refine k_seq ?_
        refine k_reg ?_
        refine mops_en hf7 (by kernel_rfl) fun f8 hf8 => ?_
        refine k_c ?_
        refine k_ret ?_
        refine x_br ?_
        refine x_c nofun ?_
        refine x_l nofun ?_
        refine x_br ?_
        refine x_c nofun ?_
        obtain rfl:=hret0 _ (Option.some.inj h)
        exact k_fin (fin_ret (.inl rfl) hf8 (vs:=[.s (.bool false)]) (by kernel_rfl) (SettL.pure (FzL.stat rfl)))
      · have h:=if_f h hc3
        refine k_skip ?_
        refine k_b ?_
        refine k_c ?_
        refine k_reg ?_
        refine mops_en hf7 (by kernel_rfl) fun f8 hf8 => ?_
        refine k_l ?_
        exact ih _ _ ⟨(IntKind.wrap .i64 (t_1+1)),h,FOk_of [0,2,7,8] hf8 (by kernel_rfl),(by kernel_rfl)⟩
    · have h:=if_f h hc1
      refine k_exit ?_
      refine x_c nofun ?_
      refine x_l nofun ?_
      refine x_b ?_
      refine k_hp (L':=[]) (by kernel_rfl) ?_
      exact hgo0  (Option.some.inj h) _ (FOk_of [0,2] hf1 (by kernel_rfl))
def spinetref41_Letter_i0:List Op1:=[(oM 2 (.k (.bool false)) [])]
def spinetref41_Letter_i1:List Op1:=[(oM 3 (.t 0) []),(oE 4 (.bin .geq (.t 3) (.k (.int .u8 65))) [0]),(oM 5 (.t 4) [1]),(oG 6 (.mv (.t 0)) 5 true [2]),(oG 7 (.bin .leq (.t 6) (.k (.int .u8 90))) 5 true [3,2]),(oE 8 (.pick (.t 5) (.t 7) (.k (.bool false))) [2,4]),(oM 9 (.t 8) [5,2]),(oG 10 (.mv (.t 0)) 9 false [6]),(oG 11 (.bin .geq (.t 10) (.k (.int .u8 97))) 9 false [7,6]),(oG 12 (.mv (.t 11)) 9 false [8,6,6]),(oG 13 (.mv (.t 0)) 12 true [9]),(oG 14 (.bin .leq (.t 13) (.k (.int .u8 122))) 12 true [10,9]),(oG 15 (.pick (.t 12) (.t 14) (.k (.bool false))) 9 false [9,11,6]),(oE 16 (.pick (.t 9) (.k (.bool true)) (.t 15)) [6,12]),(oM 17 (.t 16) [13,9]),(oG 18 (.mv (.t 0)) 17 false [14]),(oG 19 (.bin .eql (.t 18) (.k (.int .u8 46))) 17 false [15,14]),(oE 20 (.pick (.t 17) (.k (.bool true)) (.t 19)) [14,16]),(oM 21 (.t 20) [17,14]),(oG 22 (.mv (.t 0)) 21 false [18]),(oG 23 (.bin .eql (.t 22) (.k (.int .u8 95))) 21 false [19,18]),(oE 24 (.pick (.t 21) (.k (.bool true)) (.t 23)) [18,20]),(oM 2 (.t 24) [21,18,0,1,2,3,4,5,6,7,8,9,10,11,12,13,14,15,16,17,18,19,20,21])]
def spinetref41_Letter_i2:IR:=.ret
def spinetref41_Letter_i3:IR:=(.seq (.reg false spinetref41_Letter_i1) spinetref41_Letter_i2)
def spinetref41_Letter_ir:IR:=(.seq (.reg false spinetref41_Letter_i0) spinetref41_Letter_i3)
theorem spinetref41_Letter_cfn:cFn Try.prog 17=some (spinetref41_Letter_ir,[(.t 2)],25):=by kernel_rfl
def spinetref41_Letter_V (r:(Bool)):V:=.s (.bool r)
def spinetref41_Letter_C (r:(Bool)):X→Fr→Hp→Prop:=FinL [(.t 2)] [] (spinetref41_Letter_V r) []
theorem spinetref41_Letter_ok (c_:Int) (r:(Bool)) (h:spinetref41_Letter c_=some r):Pure Try.prog 17 [.s (.int .u8 c_)] (spinetref41_Letter_V r):=by
  refine ConL.of spinetref41_Letter_cfn (Nat.le_of_ble_eq_true (by kernel_rfl)) (Nat.le_of_ble_eq_true (by kernel_rfl)) ?_
  refine k_start ?_
  show dwv Try.prog [] spinetref41_Letter_ir (kont Try.prog [] (spinetref41_Letter_C r) []) (fr0 [.s (.int .u8 c_)]) []
  have hf:FOk (fr0 [.s (.int .u8 c_)]) [⟨0,[],.s (.int .u8 c_)⟩]:=⟨⟨fun _=>rfl,fun h=>(h trivial).elim⟩,trivial⟩
  generalize fr0 [.s (.int .u8 c_)]=f at hf ⊢
  unfold spinetref41_Letter at h
  refine k_seq ?_
  refine k_reg ?_
  refine mops_en hf (by kernel_rfl) fun f1 hf1 => ?_
  refine k_c ?_
  refine k_seq ?_
  refine k_reg ?_
  refine mops_en hf1 (by kernel_rfl) fun f2 hf2 => ?_
  refine k_c ?_
  refine k_ret ?_
  obtain rfl:=Option.some.inj h
  exact k_fin (fin_ret (.inl rfl) hf2 (vs:=[.s (.bool (((((decide (65≤c_))&&(decide (c_≤90)))||((decide (97≤c_))&&(decide (c_≤122))))||(c_ == 46))||(c_ == 95)))]) (by kernel_rfl) (SettL.pure (FzL.stat rfl)))
def spinetlaw41_find_i0:List Op1:=[(oM 4 (.k (.int .i64 0)) [])]
def spinetlaw41_find_i1:List Op1:=[(oM 5 (.k (.int .i64 0)) [])]
def spinetlaw41_find_i2:List Op1:=[(oM 6 (.t 5) []),(oM 7 (.t 0) []),(oE 8 (.len (.t 7)) [1]),(oE 9 (.bin .lss (.t 6) (.t 8)) [0,2])]
def spinetlaw41_find_i3:IR:=(.cond (.t 9) .skip (.exit 0))
def spinetlaw41_find_i4:List Op1:=[(oM 12 (.t 0) []),(oM 13 (.t 5) []),(oE 14 (.ias 3 (.t 12) (.t 13)) [0,1]),(oE 15 (.fld 0 (.t 14)) [2]),(oE 16 (.load false 1 (.t 15)) [3]),(oM 17 (.t 1) []),(oE 18 (.bin .eql (.t 16) (.t 17)) [4,5])]
def spinetlaw41_find_i5:List Op1:=[(oM 19 (.t 5) []),(oM 4 (.t 19) [0,0])]
def spinetlaw41_find_i6:IR:=.ret
def spinetlaw41_find_i7:IR:=(.cond (.t 18) (.seq (.reg false spinetlaw41_find_i5) spinetlaw41_find_i6) .skip)
def spinetlaw41_find_i8:List Op1:=[(oM 10 (.t 5) []),(oE 11 (.bin .add (.t 10) (.k (.int .i64 1))) [0]),(oM 5 (.t 11) [1,0,1])]
def spinetlaw41_find_i9:IR:=(.reg false spinetlaw41_find_i8)
def spinetlaw41_find_i10:IR:=(.seq (.block 1 (.seq (.reg false spinetlaw41_find_i4) spinetlaw41_find_i7)) spinetlaw41_find_i9)
def spinetlaw41_find_i11:IR:=(.seq (.seq (.reg false spinetlaw41_find_i2) spinetlaw41_find_i3) spinetlaw41_find_i10)
def spinetlaw41_find_i12:IR:=(.block 0 (.loop spinetlaw41_find_i11))
def spinetlaw41_find_i13:List Op1:=[(oM 4 (.k (.int .i64 (-1))) [])]
def spinetlaw41_find_i14:IR:=.ret
def spinetlaw41_find_i15:IR:=(.seq (.reg false spinetlaw41_find_i13) spinetlaw41_find_i14)
def spinetlaw41_find_i16:IR:=(.seq (.seq (.reg false spinetlaw41_find_i1) spinetlaw41_find_i12) spinetlaw41_find_i15)
def spinetlaw41_find_ir:IR:=(.seq (.reg false spinetlaw41_find_i0) spinetlaw41_find_i16)
theorem spinetlaw41_find_cfn:cFn Try.prog 6=some (spinetlaw41_find_ir,[(.t 4)],20):=by kernel_rfl
def spinetlaw41_find_V (r:(Int)):V:=.s (.int .i64 r)
def spinetlaw41_find_C (r:(Int)):X→Fr→Hp→Prop:=FinL [(.t 4)] [] (spinetlaw41_find_V r) []
theorem spinetlaw41_find_ok (l_:(List spinetlaw41_Pair)) (s_:ByteArray) (r:(Int)) (h:spinetlaw41_find l_ s_=some r):Pure Try.prog 6 [.sl false l_.length (cat spinetlaw41_Pair.v l_),.s (.string s_)] (spinetlaw41_find_V r):=by
  refine ConL.of spinetlaw41_find_cfn (Nat.le_of_ble_eq_true (by kernel_rfl)) (Nat.le_of_ble_eq_true (by kernel_rfl)) ?_
  refine k_start ?_
  show dwv Try.prog [] spinetlaw41_find_ir (kont Try.prog [] (spinetlaw41_find_C r) []) (fr0 [.sl false l_.length (cat spinetlaw41_Pair.v l_),.s (.string s_)]) []
  have hf:FOk (fr0 [.sl false l_.length (cat spinetlaw41_Pair.v l_),.s (.string s_)]) [⟨0,[],.sl false l_.length (cat spinetlaw41_Pair.v l_)⟩,⟨1,[],.s (.string s_)⟩]:=⟨⟨fun _=>rfl,fun h=>(h trivial).elim⟩,⟨fun _=>rfl,fun h=>(h trivial).elim⟩,trivial⟩
  generalize fr0 [.sl false l_.length (cat spinetlaw41_Pair.v l_),.s (.string s_)]=f at hf ⊢
  unfold spinetlaw41_find at h
  refine k_seq ?_
  refine k_reg ?_
  refine mops_en hf (by kernel_rfl) fun f1 hf1 => ?_
  refine k_c ?_
  refine k_seq ?_
  refine k_seq ?_
  refine k_reg ?_
  refine mops_en hf1 (by kernel_rfl) fun f2 hf2 => ?_
  refine k_c ?_
  refine k_block ?_
  obtain ⟨o0,hx0,h⟩:=Option.bind_eq_some_iff.1 h
  have hret0:∀ r0,.ret r0=o0→r0=r:=fun r0 e=>by subst e; exact Option.some.inj h
  have hgo0:.go ()=o0→∀ f,FOk f [⟨4,[],.s (.int .i64 0)⟩]→kont Try.prog [] (spinetlaw41_find_C r) ((.c spinetlaw41_find_i15)::[]) .normal f []:=by
    intro  e f hf
    subst e
    refine k_c ?_
    refine k_seq ?_
    refine k_reg ?_
    refine mops_en hf (by kernel_rfl) fun f1 hf1 => ?_
    refine k_c ?_
    refine k_ret ?_
    obtain rfl:=Option.some.inj h
    exact k_fin (fin_ret (.inl rfl) hf1 (vs:=[.s (.int .i64 (-1))]) (by kernel_rfl) (SettL.pure (FzL.stat rfl)))
  refine k_loop BIG ?_
  refine loop_ind (fun n f L=>∃ (i_1:Int),spinetlaw41_find_l0 l_ s_ n i_1=some o0∧FOk f [⟨0,[],.sl false l_.length (cat spinetlaw41_Pair.v l_)⟩,⟨1,[],.s (.string s_)⟩,⟨4,[],.s (.int .i64 0)⟩,⟨5,[],.s (.int .i64 i_1)⟩]∧L=[]) ?_ ?_ BIG _ _ ⟨(0),hx0,FOk_of [0,1,4,5] hf2 (by kernel_rfl),(by kernel_rfl)⟩
  · rintro f L ⟨i_1,h,_⟩
    cases (show (none:Option _)=some _ from h)
  · rintro n0 R0 ih f L ⟨i_1,h,hf,rfl⟩
    rw [spinetlaw41_find_l0] at h
    refine k_seq ?_
    refine k_seq ?_
    refine k_reg ?_
    refine mops_en hf (by kernel_rfl) fun f1 hf1 => ?_
    refine k_c ?_
    refine k_cond hf1 (t:=(decide (i_1 < (ln l_)))) (by kernel_rfl) (fun hc1 => ?_) (fun hc1 => ?_)
    · have h:=if_t h hc1
      refine k_skip ?_
      refine k_c ?_
      refine k_seq ?_
      refine k_block ?_
      refine k_seq ?_
      refine k_reg ?_
      refine mops_sg 2 hf1 (by kernel_rfl) fun f2 hf2 => ?_
      obtain ⟨c2,h⟩:=as_ok h
      refine mops_adv rfl (v:=.ip ((cat spinetlaw41_Pair.v l_).drop ((i_1:Int).toNat*3))) hf2 (by kernel_rfl) (e_ias (n:=l_.length) (xv:=.sl false l_.length (cat spinetlaw41_Pair.v l_)) (k:=.i64) (iv:=i_1) (p:=.ip ((cat spinetlaw41_Pair.v l_).drop ((i_1:Int).toNat*3))) (by kernel_rfl) (by kernel_rfl) (by kernel_rfl) (by kernel_rfl) c2) fun f3 hf3 => ?_
      refine mops_sg 1 hf3 (by kernel_rfl) fun f4 hf4 => ?_
      refine mops_adv rfl (v:=.s (.string (gt l_ i_1).Name)) hf4 (by kernel_rfl) (e_load_ip (g:=spinetlaw41_Pair.v) (l:=l_) (iv:=i_1) [0] (by kernel_rfl) c2 (by kernel_rfl) (by kernel_rfl)) fun f5 hf5 => ?_
      refine mops_en hf5 (by kernel_rfl) fun f6 hf6 => ?_
      refine k_c ?_
      refine k_cond hf6 (t:=(((gt l_ i_1).Name).toList == s_.toList)) (by kernel_rfl) (fun hc3 => ?_) (fun hc3 => ?_)
      · have h:=if_t h hc3
        refine k_seq ?_
        refine k_reg ?_
        refine mops_en hf6 (by kernel_rfl) fun f7 hf7 => ?_
        refine k_c ?_
        refine k_ret ?_
        refine x_br ?_
        refine x_c nofun ?_
        refine x_l nofun ?_
        refine x_br ?_
        refine x_c nofun ?_
        obtain rfl:=hret0 _ (Option.some.inj h)
        exact k_fin (fin_ret (.inl rfl) hf7 (vs:=[.s (.int .i64 i_1)]) (by kernel_rfl) (SettL.pure (FzL.stat rfl)))
      · have h:=if_f h hc3
        refine k_skip ?_
        refine k_b ?_
        refine k_c ?_
        refine k_reg ?_
        refine mops_en hf6 (by kernel_rfl) fun f7 hf7 => ?_
        refine k_l ?_
        exact ih _ _ ⟨(IntKind.wrap .i64 (i_1+1)),h,FOk_of [0,1,4,5] hf7 (by kernel_rfl),(by kernel_rfl)⟩
    · have h:=if_f h hc1
      refine k_exit ?_
      refine x_c nofun ?_
      refine x_l nofun ?_
      refine x_b ?_
      refine k_hp (L':=[]) (by kernel_rfl) ?_
      exact hgo0  (Option.some.inj h) _ (FOk_of [4] hf1 (by kernel_rfl))
def slices_Equal_sl_string_string_i0:List Op1:=[(oM 4 (.k (.bool false)) [])]
def slices_Equal_sl_string_string_i1:List Op1:=[(oM 6 (.t 0) []),(oE 7 (.len (.t 6)) [0]),(oM 8 (.t 1) []),(oE 9 (.len (.t 8)) [2]),(oE 10 (.bin .neq (.t 7) (.t 9)) [1,3])]
def slices_Equal_sl_string_string_i2:List Op1:=[(oM 4 (.k (.bool false)) [])]
def slices_Equal_sl_string_string_i3:IR:=.ret
def slices_Equal_sl_string_string_i4:IR:=(.cond (.t 10) (.seq (.reg false slices_Equal_sl_string_string_i2) slices_Equal_sl_string_string_i3) .skip)
def slices_Equal_sl_string_string_i5:List Op1:=[(oM 11 (.t 0) []),(oE 12 (.len (.t 11)) [0]),(oM 13 (.k (.int .i64 0)) [])]
def slices_Equal_sl_string_string_i6:List Op1:=[(oE 14 (.bin .lss (.t 13) (.t 12)) [])]
def slices_Equal_sl_string_string_i7:List Op1:=[(oM 15 (.t 13) []),(oM 5 (.t 15) [0,0])]
def slices_Equal_sl_string_string_i8:List Op1:=[(oM 16 (.t 0) []),(oM 17 (.t 5) []),(oE 18 (.ias 1 (.t 16) (.t 17)) [0,1]),(oE 19 (.load false 1 (.t 18)) [2]),(oM 20 (.t 1) []),(oM 21 (.t 5) []),(oE 22 (.ias 1 (.t 20) (.t 21)) [4,5]),(oE 23 (.load false 1 (.t 22)) [6]),(oE 24 (.bin .neq (.t 19) (.t 23)) [3,7])]
def slices_Equal_sl_string_string_i9:List Op1:=[(oM 4 (.k (.bool false)) [])]
def slices_Equal_sl_string_string_i10:IR:=.ret
def slices_Equal_sl_string_string_i11:IR:=(.cond (.t 24) (.seq (.reg false slices_Equal_sl_string_string_i9) slices_Equal_sl_string_string_i10) .skip)
def slices_Equal_sl_string_string_i12:IR:=(.seq (.reg true slices_Equal_sl_string_string_i8) slices_Equal_sl_string_string_i11)
def slices_Equal_sl_string_string_i13:List Op1:=[(oE 25 (.bin .add (.t 13) (.k (.int .i64 1))) []),(oM 13 (.t 25) [0])]
def slices_Equal_sl_string_string_i14:IR:=(.reg false slices_Equal_sl_string_string_i13)
def slices_Equal_sl_string_string_i15:IR:=(.seq (.block 1 (.seq (.reg false slices_Equal_sl_string_string_i7) slices_Equal_sl_string_string_i12)) slices_Equal_sl_string_string_i14)
def slices_Equal_sl_string_string_i16:IR:=(.seq (.cond (.t 14) .skip (.exit 0)) slices_Equal_sl_string_string_i15)
def slices_Equal_sl_string_string_i17:IR:=(.seq (.reg false slices_Equal_sl_string_string_i6) slices_Equal_sl_string_string_i16)
def slices_Equal_sl_string_string_i18:IR:=(.block 0 (.loop slices_Equal_sl_string_string_i17))
def slices_Equal_sl_string_string_i19:List Op1:=[(oM 4 (.k (.bool true)) [])]
def slices_Equal_sl_string_string_i20:IR:=.ret
def slices_Equal_sl_string_string_i21:IR:=(.seq (.reg false slices_Equal_sl_string_string_i19) slices_Equal_sl_string_string_i20)
def slices_Equal_sl_string_string_i22:IR:=(.seq (.seq (.reg false slices_Equal_sl_string_string_i5) slices_Equal_sl_string_string_i18) slices_Equal_sl_string_string_i21)
def slices_Equal_sl_string_string_i23:IR:=(.seq (.seq (.reg false slices_Equal_sl_string_string_i1) slices_Equal_sl_string_string_i4) slices_Equal_sl_string_string_i22)
def slices_Equal_sl_string_string_ir:IR:=(.seq (.reg false slices_Equal_sl_string_string_i0) slices_Equal_sl_string_string_i23)
theorem slices_Equal_sl_string_string_cfn:cFn Try.prog 13=some (slices_Equal_sl_string_string_ir,[(.t 4)],26):=by kernel_rfl
def slices_Equal_sl_string_string_V (r:(Bool)):V:=.s (.bool r)
def slices_Equal_sl_string_string_C (r:(Bool)):X→Fr→Hp→Prop:=FinL [(.t 4)] [] (slices_Equal_sl_string_string_V r) []
theorem slices_Equal_sl_string_string_ok (s1_:(List ByteArray)) (s2_:(List ByteArray)) (r:(Bool)) (h:slices_Equal_sl_string_string s1_ s2_=some r):Pure Try.prog 13 [.sl false s1_.length (cat nS s1_),.sl false s2_.length (cat nS s2_)] (slices_Equal_sl_string_string_V r):=by
  refine ConL.of slices_Equal_sl_string_string_cfn (Nat.le_of_ble_eq_true (by kernel_rfl)) (Nat.le_of_ble_eq_true (by kernel_rfl)) ?_
  refine k_start ?_
  show dwv Try.prog [] slices_Equal_sl_string_string_ir (kont Try.prog [] (slices_Equal_sl_string_string_C r) []) (fr0 [.sl false s1_.length (cat nS s1_),.sl false s2_.length (cat nS s2_)]) []
  have hf:FOk (fr0 [.sl false s1_.length (cat nS s1_),.sl false s2_.length (cat nS s2_)]) [⟨0,[],.sl false s1_.length (cat nS s1_)⟩,⟨1,[],.sl false s2_.length (cat nS s2_)⟩]:=⟨⟨fun _=>rfl,fun h=>(h trivial).elim⟩,⟨fun _=>rfl,fun h=>(h trivial).elim⟩,trivial⟩
  generalize fr0 [.sl false s1_.length (cat nS s1_),.sl false s2_.length (cat nS s2_)]=f at hf ⊢
  unfold slices_Equal_sl_string_string at h
  refine k_seq ?_
  refine k_reg ?_
  refine mops_en hf (by kernel_rfl) fun f1 hf1 => ?_
  refine k_c ?_
  refine k_seq ?_
  refine k_seq ?_
  refine k_reg ?_
  refine mops_en hf1 (by kernel_rfl) fun f2 hf2 => ?_
  refine k_c ?_
  refine k_cond hf2 (t:=((ln s1_) != (ln s2_))) (by kernel_rfl) (fun hc1 => ?_) (fun hc1 => ?_)
  · have h:=if_t h hc1
    refine k_seq ?_
    refine k_reg ?_
    refine mops_en hf2 (by kernel_rfl) fun f3 hf3 => ?_
    refine k_c ?_
    refine k_ret ?_
    refine x_c nofun ?_
    obtain rfl:=Option.some.inj h
    exact k_fin (fin_ret (.inl rfl) hf3 (vs:=[.s (.bool false)]) (by kernel_rfl) (SettL.pure (FzL.stat rfl)))
  · have h:=if_f h hc1
    refine k_skip ?_
    refine k_c ?_
    refine k_seq ?_
    refine k_seq ?_
    refine k_reg ?_
    refine mops_en hf2 (by kernel_rfl) fun f3 hf3 => ?_
    refine k_c ?_
    refine k_block ?_
    obtain ⟨o0,hx0,h⟩:=Option.bind_eq_some_iff.1 h
    have hret0:∀ r0,.ret r0=o0→r0=r:=fun r0 e=>by subst e; exact Option.some.inj h
    have hgo0:.go ()=o0→∀ f,FOk f [⟨4,[],.s (.bool false)⟩]→kont Try.prog [] (slices_Equal_sl_string_string_C r) ((.c slices_Equal_sl_string_string_i21)::[]) .normal f []:=by
      intro  e f hf
      subst e
      refine k_c ?_
      refine k_seq ?_
      refine k_reg ?_
      refine mops_en hf (by kernel_rfl) fun f1 hf1 => ?_
      refine k_c ?_
      refine k_ret ?_
      obtain rfl:=Option.some.inj h
      exact k_fin (fin_ret (.inl rfl) hf1 (vs:=[.s (.bool true)]) (by kernel_rfl) (SettL.pure (FzL.stat rfl)))
    refine k_loop BIG ?_
    refine loop_ind (fun n f L=>∃ (t_1:Int),slices_Equal_sl_string_string_l0 s1_ s2_ n t_1=some o0∧FOk f [⟨0,[],.sl false s1_.length (cat nS s1_)⟩,⟨1,[],.sl false s2_.length (cat nS s2_)⟩,⟨4,[],.s (.bool false)⟩,⟨12,[],.s (.int .i64 (ln s1_))⟩,⟨13,[],.s (.int .i64 t_1)⟩]∧L=[]) ?_ ?_ BIG _ _ ⟨(0),hx0,FOk_of [0,1,4,12,13] hf3 (by kernel_rfl),(by kernel_rfl)⟩
    · rintro f L ⟨t_1,h,_⟩
      cases (show (none:Option _)=some _ from h)
    · rintro n0 R0 ih f L ⟨t_1,h,hf,rfl⟩
      rw [slices_Equal_sl_string_string_l0] at h
      refine k_seq ?_
      refine k_reg ?_
      refine mops_en hf (by kernel_rfl) fun f1 hf1 => ?_
      refine k_c ?_
      refine k_seq ?_
      refine k_cond hf1 (t:=(decide (t_1 < (ln s1_)))) (by kernel_rfl) (fun hc2 => ?_) (fun hc2 => ?_)
      · have h:=if_t h hc2
        refine k_skip ?_
        refine k_c ?_
        refine k_seq ?_
        refine k_block ?_
        refine k_seq ?_
        refine k_reg ?_
        refine mops_en hf1 (by kernel_rfl) fun f2 hf2 => ?_
        refine k_c ?_
        refine k_seq ?_
        refine k_regq ?_
        refine mops_sg 2 hf2 (by kernel_rfl) fun f3 hf3 => ?_
        obtain ⟨c3,h⟩:=as_ok h
        refine mops_adv rfl (v:=.ip ((cat nS s1_).drop ((t_1:Int).toNat*1))) hf3 (by kernel_rfl) (e_ias (n:=s1_.length) (xv:=.sl false s1_.length (cat nS s1_)) (k:=.i64) (iv:=t_1) (p:=.ip ((cat nS s1_).drop ((t_1:Int).toNat*1))) (by kernel_rfl) (by kernel_rfl) (by kernel_rfl) (by kernel_rfl) c3) fun f4 hf4 => ?_
        refine mops_adv rfl (v:=.s (.string (gt s1_ t_1))) hf4 (by kernel_rfl) (e_load_ip (g:=nS) (l:=s1_) (iv:=t_1) [] (by kernel_rfl) c3 (by kernel_rfl) (by kernel_rfl)) fun f5 hf5 => ?_
        refine mops_sg 2 hf5 (by kernel_rfl) fun f6 hf6 => ?_
        obtain ⟨c4,h⟩:=as_ok h
        refine mops_adv rfl (v:=.ip ((cat nS s2_).drop ((t_1:Int).toNat*1))) hf6 (by kernel_rfl) (e_ias (n:=s2_.length) (xv:=.sl false s2_.length (cat nS s2_)) (k:=.i64) (iv:=t_1) (p:=.ip ((cat nS s2_).drop ((t_1:Int).toNat*1))) (by kernel_rfl) (by kernel_rfl) (by kernel_rfl) (by kernel_rfl) c4) fun f7 hf7 => ?_
        refine mops_adv rfl (v:=.s (.string (gt s2_ t_1))) hf7 (by kernel_rfl) (e_load_ip (g:=nS) (l:=s2_) (iv:=t_1) [] (by kernel_rfl) c4 (by kernel_rfl) (by kernel_rfl)) fun f8 hf8 => ?_
        refine mops_en hf8 (by kernel_rfl) fun f9 hf9 => ?_
        refine k_c ?_
        refine k_cond hf9 (t:=(!((gt s1_ t_1).toList == (gt s2_ t_1).toList))) (by kernel_rfl) (fun hc5 => ?_) (fun hc5 => ?_)
        · have h:=if_t h hc5
          refine k_seq ?_
          refine k_reg ?_
          refine mops_en hf9 (by kernel_rfl) fun f10 hf10 => ?_
          refine k_c ?_
          refine k_ret ?_
          refine x_br ?_
          refine x_c nofun ?_
          refine x_l nofun ?_
          refine x_br ?_
          refine x_c nofun ?_
          obtain rfl:=hret0 _ (Option.some.inj h)
          exact k_fin (fin_ret (.inl rfl) hf10 (vs:=[.s (.bool false)]) (by kernel_rfl) (SettL.pure (FzL.stat rfl)))
        · have h:=if_f h hc5
          refine k_skip ?_
          refine k_b ?_
          refine k_c ?_
          refine k_reg ?_
          refine mops_en hf9 (by kernel_rfl) fun f10 hf10 => ?_
          refine k_l ?_
          exact ih _ _ ⟨(IntKind.wrap .i64 (t_1+1)),h,FOk_of [0,1,4,12,13] hf10 (by kernel_rfl),(by kernel_rfl)⟩
      · have h:=if_f h hc2
        refine k_exit ?_
        refine x_c nofun ?_
        refine x_l nofun ?_
        refine x_b ?_
        refine k_hp (L':=[]) (by kernel_rfl) ?_
        exact hgo0  (Option.some.inj h) _ (FOk_of [4] hf1 (by kernel_rfl))
end Go.Proofs.YtaoomioogojfhaaK
