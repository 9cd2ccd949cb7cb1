/- The Go functions come to the functions over typed data. Printed by a program of this work. -/
import Derived.Test.YtaoomioogojfhaaF
import Derived.Test.YtaoomioogojfhaaProg
import Derived.Test.YtaoomioogojfhaaRq
import Derived.Test.YtaoomioogojfhaaSo
import Derived.Test.YtaoomioogojfhaaSt
import Derived.Test.YtaoomioogojfhaaG0
namespace Go.Proofs.YtaoomioogojfhaaK
set_option linter.unusedVariables false
set_option linter.unusedSimpArgs false
set_option maxHeartbeats 4000000
open Go.RowKit
attribute [local irreducible] dwv mops lops lqops lwops kont iter run runK rk okK ex E1 vals val chain chB sel resF
def spinetref41_Right_i0:List Op1:=[(oM 2 (.k (.bool false)) [])]
def spinetref41_Right_i1:List Op1:=[(oM 4 (.t 0) []),(oE 5 (.lens (.t 4)) [0]),(oE 6 (.bin .lss (.t 5) (.k (.int .i64 1))) [1]),(oM 7 (.t 6) [2]),(oG 8 (.mv (.t 0)) 7 false [3]),(oG 9 (.lens (.t 8)) 7 false [4,3]),(oG 10 (.bin .gtr (.t 9) (.k (.int .i64 16))) 7 false [5,3]),(oE 11 (.pick (.t 7) (.k (.bool true)) (.t 10)) [3,6]),(oM 12 (.t 11) [7,3]),(oG 13 (.mv (.t 0)) 12 false [8]),(oG 14 (.ixs (.t 13) (.k (.int .i64 0))) 12 false [9,8]),⟨(some 15),(.call 17 [(.t 14)]),(some (12,false)),[10,8,8]⟩,(oG 16 (.un .not (.t 15)) 12 false [11,8]),(oE 17 (.pick (.t 12) (.k (.bool true)) (.t 16)) [8,12])]
def spinetref41_Right_i2:List Op1:=[(oM 2 (.k (.bool false)) [])]
def spinetref41_Right_i3:IR:=.ret
def spinetref41_Right_i4:IR:=(.cond (.t 17) (.seq (.reg false spinetref41_Right_i2) spinetref41_Right_i3) .skip)
def spinetref41_Right_i5:List Op1:=[(oM 3 (.k (.int .i64 1)) [])]
def spinetref41_Right_i6:List Op1:=[(oM 18 (.t 3) []),(oM 19 (.t 0) []),(oE 20 (.lens (.t 19)) [1]),(oE 21 (.bin .lss (.t 18) (.t 20)) [0,2])]
def spinetref41_Right_i7:IR:=(.cond (.t 21) .skip (.exit 0))
def spinetref41_Right_i8:List Op1:=[(oM 24 (.t 0) []),(oM 25 (.t 3) []),(oE 26 (.ixs (.t 24) (.t 25)) [0,1]),(oC 27 17 [(.t 26)] [2]),(oE 28 (.un .not (.t 27)) [3]),(oM 29 (.t 28) [4,3]),(oG 30 (.mv (.t 0)) 29 true [5]),(oG 31 (.mv (.t 3)) 29 true [5]),(oG 32 (.ixs (.t 30) (.t 31)) 29 true [6,7,5]),(oG 33 (.bin .lss (.t 32) (.k (.int .u8 48))) 29 true [8,5]),(oG 34 (.mv (.t 33)) 29 true [9,5,5]),(oG 35 (.mv (.t 0)) 34 false [10]),(oG 36 (.mv (.t 3)) 34 false [10]),(oG 37 (.ixs (.t 35) (.t 36)) 34 false [11,12,10]),(oG 38 (.bin .gtr (.t 37) (.k (.int .u8 57))) 34 false [13,10]),(oG 39 (.pick (.t 34) (.k (.bool true)) (.t 38)) 29 true [10,14,5]),(oE 40 (.pick (.t 29) (.t 39) (.k (.bool false))) [5,15])]
def spinetref41_Right_i9:List Op1:=[(oM 2 (.k (.bool false)) [])]
def spinetref41_Right_i10:IR:=.ret
def spinetref41_Right_i11:IR:=(.cond (.t 40) (.seq (.reg false spinetref41_Right_i9) spinetref41_Right_i10) .skip)
def spinetref41_Right_i12:List Op1:=[(oM 22 (.t 3) []),(oE 23 (.bin .add (.t 22) (.k (.int .i64 1))) [0]),(oM 3 (.t 23) [1,0,1])]
def spinetref41_Right_i13:IR:=(.reg false spinetref41_Right_i12)
def spinetref41_Right_i14:IR:=(.seq (.block 1 (.seq (.reg false spinetref41_Right_i8) spinetref41_Right_i11)) spinetref41_Right_i13)
def spinetref41_Right_i15:IR:=(.seq (.seq (.reg false spinetref41_Right_i6) spinetref41_Right_i7) spinetref41_Right_i14)
def spinetref41_Right_i16:IR:=(.block 0 (.loop spinetref41_Right_i15))
def spinetref41_Right_i17:List Op1:=[(oM 2 (.k (.bool true)) [])]
def spinetref41_Right_i18:IR:=.ret
def spinetref41_Right_i19:IR:=(.seq (.reg false spinetref41_Right_i17) spinetref41_Right_i18)
def spinetref41_Right_i20:IR:=(.seq (.seq (.reg false spinetref41_Right_i5) spinetref41_Right_i16) spinetref41_Right_i19)
def spinetref41_Right_i21:IR:=(.seq (.seq (.reg false spinetref41_Right_i1) spinetref41_Right_i4) spinetref41_Right_i20)
def spinetref41_Right_ir:IR:=(.seq (.reg false spinetref41_Right_i0) spinetref41_Right_i21)
theorem spinetref41_Right_cfn:cFn Try.prog 5=some (spinetref41_Right_ir,[(.t 2)],41):=by kernel_rfl
def spinetref41_Right_V (r:(Bool)):V:=.s (.bool r)
def spinetref41_Right_C (r:(Bool)):X→Fr→Hp→Prop:=FinL [(.t 2)] [] (spinetref41_Right_V r) []
theorem spinetref41_Right_ok (s_:ByteArray) (r:(Bool)) (h:spinetref41_Right s_=some r):Pure Try.prog 5 [.s (.string s_)] (spinetref41_Right_V r):=by
  refine ConL.of spinetref41_Right_cfn (Nat.le_of_ble_eq_true (by kernel_rfl)) (Nat.le_of_ble_eq_true (by kernel_rfl)) ?_
  refine k_start ?_
  show dwv Try.prog [] spinetref41_Right_ir (kont Try.prog [] (spinetref41_Right_C r) []) (fr0 [.s (.string s_)]) []
  have hf:FOk (fr0 [.s (.string s_)]) [⟨0,[],.s (.string s_)⟩]:=⟨⟨fun _=>rfl,fun h=>(h trivial).elim⟩,trivial⟩
  generalize fr0 [.s (.string s_)]=f at hf ⊢
  unfold spinetref41_Right at h
  refine k_seq ?_
  refine k_reg ?_
  refine mops_en hf (by kernel_rfl) fun f1 hf1 => ?_
  refine k_c ?_
  refine k_seq ?_
  refine k_seq ?_
  refine k_reg ?_
  refine mops_sg 10 hf1 (by kernel_rfl) fun f2 hf2 => ?_
  obtain ⟨c1,h⟩:=as_ok h
  refine mops_gadv (dst:=(some 14)) (op:=(.ixs (.t 13) (.k (.int .i64 0)))) (aft:=[9,8]) (t:=12) (w:=false) (ch:=[(12,false)]) (b:=(!((decide ((sln s_) < 1))||(decide (16 < (sln s_)))))) (v:=.s (.int .u8 (bt s_ (0)))) (by kernel_rfl) hf2 (by kernel_rfl) (by kernel_rfl) (by kernel_rfl) (fun hb2=>e_ixs (t:=s_) (k:=.i64) (iv:=0) (by kernel_rfl) (by kernel_rfl) (c1 hb2)) fun f3 hf3 => ?_
  obtain ⟨r_,hx_r_,h⟩:=Option.bind_eq_some_iff.1 h
  refine mops_gcall (dst:=(some 15)) (m:=17) (args:=[(.t 14)]) (aft:=[10,8,8]) (t:=12) (w:=false) (ch:=[(12,false)]) (b:=(!((decide ((sln s_) < 1))||(decide (16 < (sln s_)))))) (by kernel_rfl) hf3 (by kernel_rfl) (by kernel_rfl) (av:=[.s (.int .u8 (bt s_ (0)))]) (by kernel_rfl) (v:=.s (.bool r_)) (by kernel_rfl) (fun hb3=>(CalL.pure (spinetref41_Letter_ok (bt s_ (0)) r_ (if_t hx_r_ hb3)) rfl rfl (Nat.le_of_ble_eq_true (by kernel_rfl)))) fun f4 hf4 => ?_
  refine mops_en hf4 (by kernel_rfl) fun f5 hf5 => ?_
  refine k_c ?_
  refine k_cond hf5 (t:=(((decide ((sln s_) < 1))||(decide (16 < (sln s_))))||(!r_))) (by kernel_rfl) (fun hc4 => ?_) (fun hc4 => ?_)
  · have h:=if_t h hc4
    refine k_seq ?_
    refine k_reg ?_
    refine mops_en hf5 (by kernel_rfl) fun f6 hf6 => ?_
    refine k_c ?_
    refine k_ret ?_
    refine x_c nofun ?_
    obtain rfl:=Option.some.inj h
    exact k_fin (fin_ret (.inl rfl) hf6 (vs:=[.s (.bool false)]) (by kernel_rfl) (SettL.pure (FzL.stat rfl)))
  · have h:=if_f h hc4
    refine k_skip ?_
    refine k_c ?_
    refine k_seq ?_
    refine k_seq ?_
    refine k_reg ?_
    refine mops_en hf5 (by kernel_rfl) fun f6 hf6 => ?_
    refine k_c ?_
    refine k_block ?_
    obtain ⟨o0,hx0,h⟩:=Option.bind_eq_some_iff.1 h
    have hret0:∀ r0,.ret r0=o0→r0=r:=fun r0 e=>by subst e; exact Option.some.inj h
    have hgo0:.go ()=o0→∀ f,FOk f [⟨2,[],.s (.bool false)⟩]→kont Try.prog [] (spinetref41_Right_C r) ((.c spinetref41_Right_i19)::[]) .normal f []:=by
      intro  e f hf
      subst e
      refine k_c ?_
      refine k_seq ?_
      refine k_reg ?_
      refine mops_en hf (by kernel_rfl) fun f1 hf1 => ?_
      refine k_c ?_
      refine k_ret ?_
      obtain rfl:=Option.some.inj h
      exact k_fin (fin_ret (.inl rfl) hf1 (vs:=[.s (.bool true)]) (by kernel_rfl) (SettL.pure (FzL.stat rfl)))
    refine k_loop BIG ?_
    refine loop_ind (fun n f L=>∃ (i_1:Int),spinetref41_Right_l0 s_ n i_1=some o0∧FOk f [⟨0,[],.s (.string s_)⟩,⟨2,[],.s (.bool false)⟩,⟨3,[],.s (.int .i64 i_1)⟩]∧L=[]) ?_ ?_ BIG _ _ ⟨(1),hx0,FOk_of [0,2,3] hf6 (by kernel_rfl),(by kernel_rfl)⟩
    · rintro f L ⟨i_1,h,_⟩
      cases (show (none:Option _)=some _ from h)
    · rintro n0 R0 ih f L ⟨i_1,h,hf,rfl⟩
      rw [spinetref41_Right_l0] at h
      refine k_seq ?_
      refine k_seq ?_
      refine k_reg ?_
      refine mops_en hf (by kernel_rfl) fun f1 hf1 => ?_
      refine k_c ?_
      refine k_cond hf1 (t:=(decide (i_1 < (sln s_)))) (by kernel_rfl) (fun hc5 => ?_) (fun hc5 => ?_)
      · have h:=if_t h hc5
        refine k_skip ?_
        refine k_c ?_
        refine k_seq ?_
        refine k_block ?_
        refine k_seq ?_
        refine k_reg ?_
        refine mops_sg 2 hf1 (by kernel_rfl) fun f2 hf2 => ?_
        obtain ⟨c6,h⟩:=as_ok h
        refine mops_adv rfl (v:=.s (.int .u8 (bt s_ i_1))) hf2 (by kernel_rfl) (e_ixs (t:=s_) (k:=.i64) (iv:=i_1) (by kernel_rfl) (by kernel_rfl) c6) fun f3 hf3 => ?_
        obtain ⟨r_3,hx_r_3,h⟩:=Option.bind_eq_some_iff.1 h
        refine mops_call rfl hf3 (av:=[.s (.int .u8 (bt s_ i_1))]) (by kernel_rfl) (v:=.s (.bool r_3)) (CalL.pure (spinetref41_Letter_ok (bt s_ i_1) r_3 hx_r_3) rfl rfl (Nat.le_of_ble_eq_true (by kernel_rfl))) (fun _=>rfl) fun f4 hf4 => ?_
        refine mops_sg 4 hf4 (by kernel_rfl) fun f5 hf5 => ?_
        obtain ⟨c7,h⟩:=as_ok h
        refine mops_gadv (dst:=(some 32)) (op:=(.ixs (.t 30) (.t 31))) (aft:=[6,7,5]) (t:=29) (w:=true) (ch:=[(29,true)]) (b:=(!r_3)) (v:=.s (.int .u8 (bt s_ i_1))) (by kernel_rfl) hf5 (by kernel_rfl) (by kernel_rfl) (by kernel_rfl) (fun hb8=>e_ixs (t:=s_) (k:=.i64) (iv:=i_1) (by kernel_rfl) (by kernel_rfl) (c7 hb8)) fun f6 hf6 => ?_
        refine mops_sg 4 hf6 (by kernel_rfl) fun f7 hf7 => ?_
        obtain ⟨c9,h⟩:=as_ok h
        refine mops_gadv (dst:=(some 37)) (op:=(.ixs (.t 35) (.t 36))) (aft:=[11,12,10]) (t:=34) (w:=false) (ch:=[(34,false),(29,true)]) (b:=((!(decide ((bt s_ i_1) < 48)))&&(!r_3))) (v:=.s (.int .u8 (bt s_ i_1))) (by kernel_rfl) hf7 (by kernel_rfl) (by kernel_rfl) (by kernel_rfl) (fun hb10=>e_ixs (t:=s_) (k:=.i64) (iv:=i_1) (by kernel_rfl) (by kernel_rfl) (c9 hb10)) fun f8 hf8 => ?_
        refine mops_en hf8 (by kernel_rfl) fun f9 hf9 => ?_
        refine k_c ?_
        refine k_cond hf9 (t:=((!r_3)&&((decide ((bt s_ i_1) < 48))||(decide (57 < (bt s_ i_1)))))) (by kernel_rfl) (fun hc11 => ?_) (fun hc11 => ?_)
        · have h:=if_t h hc11
          refine k_seq ?_
          refine k_reg ?_
          refine mops_en hf9 (by kernel_rfl) fun f10 hf10 => ?_
          refine k_c ?_
          refine k_ret ?_
          refine x_br ?_
          refine x_c nofun ?_
          refine x_l nofun ?_
          refine x_br ?_
          refine x_c nofun ?_
          obtain rfl:=hret0 _ (Option.some.inj h)
          exact k_fin (fin_ret (.inl rfl) hf10 (vs:=[.s (.bool false)]) (by kernel_rfl) (SettL.pure (FzL.stat rfl)))
        · have h:=if_f h hc11
          refine k_skip ?_
          refine k_b ?_
          refine k_c ?_
          refine k_reg ?_
          refine mops_en hf9 (by kernel_rfl) fun f10 hf10 => ?_
          refine k_l ?_
          exact ih _ _ ⟨(IntKind.wrap .i64 (i_1+1)),h,FOk_of [0,2,3] hf10 (by kernel_rfl),(by kernel_rfl)⟩
      · have h:=if_f h hc5
        refine k_exit ?_
        refine x_c nofun ?_
        refine x_l nofun ?_
        refine x_b ?_
        refine k_hp (L':=[]) (by kernel_rfl) ?_
        exact hgo0  (Option.some.inj h) _ (FOk_of [2] hf1 (by kernel_rfl))
def spinetlaw41_alive_i0:List Op1:=[(oM 0 (.k (.bool false)) [])]
def spinetlaw41_alive_i1:List Op1:=[(oE 6 (.build [(.map none)] []) []),(oE 7 (.box (.t 6)) [0]),(oM 1 (.t 7) [1,0,1])]
def spinetlaw41_alive_i2:List Op1:=[(oM 8 (.t 1) []),(oC 9 8 [(.t 8),(.k (.string ⟨#[97]⟩)),(.k (.int .u16 5))] [0]),(oM 2 (.t 9) [1,1,0,1])]
def spinetlaw41_alive_i3:List Op1:=[(oM 11 (.t 1) []),(oC 12 11 [(.t 11),(.k (.int .u16 7))] [0]),(oM 10 (.t 12) [1]),(oE 13 (.ext 0 (.t 10)) [2]),(oE 14 (.ext 1 (.t 10)) [2]),(oE 15 (.ext 2 (.t 10)) [2]),(oM 3 (.t 13) [3,1,0,1,2,3]),(oM 4 (.t 14) [4,6,0,1,2,3,4,6]),(oM 5 (.t 15) [5,7,0,1,2,3,4,5,6,7])]
def spinetlaw41_alive_i4:List Op1:=[(oM 16 (.t 2) []),(oE 17 (.bin .eql (.t 16) (.k (.int .i64 0))) [0]),(oM 18 (.t 17) [1]),(oG 19 (.mv (.t 3)) 18 true [2]),(oG 20 (.bin .eql (.t 19) (.k (.string ⟨#[97]⟩))) 18 true [3,2]),(oE 21 (.pick (.t 18) (.t 20) (.k (.bool false))) [2,4]),(oM 22 (.t 21) [5,2]),(oG 23 (.mv (.t 4)) 22 true [6]),(oG 24 (.bin .eql (.t 23) (.k (.int .i64 2))) 22 true [7,6]),(oE 25 (.pick (.t 22) (.t 24) (.k (.bool false))) [6,8]),(oM 26 (.t 25) [9,6]),(oG 27 (.mv (.t 5)) 26 true [10]),(oE 28 (.pick (.t 26) (.t 27) (.k (.bool false))) [10,11]),(oM 29 (.t 28) [12,10]),(oE 30 (.pick (.t 29) (.k (.bool true)) (.k (.bool false))) [13]),(oM 0 (.t 30) [14,13,0,1,2,3,4,5,6,7,8,9,10,11,12,13,14])]
def spinetlaw41_alive_i5:IR:=.ret
def spinetlaw41_alive_i6:IR:=(.seq (.reg false spinetlaw41_alive_i4) spinetlaw41_alive_i5)
def spinetlaw41_alive_i7:IR:=(.seq (.reg false spinetlaw41_alive_i3) spinetlaw41_alive_i6)
def spinetlaw41_alive_i8:IR:=(.seq (.reg false spinetlaw41_alive_i2) spinetlaw41_alive_i7)
def spinetlaw41_alive_i9:IR:=(.seq (.reg false spinetlaw41_alive_i1) spinetlaw41_alive_i8)
def spinetlaw41_alive_ir:IR:=(.seq (.reg false spinetlaw41_alive_i0) spinetlaw41_alive_i9)
theorem spinetlaw41_alive_cfn:cFn Try.prog 16=some (spinetlaw41_alive_ir,[(.t 0)],31):=by kernel_rfl
def spinetlaw41_alive_V (r:(Bool)):V:=.s (.bool r)
def spinetlaw41_alive_C (r:(Bool)):X→Fr→Hp→Prop:=FinL [(.t 0)] [] (spinetlaw41_alive_V r) []
theorem spinetlaw41_alive_ok (r:(Bool)) (h:spinetlaw41_alive=some r):Pure Try.prog 16 [] (spinetlaw41_alive_V r):=by
  refine ConL.of spinetlaw41_alive_cfn (Nat.le_of_ble_eq_true (by kernel_rfl)) (Nat.le_of_ble_eq_true (by kernel_rfl)) ?_
  refine k_start ?_
  show dwv Try.prog [] spinetlaw41_alive_ir (kont Try.prog [] (spinetlaw41_alive_C r) []) (fr0 []) []
  have hf:FOk (fr0 []) []:=trivial
  generalize fr0 []=f at hf ⊢
  unfold spinetlaw41_alive at h
  refine k_seq ?_
  refine k_reg ?_
  refine mops_en hf (by kernel_rfl) fun f1 hf1 => ?_
  refine k_c ?_
  refine k_seq ?_
  refine k_reg ?_
  refine mops_en hf1 (by kernel_rfl) fun f2 hf2 => ?_
  refine k_mk (ver:=0) (q:=1) (cs:=[.s (.map none)]) (Y:=SymX ([]:SymT)) (L':=[⟨0,.res (SymX ([]:SymT)),1,[]⟩]) 0 ?_ sym_make
  refine k_c ?_
  refine k_seq ?_
  refine k_reg ?_
  refine mops_sg 1 hf2 (by kernel_rfl) fun f3 hf3 => ?_
  obtain ⟨ok_,hx_ok_,h⟩:=Option.bind_eq_some_iff.1 h
  obtain ⟨c1,h⟩:=as_ok h
  refine mops_call rfl hf3 (av:=[.ptr 0 0 0,.s (.string (⟨#[97]⟩:ByteArray)),.s (.int .u16 5)]) (by kernel_rfl) (v:=.s (.int .i64 (symSet ([]:SymT) (⟨#[97]⟩:ByteArray) (5) ok_).1)) (L':=[⟨0,.res (SymX ((symSet ([]:SymT) (⟨#[97]⟩:ByteArray) (5) ok_).2)),1,[]⟩]) (CalL.borrow (M:=[⟨0,.res (SymX ([]:SymT)),1,[]⟩]) (M':=[⟨0,.res (SymX ((symSet ([]:SymT) (⟨#[97]⟩:ByteArray) (5) ok_).2)),1,[]⟩]) [0] (sym_Set_con ([]:SymT) (⟨#[97]⟩:ByteArray) (5) ok_ (symbols_Right_ok (⟨#[97]⟩:ByteArray) ok_ hx_ok_) c1) (by kernel_rfl) (RNs.cons (RN.ptr (by kernel_rfl)) (RNs.cons (RN.stat rfl) (RNs.cons (RN.stat rfl) RNs.nil))) (RN.stat rfl) (RBs.cons (RNs.stat rfl) RBs.nil) (RBs.cons (RNs.stat rfl) RBs.nil) (by kernel_rfl) (by kernel_rfl)) (by intro h; cases h) fun f4 hf4 => ?_
  refine mops_en hf4 (by kernel_rfl) fun f5 hf5 => ?_
  refine k_c ?_
  refine k_seq ?_
  refine k_reg ?_
  refine mops_sg 1 hf5 (by kernel_rfl) fun f6 hf6 => ?_
  obtain ⟨c2,h⟩:=as_ok h
  obtain ⟨c3,h⟩:=as_ok h
  obtain ⟨c4,h⟩:=as_ok h
  refine mops_call rfl hf6 (av:=[.ptr 0 0 0,.s (.int .u16 7)]) (by kernel_rfl) (v:=.tup [.s (.string (symNearR ((symSet ([]:SymT) (⟨#[97]⟩:ByteArray) (5) ok_).2) (7)).1),.s (.int .i64 (symNearR ((symSet ([]:SymT) (⟨#[97]⟩:ByteArray) (5) ok_).2) (7)).2.1),.s (.bool (symNearR ((symSet ([]:SymT) (⟨#[97]⟩:ByteArray) (5) ok_).2) (7)).2.2)]) (L':=[⟨0,.res (SymX ((symSet ([]:SymT) (⟨#[97]⟩:ByteArray) (5) ok_).2)),1,[]⟩]) (CalL.borrow (M:=[⟨0,.res (SymX ((symSet ([]:SymT) (⟨#[97]⟩:ByteArray) (5) ok_).2)),1,[]⟩]) (M':=[⟨0,.res (SymX ((symSet ([]:SymT) (⟨#[97]⟩:ByteArray) (5) ok_).2)),1,[]⟩]) [0] (sym_Near_con ((symSet ([]:SymT) (⟨#[97]⟩:ByteArray) (5) ok_).2) (7) c2 c3 c4) (by kernel_rfl) (RNs.cons (RN.ptr (by kernel_rfl)) (RNs.cons (RN.stat rfl) RNs.nil)) (RN.stat rfl) (RBs.cons (RNs.stat rfl) RBs.nil) (RBs.cons (RNs.stat rfl) RBs.nil) (by kernel_rfl) (by kernel_rfl)) (by intro h; cases h) fun f7 hf7 => ?_
  refine mops_en hf7 (by kernel_rfl) fun f8 hf8 => ?_
  refine k_c ?_
  refine k_seq ?_
  refine k_reg ?_
  refine mops_en hf8 (by kernel_rfl) fun f9 hf9 => ?_
  refine k_c ?_
  refine k_ret ?_
  obtain rfl:=Option.some.inj h
  exact k_fin (fin_ret (.inl rfl) hf9 (vs:=[.s (.bool ((((((symSet ([]:SymT) (⟨#[97]⟩:ByteArray) (5) ok_).1 == 0)&&(((symNearR ((symSet ([]:SymT) (⟨#[97]⟩:ByteArray) (5) ok_).2) (7)).1).toList == (⟨#[97]⟩:ByteArray).toList))&&((symNearR ((symSet ([]:SymT) (⟨#[97]⟩:ByteArray) (5) ok_).2) (7)).2.1 == 2))&&(symNearR ((symSet ([]:SymT) (⟨#[97]⟩:ByteArray) (5) ok_).2) (7)).2.2)||false))]) (by kernel_rfl) (SettL.pure (FzL.stat rfl)))
def spinetlaw41_SymbolsPlays_i0:List Op1:=[(oM 6 (.k (.bool false)) [])]
def spinetlaw41_SymbolsPlays_i1:List Op1:=[(oM 26 (.t 0) []),(oE 27 (.len (.t 26)) [0]),(oE 28 (.bin .gtr (.t 27) (.k (.int .i64 60))) [1]),(oM 29 (.t 28) [2]),(oG 30 (.mv (.t 2)) 29 false [3]),(oG 31 (.lens (.t 30)) 29 false [4,3]),(oG 32 (.bin .gtr (.t 31) (.k (.int .i64 100))) 29 false [5,3]),(oE 33 (.pick (.t 29) (.k (.bool true)) (.t 32)) [3,6])]
def spinetlaw41_SymbolsPlays_i2:List Op1:=[(oM 6 (.k (.bool true)) [])]
def spinetlaw41_SymbolsPlays_i3:IR:=.ret
def spinetlaw41_SymbolsPlays_i4:IR:=(.cond (.t 33) (.seq (.reg false spinetlaw41_SymbolsPlays_i2) spinetlaw41_SymbolsPlays_i3) .skip)
def spinetlaw41_SymbolsPlays_i5:List Op1:=[(oE 34 (.build [(.map none)] []) []),(oE 35 (.box (.t 34)) [0]),(oM 7 (.t 35) [1,0,1])]
def spinetlaw41_SymbolsPlays_i6:List Op1:=[(oE 8 (.nilg 3) [])]
def spinetlaw41_SymbolsPlays_i7:List Op1:=[(oM 9 (.k (.int .i64 0)) [])]
def spinetlaw41_SymbolsPlays_i8:List Op1:=[(oM 36 (.t 9) []),(oM 37 (.t 0) []),(oE 38 (.len (.t 37)) [1]),(oE 39 (.bin .lss (.t 36) (.t 38)) [0,2])]
def spinetlaw41_SymbolsPlays_i9:IR:=(.cond (.t 39) .skip (.exit 0))
def spinetlaw41_SymbolsPlays_i10:List Op1:=[(oM 42 (.t 0) []),(oM 43 (.t 9) []),(oE 44 (.ias 3 (.t 42) (.t 43)) [0,1]),(oE 45 (.fld 0 (.t 44)) [2]),(oE 46 (.load false 1 (.t 45)) [3]),(oM 10 (.t 46) [4,0,1,2,3,4])]
def spinetlaw41_SymbolsPlays_i11:List Op1:=[(oM 47 (.t 10) []),(oE 48 (.lens (.t 47)) [0]),(oE 49 (.bin .gtr (.t 48) (.k (.int .i64 100))) [1])]
def spinetlaw41_SymbolsPlays_i12:List Op1:=[(oM 6 (.k (.bool true)) [])]
def spinetlaw41_SymbolsPlays_i13:IR:=.ret
def spinetlaw41_SymbolsPlays_i14:IR:=(.cond (.t 49) (.seq (.reg false spinetlaw41_SymbolsPlays_i12) spinetlaw41_SymbolsPlays_i13) .skip)
def spinetlaw41_SymbolsPlays_i15:List Op1:=[(oM 50 (.t 10) []),(oC 51 4 [(.t 50)] [0]),(oM 52 (.t 10) []),(oC 53 5 [(.t 52)] [2,1]),(oE 54 (.bbin true (.t 51) (.t 53)) [1,3])]
def spinetlaw41_SymbolsPlays_i16:List Op1:=[(oM 6 (.k (.bool false)) [])]
def spinetlaw41_SymbolsPlays_i17:IR:=.ret
def spinetlaw41_SymbolsPlays_i18:IR:=(.cond (.t 54) (.seq (.reg false spinetlaw41_SymbolsPlays_i16) spinetlaw41_SymbolsPlays_i17) .skip)
def spinetlaw41_SymbolsPlays_i19:List Op1:=[(oM 55 (.t 8) []),(oM 56 (.t 10) []),(oC 57 6 [(.t 55),(.t 56)] [0,1]),(oM 11 (.t 57) [2,2,0,1,2])]
def spinetlaw41_SymbolsPlays_i20:List Op1:=[(oM 58 (.t 0) []),(oM 59 (.t 9) []),(oE 60 (.ias 3 (.t 58) (.t 59)) [0,1]),(oE 61 (.fld 2 (.t 60)) [2]),(oE 62 (.load false 1 (.t 61)) [3])]
def spinetlaw41_SymbolsPlays_i21:List Op1:=[(oM 63 (.t 7) []),(oM 64 (.t 10) []),(oC 65 7 [(.t 63),(.t 64)] [0,1]),(oM 66 (.t 11) []),(oE 67 (.bin .geq (.t 66) (.k (.int .i64 0))) [3]),(oE 68 (.bbin true (.t 65) (.t 67)) [2,4])]
def spinetlaw41_SymbolsPlays_i22:List Op1:=[(oM 6 (.k (.bool false)) [])]
def spinetlaw41_SymbolsPlays_i23:IR:=.ret
def spinetlaw41_SymbolsPlays_i24:IR:=(.cond (.t 68) (.seq (.reg false spinetlaw41_SymbolsPlays_i22) spinetlaw41_SymbolsPlays_i23) .skip)
def spinetlaw41_SymbolsPlays_i25:List Op1:=[(oM 69 (.t 11) []),(oE 70 (.bin .geq (.t 69) (.k (.int .i64 0))) [0])]
def spinetlaw41_SymbolsPlays_i26:List An:=[(aO (oE 71 (.bslo 3 0 [] []) []) true 0 1),(aO (oM 72 (.t 8) []) false 0 1),(aO (oM 73 (.t 11) []) false 0 1),(aO (oE 74 (.slice 3 (.t 72) none (some (.t 73))) [1,2]) false 0 1),(aO (oE 75 (.app 29 3 24 (.t 71) (.t 74)) [0,3]) true 1 2),(aO (oM 76 (.t 8) []) false 0 2),(aO (oM 77 (.t 11) []) false 0 2),(aO (oE 78 (.bin .add (.t 77) (.k (.int .i64 1))) [6]) false 0 2),(aO (oE 79 (.slice 3 (.t 76) (some (.t 78)) none) [5,7]) false 0 2),(aO (oE 80 (.app 29 3 24 (.t 75) (.t 79)) [4,8,4]) true 2 3),(aO (oM 8 (.t 80) [9,9,0,1,2,3,4,5,6,7,8,9]) false 3 3)]
def spinetlaw41_SymbolsPlays_i27:IR:=(.cond (.t 70) (.regw spinetlaw41_SymbolsPlays_i26) .skip)
def spinetlaw41_SymbolsPlays_i28:IR:=(.exit 1)
def spinetlaw41_SymbolsPlays_i29:IR:=(.seq (.seq (.reg false spinetlaw41_SymbolsPlays_i25) spinetlaw41_SymbolsPlays_i27) spinetlaw41_SymbolsPlays_i28)
def spinetlaw41_SymbolsPlays_i30:IR:=(.cond (.t 62) (.seq (.seq (.reg false spinetlaw41_SymbolsPlays_i21) spinetlaw41_SymbolsPlays_i24) spinetlaw41_SymbolsPlays_i29) .skip)
def spinetlaw41_SymbolsPlays_i31:List Op1:=[(oM 12 (.k (.int .i64 0)) [])]
def spinetlaw41_SymbolsPlays_i32:List Op1:=[(oM 82 (.t 10) []),(oC 83 5 [(.t 82)] [0]),(oE 84 (.un .not (.t 83)) [1]),(oM 81 (.t 84) [2,1])]
def spinetlaw41_SymbolsPlays_i33:List Op1:=[(oM 12 (.k (.int .i64 40)) [])]
def spinetlaw41_SymbolsPlays_i34:List Op1:=[(oM 86 (.t 11) []),(oE 87 (.bin .geq (.t 86) (.k (.int .i64 0))) [0]),(oM 88 (.t 87) [1]),(oG 89 (.mv (.t 8)) 88 true [2]),(oG 90 (.mv (.t 11)) 88 true [2]),(oG 91 (.ias 3 (.t 89) (.t 90)) 88 true [3,4,2]),(oG 92 (.fld 1 (.t 91)) 88 true [5,2]),(oG 93 (.load false 1 (.t 92)) 88 true [6,2]),(oG 94 (.mv (.t 0)) 88 true [2]),(oG 95 (.mv (.t 9)) 88 true [2]),(oG 96 (.ias 3 (.t 94) (.t 95)) 88 true [8,9,2]),(oG 97 (.fld 1 (.t 96)) 88 true [10,2]),(oG 98 (.load false 1 (.t 97)) 88 true [11,2]),(oG 99 (.bin .neq (.t 93) (.t 98)) 88 true [7,12,2]),(oE 100 (.pick (.t 88) (.t 99) (.k (.bool false))) [2,13]),(oM 85 (.t 100) [14,2])]
def spinetlaw41_SymbolsPlays_i35:List Op1:=[(oM 12 (.k (.int .i64 41)) [])]
def spinetlaw41_SymbolsPlays_i36:List Op1:=[(oM 102 (.t 11) []),(oE 103 (.bin .lss (.t 102) (.k (.int .i64 0))) [0]),(oM 101 (.t 103) [1])]
def spinetlaw41_SymbolsPlays_i37:List Op1:=[(oM 104 (.t 8) []),(oM 105 (.t 0) []),(oM 106 (.t 9) []),(oE 107 (.ias 3 (.t 105) (.t 106)) [1,2]),(oE 108 (.load true 3 (.t 107)) [3]),(oE 109 (.bslo 3 1 [(.string ⟨#[]⟩),(.int .u16 0),(.bool false)] [(0,(3,(.t 108)))]) [4]),(oE 110 (.app 29 3 24 (.t 104) (.t 109)) [0,5]),(oM 8 (.t 110) [6,6,0,1,2,3,4,5,6])]
def spinetlaw41_SymbolsPlays_i38:IR:=(.cond (.t 101) (.reg false spinetlaw41_SymbolsPlays_i37) .skip)
def spinetlaw41_SymbolsPlays_i39:IR:=(.cond (.t 85) (.reg false spinetlaw41_SymbolsPlays_i35) (.seq (.reg false spinetlaw41_SymbolsPlays_i36) spinetlaw41_SymbolsPlays_i38))
def spinetlaw41_SymbolsPlays_i40:IR:=(.cond (.t 81) (.reg false spinetlaw41_SymbolsPlays_i33) (.seq (.reg true spinetlaw41_SymbolsPlays_i34) spinetlaw41_SymbolsPlays_i39))
def spinetlaw41_SymbolsPlays_i41:List Op1:=[(oM 111 (.t 7) []),(oM 112 (.t 10) []),(oM 113 (.t 0) []),(oM 114 (.t 9) []),(oE 115 (.ias 3 (.t 113) (.t 114)) [2,3]),(oE 116 (.fld 1 (.t 115)) [4]),(oE 117 (.load false 1 (.t 116)) [5]),(oC 118 8 [(.t 111),(.t 112),(.t 117)] [0,1,6]),(oM 119 (.t 12) []),(oE 120 (.bin .neq (.t 118) (.t 119)) [7,8])]
def spinetlaw41_SymbolsPlays_i42:List Op1:=[(oM 6 (.k (.bool false)) [])]
def spinetlaw41_SymbolsPlays_i43:IR:=.ret
def spinetlaw41_SymbolsPlays_i44:IR:=(.cond (.t 120) (.seq (.reg false spinetlaw41_SymbolsPlays_i42) spinetlaw41_SymbolsPlays_i43) .skip)
def spinetlaw41_SymbolsPlays_i45:IR:=(.seq (.reg false spinetlaw41_SymbolsPlays_i41) spinetlaw41_SymbolsPlays_i44)
def spinetlaw41_SymbolsPlays_i46:IR:=(.seq (.block 2 (.seq (.reg false spinetlaw41_SymbolsPlays_i32) spinetlaw41_SymbolsPlays_i40)) spinetlaw41_SymbolsPlays_i45)
def spinetlaw41_SymbolsPlays_i47:IR:=(.seq (.reg false spinetlaw41_SymbolsPlays_i31) spinetlaw41_SymbolsPlays_i46)
def spinetlaw41_SymbolsPlays_i48:IR:=(.seq (.seq (.reg false spinetlaw41_SymbolsPlays_i20) spinetlaw41_SymbolsPlays_i30) spinetlaw41_SymbolsPlays_i47)
def spinetlaw41_SymbolsPlays_i49:IR:=(.seq (.reg false spinetlaw41_SymbolsPlays_i19) spinetlaw41_SymbolsPlays_i48)
def spinetlaw41_SymbolsPlays_i50:IR:=(.seq (.seq (.reg false spinetlaw41_SymbolsPlays_i15) spinetlaw41_SymbolsPlays_i18) spinetlaw41_SymbolsPlays_i49)
def spinetlaw41_SymbolsPlays_i51:IR:=(.seq (.seq (.reg false spinetlaw41_SymbolsPlays_i11) spinetlaw41_SymbolsPlays_i14) spinetlaw41_SymbolsPlays_i50)
def spinetlaw41_SymbolsPlays_i52:List Op1:=[(oM 40 (.t 9) []),(oE 41 (.bin .add (.t 40) (.k (.int .i64 1))) [0]),(oM 9 (.t 41) [1,0,1])]
def spinetlaw41_SymbolsPlays_i53:IR:=(.reg false spinetlaw41_SymbolsPlays_i52)
def spinetlaw41_SymbolsPlays_i54:IR:=(.seq (.block 1 (.seq (.reg false spinetlaw41_SymbolsPlays_i10) spinetlaw41_SymbolsPlays_i51)) spinetlaw41_SymbolsPlays_i53)
def spinetlaw41_SymbolsPlays_i55:IR:=(.seq (.seq (.reg false spinetlaw41_SymbolsPlays_i8) spinetlaw41_SymbolsPlays_i9) spinetlaw41_SymbolsPlays_i54)
def spinetlaw41_SymbolsPlays_i56:IR:=(.block 0 (.loop spinetlaw41_SymbolsPlays_i55))
def spinetlaw41_SymbolsPlays_i57:List Op1:=[(oE 13 (.nilg 1) []),(oE 14 (.nilg 1) [0])]
def spinetlaw41_SymbolsPlays_i58:List Op1:=[(oM 15 (.k (.string ⟨#[]⟩)) []),(oM 16 (.k (.int .i64 0)) [0,0]),(oM 17 (.k (.bool false)) [1,0,1])]
def spinetlaw41_SymbolsPlays_i59:List Op1:=[(oM 18 (.k (.int .i64 0)) [])]
def spinetlaw41_SymbolsPlays_i60:List Op1:=[(oM 121 (.t 18) []),(oM 122 (.t 8) []),(oE 123 (.len (.t 122)) [1]),(oE 124 (.bin .lss (.t 121) (.t 123)) [0,2])]
def spinetlaw41_SymbolsPlays_i61:IR:=(.cond (.t 124) .skip (.exit 3))
def spinetlaw41_SymbolsPlays_i62:List Op1:=[(oM 127 (.t 13) []),(oM 128 (.t 8) []),(oM 129 (.t 18) []),(oE 130 (.ias 3 (.t 128) (.t 129)) [1,2]),(oE 131 (.fld 0 (.t 130)) [3]),(oE 132 (.load false 1 (.t 131)) [4]),(oE 133 (.bslo 1 1 [(.string ⟨#[]⟩)] [(0,(1,(.t 132)))]) [5]),(oE 134 (.app 9 1 16 (.t 127) (.t 133)) [0,6]),(oM 13 (.t 134) [7,7,0,1,2,3,4,5,6,7])]
def spinetlaw41_SymbolsPlays_i63:List Op1:=[(oM 135 (.t 8) []),(oM 136 (.t 18) []),(oE 137 (.ias 3 (.t 135) (.t 136)) [0,1]),(oE 138 (.fld 1 (.t 137)) [2]),(oE 139 (.load false 1 (.t 138)) [3]),(oM 140 (.t 1) []),(oE 141 (.bin .eql (.t 139) (.t 140)) [4,5])]
def spinetlaw41_SymbolsPlays_i64:List Op1:=[(oM 142 (.t 14) []),(oM 143 (.t 8) []),(oM 144 (.t 18) []),(oE 145 (.ias 3 (.t 143) (.t 144)) [1,2]),(oE 146 (.fld 0 (.t 145)) [3]),(oE 147 (.load false 1 (.t 146)) [4]),(oE 148 (.bslo 1 1 [(.string ⟨#[]⟩)] [(0,(1,(.t 147)))]) [5]),(oE 149 (.app 9 1 16 (.t 142) (.t 148)) [0,6]),(oM 14 (.t 149) [7,7,0,1,2,3,4,5,6,7])]
def spinetlaw41_SymbolsPlays_i65:IR:=(.cond (.t 141) (.reg false spinetlaw41_SymbolsPlays_i64) .skip)
def spinetlaw41_SymbolsPlays_i66:List Op1:=[(oM 150 (.t 1) []),(oE 151 (.cint .i64 (.t 150)) [0]),(oM 152 (.t 8) []),(oM 153 (.t 18) []),(oE 154 (.ias 3 (.t 152) (.t 153)) [2,3]),(oE 155 (.fld 1 (.t 154)) [4]),(oE 156 (.load false 1 (.t 155)) [5]),(oE 157 (.cint .i64 (.t 156)) [6]),(oE 158 (.bin .sub (.t 151) (.t 157)) [1,7]),(oM 19 (.t 158) [8,0,1,2,3,4,5,6,7,8])]
def spinetlaw41_SymbolsPlays_i67:List Op1:=[(oM 159 (.t 19) []),(oE 160 (.bin .geq (.t 159) (.k (.int .i64 0))) [0]),(oM 161 (.t 160) [1]),(oG 162 (.mv (.t 17)) 161 true [2]),(oG 163 (.un .not (.t 162)) 161 true [3,2]),(oG 164 (.mv (.t 163)) 161 true [4,2,2]),(oG 165 (.mv (.t 19)) 164 false [5]),(oG 166 (.mv (.t 16)) 164 false [5]),(oG 167 (.bin .lss (.t 165) (.t 166)) 164 false [6,7,5]),(oG 168 (.pick (.t 164) (.k (.bool true)) (.t 167)) 161 true [5,8,2]),(oG 169 (.mv (.t 168)) 161 true [9,5,2]),(oG 170 (.mv (.t 19)) 169 false [10]),(oG 171 (.mv (.t 16)) 169 false [10]),(oG 172 (.bin .eql (.t 170) (.t 171)) 169 false [11,12,10]),(oG 173 (.mv (.t 172)) 169 false [13,10,10]),(oG 174 (.mv (.t 8)) 173 true [14]),(oG 175 (.mv (.t 18)) 173 true [14]),(oG 176 (.ias 3 (.t 174) (.t 175)) 173 true [15,16,14]),(oG 177 (.fld 0 (.t 176)) 173 true [17,14]),(oG 178 (.load false 1 (.t 177)) 173 true [18,14]),(oG 179 (.mv (.t 15)) 173 true [14]),(oG 180 (.bin .lss (.t 178) (.t 179)) 173 true [19,20,14]),(oG 181 (.pick (.t 173) (.t 180) (.k (.bool false))) 169 false [14,21,10]),(oG 182 (.pick (.t 169) (.k (.bool true)) (.t 181)) 161 true [10,22,2]),(oE 183 (.pick (.t 161) (.t 182) (.k (.bool false))) [2,23])]
def spinetlaw41_SymbolsPlays_i68:List Op1:=[(oM 184 (.t 8) []),(oM 185 (.t 18) []),(oE 186 (.ias 3 (.t 184) (.t 185)) [0,1]),(oE 187 (.fld 0 (.t 186)) [2]),(oE 188 (.load false 1 (.t 187)) [3]),(oM 189 (.t 19) []),(oM 15 (.t 188) [4,0,1,2,3,4]),(oM 16 (.t 189) [5,6,0,1,2,3,4,5,6]),(oM 17 (.k (.bool true)) [7,0,1,2,3,4,5,6,7])]
def spinetlaw41_SymbolsPlays_i69:IR:=(.cond (.t 183) (.reg false spinetlaw41_SymbolsPlays_i68) .skip)
def spinetlaw41_SymbolsPlays_i70:IR:=(.seq (.reg false spinetlaw41_SymbolsPlays_i67) spinetlaw41_SymbolsPlays_i69)
def spinetlaw41_SymbolsPlays_i71:IR:=(.seq (.reg false spinetlaw41_SymbolsPlays_i66) spinetlaw41_SymbolsPlays_i70)
def spinetlaw41_SymbolsPlays_i72:IR:=(.seq (.seq (.reg false spinetlaw41_SymbolsPlays_i63) spinetlaw41_SymbolsPlays_i65) spinetlaw41_SymbolsPlays_i71)
def spinetlaw41_SymbolsPlays_i73:List Op1:=[(oM 125 (.t 18) []),(oE 126 (.bin .add (.t 125) (.k (.int .i64 1))) [0]),(oM 18 (.t 126) [1,0,1])]
def spinetlaw41_SymbolsPlays_i74:IR:=(.reg false spinetlaw41_SymbolsPlays_i73)
def spinetlaw41_SymbolsPlays_i75:IR:=(.seq (.block 4 (.seq (.reg false spinetlaw41_SymbolsPlays_i62) spinetlaw41_SymbolsPlays_i72)) spinetlaw41_SymbolsPlays_i74)
def spinetlaw41_SymbolsPlays_i76:IR:=(.seq (.seq (.reg false spinetlaw41_SymbolsPlays_i60) spinetlaw41_SymbolsPlays_i61) spinetlaw41_SymbolsPlays_i75)
def spinetlaw41_SymbolsPlays_i77:IR:=(.block 3 (.loop spinetlaw41_SymbolsPlays_i76))
def spinetlaw41_SymbolsPlays_i78:List Op1:=[(oM 190 (.t 13) []),(oC 191 9 [(.t 190)] [0])]
def spinetlaw41_SymbolsPlays_i79:List Op1:=[(oM 192 (.t 14) []),(oC 193 9 [(.t 192)] [0])]
def spinetlaw41_SymbolsPlays_i80:List Op1:=[(oM 195 (.t 7) []),(oM 196 (.t 2) []),(oC 197 10 [(.t 195),(.t 196)] [0,1]),(oM 194 (.t 197) [2]),(oE 198 (.ext 0 (.t 194)) [3]),(oE 199 (.ext 1 (.t 194)) [3]),(oM 20 (.t 198) [4,2,0,1,2,3,4]),(oM 21 (.t 199) [5,6,0,1,2,3,4,5,6])]
def spinetlaw41_SymbolsPlays_i81:List Op1:=[(oM 200 (.t 8) []),(oM 201 (.t 2) []),(oC 202 6 [(.t 200),(.t 201)] [0,1]),(oM 22 (.t 202) [2,2,0,1,2])]
def spinetlaw41_SymbolsPlays_i82:List Op1:=[(oM 203 (.t 21) []),(oM 204 (.t 22) []),(oE 205 (.bin .geq (.t 204) (.k (.int .i64 0))) [1]),(oE 206 (.bbin true (.t 203) (.t 205)) [0,2]),(oM 207 (.t 206) [3]),(oG 208 (.mv (.t 21)) 207 false [4]),(oG 209 (.mv (.t 208)) 207 false [5,4,4]),(oG 210 (.mv (.t 20)) 209 true [6]),(oG 211 (.mv (.t 8)) 209 true [6]),(oG 212 (.mv (.t 22)) 209 true [6]),(oG 213 (.ias 3 (.t 211) (.t 212)) 209 true [8,9,6]),(oG 214 (.fld 1 (.t 213)) 209 true [10,6]),(oG 215 (.load false 1 (.t 214)) 209 true [11,6]),(oG 216 (.bin .neq (.t 210) (.t 215)) 209 true [7,12,6]),(oG 217 (.pick (.t 209) (.t 216) (.k (.bool false))) 207 false [6,13,4]),(oE 218 (.pick (.t 207) (.k (.bool true)) (.t 217)) [4,14]),(oM 219 (.t 218) [15,6]),(oG 220 (.mv (.t 21)) 219 false [16]),(oG 221 (.un .not (.t 220)) 219 false [17,16]),(oG 222 (.mv (.t 221)) 219 false [18,16,16]),(oG 223 (.mv (.t 20)) 222 true [19]),(oG 224 (.bin .neq (.t 223) (.k (.int .u16 0))) 222 true [20,19]),(oG 225 (.pick (.t 222) (.t 224) (.k (.bool false))) 219 false [19,21,16]),(oE 226 (.pick (.t 219) (.k (.bool true)) (.t 225)) [16,22])]
def spinetlaw41_SymbolsPlays_i83:List Op1:=[(oM 6 (.k (.bool false)) [])]
def spinetlaw41_SymbolsPlays_i84:IR:=.ret
def spinetlaw41_SymbolsPlays_i85:IR:=(.cond (.t 226) (.seq (.reg false spinetlaw41_SymbolsPlays_i83) spinetlaw41_SymbolsPlays_i84) .skip)
def spinetlaw41_SymbolsPlays_i86:List Op1:=[(oM 228 (.t 7) []),(oM 229 (.t 1) []),(oC 230 11 [(.t 228),(.t 229)] [0,1]),(oM 227 (.t 230) [2]),(oE 231 (.ext 0 (.t 227)) [3]),(oE 232 (.ext 1 (.t 227)) [3]),(oE 233 (.ext 2 (.t 227)) [3]),(oM 23 (.t 231) [4,2,0,1,2,3,4]),(oM 24 (.t 232) [5,7,0,1,2,3,4,5,7]),(oM 25 (.t 233) [6,8,0,1,2,3,4,5,6,7,8])]
def spinetlaw41_SymbolsPlays_i87:List Op1:=[(oM 234 (.t 7) []),(oC 235 12 [(.t 234)] [0]),(oM 236 (.t 8) []),(oE 237 (.len (.t 236)) [2]),(oE 238 (.bin .eql (.t 235) (.t 237)) [1,3]),(oM 239 (.t 238) [4,1]),(oG 240 (.mv (.t 7)) 239 true [5]),⟨(some 241),(.call 14 [(.t 240)]),(some (239,true)),[6,5,5]⟩,(oG 242 (.mv (.t 13)) 239 true [5]),⟨(some 243),(.call 13 [(.t 241),(.t 242)]),(some (239,true)),[7,8,7,5]⟩,(oE 244 (.pick (.t 239) (.t 243) (.k (.bool false))) [5,9]),(oM 245 (.t 244) [10,9]),(oG 246 (.mv (.t 7)) 245 true [11]),(oG 247 (.mv (.t 1)) 245 true [11]),⟨(some 248),(.call 15 [(.t 246),(.t 247)]),(some (245,true)),[12,13,11,11]⟩,(oG 249 (.mv (.t 14)) 245 true [11]),⟨(some 250),(.call 13 [(.t 248),(.t 249)]),(some (245,true)),[14,15,14,11]⟩,(oE 251 (.pick (.t 245) (.t 250) (.k (.bool false))) [11,16]),(oM 252 (.t 251) [17,16]),(oG 253 (.mv (.t 23)) 252 true [18]),(oG 254 (.mv (.t 15)) 252 true [18]),(oG 255 (.bin .eql (.t 253) (.t 254)) 252 true [19,20,18]),(oE 256 (.pick (.t 252) (.t 255) (.k (.bool false))) [18,21]),(oM 257 (.t 256) [22,18]),(oG 258 (.mv (.t 24)) 257 true [23]),(oG 259 (.mv (.t 16)) 257 true [23]),(oG 260 (.bin .eql (.t 258) (.t 259)) 257 true [24,25,23]),(oE 261 (.pick (.t 257) (.t 260) (.k (.bool false))) [23,26]),(oM 262 (.t 261) [27,23]),(oG 263 (.mv (.t 25)) 262 true [28]),(oG 264 (.mv (.t 17)) 262 true [28]),(oG 265 (.bbin false (.t 263) (.t 264)) 262 true [29,30,28]),(oE 266 (.pick (.t 262) (.t 265) (.k (.bool false))) [28,31]),(oM 267 (.t 266) [32,28]),⟨(some 268),(.call 16 []),(some (267,true)),[33,33]⟩,(oE 269 (.pick (.t 267) (.t 268) (.k (.bool false))) [33,34]),(oM 6 (.t 269) [35,34,0,1,2,3,4,5,6,7,8,9,10,11,12,13,14,15,16,17,18,19,20,21,22,23,24,25,26,27,28,29,30,31,32,33,34,35])]
def spinetlaw41_SymbolsPlays_i88:IR:=.ret
def spinetlaw41_SymbolsPlays_i89:IR:=(.seq (.reg false spinetlaw41_SymbolsPlays_i87) spinetlaw41_SymbolsPlays_i88)
def spinetlaw41_SymbolsPlays_i90:IR:=(.seq (.reg false spinetlaw41_SymbolsPlays_i86) spinetlaw41_SymbolsPlays_i89)
def spinetlaw41_SymbolsPlays_i91:IR:=(.seq (.seq (.reg false spinetlaw41_SymbolsPlays_i82) spinetlaw41_SymbolsPlays_i85) spinetlaw41_SymbolsPlays_i90)
def spinetlaw41_SymbolsPlays_i92:IR:=(.seq (.reg false spinetlaw41_SymbolsPlays_i81) spinetlaw41_SymbolsPlays_i91)
def spinetlaw41_SymbolsPlays_i93:IR:=(.seq (.reg false spinetlaw41_SymbolsPlays_i80) spinetlaw41_SymbolsPlays_i92)
def spinetlaw41_SymbolsPlays_i94:IR:=(.seq (.reg false spinetlaw41_SymbolsPlays_i79) spinetlaw41_SymbolsPlays_i93)
def spinetlaw41_SymbolsPlays_i95:IR:=(.seq (.reg false spinetlaw41_SymbolsPlays_i78) spinetlaw41_SymbolsPlays_i94)
def spinetlaw41_SymbolsPlays_i96:IR:=(.seq (.seq (.reg false spinetlaw41_SymbolsPlays_i59) spinetlaw41_SymbolsPlays_i77) spinetlaw41_SymbolsPlays_i95)
def spinetlaw41_SymbolsPlays_i97:IR:=(.seq (.reg false spinetlaw41_SymbolsPlays_i58) spinetlaw41_SymbolsPlays_i96)
def spinetlaw41_SymbolsPlays_i98:IR:=(.seq (.reg false spinetlaw41_SymbolsPlays_i57) spinetlaw41_SymbolsPlays_i97)
def spinetlaw41_SymbolsPlays_i99:IR:=(.seq (.seq (.reg false spinetlaw41_SymbolsPlays_i7) spinetlaw41_SymbolsPlays_i56) spinetlaw41_SymbolsPlays_i98)
def spinetlaw41_SymbolsPlays_i100:IR:=(.seq (.reg false spinetlaw41_SymbolsPlays_i6) spinetlaw41_SymbolsPlays_i99)
def spinetlaw41_SymbolsPlays_i101:IR:=(.seq (.reg false spinetlaw41_SymbolsPlays_i5) spinetlaw41_SymbolsPlays_i100)
def spinetlaw41_SymbolsPlays_i102:IR:=(.seq (.seq (.reg false spinetlaw41_SymbolsPlays_i1) spinetlaw41_SymbolsPlays_i4) spinetlaw41_SymbolsPlays_i101)
def spinetlaw41_SymbolsPlays_ir:IR:=(.seq (.reg false spinetlaw41_SymbolsPlays_i0) spinetlaw41_SymbolsPlays_i102)
theorem spinetlaw41_SymbolsPlays_cfn:cFn Try.prog 3=some (spinetlaw41_SymbolsPlays_ir,[(.t 6)],270):=by kernel_rfl
def spinetlaw41_SymbolsPlays_V (r:(Bool)):V:=.s (.bool r)
def spinetlaw41_SymbolsPlays_C (r:(Bool)):X→Fr→Hp→Prop:=FinL [(.t 6)] [] (spinetlaw41_SymbolsPlays_V r) []
theorem spinetlaw41_SymbolsPlays_ok (l_:(List spinetlaw41_Pair)) (at_:Int) (ask_:ByteArray) (r:(Bool)) (h:spinetlaw41_SymbolsPlays l_ at_ ask_=some r):Pure Try.prog 3 [.sl false l_.length (cat spinetlaw41_Pair.v l_),.s (.int .u16 at_),.s (.string ask_)] (spinetlaw41_SymbolsPlays_V r):=by
  refine ConL.of spinetlaw41_SymbolsPlays_cfn (Nat.le_of_ble_eq_true (by kernel_rfl)) (Nat.le_of_ble_eq_true (by kernel_rfl)) ?_
  refine k_start ?_
  show dwv Try.prog [] spinetlaw41_SymbolsPlays_ir (kont Try.prog [] (spinetlaw41_SymbolsPlays_C r) []) (fr0 [.sl false l_.length (cat spinetlaw41_Pair.v l_),.s (.int .u16 at_),.s (.string ask_)]) []
  have hf:FOk (fr0 [.sl false l_.length (cat spinetlaw41_Pair.v l_),.s (.int .u16 at_),.s (.string ask_)]) [⟨0,[],.sl false l_.length (cat spinetlaw41_Pair.v l_)⟩,⟨1,[],.s (.int .u16 at_)⟩,⟨2,[],.s (.string ask_)⟩]:=⟨⟨fun _=>rfl,fun h=>(h trivial).elim⟩,⟨fun _=>rfl,fun h=>(h trivial).elim⟩,⟨fun _=>rfl,fun h=>(h trivial).elim⟩,trivial⟩
  generalize fr0 [.sl false l_.length (cat spinetlaw41_Pair.v l_),.s (.int .u16 at_),.s (.string ask_)]=f at hf ⊢
  unfold spinetlaw41_SymbolsPlays at h
  refine k_seq ?_
  refine k_reg ?_
  refine mops_en hf (by kernel_rfl) fun f1 hf1 => ?_
  refine k_c ?_
  refine k_seq ?_
  refine k_seq ?_
  refine k_reg ?_
  refine mops_en hf1 (by kernel_rfl) fun f2 hf2 => ?_
  refine k_c ?_
  refine k_cond hf2 (t:=((decide (60 < (ln l_)))||(decide (100 < (sln ask_))))) (by kernel_rfl) (fun hc1 => ?_) (fun hc1 => ?_)
  · have h:=if_t h hc1
    refine k_seq ?_
    refine k_reg ?_
    refine mops_en hf2 (by kernel_rfl) fun f3 hf3 => ?_
    refine k_c ?_
    refine k_ret ?_
    refine x_c nofun ?_
    obtain rfl:=Option.some.inj h
    exact k_fin (fin_ret (.inl rfl) hf3 (vs:=[.s (.bool true)]) (by kernel_rfl) (SettL.pure (FzL.stat rfl)))
  · have h:=if_f h hc1
    refine k_skip ?_
    refine k_c ?_
    refine k_seq ?_
    refine k_reg ?_
    refine mops_en hf2 (by kernel_rfl) fun f3 hf3 => ?_
    refine k_mk (ver:=0) (q:=1) (cs:=[.s (.map none)]) (Y:=SymX ([]:SymT)) (L':=[⟨0,.res (SymX ([]:SymT)),1,[]⟩]) 0 ?_ sym_make
    refine k_c ?_
    refine k_seq ?_
    refine k_reg ?_
    refine mops_en hf3 (by kernel_rfl) fun f4 hf4 => ?_
    refine k_c ?_
    refine k_seq ?_
    refine k_seq ?_
    refine k_reg ?_
    refine mops_en hf4 (by kernel_rfl) fun f5 hf5 => ?_
    refine k_c ?_
    refine k_block ?_
    obtain ⟨o0,hx0,h⟩:=Option.bind_eq_some_iff.1 h
    have hret0:∀ r0,.ret r0=o0→r0=r:=fun r0 e=>by subst e; exact Option.some.inj h
    have hgo0:∀ (l_9:SymT) (l_10:(List spinetlaw41_Pair)) (v_6:Nat),.go (l_9,l_10)=o0→∀ f,FOk f [⟨1,[],.s (.int .u16 at_)⟩,⟨2,[],.s (.string ask_)⟩,⟨6,[],.s (.bool false)⟩,⟨7,[],.ptr 0 0 0⟩,⟨8,[],.ref 1 v_6 0 l_10.length⟩]→kont Try.prog [] (spinetlaw41_SymbolsPlays_C r) ((.c spinetlaw41_SymbolsPlays_i98)::[]) .normal f [⟨0,.res (SymX l_9),1,[]⟩,⟨v_6,.grow,3,cat spinetlaw41_Pair.v l_10⟩]:=by
      intro l_9 l_10 v_6 e f hf
      subst e
      refine k_c ?_
      refine k_seq ?_
      refine k_reg ?_
      refine mops_en hf (by kernel_rfl) fun f1 hf1 => ?_
      refine k_c ?_
      refine k_seq ?_
      refine k_reg ?_
      refine mops_en hf1 (by kernel_rfl) fun f2 hf2 => ?_
      refine k_c ?_
      refine k_seq ?_
      refine k_seq ?_
      refine k_reg ?_
      refine mops_en hf2 (by kernel_rfl) fun f3 hf3 => ?_
      refine k_c ?_
      refine k_block ?_
      obtain ⟨o1,hx1,h⟩:=Option.bind_eq_some_iff.1 h
      have hgo1:∀ (l_19:(List ByteArray)) (l_20:(List ByteArray)) (near_2:ByteArray) (off_2:Int) (some_2:Bool) (v_15:Nat) (v_16:Nat),(l_19,l_20,near_2,off_2,some_2)=o1→∀ f,FOk f [⟨1,[],.s (.int .u16 at_)⟩,⟨2,[],.s (.string ask_)⟩,⟨6,[],.s (.bool false)⟩,⟨7,[],.ptr 0 0 0⟩,⟨8,[],.ref 1 v_6 0 l_10.length⟩,⟨13,[],.ref 2 v_15 0 l_19.length⟩,⟨14,[],.ref 3 v_16 0 l_20.length⟩,⟨15,[],.s (.string near_2)⟩,⟨16,[],.s (.int .i64 off_2)⟩,⟨17,[],.s (.bool some_2)⟩]→kont Try.prog [] (spinetlaw41_SymbolsPlays_C r) ((.c spinetlaw41_SymbolsPlays_i95)::[]) .normal f [⟨0,.res (SymX l_9),1,[]⟩,⟨v_6,.grow,3,cat spinetlaw41_Pair.v l_10⟩,⟨v_15,.grow,1,cat nS l_19⟩,⟨v_16,.grow,1,cat nS l_20⟩]:=by
        intro l_19 l_20 near_2 off_2 some_2 v_15 v_16 e f hf
        subst e
        refine k_c ?_
        refine k_seq ?_
        refine k_reg ?_
        refine mops_sg 1 hf (by kernel_rfl) fun f1 hf1 => ?_
        obtain ⟨c44,h⟩:=as_ok h
        refine mops_call rfl hf1 (av:=[.ref 2 v_15 0 l_19.length]) (by kernel_rfl) (v:=.tup []) (L':=[⟨0,.res (SymX l_9),1,[]⟩,⟨v_6,.grow,3,cat spinetlaw41_Pair.v l_10⟩,⟨v_15,.grow,1,cat nS (sortS l_19)⟩,⟨v_16,.grow,1,cat nS l_20⟩]) (CalL.borrow (M:=[⟨v_15,.grow,1,cat nS l_19⟩]) (M':=[⟨v_15,.grow,1,cat nS (sortS l_19)⟩]) [2] (sort_con l_19 v_15 c44) (by kernel_rfl) (RNs.cons (RN.ref (by kernel_rfl)) RNs.nil) (RN.stat rfl) (RBs.cons (RNs.stat (cat_stat _)) RBs.nil) (RBs.cons (RNs.stat (cat_stat _)) RBs.nil) (by kernel_rfl) (by kernel_rfl)) (by intro h; cases h) fun f2 hf2 => ?_
        refine mops_en hf2 (by kernel_rfl) fun f3 hf3 => ?_
        refine k_c ?_
        refine k_seq ?_
        refine k_reg ?_
        refine mops_sg 1 hf3 (by kernel_rfl) fun f4 hf4 => ?_
        obtain ⟨c45,h⟩:=as_ok h
        refine mops_call rfl hf4 (av:=[.ref 3 v_16 0 l_20.length]) (by kernel_rfl) (v:=.tup []) (L':=[⟨0,.res (SymX l_9),1,[]⟩,⟨v_6,.grow,3,cat spinetlaw41_Pair.v l_10⟩,⟨v_15,.grow,1,cat nS (sortS l_19)⟩,⟨v_16,.grow,1,cat nS (sortS l_20)⟩]) (CalL.borrow (M:=[⟨v_16,.grow,1,cat nS l_20⟩]) (M':=[⟨v_16,.grow,1,cat nS (sortS l_20)⟩]) [3] (sort_con l_20 v_16 c45) (by kernel_rfl) (RNs.cons (RN.ref (by kernel_rfl)) RNs.nil) (RN.stat rfl) (RBs.cons (RNs.stat (cat_stat _)) RBs.nil) (RBs.cons (RNs.stat (cat_stat _)) RBs.nil) (by kernel_rfl) (by kernel_rfl)) (by intro h; cases h) fun f5 hf5 => ?_
        refine mops_en hf5 (by kernel_rfl) fun f6 hf6 => ?_
        refine k_c ?_
        refine k_seq ?_
        refine k_reg ?_
        refine mops_sg 2 hf6 (by kernel_rfl) fun f7 hf7 => ?_
        obtain ⟨c46,h⟩:=as_ok h
        refine mops_call rfl hf7 (av:=[.ptr 0 0 0,.s (.string ask_)]) (by kernel_rfl) (v:=.tup [.s (.int .u16 (IntKind.wrap .u16 ((symGet l_9 ask_).getD 0))),.s (.bool (symGet l_9 ask_).isSome)]) (L':=[⟨0,.res (SymX l_9),1,[]⟩,⟨v_6,.grow,3,cat spinetlaw41_Pair.v l_10⟩,⟨v_15,.grow,1,cat nS (sortS l_19)⟩,⟨v_16,.grow,1,cat nS (sortS l_20)⟩]) (CalL.borrow (M:=[⟨0,.res (SymX l_9),1,[]⟩]) (M':=[⟨0,.res (SymX l_9),1,[]⟩]) [0] (sym_Get_con l_9 ask_ c46) (by kernel_rfl) (RNs.cons (RN.ptr (by kernel_rfl)) (RNs.cons (RN.stat rfl) RNs.nil)) (RN.stat rfl) (RBs.cons (RNs.stat rfl) RBs.nil) (RBs.cons (RNs.stat rfl) RBs.nil) (by kernel_rfl) (by kernel_rfl)) (by intro h; cases h) fun f8 hf8 => ?_
        refine mops_en hf8 (by kernel_rfl) fun f9 hf9 => ?_
        refine k_c ?_
        refine k_seq ?_
        refine k_reg ?_
        refine mops_sg 2 hf9 (by kernel_rfl) fun f10 hf10 => ?_
        obtain ⟨r_12,hx_r_12,h⟩:=Option.bind_eq_some_iff.1 h
        refine mops_call rfl hf10 (av:=[.ref 1 v_6 0 l_10.length,.s (.string ask_)]) (by kernel_rfl) (v:=.s (.int .i64 r_12)) (CalL.lend (spinetlaw41_find_ok l_10 ask_ r_12 hx_r_12) rfl (Lends.cons (Lend.whole (g:=spinetlaw41_Pair.v) (kd:=.grow) (l:=l_10) rfl (live_grow (by kernel_rfl))) (Lends.cons (Lend.stat rfl) Lends.nil)) (by kernel_rfl)) (fun _=>rfl) fun f11 hf11 => ?_
        refine mops_en hf11 (by kernel_rfl) fun f12 hf12 => ?_
        refine k_c ?_
        refine k_seq ?_
        refine k_seq ?_
        refine k_reg ?_
        refine mops_sg 10 hf12 (by kernel_rfl) fun f13 hf13 => ?_
        obtain ⟨c47,h⟩:=as_ok h
        refine mops_gadv (dst:=(some 213)) (op:=(.ias 3 (.t 211) (.t 212))) (aft:=[8,9,6]) (t:=209) (w:=true) (ch:=[(209,true),(207,false)]) (b:=((symGet l_9 ask_).isSome&&(!(!((symGet l_9 ask_).isSome == (decide (0≤r_12))))))) (v:=.ptr 1 v_6 (0+(r_12:Int).toNat*3)) (by kernel_rfl) hf13 (by kernel_rfl) (by kernel_rfl) (by kernel_rfl) (fun hb48=>e_ias_ref (l:=l_10) (B:=⟨v_6,.grow,3,cat spinetlaw41_Pair.v l_10⟩) (b:=1) (ver:=v_6) (n:=l_10.length) (k:=.i64) (iv:=r_12) (by kernel_rfl) (by kernel_rfl) rfl (live_grow (by kernel_rfl)) (c47 hb48)) fun f14 hf14 => ?_
        refine mops_gadv (dst:=(some 214)) (op:=(.fld 1 (.t 213))) (aft:=[10,6]) (t:=209) (w:=true) (ch:=[(209,true),(207,false)]) (b:=((symGet l_9 ask_).isSome&&(!(!((symGet l_9 ask_).isSome == (decide (0≤r_12))))))) (v:=.ptr 1 v_6 (0+(r_12:Int).toNat*3+1)) (by kernel_rfl) hf14 (by kernel_rfl) (by kernel_rfl) (by kernel_rfl) (fun hb49=>e_fld_own (B:=⟨v_6,.grow,3,cat spinetlaw41_Pair.v l_10⟩) (b:=1) (ver:=v_6) (o:=(0+(r_12:Int).toNat*3)) (by kernel_rfl) (live_grow (by kernel_rfl))) fun f15 hf15 => ?_
        refine mops_gadv (dst:=(some 215)) (op:=(.load false 1 (.t 214))) (aft:=[11,6]) (t:=209) (w:=true) (ch:=[(209,true),(207,false)]) (b:=((symGet l_9 ask_).isSome&&(!(!((symGet l_9 ask_).isSome == (decide (0≤r_12))))))) (v:=.s (.int .u16 (gt l_10 r_12).At)) (by kernel_rfl) hf15 (by kernel_rfl) (by kernel_rfl) (by kernel_rfl) (fun hb50=>e_load_pe (g:=spinetlaw41_Pair.v) (l:=l_10) (iv:=r_12) (kd:=.grow) (q:=3) (b:=1) (ver:=v_6) [1] (by kernel_rfl) (live_grow (by kernel_rfl)) (c47 hb50) (by kernel_rfl) (by kernel_rfl)) fun f16 hf16 => ?_
        refine mops_end [1,6,7,8,13,14,15,16,17,226] hf16 (l':=[⟨1,[],.s (.int .u16 at_)⟩,⟨6,[],.s (.bool false)⟩,⟨7,[],.ptr 0 0 0⟩,⟨8,[],.ref 1 v_6 0 l_10.length⟩,⟨13,[],.ref 2 v_15 0 l_19.length⟩,⟨14,[],.ref 3 v_16 0 l_20.length⟩,⟨15,[],.s (.string near_2)⟩,⟨16,[],.s (.int .i64 off_2)⟩,⟨17,[],.s (.bool some_2)⟩,⟨226,[],.s (.bool (((!((symGet l_9 ask_).isSome == (decide (0≤r_12))))||((symGet l_9 ask_).isSome&&((IntKind.wrap .u16 ((symGet l_9 ask_).getD 0)) != (gt l_10 r_12).At)))||((!(symGet l_9 ask_).isSome)&&((IntKind.wrap .u16 ((symGet l_9 ask_).getD 0)) != 0))))⟩]) (L':=[⟨0,.res (SymX l_9),1,[]⟩,⟨v_6,.grow,3,cat spinetlaw41_Pair.v l_10⟩,⟨v_15,.grow,1,cat nS (sortS l_19)⟩,⟨v_16,.grow,1,cat nS (sortS l_20)⟩]) (by kernel_rfl) fun f17 hf17 => ?_
        refine k_c ?_
        refine k_cond hf17 (t:=(((!((symGet l_9 ask_).isSome == (decide (0≤r_12))))||((symGet l_9 ask_).isSome&&((IntKind.wrap .u16 ((symGet l_9 ask_).getD 0)) != (gt l_10 r_12).At)))||((!(symGet l_9 ask_).isSome)&&((IntKind.wrap .u16 ((symGet l_9 ask_).getD 0)) != 0)))) (by kernel_rfl) (fun hc51 => ?_) (fun hc51 => ?_)
        · have h:=if_t h hc51
          refine k_seq ?_
          refine k_reg ?_
          refine mops_en hf17 (by kernel_rfl) fun f18 hf18 => ?_
          refine k_c ?_
          refine k_ret ?_
          refine x_c nofun ?_
          obtain rfl:=Option.some.inj h
          exact k_fin (fin_ret (.inl rfl) hf18 (vs:=[.s (.bool false)]) (by kernel_rfl) (SettL.pure (FzL.stat rfl)))
        · have h:=if_f h hc51
          refine k_skip ?_
          refine k_c ?_
          refine k_seq ?_
          refine k_reg ?_
          refine mops_sg 2 hf17 (by kernel_rfl) fun f18 hf18 => ?_
          obtain ⟨c52,h⟩:=as_ok h
          obtain ⟨c53,h⟩:=as_ok h
          obtain ⟨c54,h⟩:=as_ok h
          refine mops_call rfl hf18 (av:=[.ptr 0 0 0,.s (.int .u16 at_)]) (by kernel_rfl) (v:=.tup [.s (.string (symNearR l_9 at_).1),.s (.int .i64 (symNearR l_9 at_).2.1),.s (.bool (symNearR l_9 at_).2.2)]) (L':=[⟨0,.res (SymX l_9),1,[]⟩,⟨v_6,.grow,3,cat spinetlaw41_Pair.v l_10⟩,⟨v_15,.grow,1,cat nS (sortS l_19)⟩,⟨v_16,.grow,1,cat nS (sortS l_20)⟩]) (CalL.borrow (M:=[⟨0,.res (SymX l_9),1,[]⟩]) (M':=[⟨0,.res (SymX l_9),1,[]⟩]) [0] (sym_Near_con l_9 at_ c52 c53 c54) (by kernel_rfl) (RNs.cons (RN.ptr (by kernel_rfl)) (RNs.cons (RN.stat rfl) RNs.nil)) (RN.stat rfl) (RBs.cons (RNs.stat rfl) RBs.nil) (RBs.cons (RNs.stat rfl) RBs.nil) (by kernel_rfl) (by kernel_rfl)) (by intro h; cases h) fun f19 hf19 => ?_
          refine mops_en hf19 (by kernel_rfl) fun f20 hf20 => ?_
          refine k_c ?_
          refine k_seq ?_
          refine k_reg ?_
          refine mops_sg 1 hf20 (by kernel_rfl) fun f21 hf21 => ?_
          refine mops_call rfl hf21 (av:=[.ptr 0 0 0]) (by kernel_rfl) (v:=.s (.int .i64 ((l_9.length:Nat):Int))) (L':=[⟨0,.res (SymX l_9),1,[]⟩,⟨v_6,.grow,3,cat spinetlaw41_Pair.v l_10⟩,⟨v_15,.grow,1,cat nS (sortS l_19)⟩,⟨v_16,.grow,1,cat nS (sortS l_20)⟩]) (CalL.borrow (M:=[⟨0,.res (SymX l_9),1,[]⟩]) (M':=[⟨0,.res (SymX l_9),1,[]⟩]) [0] (sym_Len_con l_9) (by kernel_rfl) (RNs.cons (RN.ptr (by kernel_rfl)) RNs.nil) (RN.stat rfl) (RBs.cons (RNs.stat rfl) RBs.nil) (RBs.cons (RNs.stat rfl) RBs.nil) (by kernel_rfl) (by kernel_rfl)) (by intro h; cases h) fun f22 hf22 => ?_
          refine mops_sg 1 hf22 (by kernel_rfl) fun f23 hf23 => ?_
          refine mops_adv rfl (v:=.s (.int .i64 (ln l_10))) hf23 (by kernel_rfl) (e_len_ref (l:=l_10) (B:=⟨v_6,.grow,3,cat spinetlaw41_Pair.v l_10⟩) (b:=1) (ver:=v_6) (n:=l_10.length) (by kernel_rfl) rfl (live_grow (by kernel_rfl))) fun f24 hf24 => ?_
          refine mops_sg 3 hf24 (by kernel_rfl) fun f25 hf25 => ?_
          obtain ⟨c55,h⟩:=as_ok h
          refine mops_gcall (dst:=(some 241)) (m:=14) (args:=[(.t 240)]) (aft:=[6,5,5]) (t:=239) (w:=true) (ch:=[(239,true)]) (b:=(((l_9.length:Nat):Int) == (ln l_10))) (by kernel_rfl) hf25 (by kernel_rfl) (by kernel_rfl) (av:=[.ptr 0 0 0]) (by kernel_rfl) (v:=.sl false (symNs l_9).length (cat nS (symNs l_9))) (by kernel_rfl) (fun hb56=>(CalL.borrow (M:=[⟨0,.res (SymX l_9),1,[]⟩]) (M':=[⟨0,.res (SymX l_9),1,[]⟩]) [0] (sym_Names_con l_9 (c55 hb56)) (by kernel_rfl) (RNs.cons (RN.ptr (by kernel_rfl)) RNs.nil) (RN.stat (by simp [V.static,statics,cat_stat])) (RBs.cons (RNs.stat rfl) RBs.nil) (RBs.cons (RNs.stat rfl) RBs.nil) (by kernel_rfl) (by kernel_rfl))) fun f26 hf26 => ?_
          refine mops_sg 1 hf26 (by kernel_rfl) fun f27 hf27 => ?_
          obtain ⟨r_13,hx_r_13,h⟩:=Option.bind_eq_some_iff.1 h
          refine mops_gcall (dst:=(some 243)) (m:=13) (args:=[(.t 241),(.t 242)]) (aft:=[7,8,7,5]) (t:=239) (w:=true) (ch:=[(239,true)]) (b:=(((l_9.length:Nat):Int) == (ln l_10))) (by kernel_rfl) hf27 (by kernel_rfl) (by kernel_rfl) (av:=[.sl false (symNs l_9).length (cat nS (symNs l_9)),.ref 2 v_15 0 l_19.length]) (by kernel_rfl) (v:=.s (.bool r_13)) (by kernel_rfl) (fun hb57=>(CalL.lend (slices_Equal_sl_string_string_ok (symNs l_9) (sortS l_19) r_13 (if_t hx_r_13 hb57)) rfl (Lends.cons (Lend.stat (by simp [V.static,cat_stat])) (Lends.cons (Lend.whole (g:=nS) (kd:=.grow) (l:=(sortS l_19)) (sortS_len.trans rfl) (live_grow (by kernel_rfl))) Lends.nil)) (by kernel_rfl))) fun f28 hf28 => ?_
          refine mops_sg 4 hf28 (by kernel_rfl) fun f29 hf29 => ?_
          obtain ⟨c58,h⟩:=as_ok h
          obtain ⟨c59,h⟩:=as_ok h
          obtain ⟨c60,h⟩:=as_ok h
          refine mops_gcall (dst:=(some 248)) (m:=15) (args:=[(.t 246),(.t 247)]) (aft:=[12,13,11,11]) (t:=245) (w:=true) (ch:=[(245,true)]) (b:=((((l_9.length:Nat):Int) == (ln l_10))&&r_13)) (by kernel_rfl) hf29 (by kernel_rfl) (by kernel_rfl) (av:=[.ptr 0 0 0,.s (.int .u16 at_)]) (by kernel_rfl) (v:=.sl false (symAs l_9 at_).length (cat nS (symAs l_9 at_))) (by kernel_rfl) (fun hb61=>(CalL.borrow (M:=[⟨0,.res (SymX l_9),1,[]⟩]) (M':=[⟨0,.res (SymX l_9),1,[]⟩]) [0] (sym_At_con l_9 at_ (c58 hb61) (c59 hb61) (c60 hb61)) (by kernel_rfl) (RNs.cons (RN.ptr (by kernel_rfl)) (RNs.cons (RN.stat rfl) RNs.nil)) (RN.stat (by simp [V.static,statics,cat_stat])) (RBs.cons (RNs.stat rfl) RBs.nil) (RBs.cons (RNs.stat rfl) RBs.nil) (by kernel_rfl) (by kernel_rfl))) fun f30 hf30 => ?_
          refine mops_sg 1 hf30 (by kernel_rfl) fun f31 hf31 => ?_
          obtain ⟨r_14,hx_r_14,h⟩:=Option.bind_eq_some_iff.1 h
          refine mops_gcall (dst:=(some 250)) (m:=13) (args:=[(.t 248),(.t 249)]) (aft:=[14,15,14,11]) (t:=245) (w:=true) (ch:=[(245,true)]) (b:=((((l_9.length:Nat):Int) == (ln l_10))&&r_13)) (by kernel_rfl) hf31 (by kernel_rfl) (by kernel_rfl) (av:=[.sl false (symAs l_9 at_).length (cat nS (symAs l_9 at_)),.ref 3 v_16 0 l_20.length]) (by kernel_rfl) (v:=.s (.bool r_14)) (by kernel_rfl) (fun hb62=>(CalL.lend (slices_Equal_sl_string_string_ok (symAs l_9 at_) (sortS l_20) r_14 (if_t hx_r_14 hb62)) rfl (Lends.cons (Lend.stat (by simp [V.static,cat_stat])) (Lends.cons (Lend.whole (g:=nS) (kd:=.grow) (l:=(sortS l_20)) (sortS_len.trans rfl) (live_grow (by kernel_rfl))) Lends.nil)) (by kernel_rfl))) fun f32 hf32 => ?_
          refine mops_seg [6,267] 17 hf32 (l':=[⟨6,[],.s (.bool false)⟩,⟨267,[],.s (.bool ((((((((l_9.length:Nat):Int) == (ln l_10))&&r_13)&&r_14)&&(((symNearR l_9 at_).1).toList == near_2.toList))&&((symNearR l_9 at_).2.1 == off_2))&&((symNearR l_9 at_).2.2 == some_2)))⟩]) (L':=[⟨0,.res (SymX l_9),1,[]⟩,⟨v_6,.grow,3,cat spinetlaw41_Pair.v l_10⟩,⟨v_15,.grow,1,cat nS (sortS l_19)⟩,⟨v_16,.grow,1,cat nS (sortS l_20)⟩]) (by kernel_rfl) fun f33 hf33 => ?_
          obtain ⟨r_15,hx_r_15,h⟩:=Option.bind_eq_some_iff.1 h
          refine mops_gcall (dst:=(some 268)) (m:=16) (args:=[]) (aft:=[33,33]) (t:=267) (w:=true) (ch:=[(267,true)]) (b:=((((((((l_9.length:Nat):Int) == (ln l_10))&&r_13)&&r_14)&&(((symNearR l_9 at_).1).toList == near_2.toList))&&((symNearR l_9 at_).2.1 == off_2))&&((symNearR l_9 at_).2.2 == some_2))) (by kernel_rfl) hf33 (by kernel_rfl) (by kernel_rfl) (av:=[]) (by kernel_rfl) (v:=.s (.bool r_15)) (by kernel_rfl) (fun hb63=>(CalL.pure (spinetlaw41_alive_ok  r_15 (if_t hx_r_15 hb63)) rfl rfl (Nat.le_of_ble_eq_true (by kernel_rfl)))) fun f34 hf34 => ?_
          refine mops_en hf34 (by kernel_rfl) fun f35 hf35 => ?_
          refine k_c ?_
          refine k_ret ?_
          obtain rfl:=Option.some.inj h
          exact k_fin (fin_ret (.inl rfl) hf35 (vs:=[.s (.bool (((((((((l_9.length:Nat):Int) == (ln l_10))&&r_13)&&r_14)&&(((symNearR l_9 at_).1).toList == near_2.toList))&&((symNearR l_9 at_).2.1 == off_2))&&((symNearR l_9 at_).2.2 == some_2))&&r_15))]) (by kernel_rfl) (SettL.pure (FzL.stat rfl)))
      refine k_loop BIG ?_
      refine loop_ind (fun n f L=>∃ (l_17:(List ByteArray)) (l_18:(List ByteArray)) (near_1:ByteArray) (off_1:Int) (some_1:Bool) (i_3:Int) (v_13:Nat) (v_14:Nat),spinetlaw41_SymbolsPlays_l1 at_ l_10 n l_17 l_18 near_1 off_1 some_1 i_3=some o1∧FOk f [⟨1,[],.s (.int .u16 at_)⟩,⟨2,[],.s (.string ask_)⟩,⟨6,[],.s (.bool false)⟩,⟨7,[],.ptr 0 0 0⟩,⟨8,[],.ref 1 v_6 0 l_10.length⟩,⟨13,[],.ref 2 v_13 0 l_17.length⟩,⟨14,[],.ref 3 v_14 0 l_18.length⟩,⟨15,[],.s (.string near_1)⟩,⟨16,[],.s (.int .i64 off_1)⟩,⟨17,[],.s (.bool some_1)⟩,⟨18,[],.s (.int .i64 i_3)⟩]∧L=[⟨0,.res (SymX l_9),1,[]⟩,⟨v_6,.grow,3,cat spinetlaw41_Pair.v l_10⟩,⟨v_13,.grow,1,cat nS l_17⟩,⟨v_14,.grow,1,cat nS l_18⟩]) ?_ ?_ BIG _ _ ⟨([]:List ByteArray),([]:List ByteArray),(⟨#[]⟩:ByteArray),(0),false,(0),(0),(0),hx1,FOk_of [1,2,6,7,8,13,14,15,16,17,18] hf3 (by kernel_rfl),(by kernel_rfl)⟩
      · rintro f L ⟨l_17,l_18,near_1,off_1,some_1,i_3,v_13,v_14,h,_⟩
        cases (show (none:Option _)=some _ from h)
      · rintro n1 R1 ih f L ⟨l_17,l_18,near_1,off_1,some_1,i_3,v_13,v_14,h,hf,rfl⟩
        rw [spinetlaw41_SymbolsPlays_l1] at h
        refine k_seq ?_
        refine k_seq ?_
        refine k_reg ?_
        refine mops_sg 2 hf (by kernel_rfl) fun f1 hf1 => ?_
        refine mops_adv rfl (v:=.s (.int .i64 (ln l_10))) hf1 (by kernel_rfl) (e_len_ref (l:=l_10) (B:=⟨v_6,.grow,3,cat spinetlaw41_Pair.v l_10⟩) (b:=1) (ver:=v_6) (n:=l_10.length) (by kernel_rfl) rfl (live_grow (by kernel_rfl))) fun f2 hf2 => ?_
        refine mops_en hf2 (by kernel_rfl) fun f3 hf3 => ?_
        refine k_c ?_
        refine k_cond hf3 (t:=(decide (i_3 < (ln l_10)))) (by kernel_rfl) (fun hc30 => ?_) (fun hc30 => ?_)
        · have h:=if_t h hc30
          refine k_skip ?_
          refine k_c ?_
          refine k_seq ?_
          refine k_block ?_
          refine k_seq ?_
          refine k_reg ?_
          refine mops_sg 3 hf3 (by kernel_rfl) fun f4 hf4 => ?_
          obtain ⟨c31,h⟩:=as_ok h
          refine mops_adv rfl (v:=.ptr 1 v_6 (0+(i_3:Int).toNat*3)) hf4 (by kernel_rfl) (e_ias_ref (l:=l_10) (B:=⟨v_6,.grow,3,cat spinetlaw41_Pair.v l_10⟩) (b:=1) (ver:=v_6) (n:=l_10.length) (k:=.i64) (iv:=i_3) (by kernel_rfl) (by kernel_rfl) rfl (live_grow (by kernel_rfl)) c31) fun f5 hf5 => ?_
          refine mops_adv rfl (v:=.ptr 1 v_6 (0+(i_3:Int).toNat*3+0)) hf5 (by kernel_rfl) (e_fld_own (B:=⟨v_6,.grow,3,cat spinetlaw41_Pair.v l_10⟩) (b:=1) (ver:=v_6) (o:=(0+(i_3:Int).toNat*3)) (by kernel_rfl) (live_grow (by kernel_rfl))) fun f6 hf6 => ?_
          refine mops_adv rfl (v:=.s (.string (gt l_10 i_3).Name)) hf6 (by kernel_rfl) (e_load_pe (g:=spinetlaw41_Pair.v) (l:=l_10) (iv:=i_3) (kd:=.grow) (q:=3) (b:=1) (ver:=v_6) [0] (by kernel_rfl) (live_grow (by kernel_rfl)) c31 (by kernel_rfl) (by kernel_rfl)) fun f7 hf7 => ?_
          refine mops_sg 1 hf7 (by kernel_rfl) fun f8 hf8 => ?_
          obtain ⟨c32,h⟩:=as_ok h
          refine mops_adv rfl (v:=.ref 2 (v_13+1) 0 (l_17++[(gt l_10 i_3).Name]).length) hf8 (by kernel_rfl) (e_app (g:=nS) (l:=l_17) (l':=[(gt l_10 i_3).Name]) (b:=2) (ver:=v_13) (n:=l_17.length) rfl (by kernel_rfl) rfl (live_grow (by kernel_rfl)) (sll_ev (v:=.ref 4 0 0 1) (by kernel_rfl) (sll_ref (B:=⟨0,.grow,1,cat nS [(gt l_10 i_3).Name]⟩) (by kernel_rfl) (live_grow (by kernel_rfl)))) (slc_ev (v:=.ref 4 0 0 1) (by kernel_rfl) (slc_ref (g:=nS) (l:=[(gt l_10 i_3).Name]) (kd:=.grow) (q:=1) (by kernel_rfl) (live_grow (by kernel_rfl)))) c32) fun f9 hf9 => ?_
          refine mops_en hf9 (by kernel_rfl) fun f10 hf10 => ?_
          refine k_c ?_
          refine k_seq ?_
          refine k_seq ?_
          refine k_reg ?_
          refine mops_sg 2 hf10 (by kernel_rfl) fun f11 hf11 => ?_
          obtain ⟨c33,h⟩:=as_ok h
          refine mops_adv rfl (v:=.ptr 1 v_6 (0+(i_3:Int).toNat*3)) hf11 (by kernel_rfl) (e_ias_ref (l:=l_10) (B:=⟨v_6,.grow,3,cat spinetlaw41_Pair.v l_10⟩) (b:=1) (ver:=v_6) (n:=l_10.length) (k:=.i64) (iv:=i_3) (by kernel_rfl) (by kernel_rfl) rfl (live_grow (by kernel_rfl)) c33) fun f12 hf12 => ?_
          refine mops_adv rfl (v:=.ptr 1 v_6 (0+(i_3:Int).toNat*3+1)) hf12 (by kernel_rfl) (e_fld_own (B:=⟨v_6,.grow,3,cat spinetlaw41_Pair.v l_10⟩) (b:=1) (ver:=v_6) (o:=(0+(i_3:Int).toNat*3)) (by kernel_rfl) (live_grow (by kernel_rfl))) fun f13 hf13 => ?_
          refine mops_adv rfl (v:=.s (.int .u16 (gt l_10 i_3).At)) hf13 (by kernel_rfl) (e_load_pe (g:=spinetlaw41_Pair.v) (l:=l_10) (iv:=i_3) (kd:=.grow) (q:=3) (b:=1) (ver:=v_6) [1] (by kernel_rfl) (live_grow (by kernel_rfl)) c33 (by kernel_rfl) (by kernel_rfl)) fun f14 hf14 => ?_
          refine mops_en hf14 (by kernel_rfl) fun f15 hf15 => ?_
          refine k_c ?_
          have hj3:∀ (l_21:(List ByteArray)) (v_17:Nat),spinetlaw41_SymbolsPlays_j2 ((spinetlaw41_SymbolsPlays_l1 at_ l_10 n1)) at_ l_10 l_17 near_1 off_1 some_1 i_3 l_21=some o1→∀ f,FOk f [⟨1,[],.s (.int .u16 at_)⟩,⟨2,[],.s (.string ask_)⟩,⟨6,[],.s (.bool false)⟩,⟨7,[],.ptr 0 0 0⟩,⟨8,[],.ref 1 v_6 0 l_10.length⟩,⟨13,[],.ref 2 (v_13+1) 0 (l_17++[(gt l_10 i_3).Name]).length⟩,⟨14,[],.ref 3 v_17 0 l_21.length⟩,⟨15,[],.s (.string near_1)⟩,⟨16,[],.s (.int .i64 off_1)⟩,⟨17,[],.s (.bool some_1)⟩,⟨18,[],.s (.int .i64 i_3)⟩]→kont Try.prog [] (spinetlaw41_SymbolsPlays_C r) ((.c spinetlaw41_SymbolsPlays_i71)::(.b 4)::(.c spinetlaw41_SymbolsPlays_i74)::(.l R1)::(.b 3)::(.c spinetlaw41_SymbolsPlays_i95)::[]) .normal f [⟨0,.res (SymX l_9),1,[]⟩,⟨v_6,.grow,3,cat spinetlaw41_Pair.v l_10⟩,⟨(v_13+1),.grow,1,cat nS (l_17++[(gt l_10 i_3).Name])⟩,⟨v_17,.grow,1,cat nS l_21⟩,⟨0,.grow,1,cat nS [(gt l_10 i_3).Name]⟩]:=by
            intro l_21 v_17 h f hf
            unfold spinetlaw41_SymbolsPlays_j2 at h
            refine k_c ?_
            refine k_seq ?_
            refine k_reg ?_
            refine mops_sg 4 hf (by kernel_rfl) fun f1 hf1 => ?_
            obtain ⟨c37,h⟩:=as_ok h
            refine mops_adv rfl (v:=.ptr 1 v_6 (0+(i_3:Int).toNat*3)) hf1 (by kernel_rfl) (e_ias_ref (l:=l_10) (B:=⟨v_6,.grow,3,cat spinetlaw41_Pair.v l_10⟩) (b:=1) (ver:=v_6) (n:=l_10.length) (k:=.i64) (iv:=i_3) (by kernel_rfl) (by kernel_rfl) rfl (live_grow (by kernel_rfl)) c37) fun f2 hf2 => ?_
            refine mops_adv rfl (v:=.ptr 1 v_6 (0+(i_3:Int).toNat*3+1)) hf2 (by kernel_rfl) (e_fld_own (B:=⟨v_6,.grow,3,cat spinetlaw41_Pair.v l_10⟩) (b:=1) (ver:=v_6) (o:=(0+(i_3:Int).toNat*3)) (by kernel_rfl) (live_grow (by kernel_rfl))) fun f3 hf3 => ?_
            refine mops_adv rfl (v:=.s (.int .u16 (gt l_10 i_3).At)) hf3 (by kernel_rfl) (e_load_pe (g:=spinetlaw41_Pair.v) (l:=l_10) (iv:=i_3) (kd:=.grow) (q:=3) (b:=1) (ver:=v_6) [1] (by kernel_rfl) (live_grow (by kernel_rfl)) c37 (by kernel_rfl) (by kernel_rfl)) fun f4 hf4 => ?_
            refine mops_en hf4 (by kernel_rfl) fun f5 hf5 => ?_
            refine k_c ?_
            refine k_seq ?_
            refine k_reg ?_
            refine mops_sg 17 hf5 (by kernel_rfl) fun f6 hf6 => ?_
            obtain ⟨c38,h⟩:=as_ok h
            refine mops_gadv (dst:=(some 176)) (op:=(.ias 3 (.t 174) (.t 175))) (aft:=[15,16,14]) (t:=173) (w:=true) (ch:=[(173,true),(169,false),(161,true)]) (b:=(((IntKind.wrap .i64 ((IntKind.wrap .i64 at_) - (IntKind.wrap .i64 (gt l_10 i_3).At))) == off_1)&&((!((!some_1)||(decide ((IntKind.wrap .i64 ((IntKind.wrap .i64 at_) - (IntKind.wrap .i64 (gt l_10 i_3).At))) < off_1))))&&(decide (0≤(IntKind.wrap .i64 ((IntKind.wrap .i64 at_) - (IntKind.wrap .i64 (gt l_10 i_3).At)))))))) (v:=.ptr 1 v_6 (0+(i_3:Int).toNat*3)) (by kernel_rfl) hf6 (by kernel_rfl) (by kernel_rfl) (by kernel_rfl) (fun hb39=>e_ias_ref (l:=l_10) (B:=⟨v_6,.grow,3,cat spinetlaw41_Pair.v l_10⟩) (b:=1) (ver:=v_6) (n:=l_10.length) (k:=.i64) (iv:=i_3) (by kernel_rfl) (by kernel_rfl) rfl (live_grow (by kernel_rfl)) (c38 hb39)) fun f7 hf7 => ?_
            refine mops_gadv (dst:=(some 177)) (op:=(.fld 0 (.t 176))) (aft:=[17,14]) (t:=173) (w:=true) (ch:=[(173,true),(169,false),(161,true)]) (b:=(((IntKind.wrap .i64 ((IntKind.wrap .i64 at_) - (IntKind.wrap .i64 (gt l_10 i_3).At))) == off_1)&&((!((!some_1)||(decide ((IntKind.wrap .i64 ((IntKind.wrap .i64 at_) - (IntKind.wrap .i64 (gt l_10 i_3).At))) < off_1))))&&(decide (0≤(IntKind.wrap .i64 ((IntKind.wrap .i64 at_) - (IntKind.wrap .i64 (gt l_10 i_3).At)))))))) (v:=.ptr 1 v_6 (0+(i_3:Int).toNat*3+0)) (by kernel_rfl) hf7 (by kernel_rfl) (by kernel_rfl) (by kernel_rfl) (fun hb40=>e_fld_own (B:=⟨v_6,.grow,3,cat spinetlaw41_Pair.v l_10⟩) (b:=1) (ver:=v_6) (o:=(0+(i_3:Int).toNat*3)) (by kernel_rfl) (live_grow (by kernel_rfl))) fun f8 hf8 => ?_
            refine mops_gadv (dst:=(some 178)) (op:=(.load false 1 (.t 177))) (aft:=[18,14]) (t:=173) (w:=true) (ch:=[(173,true),(169,false),(161,true)]) (b:=(((IntKind.wrap .i64 ((IntKind.wrap .i64 at_) - (IntKind.wrap .i64 (gt l_10 i_3).At))) == off_1)&&((!((!some_1)||(decide ((IntKind.wrap .i64 ((IntKind.wrap .i64 at_) - (IntKind.wrap .i64 (gt l_10 i_3).At))) < off_1))))&&(decide (0≤(IntKind.wrap .i64 ((IntKind.wrap .i64 at_) - (IntKind.wrap .i64 (gt l_10 i_3).At)))))))) (v:=.s (.string (gt l_10 i_3).Name)) (by kernel_rfl) hf8 (by kernel_rfl) (by kernel_rfl) (by kernel_rfl) (fun hb41=>e_load_pe (g:=spinetlaw41_Pair.v) (l:=l_10) (iv:=i_3) (kd:=.grow) (q:=3) (b:=1) (ver:=v_6) [0] (by kernel_rfl) (live_grow (by kernel_rfl)) (c38 hb41) (by kernel_rfl) (by kernel_rfl)) fun f9 hf9 => ?_
            refine mops_en hf9 (by kernel_rfl) fun f10 hf10 => ?_
            refine k_c ?_
            refine k_cond hf10 (t:=((decide (0≤(IntKind.wrap .i64 ((IntKind.wrap .i64 at_) - (IntKind.wrap .i64 (gt l_10 i_3).At)))))&&(((!some_1)||(decide ((IntKind.wrap .i64 ((IntKind.wrap .i64 at_) - (IntKind.wrap .i64 (gt l_10 i_3).At))) < off_1)))||(((IntKind.wrap .i64 ((IntKind.wrap .i64 at_) - (IntKind.wrap .i64 (gt l_10 i_3).At))) == off_1)&&(Op.bytesLess ((gt l_10 i_3).Name).toList near_1.toList))))) (by kernel_rfl) (fun hc42 => ?_) (fun hc42 => ?_)
            · have h:=if_t h hc42
              refine k_reg ?_
              refine mops_seg [1,2,6,7,8,13,14,15,16,17,18,19,161,162,163,164,165,166,167,168,169,170,171,172,173,174,175,176,177,178,179,180,181,182,184,185] 2 hf10 (l':=[⟨1,[],.s (.int .u16 at_)⟩,⟨2,[],.s (.string ask_)⟩,⟨6,[],.s (.bool false)⟩,⟨7,[],.ptr 0 0 0⟩,⟨8,[],.ref 1 v_6 0 l_10.length⟩,⟨13,[],.ref 2 (v_13+1) 0 (l_17++[(gt l_10 i_3).Name]).length⟩,⟨14,[],.ref 3 v_17 0 l_21.length⟩,⟨15,[],.s (.string near_1)⟩,⟨16,[],.s (.int .i64 off_1)⟩,⟨17,[],.s (.bool some_1)⟩,⟨18,[],.s (.int .i64 i_3)⟩,⟨19,[],.s (.int .i64 (IntKind.wrap .i64 ((IntKind.wrap .i64 at_) - (IntKind.wrap .i64 (gt l_10 i_3).At))))⟩,⟨161,[],.s (.bool (decide (0≤(IntKind.wrap .i64 ((IntKind.wrap .i64 at_) - (IntKind.wrap .i64 (gt l_10 i_3).At))))))⟩,⟨162,[(161,true)],.s (.bool some_1)⟩,⟨163,[(161,true)],.s (.bool (!some_1))⟩,⟨164,[(161,true)],.s (.bool (!some_1))⟩,⟨165,[(164,false),(161,true)],.s (.int .i64 (IntKind.wrap .i64 ((IntKind.wrap .i64 at_) - (IntKind.wrap .i64 (gt l_10 i_3).At))))⟩,⟨166,[(164,false),(161,true)],.s (.int .i64 off_1)⟩,⟨167,[(164,false),(161,true)],.s (.bool (decide ((IntKind.wrap .i64 ((IntKind.wrap .i64 at_) - (IntKind.wrap .i64 (gt l_10 i_3).At))) < off_1)))⟩,⟨168,[(161,true)],.s (.bool ((!some_1)||(decide ((IntKind.wrap .i64 ((IntKind.wrap .i64 at_) - (IntKind.wrap .i64 (gt l_10 i_3).At))) < off_1))))⟩,⟨169,[(161,true)],.s (.bool ((!some_1)||(decide ((IntKind.wrap .i64 ((IntKind.wrap .i64 at_) - (IntKind.wrap .i64 (gt l_10 i_3).At))) < off_1))))⟩,⟨170,[(169,false),(161,true)],.s (.int .i64 (IntKind.wrap .i64 ((IntKind.wrap .i64 at_) - (IntKind.wrap .i64 (gt l_10 i_3).At))))⟩,⟨171,[(169,false),(161,true)],.s (.int .i64 off_1)⟩,⟨172,[(169,false),(161,true)],.s (.bool ((IntKind.wrap .i64 ((IntKind.wrap .i64 at_) - (IntKind.wrap .i64 (gt l_10 i_3).At))) == off_1))⟩,⟨173,[(169,false),(161,true)],.s (.bool ((IntKind.wrap .i64 ((IntKind.wrap .i64 at_) - (IntKind.wrap .i64 (gt l_10 i_3).At))) == off_1))⟩,⟨174,[(173,true),(169,false),(161,true)],.ref 1 v_6 0 l_10.length⟩,⟨175,[(173,true),(169,false),(161,true)],.s (.int .i64 i_3)⟩,⟨176,[(173,true),(169,false),(161,true)],.ptr 1 v_6 (0+(i_3:Int).toNat*3)⟩,⟨177,[(173,true),(169,false),(161,true)],.ptr 1 v_6 (0+(i_3:Int).toNat*3+0)⟩,⟨178,[(173,true),(169,false),(161,true)],.s (.string (gt l_10 i_3).Name)⟩,⟨179,[(173,true),(169,false),(161,true)],.s (.string near_1)⟩,⟨180,[(173,true),(169,false),(161,true)],.s (.bool (Op.bytesLess ((gt l_10 i_3).Name).toList near_1.toList))⟩,⟨181,[(169,false),(161,true)],.s (.bool (((IntKind.wrap .i64 ((IntKind.wrap .i64 at_) - (IntKind.wrap .i64 (gt l_10 i_3).At))) == off_1)&&(Op.bytesLess ((gt l_10 i_3).Name).toList near_1.toList)))⟩,⟨182,[(161,true)],.s (.bool (((!some_1)||(decide ((IntKind.wrap .i64 ((IntKind.wrap .i64 at_) - (IntKind.wrap .i64 (gt l_10 i_3).At))) < off_1)))||(((IntKind.wrap .i64 ((IntKind.wrap .i64 at_) - (IntKind.wrap .i64 (gt l_10 i_3).At))) == off_1)&&(Op.bytesLess ((gt l_10 i_3).Name).toList near_1.toList))))⟩,⟨184,[],.ref 1 v_6 0 l_10.length⟩,⟨185,[],.s (.int .i64 i_3)⟩]) (L':=[⟨0,.res (SymX l_9),1,[]⟩,⟨v_6,.grow,3,cat spinetlaw41_Pair.v l_10⟩,⟨(v_13+1),.grow,1,cat nS (l_17++[(gt l_10 i_3).Name])⟩,⟨v_17,.grow,1,cat nS l_21⟩,⟨0,.grow,1,cat nS [(gt l_10 i_3).Name]⟩]) (by kernel_rfl) fun f11 hf11 => ?_
              obtain ⟨c43,h⟩:=as_ok h
              refine mops_adv rfl (v:=.ptr 1 v_6 (0+(i_3:Int).toNat*3)) hf11 (by kernel_rfl) (e_ias_ref (l:=l_10) (B:=⟨v_6,.grow,3,cat spinetlaw41_Pair.v l_10⟩) (b:=1) (ver:=v_6) (n:=l_10.length) (k:=.i64) (iv:=i_3) (by kernel_rfl) (by kernel_rfl) rfl (live_grow (by kernel_rfl)) c43) fun f12 hf12 => ?_
              refine mops_adv rfl (v:=.ptr 1 v_6 (0+(i_3:Int).toNat*3+0)) hf12 (by kernel_rfl) (e_fld_own (B:=⟨v_6,.grow,3,cat spinetlaw41_Pair.v l_10⟩) (b:=1) (ver:=v_6) (o:=(0+(i_3:Int).toNat*3)) (by kernel_rfl) (live_grow (by kernel_rfl))) fun f13 hf13 => ?_
              refine mops_adv rfl (v:=.s (.string (gt l_10 i_3).Name)) hf13 (by kernel_rfl) (e_load_pe (g:=spinetlaw41_Pair.v) (l:=l_10) (iv:=i_3) (kd:=.grow) (q:=3) (b:=1) (ver:=v_6) [0] (by kernel_rfl) (live_grow (by kernel_rfl)) c43 (by kernel_rfl) (by kernel_rfl)) fun f14 hf14 => ?_
              refine mops_en hf14 (by kernel_rfl) fun f15 hf15 => ?_
              refine k_b ?_
              refine k_c ?_
              refine k_reg ?_
              refine mops_en hf15 (by kernel_rfl) fun f16 hf16 => ?_
              refine k_l' (vs_cut (l:=[⟨1,[],.s (.int .u16 at_)⟩,⟨2,[],.s (.string ask_)⟩,⟨6,[],.s (.bool false)⟩,⟨7,[],.ptr 0 0 0⟩,⟨8,[],.ref 1 v_6 0 l_10.length⟩,⟨13,[],.ref 2 (v_13+1) 0 (l_17++[(gt l_10 i_3).Name]).length⟩,⟨14,[],.ref 3 v_17 0 l_21.length⟩,⟨15,[],.s (.string (gt l_10 i_3).Name)⟩,⟨16,[],.s (.int .i64 (IntKind.wrap .i64 ((IntKind.wrap .i64 at_) - (IntKind.wrap .i64 (gt l_10 i_3).At))))⟩,⟨17,[],.s (.bool true)⟩,⟨18,[],.s (.int .i64 (IntKind.wrap .i64 (i_3+1)))⟩]) 4 (by kernel_rfl) (by kernel_rfl) (L':=[⟨0,.res (SymX l_9),1,[]⟩,⟨v_6,.grow,3,cat spinetlaw41_Pair.v l_10⟩,⟨(v_13+1),.grow,1,cat nS (l_17++[(gt l_10 i_3).Name])⟩,⟨v_17,.grow,1,cat nS l_21⟩]) (by kernel_rfl) ⟨⟨rfl,rfl⟩,⟨rfl,rfl⟩,⟨rfl,rfl⟩,⟨rfl,rfl⟩,⟨rfl,rfl⟩,⟨rfl,rfl⟩,⟨rfl,rfl⟩,⟨rfl,rfl⟩,⟨rfl,rfl⟩,⟨rfl,rfl⟩,⟨rfl,rfl⟩,trivial⟩ ⟨.inr (.inr rfl),.inr (.inr (statics_unders _ _ (cat_stat _))),.inr (.inr (statics_unders _ _ (cat_stat _))),.inr (.inr (statics_unders _ _ (cat_stat _))),trivial⟩ (FOk_of [1,2,6,7,8,13,14,15,16,17,18] hf16 (by kernel_rfl)) fun f hf => ?_)
              exact ih _ _ ⟨(l_17++[(gt l_10 i_3).Name]),l_21,((gt l_10 i_3).Name),(IntKind.wrap .i64 ((IntKind.wrap .i64 at_) - (IntKind.wrap .i64 (gt l_10 i_3).At))),true,(IntKind.wrap .i64 (i_3+1)),(v_13+1),v_17,h,hf,rfl⟩
            · have h:=if_f h hc42
              refine k_skip ?_
              refine k_b ?_
              refine k_c ?_
              refine k_reg ?_
              refine mops_end [1,2,6,7,8,13,14,15,16,17,18,161,162,163,164,165,166,167,168,169,170,171,172,173,174,175,176,177,178,179,180,181,182] hf10 (l':=[⟨1,[],.s (.int .u16 at_)⟩,⟨2,[],.s (.string ask_)⟩,⟨6,[],.s (.bool false)⟩,⟨7,[],.ptr 0 0 0⟩,⟨8,[],.ref 1 v_6 0 l_10.length⟩,⟨13,[],.ref 2 (v_13+1) 0 (l_17++[(gt l_10 i_3).Name]).length⟩,⟨14,[],.ref 3 v_17 0 l_21.length⟩,⟨15,[],.s (.string near_1)⟩,⟨16,[],.s (.int .i64 off_1)⟩,⟨17,[],.s (.bool some_1)⟩,⟨18,[],.s (.int .i64 (IntKind.wrap .i64 (i_3+1)))⟩,⟨161,[],.s (.bool (decide (0≤(IntKind.wrap .i64 ((IntKind.wrap .i64 at_) - (IntKind.wrap .i64 (gt l_10 i_3).At))))))⟩,⟨162,[(161,true)],.s (.bool some_1)⟩,⟨163,[(161,true)],.s (.bool (!some_1))⟩,⟨164,[(161,true)],.s (.bool (!some_1))⟩,⟨165,[(164,false),(161,true)],.s (.int .i64 (IntKind.wrap .i64 ((IntKind.wrap .i64 at_) - (IntKind.wrap .i64 (gt l_10 i_3).At))))⟩,⟨166,[(164,false),(161,true)],.s (.int .i64 off_1)⟩,⟨167,[(164,false),(161,true)],.s (.bool (decide ((IntKind.wrap .i64 ((IntKind.wrap .i64 at_) - (IntKind.wrap .i64 (gt l_10 i_3).At))) < off_1)))⟩,⟨168,[(161,true)],.s (.bool ((!some_1)||(decide ((IntKind.wrap .i64 ((IntKind.wrap .i64 at_) - (IntKind.wrap .i64 (gt l_10 i_3).At))) < off_1))))⟩,⟨169,[(161,true)],.s (.bool ((!some_1)||(decide ((IntKind.wrap .i64 ((IntKind.wrap .i64 at_) - (IntKind.wrap .i64 (gt l_10 i_3).At))) < off_1))))⟩,⟨170,[(169,false),(161,true)],.s (.int .i64 (IntKind.wrap .i64 ((IntKind.wrap .i64 at_) - (IntKind.wrap .i64 (gt l_10 i_3).At))))⟩,⟨171,[(169,false),(161,true)],.s (.int .i64 off_1)⟩,⟨172,[(169,false),(161,true)],.s (.bool ((IntKind.wrap .i64 ((IntKind.wrap .i64 at_) - (IntKind.wrap .i64 (gt l_10 i_3).At))) == off_1))⟩,⟨173,[(169,false),(161,true)],.s (.bool ((IntKind.wrap .i64 ((IntKind.wrap .i64 at_) - (IntKind.wrap .i64 (gt l_10 i_3).At))) == off_1))⟩,⟨174,[(173,true),(169,false),(161,true)],.ref 1 v_6 0 l_10.length⟩,⟨175,[(173,true),(169,false),(161,true)],.s (.int .i64 i_3)⟩,⟨176,[(173,true),(169,false),(161,true)],.ptr 1 v_6 (0+(i_3:Int).toNat*3)⟩,⟨177,[(173,true),(169,false),(161,true)],.ptr 1 v_6 (0+(i_3:Int).toNat*3+0)⟩,⟨178,[(173,true),(169,false),(161,true)],.s (.string (gt l_10 i_3).Name)⟩,⟨179,[(173,true),(169,false),(161,true)],.s (.string near_1)⟩,⟨180,[(173,true),(169,false),(161,true)],.s (.bool (Op.bytesLess ((gt l_10 i_3).Name).toList near_1.toList))⟩,⟨181,[(169,false),(161,true)],.s (.bool (((IntKind.wrap .i64 ((IntKind.wrap .i64 at_) - (IntKind.wrap .i64 (gt l_10 i_3).At))) == off_1)&&(Op.bytesLess ((gt l_10 i_3).Name).toList near_1.toList)))⟩,⟨182,[(161,true)],.s (.bool (((!some_1)||(decide ((IntKind.wrap .i64 ((IntKind.wrap .i64 at_) - (IntKind.wrap .i64 (gt l_10 i_3).At))) < off_1)))||(((IntKind.wrap .i64 ((IntKind.wrap .i64 at_) - (IntKind.wrap .i64 (gt l_10 i_3).At))) == off_1)&&(Op.bytesLess ((gt l_10 i_3).Name).toList near_1.toList))))⟩]) (L':=[⟨0,.res (SymX l_9),1,[]⟩,⟨v_6,.grow,3,cat spinetlaw41_Pair.v l_10⟩,⟨(v_13+1),.grow,1,cat nS (l_17++[(gt l_10 i_3).Name])⟩,⟨v_17,.grow,1,cat nS l_21⟩,⟨0,.grow,1,cat nS [(gt l_10 i_3).Name]⟩]) (by kernel_rfl) fun f11 hf11 => ?_
              refine k_l' (vs_cut (l:=[⟨1,[],.s (.int .u16 at_)⟩,⟨2,[],.s (.string ask_)⟩,⟨6,[],.s (.bool false)⟩,⟨7,[],.ptr 0 0 0⟩,⟨8,[],.ref 1 v_6 0 l_10.length⟩,⟨13,[],.ref 2 (v_13+1) 0 (l_17++[(gt l_10 i_3).Name]).length⟩,⟨14,[],.ref 3 v_17 0 l_21.length⟩,⟨15,[],.s (.string near_1)⟩,⟨16,[],.s (.int .i64 off_1)⟩,⟨17,[],.s (.bool some_1)⟩,⟨18,[],.s (.int .i64 (IntKind.wrap .i64 (i_3+1)))⟩]) 4 (by kernel_rfl) (by kernel_rfl) (L':=[⟨0,.res (SymX l_9),1,[]⟩,⟨v_6,.grow,3,cat spinetlaw41_Pair.v l_10⟩,⟨(v_13+1),.grow,1,cat nS (l_17++[(gt l_10 i_3).Name])⟩,⟨v_17,.grow,1,cat nS l_21⟩]) (by kernel_rfl) ⟨⟨rfl,rfl⟩,⟨rfl,rfl⟩,⟨rfl,rfl⟩,⟨rfl,rfl⟩,⟨rfl,rfl⟩,⟨rfl,rfl⟩,⟨rfl,rfl⟩,⟨rfl,rfl⟩,⟨rfl,rfl⟩,⟨rfl,rfl⟩,⟨rfl,rfl⟩,trivial⟩ ⟨.inr (.inr rfl),.inr (.inr (statics_unders _ _ (cat_stat _))),.inr (.inr (statics_unders _ _ (cat_stat _))),.inr (.inr (statics_unders _ _ (cat_stat _))),trivial⟩ (FOk_of [1,2,6,7,8,13,14,15,16,17,18] hf11 (by kernel_rfl)) fun f hf => ?_)
              exact ih _ _ ⟨(l_17++[(gt l_10 i_3).Name]),l_21,near_1,off_1,some_1,(IntKind.wrap .i64 (i_3+1)),(v_13+1),v_17,h,hf,rfl⟩
          refine k_cond hf15 (t:=((gt l_10 i_3).At == at_)) (by kernel_rfl) (fun hc34 => ?_) (fun hc34 => ?_)
          · have h:=if_t h hc34
            refine k_reg ?_
            refine mops_sg 3 hf15 (by kernel_rfl) fun f16 hf16 => ?_
            obtain ⟨c35,h⟩:=as_ok h
            refine mops_adv rfl (v:=.ptr 1 v_6 (0+(i_3:Int).toNat*3)) hf16 (by kernel_rfl) (e_ias_ref (l:=l_10) (B:=⟨v_6,.grow,3,cat spinetlaw41_Pair.v l_10⟩) (b:=1) (ver:=v_6) (n:=l_10.length) (k:=.i64) (iv:=i_3) (by kernel_rfl) (by kernel_rfl) rfl (live_grow (by kernel_rfl)) c35) fun f17 hf17 => ?_
            refine mops_adv rfl (v:=.ptr 1 v_6 (0+(i_3:Int).toNat*3+0)) hf17 (by kernel_rfl) (e_fld_own (B:=⟨v_6,.grow,3,cat spinetlaw41_Pair.v l_10⟩) (b:=1) (ver:=v_6) (o:=(0+(i_3:Int).toNat*3)) (by kernel_rfl) (live_grow (by kernel_rfl))) fun f18 hf18 => ?_
            refine mops_adv rfl (v:=.s (.string (gt l_10 i_3).Name)) hf18 (by kernel_rfl) (e_load_pe (g:=spinetlaw41_Pair.v) (l:=l_10) (iv:=i_3) (kd:=.grow) (q:=3) (b:=1) (ver:=v_6) [0] (by kernel_rfl) (live_grow (by kernel_rfl)) c35 (by kernel_rfl) (by kernel_rfl)) fun f19 hf19 => ?_
            refine mops_sg 1 hf19 (by kernel_rfl) fun f20 hf20 => ?_
            obtain ⟨c36,h⟩:=as_ok h
            refine mops_adv rfl (v:=.ref 3 (v_14+1) 0 (l_18++[(gt l_10 i_3).Name]).length) hf20 (by kernel_rfl) (e_app (g:=nS) (l:=l_18) (l':=[(gt l_10 i_3).Name]) (b:=3) (ver:=v_14) (n:=l_18.length) rfl (by kernel_rfl) rfl (live_grow (by kernel_rfl)) (sll_ev (v:=.ref 5 0 0 1) (by kernel_rfl) (sll_ref (B:=⟨0,.grow,1,cat nS [(gt l_10 i_3).Name]⟩) (by kernel_rfl) (live_grow (by kernel_rfl)))) (slc_ev (v:=.ref 5 0 0 1) (by kernel_rfl) (slc_ref (g:=nS) (l:=[(gt l_10 i_3).Name]) (kd:=.grow) (q:=1) (by kernel_rfl) (live_grow (by kernel_rfl)))) c36) fun f21 hf21 => ?_
            refine mops_en hf21 (by kernel_rfl) fun f22 hf22 => ?_
            refine k_c' (vs_vs (vs_cut (l:=[⟨1,[],.s (.int .u16 at_)⟩,⟨2,[],.s (.string ask_)⟩,⟨6,[],.s (.bool false)⟩,⟨7,[],.ptr 0 0 0⟩,⟨8,[],.ref 1 v_6 0 l_10.length⟩,⟨13,[],.ref 2 (v_13+1) 0 (l_17++[(gt l_10 i_3).Name]).length⟩,⟨14,[],.ref 3 (v_14+1) 0 (l_18++[(gt l_10 i_3).Name]).length⟩,⟨15,[],.s (.string near_1)⟩,⟨16,[],.s (.int .i64 off_1)⟩,⟨17,[],.s (.bool some_1)⟩,⟨18,[],.s (.int .i64 i_3)⟩]) 5 (by kernel_rfl) (by kernel_rfl) (L':=[⟨0,.res (SymX l_9),1,[]⟩,⟨v_6,.grow,3,cat spinetlaw41_Pair.v l_10⟩,⟨(v_13+1),.grow,1,cat nS (l_17++[(gt l_10 i_3).Name])⟩,⟨(v_14+1),.grow,1,cat nS (l_18++[(gt l_10 i_3).Name])⟩,⟨0,.grow,1,cat nS [(gt l_10 i_3).Name]⟩]) (by kernel_rfl) ⟨⟨rfl,rfl⟩,⟨rfl,rfl⟩,⟨rfl,rfl⟩,⟨rfl,rfl⟩,⟨rfl,rfl⟩,⟨rfl,rfl⟩,⟨rfl,rfl⟩,⟨rfl,rfl⟩,⟨rfl,rfl⟩,⟨rfl,rfl⟩,⟨rfl,rfl⟩,trivial⟩ ⟨.inr (.inr rfl),.inr (.inr (statics_unders _ _ (cat_stat _))),.inr (.inr (statics_unders _ _ (cat_stat _))),.inr (.inr (statics_unders _ _ (cat_stat _))),.inr (.inr (statics_unders _ _ (cat_stat _))),trivial⟩ (FOk_of [1,2,6,7,8,13,14,15,16,17,18] hf22 (by kernel_rfl)) fun f hf => ?_))
            exact k_un (hj3 (l_18++[(gt l_10 i_3).Name]) (v_14+1) h _ hf)
          · have h:=if_f h hc34
            refine k_skip ?_
            refine k_hp (L':=[⟨0,.res (SymX l_9),1,[]⟩,⟨v_6,.grow,3,cat spinetlaw41_Pair.v l_10⟩,⟨(v_13+1),.grow,1,cat nS (l_17++[(gt l_10 i_3).Name])⟩,⟨v_14,.grow,1,cat nS l_18⟩,⟨0,.grow,1,cat nS [(gt l_10 i_3).Name]⟩]) (by kernel_rfl) ?_
            exact hj3 l_18 v_14 h _ (FOk_of [1,2,6,7,8,13,14,15,16,17,18] hf15 (by kernel_rfl))
        · have h:=if_f h hc30
          refine k_exit ?_
          refine x_c nofun ?_
          refine x_l nofun ?_
          refine x_b ?_
          refine k_hp (L':=[⟨0,.res (SymX l_9),1,[]⟩,⟨v_6,.grow,3,cat spinetlaw41_Pair.v l_10⟩,⟨v_13,.grow,1,cat nS l_17⟩,⟨v_14,.grow,1,cat nS l_18⟩]) (by kernel_rfl) ?_
          exact hgo1 l_17 l_18 near_1 off_1 some_1 v_13 v_14 (Option.some.inj h) _ (FOk_of [1,2,6,7,8,13,14,15,16,17] hf3 (by kernel_rfl))
    refine k_loop BIG ?_
    refine loop_ind (fun n f L=>∃ (l_7:SymT) (l_8:(List spinetlaw41_Pair)) (i_1:Int) (v_5:Nat),spinetlaw41_SymbolsPlays_l0 l_ n l_7 l_8 i_1=some o0∧FOk f [⟨0,[],.sl false l_.length (cat spinetlaw41_Pair.v l_)⟩,⟨1,[],.s (.int .u16 at_)⟩,⟨2,[],.s (.string ask_)⟩,⟨6,[],.s (.bool false)⟩,⟨7,[],.ptr 0 0 0⟩,⟨8,[],.ref 1 v_5 0 l_8.length⟩,⟨9,[],.s (.int .i64 i_1)⟩]∧L=[⟨0,.res (SymX l_7),1,[]⟩,⟨v_5,.grow,3,cat spinetlaw41_Pair.v l_8⟩]) ?_ ?_ BIG _ _ ⟨([]:SymT),([]:List spinetlaw41_Pair),(0),(0),hx0,FOk_of [0,1,2,6,7,8,9] hf5 (by kernel_rfl),(by kernel_rfl)⟩
    · rintro f L ⟨l_7,l_8,i_1,v_5,h,_⟩
      cases (show (none:Option _)=some _ from h)
    · rintro n0 R0 ih f L ⟨l_7,l_8,i_1,v_5,h,hf,rfl⟩
      rw [spinetlaw41_SymbolsPlays_l0] at h
      refine k_seq ?_
      refine k_seq ?_
      refine k_reg ?_
      refine mops_en hf (by kernel_rfl) fun f1 hf1 => ?_
      refine k_c ?_
      refine k_cond hf1 (t:=(decide (i_1 < (ln l_)))) (by kernel_rfl) (fun hc2 => ?_) (fun hc2 => ?_)
      · have h:=if_t h hc2
        refine k_skip ?_
        refine k_c ?_
        refine k_seq ?_
        refine k_block ?_
        refine k_seq ?_
        refine k_reg ?_
        refine mops_sg 2 hf1 (by kernel_rfl) fun f2 hf2 => ?_
        obtain ⟨c3,h⟩:=as_ok h
        refine mops_adv rfl (v:=.ip ((cat spinetlaw41_Pair.v l_).drop ((i_1:Int).toNat*3))) hf2 (by kernel_rfl) (e_ias (n:=l_.length) (xv:=.sl false l_.length (cat spinetlaw41_Pair.v l_)) (k:=.i64) (iv:=i_1) (p:=.ip ((cat spinetlaw41_Pair.v l_).drop ((i_1:Int).toNat*3))) (by kernel_rfl) (by kernel_rfl) (by kernel_rfl) (by kernel_rfl) c3) fun f3 hf3 => ?_
        refine mops_sg 1 hf3 (by kernel_rfl) fun f4 hf4 => ?_
        refine mops_adv rfl (v:=.s (.string (gt l_ i_1).Name)) hf4 (by kernel_rfl) (e_load_ip (g:=spinetlaw41_Pair.v) (l:=l_) (iv:=i_1) [0] (by kernel_rfl) c3 (by kernel_rfl) (by kernel_rfl)) fun f5 hf5 => ?_
        refine mops_en hf5 (by kernel_rfl) fun f6 hf6 => ?_
        refine k_c ?_
        refine k_seq ?_
        refine k_seq ?_
        refine k_reg ?_
        refine mops_en hf6 (by kernel_rfl) fun f7 hf7 => ?_
        refine k_c ?_
        refine k_cond hf7 (t:=(decide (100 < (sln ((gt l_ i_1).Name))))) (by kernel_rfl) (fun hc4 => ?_) (fun hc4 => ?_)
        · have h:=if_t h hc4
          refine k_seq ?_
          refine k_reg ?_
          refine mops_en hf7 (by kernel_rfl) fun f8 hf8 => ?_
          refine k_c ?_
          refine k_ret ?_
          refine x_c nofun ?_
          refine x_br ?_
          refine x_c nofun ?_
          refine x_l nofun ?_
          refine x_br ?_
          refine x_c nofun ?_
          obtain rfl:=hret0 _ (Option.some.inj h)
          exact k_fin (fin_ret (.inl rfl) hf8 (vs:=[.s (.bool true)]) (by kernel_rfl) (SettL.pure (FzL.stat rfl)))
        · have h:=if_f h hc4
          refine k_skip ?_
          refine k_c ?_
          refine k_seq ?_
          refine k_seq ?_
          refine k_reg ?_
          refine mops_sg 1 hf7 (by kernel_rfl) fun f8 hf8 => ?_
          obtain ⟨r_8,hx_r_8,h⟩:=Option.bind_eq_some_iff.1 h
          refine mops_call rfl hf8 (av:=[.s (.string (gt l_ i_1).Name)]) (by kernel_rfl) (v:=.s (.bool r_8)) (CalL.pure (symbols_Right_ok ((gt l_ i_1).Name) r_8 hx_r_8) rfl rfl (Nat.le_of_ble_eq_true (by kernel_rfl))) (fun _=>rfl) fun f9 hf9 => ?_
          refine mops_sg 1 hf9 (by kernel_rfl) fun f10 hf10 => ?_
          obtain ⟨r_9,hx_r_9,h⟩:=Option.bind_eq_some_iff.1 h
          refine mops_call rfl hf10 (av:=[.s (.string (gt l_ i_1).Name)]) (by kernel_rfl) (v:=.s (.bool r_9)) (CalL.pure (spinetref41_Right_ok ((gt l_ i_1).Name) r_9 hx_r_9) rfl rfl (Nat.le_of_ble_eq_true (by kernel_rfl))) (fun _=>rfl) fun f11 hf11 => ?_
          refine mops_en hf11 (by kernel_rfl) fun f12 hf12 => ?_
          refine k_c ?_
          refine k_cond hf12 (t:=(!(r_8 == r_9))) (by kernel_rfl) (fun hc5 => ?_) (fun hc5 => ?_)
          · have h:=if_t h hc5
            refine k_seq ?_
            refine k_reg ?_
            refine mops_en hf12 (by kernel_rfl) fun f13 hf13 => ?_
            refine k_c ?_
            refine k_ret ?_
            refine x_c nofun ?_
            refine x_br ?_
            refine x_c nofun ?_
            refine x_l nofun ?_
            refine x_br ?_
            refine x_c nofun ?_
            obtain rfl:=hret0 _ (Option.some.inj h)
            exact k_fin (fin_ret (.inl rfl) hf13 (vs:=[.s (.bool false)]) (by kernel_rfl) (SettL.pure (FzL.stat rfl)))
          · have h:=if_f h hc5
            refine k_skip ?_
            refine k_c ?_
            refine k_seq ?_
            refine k_reg ?_
            refine mops_sg 2 hf12 (by kernel_rfl) fun f13 hf13 => ?_
            obtain ⟨r_10,hx_r_10,h⟩:=Option.bind_eq_some_iff.1 h
            refine mops_call rfl hf13 (av:=[.ref 1 v_5 0 l_8.length,.s (.string (gt l_ i_1).Name)]) (by kernel_rfl) (v:=.s (.int .i64 r_10)) (CalL.lend (spinetlaw41_find_ok l_8 ((gt l_ i_1).Name) r_10 hx_r_10) rfl (Lends.cons (Lend.whole (g:=spinetlaw41_Pair.v) (kd:=.grow) (l:=l_8) rfl (live_grow (by kernel_rfl))) (Lends.cons (Lend.stat rfl) Lends.nil)) (by kernel_rfl)) (fun _=>rfl) fun f14 hf14 => ?_
            refine mops_en hf14 (by kernel_rfl) fun f15 hf15 => ?_
            refine k_c ?_
            refine k_seq ?_
            refine k_seq ?_
            refine k_reg ?_
            refine mops_sg 2 hf15 (by kernel_rfl) fun f16 hf16 => ?_
            obtain ⟨c6,h⟩:=as_ok h
            refine mops_adv rfl (v:=.ip ((cat spinetlaw41_Pair.v l_).drop ((i_1:Int).toNat*3))) hf16 (by kernel_rfl) (e_ias (n:=l_.length) (xv:=.sl false l_.length (cat spinetlaw41_Pair.v l_)) (k:=.i64) (iv:=i_1) (p:=.ip ((cat spinetlaw41_Pair.v l_).drop ((i_1:Int).toNat*3))) (by kernel_rfl) (by kernel_rfl) (by kernel_rfl) (by kernel_rfl) c6) fun f17 hf17 => ?_
            refine mops_sg 1 hf17 (by kernel_rfl) fun f18 hf18 => ?_
            refine mops_adv rfl (v:=.s (.bool (gt l_ i_1).Drop)) hf18 (by kernel_rfl) (e_load_ip (g:=spinetlaw41_Pair.v) (l:=l_) (iv:=i_1) [2] (by kernel_rfl) c6 (by kernel_rfl) (by kernel_rfl)) fun f19 hf19 => ?_
            refine mops_en hf19 (by kernel_rfl) fun f20 hf20 => ?_
            refine k_c ?_
            refine k_cond hf20 (t:=(gt l_ i_1).Drop) (by kernel_rfl) (fun hc7 => ?_) (fun hc7 => ?_)
            · have h:=if_t h hc7
              refine k_seq ?_
              refine k_seq ?_
              refine k_reg ?_
              refine mops_seg [0,1,2,6,7,8,9,10,11,63,64] 2 hf20 (l':=[⟨0,[],.sl false l_.length (cat spinetlaw41_Pair.v l_)⟩,⟨1,[],.s (.int .u16 at_)⟩,⟨2,[],.s (.string ask_)⟩,⟨6,[],.s (.bool false)⟩,⟨7,[],.ptr 0 0 0⟩,⟨8,[],.ref 1 v_5 0 l_8.length⟩,⟨9,[],.s (.int .i64 i_1)⟩,⟨10,[],.s (.string (gt l_ i_1).Name)⟩,⟨11,[],.s (.int .i64 r_10)⟩,⟨63,[],.ptr 0 0 0⟩,⟨64,[],.s (.string (gt l_ i_1).Name)⟩]) (L':=[⟨0,.res (SymX l_7),1,[]⟩,⟨v_5,.grow,3,cat spinetlaw41_Pair.v l_8⟩]) (by kernel_rfl) fun f21 hf21 => ?_
              obtain ⟨c8,h⟩:=as_ok h
              refine mops_call rfl hf21 (av:=[.ptr 0 0 0,.s (.string (gt l_ i_1).Name)]) (by kernel_rfl) (v:=.s (.bool (symGet l_7 ((gt l_ i_1).Name)).isSome)) (L':=[⟨0,.res (SymX (symDel l_7 ((gt l_ i_1).Name))),1,[]⟩,⟨v_5,.grow,3,cat spinetlaw41_Pair.v l_8⟩]) (CalL.borrow (M:=[⟨0,.res (SymX l_7),1,[]⟩]) (M':=[⟨0,.res (SymX (symDel l_7 ((gt l_ i_1).Name))),1,[]⟩]) [0] (sym_Drop_con l_7 ((gt l_ i_1).Name) c8) (by kernel_rfl) (RNs.cons (RN.ptr (by kernel_rfl)) (RNs.cons (RN.stat rfl) RNs.nil)) (RN.stat rfl) (RBs.cons (RNs.stat rfl) RBs.nil) (RBs.cons (RNs.stat rfl) RBs.nil) (by kernel_rfl) (by kernel_rfl)) (by intro h; cases h) fun f22 hf22 => ?_
              refine mops_en hf22 (by kernel_rfl) fun f23 hf23 => ?_
              refine k_c ?_
              refine k_cond hf23 (t:=(!((symGet l_7 ((gt l_ i_1).Name)).isSome == (decide (0≤r_10))))) (by kernel_rfl) (fun hc9 => ?_) (fun hc9 => ?_)
              · have h:=if_t h hc9
                refine k_seq ?_
                refine k_reg ?_
                refine mops_en hf23 (by kernel_rfl) fun f24 hf24 => ?_
                refine k_c ?_
                refine k_ret ?_
                refine x_c nofun ?_
                refine x_c nofun ?_
                refine x_br ?_
                refine x_c nofun ?_
                refine x_l nofun ?_
                refine x_br ?_
                refine x_c nofun ?_
                obtain rfl:=hret0 _ (Option.some.inj h)
                exact k_fin (fin_ret (.inl rfl) hf24 (vs:=[.s (.bool false)]) (by kernel_rfl) (SettL.pure (FzL.stat rfl)))
              · have h:=if_f h hc9
                refine k_skip ?_
                refine k_c ?_
                refine k_seq ?_
                refine k_seq ?_
                refine k_reg ?_
                refine mops_en hf23 (by kernel_rfl) fun f24 hf24 => ?_
                refine k_c ?_
                have hj1:∀ (l_11:(List spinetlaw41_Pair)) (v_7:Nat),spinetlaw41_SymbolsPlays_j0 ((spinetlaw41_SymbolsPlays_l0 l_ n0)) l_ l_7 i_1 l_11=some o0→∀ f,FOk f [⟨0,[],.sl false l_.length (cat spinetlaw41_Pair.v l_)⟩,⟨1,[],.s (.int .u16 at_)⟩,⟨2,[],.s (.string ask_)⟩,⟨6,[],.s (.bool false)⟩,⟨7,[],.ptr 0 0 0⟩,⟨8,[],.ref 1 v_7 0 l_11.length⟩,⟨9,[],.s (.int .i64 i_1)⟩,⟨10,[],.s (.string (gt l_ i_1).Name)⟩,⟨11,[],.s (.int .i64 r_10)⟩]→kont Try.prog [] (spinetlaw41_SymbolsPlays_C r) ((.c spinetlaw41_SymbolsPlays_i28)::(.c spinetlaw41_SymbolsPlays_i47)::(.b 1)::(.c spinetlaw41_SymbolsPlays_i53)::(.l R0)::(.b 0)::(.c spinetlaw41_SymbolsPlays_i98)::[]) .normal f [⟨0,.res (SymX (symDel l_7 ((gt l_ i_1).Name))),1,[]⟩,⟨v_7,.grow,3,cat spinetlaw41_Pair.v l_11⟩]:=by
                  intro l_11 v_7 h f hf
                  unfold spinetlaw41_SymbolsPlays_j0 at h
                  refine k_c ?_
                  refine k_exit ?_
                  refine x_c nofun ?_
                  refine x_b ?_
                  refine k_c ?_
                  refine k_reg ?_
                  refine mops_en hf (by kernel_rfl) fun f1 hf1 => ?_
                  refine k_l ?_
                  exact ih _ _ ⟨(symDel l_7 ((gt l_ i_1).Name)),l_11,(IntKind.wrap .i64 (i_1+1)),v_7,h,FOk_of [0,1,2,6,7,8,9] hf1 (by kernel_rfl),(by kernel_rfl)⟩
                refine k_cond hf24 (t:=(decide (0≤r_10))) (by kernel_rfl) (fun hc10 => ?_) (fun hc10 => ?_)
                · have h:=if_t h hc10
                  refine k_regw ?_
                  refine lw_w (a:=⟨⟨(some 71),(.e (.bslo 3 0 [] [])),none,[]⟩,true,0,1⟩) (by kernel_rfl) rfl rfl ?_
                  refine mops_end [0,1,2,6,7,8,9,10,11,71] hf24 (l':=[⟨0,[],.sl false l_.length (cat spinetlaw41_Pair.v l_)⟩,⟨1,[],.s (.int .u16 at_)⟩,⟨2,[],.s (.string ask_)⟩,⟨6,[],.s (.bool false)⟩,⟨7,[],.ptr 0 0 0⟩,⟨8,[],.ref 1 v_5 0 l_8.length⟩,⟨9,[],.s (.int .i64 i_1)⟩,⟨10,[],.s (.string (gt l_ i_1).Name)⟩,⟨11,[],.s (.int .i64 r_10)⟩,⟨71,[],.ref 2 0 0 0⟩]) (L':=[⟨0,.res (SymX (symDel l_7 ((gt l_ i_1).Name))),1,[]⟩,⟨v_5,.grow,3,cat spinetlaw41_Pair.v l_8⟩,⟨0,.grow,3,[]⟩]) (by kernel_rfl) fun f25 hf25 => ?_
                  refine ⟨trivial,?_⟩
                  refine lw_free (dst:=(some 72)) (op:=(.mv (.t 8))) (aft:=[]) (lo:=0) (hi:=1) (v:=.ref 1 v_5 0 l_8.length) (by kernel_rfl) (by kernel_rfl) hf25 (by kernel_rfl) (by kernel_rfl) (old_ok hf25 (by kernel_rfl) (by kernel_rfl) trivial) fun f26 hf26 => ?_
                  refine lw_free (dst:=(some 73)) (op:=(.mv (.t 11))) (aft:=[]) (lo:=0) (hi:=1) (v:=.s (.int .i64 r_10)) (by kernel_rfl) (by kernel_rfl) hf26 (by kernel_rfl) (by kernel_rfl) (old_ok hf26 (by kernel_rfl) (by kernel_rfl) trivial) fun f27 hf27 => ?_
                  obtain ⟨c11,h⟩:=as_ok h
                  refine lw_free (dst:=(some 74)) (op:=(.slice 3 (.t 72) none (some (.t 73)))) (aft:=[1,2]) (lo:=0) (hi:=1) (v:=.ref 1 v_5 (0+0*3) ((r_10:Int).toNat - 0)) (by kernel_rfl) (by kernel_rfl) hf27 (by kernel_rfl) (e_slice_ref (B:=⟨v_5,.grow,3,cat spinetlaw41_Pair.v l_8⟩) (n:=l_8.length) (o:=0) (by kernel_rfl) (live_grow (by kernel_rfl)) rfl (b_ns (k:=.i64) (iv:=r_10) (by kernel_rfl) c11)) (old_ok hf27 (by kernel_rfl) (e_slice_ref (B:=⟨v_5,.grow,3,cat spinetlaw41_Pair.v l_8⟩) (n:=l_8.length) (o:=0) (by kernel_rfl) (live_grow (by kernel_rfl)) rfl (b_ns (k:=.i64) (iv:=r_10) (by kernel_rfl) c11)) trivial) fun f28 hf28 => ?_
                  refine lw_w (a:=⟨⟨(some 75),(.e (.app 29 3 24 (.t 71) (.t 74))),none,[0,3]⟩,true,1,2⟩) (by kernel_rfl) rfl rfl ?_
                  obtain ⟨c12,h⟩:=as_ok h
                  refine mops_adv rfl (v:=.ref 2 1 0 (([]:List spinetlaw41_Pair)++((l_8.drop 0).take ((r_10:Int).toNat - 0))).length) hf28 (by kernel_rfl) (e_app (g:=spinetlaw41_Pair.v) (l:=([]:List spinetlaw41_Pair)) (l':=((l_8.drop 0).take ((r_10:Int).toNat - 0))) (b:=2) (ver:=0) (n:=0) rfl (by kernel_rfl) (by kernel_rfl) (live_grow (by kernel_rfl)) (sll_ev (v:=.ref 1 v_5 (0+0*3) ((r_10:Int).toNat - 0)) (by kernel_rfl) (sll_refp (B:=⟨v_5,.grow,3,cat spinetlaw41_Pair.v l_8⟩) (l:=l_8) (cut_ns (n:=l_8.length) c11) rfl (live_grow (by kernel_rfl)))) (slc_ev (v:=.ref 1 v_5 (0+0*3) ((r_10:Int).toNat - 0)) (by kernel_rfl) (slc_refp (g:=spinetlaw41_Pair.v) (l:=l_8) (q:=1) (n:=l_8.length) (a:=0) (b:=(r_10:Int).toNat) (kd:=.grow) (z:=3) (cut_ns (n:=l_8.length) c11) rfl (live_grow (by kernel_rfl)))) c12) fun f29 hf29 => ?_
                  refine mops_end [0,1,2,6,7,8,9,10,11,75] hf29 (l':=[⟨0,[],.sl false l_.length (cat spinetlaw41_Pair.v l_)⟩,⟨1,[],.s (.int .u16 at_)⟩,⟨2,[],.s (.string ask_)⟩,⟨6,[],.s (.bool false)⟩,⟨7,[],.ptr 0 0 0⟩,⟨8,[],.ref 1 v_5 0 l_8.length⟩,⟨9,[],.s (.int .i64 i_1)⟩,⟨10,[],.s (.string (gt l_ i_1).Name)⟩,⟨11,[],.s (.int .i64 r_10)⟩,⟨75,[],.ref 2 1 0 (([]:List spinetlaw41_Pair)++((l_8.drop 0).take ((r_10:Int).toNat - 0))).length⟩]) (L':=[⟨0,.res (SymX (symDel l_7 ((gt l_ i_1).Name))),1,[]⟩,⟨v_5,.grow,3,cat spinetlaw41_Pair.v l_8⟩,⟨1,.grow,3,cat spinetlaw41_Pair.v (([]:List spinetlaw41_Pair)++((l_8.drop 0).take ((r_10:Int).toNat - 0)))⟩]) (by kernel_rfl) fun f30 hf30 => ?_
                  refine ⟨trivial,?_⟩
                  refine lw_free (dst:=(some 76)) (op:=(.mv (.t 8))) (aft:=[]) (lo:=0) (hi:=2) (v:=.ref 1 v_5 0 l_8.length) (by kernel_rfl) (by kernel_rfl) hf30 (by kernel_rfl) (by kernel_rfl) (old_ok hf30 (by kernel_rfl) (by kernel_rfl) (old_ok hf30 (by kernel_rfl) (by kernel_rfl) trivial)) fun f31 hf31 => ?_
                  refine lw_free (dst:=(some 77)) (op:=(.mv (.t 11))) (aft:=[]) (lo:=0) (hi:=2) (v:=.s (.int .i64 r_10)) (by kernel_rfl) (by kernel_rfl) hf31 (by kernel_rfl) (by kernel_rfl) (old_ok hf31 (by kernel_rfl) (by kernel_rfl) (old_ok hf31 (by kernel_rfl) (by kernel_rfl) trivial)) fun f32 hf32 => ?_
                  refine lw_free (dst:=(some 78)) (op:=(.bin .add (.t 77) (.k (.int .i64 1)))) (aft:=[6]) (lo:=0) (hi:=2) (v:=.s (.int .i64 (IntKind.wrap .i64 (r_10+1)))) (by kernel_rfl) (by kernel_rfl) hf32 (by kernel_rfl) (by kernel_rfl) (old_ok hf32 (by kernel_rfl) (by kernel_rfl) (old_ok hf32 (by kernel_rfl) (by kernel_rfl) trivial)) fun f33 hf33 => ?_
                  obtain ⟨c13,h⟩:=as_ok h
                  refine lw_free (dst:=(some 79)) (op:=(.slice 3 (.t 76) (some (.t 78)) none)) (aft:=[5,7]) (lo:=0) (hi:=2) (v:=.ref 1 v_5 (0+((IntKind.wrap .i64 (r_10+1)):Int).toNat*3) (l_8.length - ((IntKind.wrap .i64 (r_10+1)):Int).toNat)) (by kernel_rfl) (by kernel_rfl) hf33 (by kernel_rfl) (e_slice_ref (B:=⟨v_5,.grow,3,cat spinetlaw41_Pair.v l_8⟩) (n:=l_8.length) (o:=0) (by kernel_rfl) (live_grow (by kernel_rfl)) rfl (b_sn (k:=.i64) (iv:=(IntKind.wrap .i64 (r_10+1))) (by kernel_rfl) c13)) (old_ok hf33 (by kernel_rfl) (e_slice_ref (B:=⟨v_5,.grow,3,cat spinetlaw41_Pair.v l_8⟩) (n:=l_8.length) (o:=0) (by kernel_rfl) (live_grow (by kernel_rfl)) rfl (b_sn (k:=.i64) (iv:=(IntKind.wrap .i64 (r_10+1))) (by kernel_rfl) c13)) (old_ok hf33 (by kernel_rfl) (e_slice_ref (B:=⟨v_5,.grow,3,cat spinetlaw41_Pair.v l_8⟩) (n:=l_8.length) (o:=0) (by kernel_rfl) (live_grow (by kernel_rfl)) rfl (b_sn (k:=.i64) (iv:=(IntKind.wrap .i64 (r_10+1))) (by kernel_rfl) c13)) trivial)) fun f34 hf34 => ?_
                  refine lw_w (a:=⟨⟨(some 80),(.e (.app 29 3 24 (.t 75) (.t 79))),none,[4,8,4]⟩,true,2,3⟩) (by kernel_rfl) rfl rfl ?_
                  obtain ⟨c14,h⟩:=as_ok h
                  refine mops_adv rfl (v:=.ref 2 2 0 ((([]:List spinetlaw41_Pair)++((l_8.drop 0).take ((r_10:Int).toNat - 0)))++((l_8.drop ((IntKind.wrap .i64 (r_10+1)):Int).toNat).take (l_8.length - ((IntKind.wrap .i64 (r_10+1)):Int).toNat))).length) hf34 (by kernel_rfl) (e_app (g:=spinetlaw41_Pair.v) (l:=(([]:List spinetlaw41_Pair)++((l_8.drop 0).take ((r_10:Int).toNat - 0)))) (l':=((l_8.drop ((IntKind.wrap .i64 (r_10+1)):Int).toNat).take (l_8.length - ((IntKind.wrap .i64 (r_10+1)):Int).toNat))) (b:=2) (ver:=1) (n:=(([]:List spinetlaw41_Pair)++((l_8.drop 0).take ((r_10:Int).toNat - 0))).length) rfl (by kernel_rfl) rfl (live_grow (by kernel_rfl)) (sll_ev (v:=.ref 1 v_5 (0+((IntKind.wrap .i64 (r_10+1)):Int).toNat*3) (l_8.length - ((IntKind.wrap .i64 (r_10+1)):Int).toNat)) (by kernel_rfl) (sll_refp (B:=⟨v_5,.grow,3,cat spinetlaw41_Pair.v l_8⟩) (l:=l_8) (cut_sn (n:=l_8.length) c13) rfl (live_grow (by kernel_rfl)))) (slc_ev (v:=.ref 1 v_5 (0+((IntKind.wrap .i64 (r_10+1)):Int).toNat*3) (l_8.length - ((IntKind.wrap .i64 (r_10+1)):Int).toNat)) (by kernel_rfl) (slc_refp (g:=spinetlaw41_Pair.v) (l:=l_8) (q:=1) (n:=l_8.length) (a:=((IntKind.wrap .i64 (r_10+1)):Int).toNat) (b:=l_8.length) (kd:=.grow) (z:=3) (cut_sn (n:=l_8.length) c13) rfl (live_grow (by kernel_rfl)))) c14) fun f35 hf35 => ?_
                  refine mops_end [0,1,2,6,7,8,9,10,11,80] hf35 (l':=[⟨0,[],.sl false l_.length (cat spinetlaw41_Pair.v l_)⟩,⟨1,[],.s (.int .u16 at_)⟩,⟨2,[],.s (.string ask_)⟩,⟨6,[],.s (.bool false)⟩,⟨7,[],.ptr 0 0 0⟩,⟨8,[],.ref 1 v_5 0 l_8.length⟩,⟨9,[],.s (.int .i64 i_1)⟩,⟨10,[],.s (.string (gt l_ i_1).Name)⟩,⟨11,[],.s (.int .i64 r_10)⟩,⟨80,[],.ref 2 2 0 ((([]:List spinetlaw41_Pair)++((l_8.drop 0).take ((r_10:Int).toNat - 0)))++((l_8.drop ((IntKind.wrap .i64 (r_10+1)):Int).toNat).take (l_8.length - ((IntKind.wrap .i64 (r_10+1)):Int).toNat))).length⟩]) (L':=[⟨0,.res (SymX (symDel l_7 ((gt l_ i_1).Name))),1,[]⟩,⟨v_5,.grow,3,cat spinetlaw41_Pair.v l_8⟩,⟨2,.grow,3,cat spinetlaw41_Pair.v ((([]:List spinetlaw41_Pair)++((l_8.drop 0).take ((r_10:Int).toNat - 0)))++((l_8.drop ((IntKind.wrap .i64 (r_10+1)):Int).toNat).take (l_8.length - ((IntKind.wrap .i64 (r_10+1)):Int).toNat)))⟩]) (by kernel_rfl) fun f36 hf36 => ?_
                  refine ⟨trivial,?_⟩
                  refine lw_tight 1 (by kernel_rfl) ?_
                  refine mops_end [0,1,2,6,7,8,9,10,11] hf36 (l':=[⟨0,[],.sl false l_.length (cat spinetlaw41_Pair.v l_)⟩,⟨1,[],.s (.int .u16 at_)⟩,⟨2,[],.s (.string ask_)⟩,⟨6,[],.s (.bool false)⟩,⟨7,[],.ptr 0 0 0⟩,⟨8,[],.ref 2 2 0 ((([]:List spinetlaw41_Pair)++((l_8.drop 0).take ((r_10:Int).toNat - 0)))++((l_8.drop ((IntKind.wrap .i64 (r_10+1)):Int).toNat).take (l_8.length - ((IntKind.wrap .i64 (r_10+1)):Int).toNat))).length⟩,⟨9,[],.s (.int .i64 i_1)⟩,⟨10,[],.s (.string (gt l_ i_1).Name)⟩,⟨11,[],.s (.int .i64 r_10)⟩]) (L':=[⟨0,.res (SymX (symDel l_7 ((gt l_ i_1).Name))),1,[]⟩,⟨v_5,.grow,3,cat spinetlaw41_Pair.v l_8⟩,⟨2,.grow,3,cat spinetlaw41_Pair.v ((([]:List spinetlaw41_Pair)++((l_8.drop 0).take ((r_10:Int).toNat - 0)))++((l_8.drop ((IntKind.wrap .i64 (r_10+1)):Int).toNat).take (l_8.length - ((IntKind.wrap .i64 (r_10+1)):Int).toNat)))⟩]) (by kernel_rfl) fun f37 hf37 => ?_
                  intro _
                  refine lw_end (by kernel_rfl) ?_
                  refine k_mv (ver:=v_5) (v2:=2) (q:=3) (n:=((([]:List spinetlaw41_Pair)++((l_8.drop 0).take ((r_10:Int).toNat - 0)))++((l_8.drop ((IntKind.wrap .i64 (r_10+1)):Int).toNat).take (l_8.length - ((IntKind.wrap .i64 (r_10+1)):Int).toNat))).length) (kd:=.grow) (cs0:=cat spinetlaw41_Pair.v l_8) (cs:=cat spinetlaw41_Pair.v ((([]:List spinetlaw41_Pair)++((l_8.drop 0).take ((r_10:Int).toNat - 0)))++((l_8.drop ((IntKind.wrap .i64 (r_10+1)):Int).toNat).take (l_8.length - ((IntKind.wrap .i64 (r_10+1)):Int).toNat)))) 8 1 2 hf37 (L':=[⟨0,.res (SymX (symDel l_7 ((gt l_ i_1).Name))),1,[]⟩,⟨(v_5+1),.grow,3,cat spinetlaw41_Pair.v ((([]:List spinetlaw41_Pair)++((l_8.drop 0).take ((r_10:Int).toNat - 0)))++((l_8.drop ((IntKind.wrap .i64 (r_10+1)):Int).toNat).take (l_8.length - ((IntKind.wrap .i64 (r_10+1)):Int).toNat)))⟩,⟨3,.grow,3,cat spinetlaw41_Pair.v ([]:List spinetlaw41_Pair)⟩]) fun f38 hf38 => ?_
                  refine k_c' (vs_vs (vs_cut (l:=[⟨0,[],.sl false l_.length (cat spinetlaw41_Pair.v l_)⟩,⟨1,[],.s (.int .u16 at_)⟩,⟨2,[],.s (.string ask_)⟩,⟨6,[],.s (.bool false)⟩,⟨7,[],.ptr 0 0 0⟩,⟨8,[],.ref 1 (v_5+1) 0 ((([]:List spinetlaw41_Pair)++((l_8.drop 0).take ((r_10:Int).toNat - 0)))++((l_8.drop ((IntKind.wrap .i64 (r_10+1)):Int).toNat).take (l_8.length - ((IntKind.wrap .i64 (r_10+1)):Int).toNat))).length⟩,⟨9,[],.s (.int .i64 i_1)⟩,⟨10,[],.s (.string (gt l_ i_1).Name)⟩,⟨11,[],.s (.int .i64 r_10)⟩]) 2 (by kernel_rfl) (by kernel_rfl) (L':=[⟨0,.res (SymX (symDel l_7 ((gt l_ i_1).Name))),1,[]⟩,⟨(v_5+1),.grow,3,cat spinetlaw41_Pair.v ((([]:List spinetlaw41_Pair)++((l_8.drop 0).take ((r_10:Int).toNat - 0)))++((l_8.drop ((IntKind.wrap .i64 (r_10+1)):Int).toNat).take (l_8.length - ((IntKind.wrap .i64 (r_10+1)):Int).toNat)))⟩]) (by kernel_rfl) ⟨⟨rfl,(static_under _ _ (by simp [V.static,statics,cat_stat,dropcat_stat]))⟩,⟨rfl,rfl⟩,⟨rfl,rfl⟩,⟨rfl,rfl⟩,⟨rfl,rfl⟩,⟨rfl,rfl⟩,⟨rfl,rfl⟩,⟨rfl,rfl⟩,⟨rfl,rfl⟩,trivial⟩ ⟨.inr (.inr rfl),.inr (.inr (statics_unders _ _ (cat_stat _))),trivial⟩ (FOk_of [0,1,2,6,7,8,9,10,11] hf38 (by kernel_rfl)) fun f hf => ?_))
                  exact k_un (hj1 ((([]:List spinetlaw41_Pair)++((l_8.drop 0).take ((r_10:Int).toNat - 0)))++((l_8.drop ((IntKind.wrap .i64 (r_10+1)):Int).toNat).take (l_8.length - ((IntKind.wrap .i64 (r_10+1)):Int).toNat))) (v_5+1) h _ hf)
                · have h:=if_f h hc10
                  refine k_skip ?_
                  refine k_hp (L':=[⟨0,.res (SymX (symDel l_7 ((gt l_ i_1).Name))),1,[]⟩,⟨v_5,.grow,3,cat spinetlaw41_Pair.v l_8⟩]) (by kernel_rfl) ?_
                  exact hj1 l_8 v_5 h _ (FOk_of [0,1,2,6,7,8,9,10,11] hf24 (by kernel_rfl))
            · have h:=if_f h hc7
              refine k_skip ?_
              refine k_c ?_
              refine k_seq ?_
              refine k_reg ?_
              refine mops_end [0,1,2,6,7,8,9,10,11,12] hf20 (l':=[⟨0,[],.sl false l_.length (cat spinetlaw41_Pair.v l_)⟩,⟨1,[],.s (.int .u16 at_)⟩,⟨2,[],.s (.string ask_)⟩,⟨6,[],.s (.bool false)⟩,⟨7,[],.ptr 0 0 0⟩,⟨8,[],.ref 1 v_5 0 l_8.length⟩,⟨9,[],.s (.int .i64 i_1)⟩,⟨10,[],.s (.string (gt l_ i_1).Name)⟩,⟨11,[],.s (.int .i64 r_10)⟩,⟨12,[],.s (.int .i64 0)⟩]) (L':=[⟨0,.res (SymX l_7),1,[]⟩,⟨v_5,.grow,3,cat spinetlaw41_Pair.v l_8⟩]) (by kernel_rfl) fun f21 hf21 => ?_
              refine k_c ?_
              refine k_seq ?_
              refine k_block ?_
              refine k_seq ?_
              refine k_reg ?_
              refine mops_sg 1 hf21 (by kernel_rfl) fun f22 hf22 => ?_
              obtain ⟨r_11,hx_r_11,h⟩:=Option.bind_eq_some_iff.1 h
              refine mops_call rfl hf22 (av:=[.s (.string (gt l_ i_1).Name)]) (by kernel_rfl) (v:=.s (.bool r_11)) (CalL.pure (spinetref41_Right_ok ((gt l_ i_1).Name) r_11 hx_r_11) rfl rfl (Nat.le_of_ble_eq_true (by kernel_rfl))) (fun _=>rfl) fun f23 hf23 => ?_
              refine mops_en hf23 (by kernel_rfl) fun f24 hf24 => ?_
              refine k_c ?_
              have hj2:∀ (l_12:(List spinetlaw41_Pair)) (want_2:Int) (v_8:Nat),spinetlaw41_SymbolsPlays_j1 ((spinetlaw41_SymbolsPlays_l0 l_ n0)) l_ l_7 i_1 l_12 want_2=some o0→∀ f,FOk f [⟨0,[],.sl false l_.length (cat spinetlaw41_Pair.v l_)⟩,⟨1,[],.s (.int .u16 at_)⟩,⟨2,[],.s (.string ask_)⟩,⟨6,[],.s (.bool false)⟩,⟨7,[],.ptr 0 0 0⟩,⟨8,[],.ref 1 v_8 0 l_12.length⟩,⟨9,[],.s (.int .i64 i_1)⟩,⟨10,[],.s (.string (gt l_ i_1).Name)⟩,⟨12,[],.s (.int .i64 want_2)⟩]→kont Try.prog [] (spinetlaw41_SymbolsPlays_C r) ((.c spinetlaw41_SymbolsPlays_i45)::(.b 1)::(.c spinetlaw41_SymbolsPlays_i53)::(.l R0)::(.b 0)::(.c spinetlaw41_SymbolsPlays_i98)::[]) .normal f [⟨0,.res (SymX l_7),1,[]⟩,⟨v_8,.grow,3,cat spinetlaw41_Pair.v l_12⟩]:=by
                intro l_12 want_2 v_8 h f hf
                unfold spinetlaw41_SymbolsPlays_j1 at h
                refine k_c ?_
                refine k_seq ?_
                refine k_reg ?_
                refine mops_sg 4 hf (by kernel_rfl) fun f1 hf1 => ?_
                obtain ⟨c27,h⟩:=as_ok h
                refine mops_adv rfl (v:=.ip ((cat spinetlaw41_Pair.v l_).drop ((i_1:Int).toNat*3))) hf1 (by kernel_rfl) (e_ias (n:=l_.length) (xv:=.sl false l_.length (cat spinetlaw41_Pair.v l_)) (k:=.i64) (iv:=i_1) (p:=.ip ((cat spinetlaw41_Pair.v l_).drop ((i_1:Int).toNat*3))) (by kernel_rfl) (by kernel_rfl) (by kernel_rfl) (by kernel_rfl) c27) fun f2 hf2 => ?_
                refine mops_sg 1 hf2 (by kernel_rfl) fun f3 hf3 => ?_
                refine mops_adv rfl (v:=.s (.int .u16 (gt l_ i_1).At)) hf3 (by kernel_rfl) (e_load_ip (g:=spinetlaw41_Pair.v) (l:=l_) (iv:=i_1) [1] (by kernel_rfl) c27 (by kernel_rfl) (by kernel_rfl)) fun f4 hf4 => ?_
                obtain ⟨ok_2,hx_ok_2,h⟩:=Option.bind_eq_some_iff.1 h
                obtain ⟨c28,h⟩:=as_ok h
                refine mops_call rfl hf4 (av:=[.ptr 0 0 0,.s (.string (gt l_ i_1).Name),.s (.int .u16 (gt l_ i_1).At)]) (by kernel_rfl) (v:=.s (.int .i64 (symSet l_7 ((gt l_ i_1).Name) ((gt l_ i_1).At) ok_2).1)) (L':=[⟨0,.res (SymX ((symSet l_7 ((gt l_ i_1).Name) ((gt l_ i_1).At) ok_2).2)),1,[]⟩,⟨v_8,.grow,3,cat spinetlaw41_Pair.v l_12⟩]) (CalL.borrow (M:=[⟨0,.res (SymX l_7),1,[]⟩]) (M':=[⟨0,.res (SymX ((symSet l_7 ((gt l_ i_1).Name) ((gt l_ i_1).At) ok_2).2)),1,[]⟩]) [0] (sym_Set_con l_7 ((gt l_ i_1).Name) ((gt l_ i_1).At) ok_2 (symbols_Right_ok ((gt l_ i_1).Name) ok_2 hx_ok_2) c28) (by kernel_rfl) (RNs.cons (RN.ptr (by kernel_rfl)) (RNs.cons (RN.stat rfl) (RNs.cons (RN.stat rfl) RNs.nil))) (RN.stat rfl) (RBs.cons (RNs.stat rfl) RBs.nil) (RBs.cons (RNs.stat rfl) RBs.nil) (by kernel_rfl) (by kernel_rfl)) (by intro h; cases h) fun f5 hf5 => ?_
                refine mops_en hf5 (by kernel_rfl) fun f6 hf6 => ?_
                refine k_c ?_
                refine k_cond hf6 (t:=((symSet l_7 ((gt l_ i_1).Name) ((gt l_ i_1).At) ok_2).1 != want_2)) (by kernel_rfl) (fun hc29 => ?_) (fun hc29 => ?_)
                · have h:=if_t h hc29
                  refine k_seq ?_
                  refine k_reg ?_
                  refine mops_en hf6 (by kernel_rfl) fun f7 hf7 => ?_
                  refine k_c ?_
                  refine k_ret ?_
                  refine x_br ?_
                  refine x_c nofun ?_
                  refine x_l nofun ?_
                  refine x_br ?_
                  refine x_c nofun ?_
                  obtain rfl:=hret0 _ (Option.some.inj h)
                  exact k_fin (fin_ret (.inl rfl) hf7 (vs:=[.s (.bool false)]) (by kernel_rfl) (SettL.pure (FzL.stat rfl)))
                · have h:=if_f h hc29
                  refine k_skip ?_
                  refine k_b ?_
                  refine k_c ?_
                  refine k_reg ?_
                  refine mops_en hf6 (by kernel_rfl) fun f7 hf7 => ?_
                  refine k_l ?_
                  exact ih _ _ ⟨((symSet l_7 ((gt l_ i_1).Name) ((gt l_ i_1).At) ok_2).2),l_12,(IntKind.wrap .i64 (i_1+1)),v_8,h,FOk_of [0,1,2,6,7,8,9] hf7 (by kernel_rfl),(by kernel_rfl)⟩
              refine k_cond hf24 (t:=(!r_11)) (by kernel_rfl) (fun hc15 => ?_) (fun hc15 => ?_)
              · have h:=if_t h hc15
                refine k_reg ?_
                refine mops_en hf24 (by kernel_rfl) fun f25 hf25 => ?_
                refine k_b ?_
                refine k_hp (L':=[⟨0,.res (SymX l_7),1,[]⟩,⟨v_5,.grow,3,cat spinetlaw41_Pair.v l_8⟩]) (by kernel_rfl) ?_
                exact hj2 l_8 (40) v_5 h _ (FOk_of [0,1,2,6,7,8,9,10,12] hf25 (by kernel_rfl))
              · have h:=if_f h hc15
                refine k_seq ?_
                refine k_regq ?_
                refine mops_sg 5 hf24 (by kernel_rfl) fun f25 hf25 => ?_
                obtain ⟨c16,h⟩:=as_ok h
                refine mops_gadv (dst:=(some 91)) (op:=(.ias 3 (.t 89) (.t 90))) (aft:=[3,4,2]) (t:=88) (w:=true) (ch:=[(88,true)]) (b:=(decide (0≤r_10))) (v:=.ptr 1 v_5 (0+(r_10:Int).toNat*3)) (by kernel_rfl) hf25 (by kernel_rfl) (by kernel_rfl) (by kernel_rfl) (fun hb17=>e_ias_ref (l:=l_8) (B:=⟨v_5,.grow,3,cat spinetlaw41_Pair.v l_8⟩) (b:=1) (ver:=v_5) (n:=l_8.length) (k:=.i64) (iv:=r_10) (by kernel_rfl) (by kernel_rfl) rfl (live_grow (by kernel_rfl)) (c16 hb17)) fun f26 hf26 => ?_
                refine mops_gadv (dst:=(some 92)) (op:=(.fld 1 (.t 91))) (aft:=[5,2]) (t:=88) (w:=true) (ch:=[(88,true)]) (b:=(decide (0≤r_10))) (v:=.ptr 1 v_5 (0+(r_10:Int).toNat*3+1)) (by kernel_rfl) hf26 (by kernel_rfl) (by kernel_rfl) (by kernel_rfl) (fun hb18=>e_fld_own (B:=⟨v_5,.grow,3,cat spinetlaw41_Pair.v l_8⟩) (b:=1) (ver:=v_5) (o:=(0+(r_10:Int).toNat*3)) (by kernel_rfl) (live_grow (by kernel_rfl))) fun f27 hf27 => ?_
                refine mops_gadv (dst:=(some 93)) (op:=(.load false 1 (.t 92))) (aft:=[6,2]) (t:=88) (w:=true) (ch:=[(88,true)]) (b:=(decide (0≤r_10))) (v:=.s (.int .u16 (gt l_8 r_10).At)) (by kernel_rfl) hf27 (by kernel_rfl) (by kernel_rfl) (by kernel_rfl) (fun hb19=>e_load_pe (g:=spinetlaw41_Pair.v) (l:=l_8) (iv:=r_10) (kd:=.grow) (q:=3) (b:=1) (ver:=v_5) [1] (by kernel_rfl) (live_grow (by kernel_rfl)) (c16 hb19) (by kernel_rfl) (by kernel_rfl)) fun f28 hf28 => ?_
                refine mops_sg 2 hf28 (by kernel_rfl) fun f29 hf29 => ?_
                obtain ⟨c20,h⟩:=as_ok h
                refine mops_gadv (dst:=(some 96)) (op:=(.ias 3 (.t 94) (.t 95))) (aft:=[8,9,2]) (t:=88) (w:=true) (ch:=[(88,true)]) (b:=(decide (0≤r_10))) (v:=.ip ((cat spinetlaw41_Pair.v l_).drop ((i_1:Int).toNat*3))) (by kernel_rfl) hf29 (by kernel_rfl) (by kernel_rfl) (by kernel_rfl) (fun hb21=>e_ias (n:=l_.length) (xv:=.sl false l_.length (cat spinetlaw41_Pair.v l_)) (k:=.i64) (iv:=i_1) (p:=.ip ((cat spinetlaw41_Pair.v l_).drop ((i_1:Int).toNat*3))) (by kernel_rfl) (by kernel_rfl) (by kernel_rfl) (by kernel_rfl) (c20 hb21)) fun f30 hf30 => ?_
                refine mops_sg 1 hf30 (by kernel_rfl) fun f31 hf31 => ?_
                refine mops_gadv (dst:=(some 98)) (op:=(.load false 1 (.t 97))) (aft:=[11,2]) (t:=88) (w:=true) (ch:=[(88,true)]) (b:=(decide (0≤r_10))) (v:=.s (.int .u16 (gt l_ i_1).At)) (by kernel_rfl) hf31 (by kernel_rfl) (by kernel_rfl) (by kernel_rfl) (fun hb22=>e_load_ip (g:=spinetlaw41_Pair.v) (l:=l_) (iv:=i_1) [1] (by kernel_rfl) (c20 hb22) (by kernel_rfl) (by kernel_rfl)) fun f32 hf32 => ?_
                refine mops_en hf32 (by kernel_rfl) fun f33 hf33 => ?_
                refine k_c ?_
                refine k_cond hf33 (t:=((decide (0≤r_10))&&((gt l_8 r_10).At != (gt l_ i_1).At))) (by kernel_rfl) (fun hc23 => ?_) (fun hc23 => ?_)
                · have h:=if_t h hc23
                  refine k_reg ?_
                  refine mops_en hf33 (by kernel_rfl) fun f34 hf34 => ?_
                  refine k_b ?_
                  refine k_hp (L':=[⟨0,.res (SymX l_7),1,[]⟩,⟨v_5,.grow,3,cat spinetlaw41_Pair.v l_8⟩]) (by kernel_rfl) ?_
                  exact hj2 l_8 (41) v_5 h _ (FOk_of [0,1,2,6,7,8,9,10,12] hf34 (by kernel_rfl))
                · have h:=if_f h hc23
                  refine k_seq ?_
                  refine k_reg ?_
                  refine mops_en hf33 (by kernel_rfl) fun f34 hf34 => ?_
                  refine k_c ?_
                  refine k_cond hf34 (t:=(decide (r_10 < 0))) (by kernel_rfl) (fun hc24 => ?_) (fun hc24 => ?_)
                  · have h:=if_t h hc24
                    refine k_reg ?_
                    refine mops_sg 3 hf34 (by kernel_rfl) fun f35 hf35 => ?_
                    obtain ⟨c25,h⟩:=as_ok h
                    refine mops_adv rfl (v:=.ip ((cat spinetlaw41_Pair.v l_).drop ((i_1:Int).toNat*3))) hf35 (by kernel_rfl) (e_ias (n:=l_.length) (xv:=.sl false l_.length (cat spinetlaw41_Pair.v l_)) (k:=.i64) (iv:=i_1) (p:=.ip ((cat spinetlaw41_Pair.v l_).drop ((i_1:Int).toNat*3))) (by kernel_rfl) (by kernel_rfl) (by kernel_rfl) (by kernel_rfl) c25) fun f36 hf36 => ?_
                    refine mops_adv rfl (v:=.agg [.s (.string (gt l_ i_1).Name),.s (.int .u16 (gt l_ i_1).At),.s (.bool (gt l_ i_1).Drop)]) hf36 (by kernel_rfl) (e_load_ip (g:=spinetlaw41_Pair.v) (l:=l_) (iv:=i_1) [] (by kernel_rfl) c25 (by kernel_rfl) (by kernel_rfl)) fun f37 hf37 => ?_
                    refine mops_sg 1 hf37 (by kernel_rfl) fun f38 hf38 => ?_
                    obtain ⟨c26,h⟩:=as_ok h
                    refine mops_adv rfl (v:=.ref 1 (v_5+1) 0 (l_8++[(gt l_ i_1)]).length) hf38 (by kernel_rfl) (e_app (g:=spinetlaw41_Pair.v) (l:=l_8) (l':=[(gt l_ i_1)]) (b:=1) (ver:=v_5) (n:=l_8.length) rfl (by kernel_rfl) rfl (live_grow (by kernel_rfl)) (sll_ev (v:=.ref 2 0 0 1) (by kernel_rfl) (sll_ref (B:=⟨0,.grow,3,cat spinetlaw41_Pair.v [(gt l_ i_1)]⟩) (by kernel_rfl) (live_grow (by kernel_rfl)))) (slc_ev (v:=.ref 2 0 0 1) (by kernel_rfl) (slc_ref (g:=spinetlaw41_Pair.v) (l:=[(gt l_ i_1)]) (kd:=.grow) (q:=3) (by kernel_rfl) (live_grow (by kernel_rfl)))) c26) fun f39 hf39 => ?_
                    refine mops_en hf39 (by kernel_rfl) fun f40 hf40 => ?_
                    refine k_b ?_
                    refine k_c' (vs_vs (vs_cut (l:=[⟨0,[],.sl false l_.length (cat spinetlaw41_Pair.v l_)⟩,⟨1,[],.s (.int .u16 at_)⟩,⟨2,[],.s (.string ask_)⟩,⟨6,[],.s (.bool false)⟩,⟨7,[],.ptr 0 0 0⟩,⟨8,[],.ref 1 (v_5+1) 0 (l_8++[(gt l_ i_1)]).length⟩,⟨9,[],.s (.int .i64 i_1)⟩,⟨10,[],.s (.string (gt l_ i_1).Name)⟩,⟨12,[],.s (.int .i64 0)⟩]) 2 (by kernel_rfl) (by kernel_rfl) (L':=[⟨0,.res (SymX l_7),1,[]⟩,⟨(v_5+1),.grow,3,cat spinetlaw41_Pair.v (l_8++[(gt l_ i_1)])⟩]) (by kernel_rfl) ⟨⟨rfl,(static_under _ _ (by simp [V.static,statics,cat_stat,dropcat_stat]))⟩,⟨rfl,rfl⟩,⟨rfl,rfl⟩,⟨rfl,rfl⟩,⟨rfl,rfl⟩,⟨rfl,rfl⟩,⟨rfl,rfl⟩,⟨rfl,rfl⟩,⟨rfl,rfl⟩,trivial⟩ ⟨.inr (.inr rfl),.inr (.inr (statics_unders _ _ (cat_stat _))),trivial⟩ (FOk_of [0,1,2,6,7,8,9,10,12] hf40 (by kernel_rfl)) fun f hf => ?_))
                    exact k_un (hj2 (l_8++[(gt l_ i_1)]) (0) (v_5+1) h _ hf)
                  · have h:=if_f h hc24
                    refine k_skip ?_
                    refine k_b ?_
                    refine k_hp (L':=[⟨0,.res (SymX l_7),1,[]⟩,⟨v_5,.grow,3,cat spinetlaw41_Pair.v l_8⟩]) (by kernel_rfl) ?_
                    exact hj2 l_8 (0) v_5 h _ (FOk_of [0,1,2,6,7,8,9,10,12] hf34 (by kernel_rfl))
      · have h:=if_f h hc2
        refine k_exit ?_
        refine x_c nofun ?_
        refine x_l nofun ?_
        refine x_b ?_
        refine k_hp (L':=[⟨0,.res (SymX l_7),1,[]⟩,⟨v_5,.grow,3,cat spinetlaw41_Pair.v l_8⟩]) (by kernel_rfl) ?_
        exact hgo0 l_7 l_8 v_5 (Option.some.inj h) _ (FOk_of [1,2,6,7,8] hf1 (by kernel_rfl))
end Go.Proofs.YtaoomioogojfhaaK
