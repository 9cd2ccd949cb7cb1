/- The Go functions come to the functions over typed data. Printed by a program of this work. -/
import Derived.Test.YtoemlgdlejkliaaF
import Derived.Test.YtoemlgdlejkliaaProg
import Derived.Test.YtoemlgdlejkliaaRq
import Derived.Test.YtoemlgdlejkliaaPh
import Derived.Test.YtoemlgdlejkliaaG0
import Derived.Test.YtoemlgdlejkliaaG1
namespace Go.Proofs.YtoemlgdlejkliaaK
set_option linter.unusedVariables false
set_option linter.unusedSimpArgs false
set_option maxHeartbeats 4000000
open Go.RowKit
attribute [local irreducible] dwv mops lops lqops lwops kont iter run runK rk okK ex E1 vals val chain chB sel resF
def slice_Part_Lost_i0:List Op1:=[(oE 1 (.box (.t 0)) []),(oM 2 (.k (.int .i64 0)) [])]
def slice_Part_Lost_i1:List Op1:=[(oE 3 (.fld 0 (.t 1)) []),(oE 4 (.load false 1 (.t 3)) [0]),(oE 5 (.len (.t 4)) [1]),(oE 6 (.load true 2 (.t 1)) []),(oC 7 15 [(.t 6)] [3]),(oE 8 (.bin .sub (.t 5) (.t 7)) [2,4]),(oM 2 (.t 8) [5,4,0,1,2,3,4,5])]
def slice_Part_Lost_i2:IR:=.ret
def slice_Part_Lost_i3:IR:=(.seq (.reg true slice_Part_Lost_i1) slice_Part_Lost_i2)
def slice_Part_Lost_ir:IR:=(.seq (.reg false slice_Part_Lost_i0) slice_Part_Lost_i3)
theorem slice_Part_Lost_cfn:cFn Try.prog 16=some (slice_Part_Lost_ir,[(.t 2)],9):=by kernel_rfl
def slice_Part_Lost_V (r:(Int)):V:=.s (.int .i64 r)
def slice_Part_Lost_C (r:(Int)):X→Fr→Hp→Prop:=FinL [(.t 2)] [] (slice_Part_Lost_V r) []
theorem slice_Part_Lost_ok (p_:slice_Part) (r:(Int)) (h:slice_Part_Lost p_=some r):Pure Try.prog 16 [.agg [.sl false p_.Recs.length (cat api_Rec.v p_.Recs),.s (.bool p_.Ended)]] (slice_Part_Lost_V r):=by
  refine ConL.of slice_Part_Lost_cfn (Nat.le_of_ble_eq_true (by kernel_rfl)) (Nat.le_of_ble_eq_true (by kernel_rfl)) ?_
  refine k_start ?_
  show dwv Try.prog [] slice_Part_Lost_ir (kont Try.prog [] (slice_Part_Lost_C r) []) (fr0 [.agg [.sl false p_.Recs.length (cat api_Rec.v p_.Recs),.s (.bool p_.Ended)]]) []
  have hf:FOk (fr0 [.agg [.sl false p_.Recs.length (cat api_Rec.v p_.Recs),.s (.bool p_.Ended)]]) [⟨0,[],.agg [.sl false p_.Recs.length (cat api_Rec.v p_.Recs),.s (.bool p_.Ended)]⟩]:=⟨⟨fun _=>rfl,fun h=>(h trivial).elim⟩,trivial⟩
  generalize fr0 [.agg [.sl false p_.Recs.length (cat api_Rec.v p_.Recs),.s (.bool p_.Ended)]]=f at hf ⊢
  unfold slice_Part_Lost at h
  refine k_seq ?_
  refine k_reg ?_
  refine mops_en hf (by kernel_rfl) fun f1 hf1 => ?_
  refine k_c ?_
  refine k_seq ?_
  refine k_regq ?_
  refine mops_sg 4 hf1 (by kernel_rfl) fun f2 hf2 => ?_
  obtain ⟨r_,hx_r_,h⟩:=Option.bind_eq_some_iff.1 h
  refine mops_call rfl hf2 (av:=[.agg [.sl false p_.Recs.length (cat api_Rec.v p_.Recs),.s (.bool p_.Ended)]]) (by kernel_rfl) (v:=.s (.int .i64 r_)) (CalL.pure (slice_Part_Own_ok p_ r_ hx_r_) (by simp [V.static,statics,cat_stat]) rfl (Nat.le_of_ble_eq_true (by kernel_rfl))) (fun _=>rfl) fun f3 hf3 => ?_
  refine mops_en hf3 (by kernel_rfl) fun f4 hf4 => ?_
  refine k_c ?_
  refine k_ret ?_
  obtain rfl:=Option.some.inj h
  exact k_fin (fin_ret (.inl rfl) hf4 (vs:=[.s (.int .i64 (IntKind.wrap .i64 ((ln p_.Recs) - r_)))]) (by kernel_rfl) (SettL.pure (FzL.stat rfl)))
def spinetlaw53_alive_i0:List Op1:=[(oM 0 (.k (.bool false)) [])]
def spinetlaw53_alive_i1:List Op1:=[(oE 5 (.build [(.map none)] []) []),(oE 6 (.box (.t 5)) [0]),(oM 1 (.t 6) [1,0,1])]
def spinetlaw53_alive_i2:List Op1:=[(oE 7 (.build [(.int .u16 0),(.int .u8 0),(.bool false),(.bool false),(.bool false),(.bool false),(.bool false),(.bool false),(.bool false)] [(0,(1,(.k (.int .u16 5)))),(8,(1,(.k (.bool true))))]) []),(oE 2 (.zero [(.int .u16 0),(.int .u8 0),(.bool false),(.bool false),(.bool false),(.bool false),(.bool false),(.bool false),(.bool false)]) []),(oN (.store 9 (.t 2) (.t 7)) [1,0,0,1])]
def spinetlaw53_alive_i3:List Op1:=[(oM 8 (.t 1) []),(oE 9 (.load true 9 (.t 2)) []),(oE 10 (.load true 9 (.t 2)) []),(oE 11 (.bsl 2 [(.int .u16 0),(.int .u8 0),(.bool false),(.bool false),(.bool false),(.bool false),(.bool false),(.bool false),(.bool false),(.int .u16 0),(.int .u8 0),(.bool false),(.bool false),(.bool false),(.bool false),(.bool false),(.bool false),(.bool false)] [(0,(9,(.t 9))),(9,(9,(.t 10)))]) [1,2]),(oE 12 (.build [(.slice none 0 0),(.bool false)] [(0,(1,(.t 11)))]) [3]),(oE 13 (.load true 9 (.t 2)) []),(oE 14 (.load true 9 (.t 2)) []),(oE 15 (.load true 9 (.t 2)) []),(oE 16 (.bsl 3 [(.int .u16 0),(.int .u8 0),(.bool false),(.bool false),(.bool false),(.bool false),(.bool false),(.bool false),(.bool false),(.int .u16 0),(.int .u8 0),(.bool false),(.bool false),(.bool false),(.bool false),(.bool false),(.bool false),(.bool false),(.int .u16 0),(.int .u8 0),(.bool false),(.bool false),(.bool false),(.bool false),(.bool false),(.bool false),(.bool false)] [(0,(9,(.t 13))),(9,(9,(.t 14))),(18,(9,(.t 15)))]) [5,6,7]),(oE 17 (.build [(.slice none 0 0),(.bool false)] [(0,(1,(.t 16)))]) [8]),(oE 18 (.bsl 2 [(.slice none 0 0),(.bool false),(.slice none 0 0),(.bool false)] [(0,(2,(.t 12))),(2,(2,(.t 17)))]) [4,9]),(oC 19 4 [(.t 8),(.t 18)] [0,10])]
def spinetlaw53_alive_i4:List Op1:=[(oM 21 (.t 1) []),(oC 22 8 [(.t 21),(.k (.int .u16 5))] [0]),(oM 20 (.t 22) [1]),(oE 23 (.ext 0 (.t 20)) [2]),(oE 24 (.ext 1 (.t 20)) [2]),(oE 3 (.zero [(.int .u16 0),(.int .i64 0),(.int .i64 0),(.int .i64 0)]) []),(oN (.store 4 (.t 3) (.t 23)) [5,3,1,0,1,2,3,5]),(oM 4 (.t 24) [4,6,0,1,2,3,4,5,6])]
def spinetlaw53_alive_i5:List Op1:=[(oE 25 (.load true 4 (.t 3)) []),(oE 26 (.build [(.int .u16 0),(.int .i64 0),(.int .i64 0),(.int .i64 0)] [(0,(1,(.k (.int .u16 5)))),(1,(1,(.k (.int .i64 2)))),(2,(1,(.k (.int .i64 5))))]) []),(oE 27 (.eqa false [.int,.int,.int,.int] (.t 25) (.t 26)) [0,1]),(oM 28 (.t 27) [2]),(oG 29 (.mv (.t 4)) 28 true [3]),(oE 30 (.pick (.t 28) (.t 29) (.k (.bool false))) [3,4]),(oM 0 (.t 30) [5,3,0,1,2,3,4,5])]
def spinetlaw53_alive_i6:IR:=.ret
def spinetlaw53_alive_i7:IR:=(.seq (.reg false spinetlaw53_alive_i5) spinetlaw53_alive_i6)
def spinetlaw53_alive_i8:IR:=(.seq (.reg false spinetlaw53_alive_i4) spinetlaw53_alive_i7)
def spinetlaw53_alive_i9:IR:=(.seq (.reg false spinetlaw53_alive_i3) spinetlaw53_alive_i8)
def spinetlaw53_alive_i10:IR:=(.seq (.reg false spinetlaw53_alive_i2) spinetlaw53_alive_i9)
def spinetlaw53_alive_i11:IR:=(.seq (.reg false spinetlaw53_alive_i1) spinetlaw53_alive_i10)
def spinetlaw53_alive_ir:IR:=(.seq (.reg false spinetlaw53_alive_i0) spinetlaw53_alive_i11)
theorem spinetlaw53_alive_cfn:cFn Try.prog 13=some (spinetlaw53_alive_ir,[(.t 0)],31):=by kernel_rfl
def spinetlaw53_alive_V (r:(Bool)):V:=.s (.bool r)
def spinetlaw53_alive_C (r:(Bool)):X→Fr→Hp→Prop:=FinL [(.t 0)] [] (spinetlaw53_alive_V r) []
theorem spinetlaw53_alive_ok (r:(Bool)) (h:spinetlaw53_alive=some r):Pure Try.prog 13 [] (spinetlaw53_alive_V r):=by
  refine ConL.of spinetlaw53_alive_cfn (Nat.le_of_ble_eq_true (by kernel_rfl)) (Nat.le_of_ble_eq_true (by kernel_rfl)) ?_
  refine k_start ?_
  show dwv Try.prog [] spinetlaw53_alive_ir (kont Try.prog [] (spinetlaw53_alive_C r) []) (fr0 []) []
  have hf:FOk (fr0 []) []:=trivial
  generalize fr0 []=f at hf ⊢
  unfold spinetlaw53_alive at h
  refine k_seq ?_
  refine k_reg ?_
  refine mops_en hf (by kernel_rfl) fun f1 hf1 => ?_
  refine k_c ?_
  refine k_seq ?_
  refine k_reg ?_
  refine mops_en hf1 (by kernel_rfl) fun f2 hf2 => ?_
  refine k_mk (ver:=0) (q:=1) (cs:=[.s (.map none)]) (Y:=ProfX ([]:ProfT)) (L':=[⟨0,.res (ProfX ([]:ProfT)),1,[]⟩]) 0 ?_ prof_make
  refine k_c ?_
  refine k_seq ?_
  refine k_reg ?_
  refine mops_en hf2 (by kernel_rfl) fun f3 hf3 => ?_
  refine k_c ?_
  refine k_seq ?_
  refine k_reg ?_
  refine mops_sg 10 hf3 (by kernel_rfl) fun f4 hf4 => ?_
  refine mops_adv rfl (v:=.sl true 2 [.sl true 2 [.s (.int .u16 5),.s (.int .u8 0),.s (.bool false),.s (.bool false),.s (.bool false),.s (.bool false),.s (.bool false),.s (.bool false),.s (.bool true),.s (.int .u16 5),.s (.int .u8 0),.s (.bool false),.s (.bool false),.s (.bool false),.s (.bool false),.s (.bool false),.s (.bool false),.s (.bool true)],.s (.bool false),.sl true 3 [.s (.int .u16 5),.s (.int .u8 0),.s (.bool false),.s (.bool false),.s (.bool false),.s (.bool false),.s (.bool false),.s (.bool false),.s (.bool true),.s (.int .u16 5),.s (.int .u8 0),.s (.bool false),.s (.bool false),.s (.bool false),.s (.bool false),.s (.bool false),.s (.bool false),.s (.bool true),.s (.int .u16 5),.s (.int .u8 0),.s (.bool false),.s (.bool false),.s (.bool false),.s (.bool false),.s (.bool false),.s (.bool false),.s (.bool true)],.s (.bool false)]) hf4 (by kernel_rfl) (e_bsl (by kernel_rfl) (by simp [V.static,statics,cat_stat,dropcat_stat]) (by kernel_rfl)) fun f5 hf5 => ?_
  obtain ⟨start_,hx_start_,h⟩:=Option.bind_eq_some_iff.1 h
  obtain ⟨own_,hx_own_,h⟩:=Option.bind_eq_some_iff.1 h
  obtain ⟨lost_,hx_lost_,h⟩:=Option.bind_eq_some_iff.1 h
  obtain ⟨c1,h⟩:=as_ok h
  obtain ⟨start_1,hx_start_1,h⟩:=Option.bind_eq_some_iff.1 h
  obtain ⟨own_1,hx_own_1,h⟩:=Option.bind_eq_some_iff.1 h
  obtain ⟨lost_1,hx_lost_1,h⟩:=Option.bind_eq_some_iff.1 h
  obtain ⟨c2,h⟩:=as_ok h
  obtain ⟨c3,h⟩:=as_ok h
  refine mops_call rfl hf5 (av:=[.ptr 0 0 0,.sl true 2 [.sl true 2 [.s (.int .u16 5),.s (.int .u8 0),.s (.bool false),.s (.bool false),.s (.bool false),.s (.bool false),.s (.bool false),.s (.bool false),.s (.bool true),.s (.int .u16 5),.s (.int .u8 0),.s (.bool false),.s (.bool false),.s (.bool false),.s (.bool false),.s (.bool false),.s (.bool false),.s (.bool true)],.s (.bool false),.sl true 3 [.s (.int .u16 5),.s (.int .u8 0),.s (.bool false),.s (.bool false),.s (.bool false),.s (.bool false),.s (.bool false),.s (.bool false),.s (.bool true),.s (.int .u16 5),.s (.int .u8 0),.s (.bool false),.s (.bool false),.s (.bool false),.s (.bool false),.s (.bool false),.s (.bool false),.s (.bool true),.s (.int .u16 5),.s (.int .u8 0),.s (.bool false),.s (.bool false),.s (.bool false),.s (.bool false),.s (.bool false),.s (.bool false),.s (.bool true)],.s (.bool false)]]) (by kernel_rfl) (v:=.tup []) (L':=[⟨0,.res (ProfX ([(start_.1,start_.2,own_,lost_),(start_1.1,start_1.2,own_1,lost_1)].foldl profAdd ([]:ProfT))),1,[]⟩,⟨0,.mem,1,[.s (.int .u16 5),.s (.int .u8 0),.s (.bool false),.s (.bool false),.s (.bool false),.s (.bool false),.s (.bool false),.s (.bool false),.s (.bool true)]⟩]) (CalL.borrow (M:=[⟨0,.res (ProfX ([]:ProfT)),1,[]⟩]) (M':=[⟨0,.res (ProfX ([(start_.1,start_.2,own_,lost_),(start_1.1,start_1.2,own_1,lost_1)].foldl profAdd ([]:ProfT))),1,[]⟩]) [0] (prof_Add_con ([]:ProfT) true ([(.sl true 2 [.s (.int .u16 5),.s (.int .u8 0),.s (.bool false),.s (.bool false),.s (.bool false),.s (.bool false),.s (.bool false),.s (.bool false),.s (.bool true),.s (.int .u16 5),.s (.int .u8 0),.s (.bool false),.s (.bool false),.s (.bool false),.s (.bool false),.s (.bool false),.s (.bool false),.s (.bool true)],.s (.bool false),start_.1,start_.2,own_,lost_),(.sl true 3 [.s (.int .u16 5),.s (.int .u8 0),.s (.bool false),.s (.bool false),.s (.bool false),.s (.bool false),.s (.bool false),.s (.bool false),.s (.bool true),.s (.int .u16 5),.s (.int .u8 0),.s (.bool false),.s (.bool false),.s (.bool false),.s (.bool false),.s (.bool false),.s (.bool false),.s (.bool true),.s (.int .u16 5),.s (.int .u8 0),.s (.bool false),.s (.bool false),.s (.bool false),.s (.bool false),.s (.bool false),.s (.bool false),.s (.bool true)],.s (.bool false),start_1.1,start_1.2,own_1,lost_1)]:List PartV) (List.forall_mem_cons.2 ⟨(PartP.of (slice_Part_Start_ok (slice_Part.mk [(api_Rec.mk (5) (0) false false false false false false true),(api_Rec.mk (5) (0) false false false false false false true)] false) start_ hx_start_) (slice_Part_Own_ok (slice_Part.mk [(api_Rec.mk (5) (0) false false false false false false true),(api_Rec.mk (5) (0) false false false false false false true)] false) own_ hx_own_) (slice_Part_Lost_ok (slice_Part.mk [(api_Rec.mk (5) (0) false false false false false false true),(api_Rec.mk (5) (0) false false false false false false true)] false) lost_ hx_lost_) (Wk.agg (Wks.cons Wk.slf (Wks.cons Wk.refl Wks.nil))) (by simp [V.static,statics,cat_stat,dropcat_stat,slice_Part.v]) (by simp [V.static,statics,cat_stat,dropcat_stat,slice_Part.v]) ⟨_,_,_,rfl⟩ ⟨_,rfl⟩ c1),List.forall_mem_cons.2 ⟨(PartP.of (slice_Part_Start_ok (slice_Part.mk [(api_Rec.mk (5) (0) false false false false false false true),(api_Rec.mk (5) (0) false false false false false false true),(api_Rec.mk (5) (0) false false false false false false true)] false) start_1 hx_start_1) (slice_Part_Own_ok (slice_Part.mk [(api_Rec.mk (5) (0) false false false false false false true),(api_Rec.mk (5) (0) false false false false false false true),(api_Rec.mk (5) (0) false false false false false false true)] false) own_1 hx_own_1) (slice_Part_Lost_ok (slice_Part.mk [(api_Rec.mk (5) (0) false false false false false false true),(api_Rec.mk (5) (0) false false false false false false true),(api_Rec.mk (5) (0) false false false false false false true)] false) lost_1 hx_lost_1) (Wk.agg (Wks.cons Wk.slf (Wks.cons Wk.refl Wks.nil))) (by simp [V.static,statics,cat_stat,dropcat_stat,slice_Part.v]) (by simp [V.static,statics,cat_stat,dropcat_stat,slice_Part.v]) ⟨_,_,_,rfl⟩ ⟨_,rfl⟩ c2),List.forall_mem_nil _⟩⟩) c3) (by kernel_rfl) (RNs.cons (RN.ptr (by kernel_rfl)) (RNs.cons (RN.stat (by simp [V.static,statics,cat_stat,dropcat_stat])) RNs.nil)) (RN.stat rfl) (RBs.cons (RNs.stat rfl) RBs.nil) (RBs.cons (RNs.stat rfl) RBs.nil) (by kernel_rfl) (by kernel_rfl)) (by intro h; cases h) fun f6 hf6 => ?_
  refine mops_en hf6 (by kernel_rfl) fun f7 hf7 => ?_
  refine k_c ?_
  refine k_seq ?_
  refine k_reg ?_
  refine mops_sg 1 hf7 (by kernel_rfl) fun f8 hf8 => ?_
  obtain ⟨c4,h⟩:=as_ok h
  refine mops_call rfl hf8 (av:=[.ptr 0 0 0,.s (.int .u16 5)]) (by kernel_rfl) (v:=.tup [.agg [.s (.int .u16 ((profGet ([(start_.1,start_.2,own_,lost_),(start_1.1,start_1.2,own_1,lost_1)].foldl profAdd ([]:ProfT)) (5)).getD sp0).1),.s (.int .i64 ((profGet ([(start_.1,start_.2,own_,lost_),(start_1.1,start_1.2,own_1,lost_1)].foldl profAdd ([]:ProfT)) (5)).getD sp0).2.1),.s (.int .i64 ((profGet ([(start_.1,start_.2,own_,lost_),(start_1.1,start_1.2,own_1,lost_1)].foldl profAdd ([]:ProfT)) (5)).getD sp0).2.2.1),.s (.int .i64 ((profGet ([(start_.1,start_.2,own_,lost_),(start_1.1,start_1.2,own_1,lost_1)].foldl profAdd ([]:ProfT)) (5)).getD sp0).2.2.2)],.s (.bool (profGet ([(start_.1,start_.2,own_,lost_),(start_1.1,start_1.2,own_1,lost_1)].foldl profAdd ([]:ProfT)) (5)).isSome)]) (L':=[⟨0,.res (ProfX ([(start_.1,start_.2,own_,lost_),(start_1.1,start_1.2,own_1,lost_1)].foldl profAdd ([]:ProfT))),1,[]⟩,⟨0,.mem,1,[.s (.int .u16 5),.s (.int .u8 0),.s (.bool false),.s (.bool false),.s (.bool false),.s (.bool false),.s (.bool false),.s (.bool false),.s (.bool true)]⟩]) (CalL.borrow (M:=[⟨0,.res (ProfX ([(start_.1,start_.2,own_,lost_),(start_1.1,start_1.2,own_1,lost_1)].foldl profAdd ([]:ProfT))),1,[]⟩]) (M':=[⟨0,.res (ProfX ([(start_.1,start_.2,own_,lost_),(start_1.1,start_1.2,own_1,lost_1)].foldl profAdd ([]:ProfT))),1,[]⟩]) [0] (prof_Of_con ([(start_.1,start_.2,own_,lost_),(start_1.1,start_1.2,own_1,lost_1)].foldl profAdd ([]:ProfT)) (5) c4) (by kernel_rfl) (RNs.cons (RN.ptr (by kernel_rfl)) (RNs.cons (RN.stat rfl) RNs.nil)) (RN.stat rfl) (RBs.cons (RNs.stat rfl) RBs.nil) (RBs.cons (RNs.stat rfl) RBs.nil) (by kernel_rfl) (by kernel_rfl)) (by intro h; cases h) fun f9 hf9 => ?_
  refine mops_en hf9 (by kernel_rfl) fun f10 hf10 => ?_
  refine k_c ?_
  refine k_seq ?_
  refine k_reg ?_
  refine mops_end [0] hf10 (l':=[⟨0,[],.s (.bool (((((profGet ([(start_.1,start_.2,own_,lost_),(start_1.1,start_1.2,own_1,lost_1)].foldl profAdd ([]:ProfT)) (5)).getD sp0).1 == 5)&&((((profGet ([(start_.1,start_.2,own_,lost_),(start_1.1,start_1.2,own_1,lost_1)].foldl profAdd ([]:ProfT)) (5)).getD sp0).2.1 == 2)&&((((profGet ([(start_.1,start_.2,own_,lost_),(start_1.1,start_1.2,own_1,lost_1)].foldl profAdd ([]:ProfT)) (5)).getD sp0).2.2.1 == 5)&&((((profGet ([(start_.1,start_.2,own_,lost_),(start_1.1,start_1.2,own_1,lost_1)].foldl profAdd ([]:ProfT)) (5)).getD sp0).2.2.2 == 0)&&true))))&&(profGet ([(start_.1,start_.2,own_,lost_),(start_1.1,start_1.2,own_1,lost_1)].foldl profAdd ([]:ProfT)) (5)).isSome))⟩]) (L':=[⟨0,.res (ProfX ([(start_.1,start_.2,own_,lost_),(start_1.1,start_1.2,own_1,lost_1)].foldl profAdd ([]:ProfT))),1,[]⟩,⟨0,.mem,1,[.s (.int .u16 5),.s (.int .u8 0),.s (.bool false),.s (.bool false),.s (.bool false),.s (.bool false),.s (.bool false),.s (.bool false),.s (.bool true)]⟩,⟨0,.mem,1,[.s (.int .u16 ((profGet ([(start_.1,start_.2,own_,lost_),(start_1.1,start_1.2,own_1,lost_1)].foldl profAdd ([]:ProfT)) (5)).getD sp0).1),.s (.int .i64 ((profGet ([(start_.1,start_.2,own_,lost_),(start_1.1,start_1.2,own_1,lost_1)].foldl profAdd ([]:ProfT)) (5)).getD sp0).2.1),.s (.int .i64 ((profGet ([(start_.1,start_.2,own_,lost_),(start_1.1,start_1.2,own_1,lost_1)].foldl profAdd ([]:ProfT)) (5)).getD sp0).2.2.1),.s (.int .i64 ((profGet ([(start_.1,start_.2,own_,lost_),(start_1.1,start_1.2,own_1,lost_1)].foldl profAdd ([]:ProfT)) (5)).getD sp0).2.2.2)]⟩]) (by kernel_rfl) fun f11 hf11 => ?_
  refine k_c ?_
  refine k_ret ?_
  obtain rfl:=Option.some.inj h
  exact k_fin (fin_ret (.inl rfl) hf11 (vs:=[.s (.bool (((((profGet ([(start_.1,start_.2,own_,lost_),(start_1.1,start_1.2,own_1,lost_1)].foldl profAdd ([]:ProfT)) (5)).getD sp0).1 == 5)&&((((profGet ([(start_.1,start_.2,own_,lost_),(start_1.1,start_1.2,own_1,lost_1)].foldl profAdd ([]:ProfT)) (5)).getD sp0).2.1 == 2)&&((((profGet ([(start_.1,start_.2,own_,lost_),(start_1.1,start_1.2,own_1,lost_1)].foldl profAdd ([]:ProfT)) (5)).getD sp0).2.2.1 == 5)&&((((profGet ([(start_.1,start_.2,own_,lost_),(start_1.1,start_1.2,own_1,lost_1)].foldl profAdd ([]:ProfT)) (5)).getD sp0).2.2.2 == 0)&&true))))&&(profGet ([(start_.1,start_.2,own_,lost_),(start_1.1,start_1.2,own_1,lost_1)].foldl profAdd ([]:ProfT)) (5)).isSome))]) (by kernel_rfl) (SettL.pure (FzL.stat rfl)))
def spinetlaw53_ProfCounts_i0:List Op1:=[(oM 6 (.k (.bool false)) [])]
def spinetlaw53_ProfCounts_i1:List Op1:=[(oM 20 (.t 0) []),(oE 21 (.len (.t 20)) [0]),(oE 22 (.bin .gtr (.t 21) (.k (.int .i64 60))) [1])]
def spinetlaw53_ProfCounts_i2:List Op1:=[(oM 6 (.k (.bool true)) [])]
def spinetlaw53_ProfCounts_i3:IR:=.ret
def spinetlaw53_ProfCounts_i4:IR:=(.cond (.t 22) (.seq (.reg false spinetlaw53_ProfCounts_i2) spinetlaw53_ProfCounts_i3) .skip)
def spinetlaw53_ProfCounts_i5:List Op1:=[(oE 23 (.build [(.map none)] []) []),(oE 24 (.box (.t 23)) [0]),(oM 7 (.t 24) [1,0,1])]
def spinetlaw53_ProfCounts_i6:List Op1:=[(oE 8 (.nilg 4) [])]
def spinetlaw53_ProfCounts_i7:List Op1:=[(oM 9 (.k (.int .i64 0)) [])]
def spinetlaw53_ProfCounts_i8:List Op1:=[(oM 25 (.t 9) []),(oM 26 (.t 0) []),(oE 27 (.len (.t 26)) [1]),(oE 28 (.bin .lss (.t 25) (.t 27)) [0,2])]
def spinetlaw53_ProfCounts_i9:IR:=(.cond (.t 28) .skip (.exit 0))
def spinetlaw53_ProfCounts_i10:List Op1:=[(oM 31 (.t 0) []),(oM 32 (.t 9) []),(oE 33 (.ias 1 (.t 31) (.t 32)) [0,1]),(oE 34 (.load false 1 (.t 33)) [2]),(oE 35 (.len (.t 34)) [3]),(oE 36 (.bin .gtr (.t 35) (.k (.int .i64 30))) [4])]
def spinetlaw53_ProfCounts_i11:List Op1:=[(oM 6 (.k (.bool true)) [])]
def spinetlaw53_ProfCounts_i12:IR:=.ret
def spinetlaw53_ProfCounts_i13:IR:=(.cond (.t 36) (.seq (.reg false spinetlaw53_ProfCounts_i11) spinetlaw53_ProfCounts_i12) .skip)
def spinetlaw53_ProfCounts_i14:List Op1:=[(oM 37 (.t 7) []),(oM 38 (.t 0) []),(oM 39 (.t 9) []),(oE 40 (.ias 1 (.t 38) (.t 39)) [1,2]),(oE 41 (.load false 1 (.t 40)) [3]),(oM 42 (.t 9) []),(oE 43 (.bin .rem (.t 42) (.k (.int .i64 2))) [5]),(oE 44 (.bin .eql (.t 43) (.k (.int .i64 0))) [6]),(oE 45 (.build [(.slice none 0 0),(.bool false)] [(0,(1,(.t 41))),(1,(1,(.t 44)))]) [4,7]),(oE 46 (.bsl 1 [(.slice none 0 0),(.bool false)] [(0,(2,(.t 45)))]) [8]),(oC 47 4 [(.t 37),(.t 46)] [0,9])]
def spinetlaw53_ProfCounts_i15:List Op1:=[(oM 48 (.t 8) []),(oM 49 (.t 0) []),(oM 50 (.t 9) []),(oE 51 (.ias 1 (.t 49) (.t 50)) [1,2]),(oE 52 (.load false 1 (.t 51)) [3]),(oC 53 5 [(.t 48),(.t 52)] [0,4]),(oM 8 (.t 53) [5,5,0,1,2,3,4,5])]
def spinetlaw53_ProfCounts_i16:IR:=(.reg false spinetlaw53_ProfCounts_i15)
def spinetlaw53_ProfCounts_i17:IR:=(.seq (.reg false spinetlaw53_ProfCounts_i14) spinetlaw53_ProfCounts_i16)
def spinetlaw53_ProfCounts_i18:List Op1:=[(oM 29 (.t 9) []),(oE 30 (.bin .add (.t 29) (.k (.int .i64 1))) [0]),(oM 9 (.t 30) [1,0,1])]
def spinetlaw53_ProfCounts_i19:IR:=(.reg false spinetlaw53_ProfCounts_i18)
def spinetlaw53_ProfCounts_i20:IR:=(.seq (.block 1 (.seq (.seq (.reg false spinetlaw53_ProfCounts_i10) spinetlaw53_ProfCounts_i13) spinetlaw53_ProfCounts_i17)) spinetlaw53_ProfCounts_i19)
def spinetlaw53_ProfCounts_i21:IR:=(.seq (.seq (.reg false spinetlaw53_ProfCounts_i8) spinetlaw53_ProfCounts_i9) spinetlaw53_ProfCounts_i20)
def spinetlaw53_ProfCounts_i22:IR:=(.block 0 (.loop spinetlaw53_ProfCounts_i21))
def spinetlaw53_ProfCounts_i23:List Op1:=[(oE 10 (.zero [(.int .u16 0),(.int .i64 0),(.int .i64 0),(.int .i64 0)]) []),(oE 11 (.zero [(.int .u16 0),(.int .i64 0),(.int .i64 0),(.int .i64 0)]) [])]
def spinetlaw53_ProfCounts_i24:List Op1:=[(oE 12 (.nilg 4) [])]
def spinetlaw53_ProfCounts_i25:List Op1:=[(oM 13 (.k (.bool false)) [])]
def spinetlaw53_ProfCounts_i26:List Op1:=[(oM 14 (.k (.int .i64 0)) [])]
def spinetlaw53_ProfCounts_i27:List Op1:=[(oM 54 (.t 14) []),(oM 55 (.t 8) []),(oE 56 (.len (.t 55)) [1]),(oE 57 (.bin .lss (.t 54) (.t 56)) [0,2])]
def spinetlaw53_ProfCounts_i28:IR:=(.cond (.t 57) .skip (.exit 2))
def spinetlaw53_ProfCounts_i29:List An:=[(aO (oE 60 (.fld 1 (.t 10)) []) false 0 0),(aO (oE 61 (.load false 1 (.t 60)) [0]) false 0 0),(aO (oM 62 (.t 8) []) false 0 0),(aO (oM 63 (.t 14) []) false 0 0),(aO (oE 64 (.ias 4 (.t 62) (.t 63)) [2,3]) false 0 0),(aO (oE 65 (.fld 1 (.t 64)) [4]) false 0 0),(aO (oE 66 (.load false 1 (.t 65)) [5]) false 0 0),(aO (oE 67 (.bin .add (.t 61) (.t 66)) [1,6]) false 0 0),(aO (oE 68 (.fld 1 (.t 10)) [0,1,2,3,4,5,6,7]) false 0 0),(aO (oN (.store 1 (.t 68) (.t 67)) [8,7,0,1,2,3,4,5,6,7]) true 0 1)]
def spinetlaw53_ProfCounts_i30:List An:=[(aO (oE 69 (.fld 2 (.t 10)) []) false 0 0),(aO (oE 70 (.load false 1 (.t 69)) [0]) false 0 0),(aO (oM 71 (.t 8) []) false 0 0),(aO (oM 72 (.t 14) []) false 0 0),(aO (oE 73 (.ias 4 (.t 71) (.t 72)) [2,3]) false 0 0),(aO (oE 74 (.fld 2 (.t 73)) [4]) false 0 0),(aO (oE 75 (.load false 1 (.t 74)) [5]) false 0 0),(aO (oE 76 (.bin .add (.t 70) (.t 75)) [1,6]) false 0 0),(aO (oE 77 (.fld 2 (.t 10)) [0,1,2,3,4,5,6,7]) false 0 0),(aO (oN (.store 1 (.t 77) (.t 76)) [8,7,0,1,2,3,4,5,6,7]) true 0 1)]
def spinetlaw53_ProfCounts_i31:List An:=[(aO (oE 78 (.fld 3 (.t 10)) []) false 0 0),(aO (oE 79 (.load false 1 (.t 78)) [0]) false 0 0),(aO (oM 80 (.t 8) []) false 0 0),(aO (oM 81 (.t 14) []) false 0 0),(aO (oE 82 (.ias 4 (.t 80) (.t 81)) [2,3]) false 0 0),(aO (oE 83 (.fld 3 (.t 82)) [4]) false 0 0),(aO (oE 84 (.load false 1 (.t 83)) [5]) false 0 0),(aO (oE 85 (.bin .add (.t 79) (.t 84)) [1,6]) false 0 0),(aO (oE 86 (.fld 3 (.t 10)) [0,1,2,3,4,5,6,7]) false 0 0),(aO (oN (.store 1 (.t 86) (.t 85)) [8,7,0,1,2,3,4,5,6,7]) true 0 1)]
def spinetlaw53_ProfCounts_i32:List Op1:=[(oM 87 (.t 8) []),(oM 88 (.t 14) []),(oE 89 (.ias 4 (.t 87) (.t 88)) [0,1]),(oE 90 (.fld 0 (.t 89)) [2]),(oE 91 (.load false 1 (.t 90)) [3]),(oM 92 (.t 1) []),(oE 93 (.bin .eql (.t 91) (.t 92)) [4,5])]
def spinetlaw53_ProfCounts_i33:List Op1:=[(oM 94 (.t 8) []),(oM 95 (.t 14) []),(oE 96 (.ias 4 (.t 94) (.t 95)) [0,1]),(oE 97 (.load true 4 (.t 96)) [2]),(oN (.store 4 (.t 11) (.t 97)) [3,0,1,2,3]),(oM 13 (.k (.bool true)) [4,0,1,2,3,4])]
def spinetlaw53_ProfCounts_i34:IR:=(.cond (.t 93) (.reg false spinetlaw53_ProfCounts_i33) .skip)
def spinetlaw53_ProfCounts_i35:List Op1:=[(oM 98 (.t 12) []),(oE 99 (.len (.t 98)) [0]),(oM 15 (.t 99) [1,0,1])]
def spinetlaw53_ProfCounts_i36:List Op1:=[(oM 100 (.t 15) []),(oE 101 (.bin .gtr (.t 100) (.k (.int .i64 0))) [0]),(oM 102 (.t 101) [1]),(oG 103 (.mv (.t 8)) 102 true [2]),(oG 104 (.mv (.t 14)) 102 true [2]),(oG 105 (.ias 4 (.t 103) (.t 104)) 102 true [3,4,2]),(oG 106 (.load true 4 (.t 105)) 102 true [5,2]),(oG 107 (.mv (.t 12)) 102 true [2]),(oG 108 (.mv (.t 15)) 102 true [2]),(oG 109 (.bin .sub (.t 108) (.k (.int .i64 1))) 102 true [8,2]),(oG 110 (.ias 4 (.t 107) (.t 109)) 102 true [7,9,2]),(oG 111 (.load true 4 (.t 110)) 102 true [10,2]),⟨(some 112),(.call 6 [(.t 106),(.t 111)]),(some (102,true)),[6,11,2,2]⟩,(oE 113 (.pick (.t 102) (.t 112) (.k (.bool false))) [2,12])]
def spinetlaw53_ProfCounts_i37:IR:=(.cond (.t 113) .skip (.exit 4))
def spinetlaw53_ProfCounts_i38:List Op1:=[(oM 114 (.t 15) []),(oE 115 (.bin .sub (.t 114) (.k (.int .i64 1))) [0]),(oM 15 (.t 115) [1,0,1])]
def spinetlaw53_ProfCounts_i39:IR:=(.block 5 (.reg false spinetlaw53_ProfCounts_i38))
def spinetlaw53_ProfCounts_i40:IR:=(.seq (.seq (.reg true spinetlaw53_ProfCounts_i36) spinetlaw53_ProfCounts_i37) spinetlaw53_ProfCounts_i39)
def spinetlaw53_ProfCounts_i41:List An:=[(aO (oM 116 (.t 12) []) false 0 0),(aO (oM 117 (.t 15) []) false 0 0),(aO (oE 118 (.slice 4 (.t 116) none (some (.t 117))) [0,1]) false 0 0),(aO (oM 119 (.t 8) []) false 0 0),(aO (oM 120 (.t 14) []) false 0 0),(aO (oE 121 (.ias 4 (.t 119) (.t 120)) [3,4]) false 0 0),(aO (oE 122 (.load true 4 (.t 121)) [5]) false 0 0),(aO (oE 123 (.bsl 1 [(.int .u16 0),(.int .i64 0),(.int .i64 0),(.int .i64 0)] [(0,(4,(.t 122)))]) [6]) false 0 0),(aO (oM 124 (.t 12) []) false 0 0),(aO (oM 125 (.t 15) []) false 0 0),(aO (oE 126 (.slice 4 (.t 124) (some (.t 125)) none) [8,9]) false 0 0),(aO (oE 127 (.bsl 3 [(.slice none 0 0),(.slice none 0 0),(.slice none 0 0)] [(0,(1,(.t 118))),(1,(1,(.t 123))),(2,(1,(.t 126)))]) [2,7,10]) false 0 0),(aO (oC 128 7 [(.t 127)] [11]) false 0 0),(aO (oM 12 (.t 128) [12,12,0,1,2,3,4,5,6,7,8,9,10,11,12]) false 0 0)]
def spinetlaw53_ProfCounts_i42:IR:=(.regw spinetlaw53_ProfCounts_i41)
def spinetlaw53_ProfCounts_i43:IR:=(.seq (.block 4 (.loop spinetlaw53_ProfCounts_i40)) spinetlaw53_ProfCounts_i42)
def spinetlaw53_ProfCounts_i44:IR:=(.seq (.reg false spinetlaw53_ProfCounts_i35) spinetlaw53_ProfCounts_i43)
def spinetlaw53_ProfCounts_i45:IR:=(.seq (.seq (.reg false spinetlaw53_ProfCounts_i32) spinetlaw53_ProfCounts_i34) spinetlaw53_ProfCounts_i44)
def spinetlaw53_ProfCounts_i46:IR:=(.seq (.regw spinetlaw53_ProfCounts_i31) spinetlaw53_ProfCounts_i45)
def spinetlaw53_ProfCounts_i47:IR:=(.seq (.regw spinetlaw53_ProfCounts_i30) spinetlaw53_ProfCounts_i46)
def spinetlaw53_ProfCounts_i48:List Op1:=[(oM 58 (.t 14) []),(oE 59 (.bin .add (.t 58) (.k (.int .i64 1))) [0]),(oM 14 (.t 59) [1,0,1])]
def spinetlaw53_ProfCounts_i49:IR:=(.reg false spinetlaw53_ProfCounts_i48)
def spinetlaw53_ProfCounts_i50:IR:=(.seq (.block 3 (.seq (.regw spinetlaw53_ProfCounts_i29) spinetlaw53_ProfCounts_i47)) spinetlaw53_ProfCounts_i49)
def spinetlaw53_ProfCounts_i51:IR:=(.seq (.seq (.reg false spinetlaw53_ProfCounts_i27) spinetlaw53_ProfCounts_i28) spinetlaw53_ProfCounts_i50)
def spinetlaw53_ProfCounts_i52:IR:=(.block 2 (.loop spinetlaw53_ProfCounts_i51))
def spinetlaw53_ProfCounts_i53:List Op1:=[(oM 130 (.t 7) []),(oM 131 (.t 1) []),(oC 132 8 [(.t 130),(.t 131)] [0,1]),(oM 129 (.t 132) [2]),(oE 133 (.ext 0 (.t 129)) [3]),(oE 134 (.ext 1 (.t 129)) [3]),(oE 16 (.zero [(.int .u16 0),(.int .i64 0),(.int .i64 0),(.int .i64 0)]) []),(oN (.store 4 (.t 16) (.t 133)) [6,4,2,0,1,2,3,4,6]),(oM 17 (.t 134) [5,7,0,1,2,3,4,5,6,7])]
def spinetlaw53_ProfCounts_i54:List Op1:=[(oE 135 (.load true 4 (.t 16)) []),(oE 136 (.load true 4 (.t 11)) []),(oE 137 (.eqa true [.int,.int,.int,.int] (.t 135) (.t 136)) [0,1]),(oM 138 (.t 137) [2]),(oG 139 (.mv (.t 17)) 138 false [3]),(oG 140 (.mv (.t 13)) 138 false [3]),(oG 141 (.bbin true (.t 139) (.t 140)) 138 false [4,5,3]),(oE 142 (.pick (.t 138) (.k (.bool true)) (.t 141)) [3,6]),(oM 143 (.t 142) [7,3]),(oG 144 (.mv (.t 7)) 143 false [8]),⟨(some 145),(.call 9 [(.t 144)]),(some (143,false)),[9,8,8]⟩,(oG 146 (.load true 4 (.t 10)) 143 false [8]),(oG 147 (.eqa true [.int,.int,.int,.int] (.t 145) (.t 146)) 143 false [10,11,8]),(oE 148 (.pick (.t 143) (.k (.bool true)) (.t 147)) [8,12]),(oM 149 (.t 148) [13,10]),(oG 150 (.mv (.t 7)) 149 false [14]),(oG 151 (.mv (.t 2)) 149 false [14]),⟨(some 152),(.call 11 [(.t 150),(.t 151)]),(some (149,false)),[15,16,14,14]⟩,(oG 153 (.mv (.t 12)) 149 false [14]),(oG 154 (.mv (.t 2)) 149 false [14]),(oG 155 (.mnx true (.t 154) (.k (.int .i64 0))) 149 false [19,14]),(oG 156 (.mv (.t 12)) 149 false [14]),(oG 157 (.len (.t 156)) 149 false [21,14]),(oG 158 (.mnx false (.t 155) (.t 157)) 149 false [20,22,14]),(oG 159 (.slice 4 (.t 153) none (some (.t 158))) 149 false [18,23,14]),⟨(some 160),(.call 10 [(.t 152),(.t 159)]),(some (149,false)),[17,24,17,14]⟩,(oG 161 (.un .not (.t 160)) 149 false [25,14]),(oE 162 (.pick (.t 149) (.k (.bool true)) (.t 161)) [14,26])]
def spinetlaw53_ProfCounts_i55:List Op1:=[(oM 6 (.k (.bool false)) [])]
def spinetlaw53_ProfCounts_i56:IR:=.ret
def spinetlaw53_ProfCounts_i57:IR:=(.cond (.t 162) (.seq (.reg false spinetlaw53_ProfCounts_i55) spinetlaw53_ProfCounts_i56) .skip)
def spinetlaw53_ProfCounts_i58:List Op1:=[(oM 163 (.t 7) []),(oC 164 12 [(.t 163)] [0])]
def spinetlaw53_ProfCounts_i59:List Op1:=[(oM 166 (.t 7) []),(oM 167 (.t 1) []),(oC 168 8 [(.t 166),(.t 167)] [0,1]),(oM 165 (.t 168) [2]),(oE 169 (.ext 0 (.t 165)) [3]),(oE 170 (.ext 1 (.t 165)) [3]),(oE 18 (.zero [(.int .u16 0),(.int .i64 0),(.int .i64 0),(.int .i64 0)]) []),(oN (.store 4 (.t 18) (.t 169)) [6,4,2,0,1,2,3,4,6]),(oM 19 (.t 170) [5,7,0,1,2,3,4,5,6,7])]
def spinetlaw53_ProfCounts_i60:List Op1:=[(oM 171 (.t 19) []),(oE 172 (.un .not (.t 171)) [0]),(oM 173 (.t 172) [1]),(oG 174 (.mv (.t 7)) 173 true [2]),⟨(some 175),(.call 9 [(.t 174)]),(some (173,true)),[3,2,2]⟩,(oG 176 (.build [(.int .u16 0),(.int .i64 0),(.int .i64 0),(.int .i64 0)] []) 173 true [2]),(oG 177 (.eqa false [.int,.int,.int,.int] (.t 175) (.t 176)) 173 true [4,5,2]),(oE 178 (.pick (.t 173) (.t 177) (.k (.bool false))) [2,6]),(oM 179 (.t 178) [7,4]),(oG 180 (.mv (.t 7)) 179 true [8]),⟨(some 181),(.call 11 [(.t 180),(.k (.int .i64 99))]),(some (179,true)),[9,8,8]⟩,(oG 182 (.len (.t 181)) 179 true [10,8]),(oG 183 (.bin .eql (.t 182) (.k (.int .i64 0))) 179 true [11,8]),(oE 184 (.pick (.t 179) (.t 183) (.k (.bool false))) [8,12]),(oM 185 (.t 184) [13,10]),⟨(some 186),(.call 13 []),(some (185,true)),[14,14]⟩,(oE 187 (.pick (.t 185) (.t 186) (.k (.bool false))) [14,15]),(oM 6 (.t 187) [16,15,0,1,2,3,4,5,6,7,8,9,10,11,12,13,14,15,16])]
def spinetlaw53_ProfCounts_i61:IR:=.ret
def spinetlaw53_ProfCounts_i62:IR:=(.seq (.reg false spinetlaw53_ProfCounts_i60) spinetlaw53_ProfCounts_i61)
def spinetlaw53_ProfCounts_i63:IR:=(.seq (.reg false spinetlaw53_ProfCounts_i59) spinetlaw53_ProfCounts_i62)
def spinetlaw53_ProfCounts_i64:IR:=(.seq (.reg false spinetlaw53_ProfCounts_i58) spinetlaw53_ProfCounts_i63)
def spinetlaw53_ProfCounts_i65:IR:=(.seq (.seq (.reg true spinetlaw53_ProfCounts_i54) spinetlaw53_ProfCounts_i57) spinetlaw53_ProfCounts_i64)
def spinetlaw53_ProfCounts_i66:IR:=(.seq (.reg false spinetlaw53_ProfCounts_i53) spinetlaw53_ProfCounts_i65)
def spinetlaw53_ProfCounts_i67:IR:=(.seq (.seq (.reg false spinetlaw53_ProfCounts_i26) spinetlaw53_ProfCounts_i52) spinetlaw53_ProfCounts_i66)
def spinetlaw53_ProfCounts_i68:IR:=(.seq (.reg false spinetlaw53_ProfCounts_i25) spinetlaw53_ProfCounts_i67)
def spinetlaw53_ProfCounts_i69:IR:=(.seq (.reg false spinetlaw53_ProfCounts_i24) spinetlaw53_ProfCounts_i68)
def spinetlaw53_ProfCounts_i70:IR:=(.seq (.reg false spinetlaw53_ProfCounts_i23) spinetlaw53_ProfCounts_i69)
def spinetlaw53_ProfCounts_i71:IR:=(.seq (.seq (.reg false spinetlaw53_ProfCounts_i7) spinetlaw53_ProfCounts_i22) spinetlaw53_ProfCounts_i70)
def spinetlaw53_ProfCounts_i72:IR:=(.seq (.reg false spinetlaw53_ProfCounts_i6) spinetlaw53_ProfCounts_i71)
def spinetlaw53_ProfCounts_i73:IR:=(.seq (.reg false spinetlaw53_ProfCounts_i5) spinetlaw53_ProfCounts_i72)
def spinetlaw53_ProfCounts_i74:IR:=(.seq (.seq (.reg false spinetlaw53_ProfCounts_i1) spinetlaw53_ProfCounts_i4) spinetlaw53_ProfCounts_i73)
def spinetlaw53_ProfCounts_ir:IR:=(.seq (.reg false spinetlaw53_ProfCounts_i0) spinetlaw53_ProfCounts_i74)
theorem spinetlaw53_ProfCounts_cfn:cFn Try.prog 3=some (spinetlaw53_ProfCounts_ir,[(.t 6)],188):=by kernel_rfl
def spinetlaw53_ProfCounts_V (r:(Bool)):V:=.s (.bool r)
def spinetlaw53_ProfCounts_C (r:(Bool)):X→Fr→Hp→Prop:=FinL [(.t 6)] [] (spinetlaw53_ProfCounts_V r) []
theorem spinetlaw53_ProfCounts_ok (parts_:(List (List api_Rec))) (at_:Int) (many_:Int) (r:(Bool)) (h:spinetlaw53_ProfCounts parts_ at_ many_=some r):Pure Try.prog 3 [.sl false parts_.length (cat sl_api_Rec parts_),.s (.int .u16 at_),.s (.int .i64 many_)] (spinetlaw53_ProfCounts_V r):=by
  refine ConL.of spinetlaw53_ProfCounts_cfn (Nat.le_of_ble_eq_true (by kernel_rfl)) (Nat.le_of_ble_eq_true (by kernel_rfl)) ?_
  refine k_start ?_
  show dwv Try.prog [] spinetlaw53_ProfCounts_ir (kont Try.prog [] (spinetlaw53_ProfCounts_C r) []) (fr0 [.sl false parts_.length (cat sl_api_Rec parts_),.s (.int .u16 at_),.s (.int .i64 many_)]) []
  have hf:FOk (fr0 [.sl false parts_.length (cat sl_api_Rec parts_),.s (.int .u16 at_),.s (.int .i64 many_)]) [⟨0,[],.sl false parts_.length (cat sl_api_Rec parts_)⟩,⟨1,[],.s (.int .u16 at_)⟩,⟨2,[],.s (.int .i64 many_)⟩]:=⟨⟨fun _=>rfl,fun h=>(h trivial).elim⟩,⟨fun _=>rfl,fun h=>(h trivial).elim⟩,⟨fun _=>rfl,fun h=>(h trivial).elim⟩,trivial⟩
  generalize fr0 [.sl false parts_.length (cat sl_api_Rec parts_),.s (.int .u16 at_),.s (.int .i64 many_)]=f at hf ⊢
  unfold spinetlaw53_ProfCounts at h
  refine k_seq ?_
  refine k_reg ?_
  refine mops_en hf (by kernel_rfl) fun f1 hf1 => ?_
  refine k_c ?_
  refine k_seq ?_
  refine k_seq ?_
  refine k_reg ?_
  refine mops_en hf1 (by kernel_rfl) fun f2 hf2 => ?_
  refine k_c ?_
  refine k_cond hf2 (t:=(decide (60 < (ln parts_)))) (by kernel_rfl) (fun hc1 => ?_) (fun hc1 => ?_)
  · have h:=if_t h hc1
    refine k_seq ?_
    refine k_reg ?_
    refine mops_en hf2 (by kernel_rfl) fun f3 hf3 => ?_
    refine k_c ?_
    refine k_ret ?_
    refine x_c nofun ?_
    obtain rfl:=Option.some.inj h
    exact k_fin (fin_ret (.inl rfl) hf3 (vs:=[.s (.bool true)]) (by kernel_rfl) (SettL.pure (FzL.stat rfl)))
  · have h:=if_f h hc1
    refine k_skip ?_
    refine k_c ?_
    refine k_seq ?_
    refine k_reg ?_
    refine mops_en hf2 (by kernel_rfl) fun f3 hf3 => ?_
    refine k_mk (ver:=0) (q:=1) (cs:=[.s (.map none)]) (Y:=ProfX ([]:ProfT)) (L':=[⟨0,.res (ProfX ([]:ProfT)),1,[]⟩]) 0 ?_ prof_make
    refine k_c ?_
    refine k_seq ?_
    refine k_reg ?_
    refine mops_en hf3 (by kernel_rfl) fun f4 hf4 => ?_
    refine k_c ?_
    refine k_seq ?_
    refine k_seq ?_
    refine k_reg ?_
    refine mops_en hf4 (by kernel_rfl) fun f5 hf5 => ?_
    refine k_fz (g:=prof_Spot.v) (x:=([]:List prof_Spot)) (ver:=0) (n:=0) 8 1 hf5 rfl (L':=[⟨0,.res (ProfX ([]:ProfT)),1,[]⟩,⟨1,.grow,4,cat prof_Spot.v ([]:List prof_Spot)⟩]) fun f6 hf6 => ?_
    refine k_c ?_
    refine k_block ?_
    obtain ⟨o0,hx0,h⟩:=Option.bind_eq_some_iff.1 h
    have hret0:∀ r0,.ret r0=o0→r0=r:=fun r0 e=>by subst e; exact Option.some.inj h
    have hgo0:∀ (l_4:ProfT) (l_5:(List prof_Spot)),.go (l_4,l_5)=o0→∀ f,FOk f [⟨1,[],.s (.int .u16 at_)⟩,⟨2,[],.s (.int .i64 many_)⟩,⟨6,[],.s (.bool false)⟩,⟨7,[],.ptr 0 0 0⟩,⟨8,[],.sl false l_5.length (cat prof_Spot.v l_5)⟩]→kont Try.prog [] (spinetlaw53_ProfCounts_C r) ((.c spinetlaw53_ProfCounts_i70)::[]) .normal f [⟨0,.res (ProfX l_4),1,[]⟩,⟨1,.grow,4,cat prof_Spot.v ([]:List prof_Spot)⟩]:=by
      intro l_4 l_5 e f hf
      subst e
      refine k_c ?_
      refine k_seq ?_
      refine k_reg ?_
      refine mops_en hf (by kernel_rfl) fun f1 hf1 => ?_
      refine k_c ?_
      refine k_seq ?_
      refine k_reg ?_
      refine mops_en hf1 (by kernel_rfl) fun f2 hf2 => ?_
      refine k_c ?_
      refine k_seq ?_
      refine k_reg ?_
      refine mops_en hf2 (by kernel_rfl) fun f3 hf3 => ?_
      refine k_c ?_
      refine k_seq ?_
      refine k_seq ?_
      refine k_reg ?_
      refine mops_en hf3 (by kernel_rfl) fun f4 hf4 => ?_
      refine k_fz (g:=prof_Spot.v) (x:=([]:List prof_Spot)) (ver:=0) (n:=0) 12 4 hf4 rfl (L':=[⟨0,.res (ProfX l_4),1,[]⟩,⟨1,.grow,4,cat prof_Spot.v ([]:List prof_Spot)⟩,⟨0,.mem,1,[.s (.int .u16 0),.s (.int .i64 0),.s (.int .i64 0),.s (.int .i64 0)]⟩,⟨0,.mem,1,[.s (.int .u16 0),.s (.int .i64 0),.s (.int .i64 0),.s (.int .i64 0)]⟩,⟨1,.grow,4,cat prof_Spot.v ([]:List prof_Spot)⟩]) fun f5 hf5 => ?_
      refine k_c ?_
      refine k_block ?_
      obtain ⟨o1,hx1,h⟩:=Option.bind_eq_some_iff.1 h
      have hgo1:∀ (m_22:Int) (m_23:Int) (m_24:Int) (m_25:Int) (m_26:Int) (m_27:Int) (m_28:Int) (top_2:(List prof_Spot)) (some_4:Bool),(m_22,m_23,m_24,m_25,m_26,m_27,m_28,top_2,some_4)=o1→∀ f,FOk f [⟨1,[],.s (.int .u16 at_)⟩,⟨2,[],.s (.int .i64 many_)⟩,⟨6,[],.s (.bool false)⟩,⟨7,[],.ptr 0 0 0⟩,⟨10,[],.ptr 2 0 0⟩,⟨11,[],.ptr 3 0 0⟩,⟨12,[],.sl false top_2.length (cat prof_Spot.v top_2)⟩,⟨13,[],.s (.bool some_4)⟩]→kont Try.prog [] (spinetlaw53_ProfCounts_C r) ((.c spinetlaw53_ProfCounts_i66)::[]) .normal f [⟨0,.res (ProfX l_4),1,[]⟩,⟨1,.grow,4,cat prof_Spot.v ([]:List prof_Spot)⟩,⟨0,.mem,1,[.s (.int .u16 0),.s (.int .i64 m_22),.s (.int .i64 m_23),.s (.int .i64 m_24)]⟩,⟨0,.mem,1,[.s (.int .u16 m_25),.s (.int .i64 m_26),.s (.int .i64 m_27),.s (.int .i64 m_28)]⟩,⟨1,.grow,4,cat prof_Spot.v ([]:List prof_Spot)⟩]:=by
        intro m_22 m_23 m_24 m_25 m_26 m_27 m_28 top_2 some_4 e f hf
        subst e
        refine k_c ?_
        refine k_seq ?_
        refine k_reg ?_
        refine mops_sg 2 hf (by kernel_rfl) fun f1 hf1 => ?_
        obtain ⟨c27,h⟩:=as_ok h
        refine mops_call rfl hf1 (av:=[.ptr 0 0 0,.s (.int .u16 at_)]) (by kernel_rfl) (v:=.tup [.agg [.s (.int .u16 ((profGet l_4 at_).getD sp0).1),.s (.int .i64 ((profGet l_4 at_).getD sp0).2.1),.s (.int .i64 ((profGet l_4 at_).getD sp0).2.2.1),.s (.int .i64 ((profGet l_4 at_).getD sp0).2.2.2)],.s (.bool (profGet l_4 at_).isSome)]) (L':=[⟨0,.res (ProfX l_4),1,[]⟩,⟨1,.grow,4,cat prof_Spot.v ([]:List prof_Spot)⟩,⟨0,.mem,1,[.s (.int .u16 0),.s (.int .i64 m_22),.s (.int .i64 m_23),.s (.int .i64 m_24)]⟩,⟨0,.mem,1,[.s (.int .u16 m_25),.s (.int .i64 m_26),.s (.int .i64 m_27),.s (.int .i64 m_28)]⟩,⟨1,.grow,4,cat prof_Spot.v ([]:List prof_Spot)⟩]) (CalL.borrow (M:=[⟨0,.res (ProfX l_4),1,[]⟩]) (M':=[⟨0,.res (ProfX l_4),1,[]⟩]) [0] (prof_Of_con l_4 at_ c27) (by kernel_rfl) (RNs.cons (RN.ptr (by kernel_rfl)) (RNs.cons (RN.stat rfl) RNs.nil)) (RN.stat rfl) (RBs.cons (RNs.stat rfl) RBs.nil) (RBs.cons (RNs.stat rfl) RBs.nil) (by kernel_rfl) (by kernel_rfl)) (by intro h; cases h) fun f2 hf2 => ?_
        refine mops_en hf2 (by kernel_rfl) fun f3 hf3 => ?_
        refine k_c ?_
        refine k_seq ?_
        refine k_seq ?_
        refine k_regq ?_
        refine mops_sg 10 hf3 (by kernel_rfl) fun f4 hf4 => ?_
        refine mops_gcall (dst:=(some 145)) (m:=9) (args:=[(.t 144)]) (aft:=[9,8,8]) (t:=143) (w:=false) (ch:=[(143,false)]) (b:=(!((!((((profGet l_4 at_).getD sp0).1 == m_25)&&((((profGet l_4 at_).getD sp0).2.1 == m_26)&&((((profGet l_4 at_).getD sp0).2.2.1 == m_27)&&((((profGet l_4 at_).getD sp0).2.2.2 == m_28)&&true)))))||(!((profGet l_4 at_).isSome == some_4))))) (by kernel_rfl) hf4 (by kernel_rfl) (by kernel_rfl) (av:=[.ptr 0 0 0]) (by kernel_rfl) (v:=.agg [.s (.int .u16 (profSum l_4).1),.s (.int .i64 (profSum l_4).2.1),.s (.int .i64 (profSum l_4).2.2.1),.s (.int .i64 (profSum l_4).2.2.2)]) (by kernel_rfl) (fun hb28=>(CalL.borrow (M:=[⟨0,.res (ProfX l_4),1,[]⟩]) (M':=[⟨0,.res (ProfX l_4),1,[]⟩]) [0] (prof_Sum_con l_4) (by kernel_rfl) (RNs.cons (RN.ptr (by kernel_rfl)) RNs.nil) (RN.stat rfl) (RBs.cons (RNs.stat rfl) RBs.nil) (RBs.cons (RNs.stat rfl) RBs.nil) (by kernel_rfl) (by kernel_rfl))) fun f5 hf5 => ?_
        refine mops_sg 6 hf5 (by kernel_rfl) fun f6 hf6 => ?_
        obtain ⟨c29,h⟩:=as_ok h
        obtain ⟨c30,h⟩:=as_ok h
        refine mops_gcall (dst:=(some 152)) (m:=11) (args:=[(.t 150),(.t 151)]) (aft:=[15,16,14,14]) (t:=149) (w:=false) (ch:=[(149,false)]) (b:=(!(((!((((profGet l_4 at_).getD sp0).1 == m_25)&&((((profGet l_4 at_).getD sp0).2.1 == m_26)&&((((profGet l_4 at_).getD sp0).2.2.1 == m_27)&&((((profGet l_4 at_).getD sp0).2.2.2 == m_28)&&true)))))||(!((profGet l_4 at_).isSome == some_4)))||(!(((profSum l_4).1 == 0)&&(((profSum l_4).2.1 == m_22)&&(((profSum l_4).2.2.1 == m_23)&&(((profSum l_4).2.2.2 == m_24)&&true)))))))) (by kernel_rfl) hf6 (by kernel_rfl) (by kernel_rfl) (av:=[.ptr 0 0 0,.s (.int .i64 many_)]) (by kernel_rfl) (v:=.sl false ((profTop l_4 many_).map (fun s=>(⟨s.1,s.2.1,s.2.2.1,s.2.2.2⟩:prof_Spot))).length (cat prof_Spot.v ((profTop l_4 many_).map (fun s=>(⟨s.1,s.2.1,s.2.2.1,s.2.2.2⟩:prof_Spot))))) (by kernel_rfl) (fun hb31=>(CalL.borrow (M:=[⟨0,.res (ProfX l_4),1,[]⟩]) (M':=[⟨0,.res (ProfX l_4),1,[]⟩]) [0] (prof_Top_con (fun s=>(⟨s.1,s.2.1,s.2.2.1,s.2.2.2⟩:prof_Spot)) prof_Spot.v (fun _=>rfl) l_4 many_ (c29 hb31) (c30 hb31)) (by kernel_rfl) (RNs.cons (RN.ptr (by kernel_rfl)) (RNs.cons (RN.stat rfl) RNs.nil)) (RN.stat (by simp [V.static,statics,cat_stat])) (RBs.cons (RNs.stat rfl) RBs.nil) (RBs.cons (RNs.stat rfl) RBs.nil) (by kernel_rfl) (by kernel_rfl))) fun f7 hf7 => ?_
        refine mops_sg 6 hf7 (by kernel_rfl) fun f8 hf8 => ?_
        obtain ⟨c32,h⟩:=as_ok h
        refine mops_gadv (dst:=(some 159)) (op:=(.slice 4 (.t 153) none (some (.t 158)))) (aft:=[18,23,14]) (t:=149) (w:=false) (ch:=[(149,false)]) (b:=(!(((!((((profGet l_4 at_).getD sp0).1 == m_25)&&((((profGet l_4 at_).getD sp0).2.1 == m_26)&&((((profGet l_4 at_).getD sp0).2.2.1 == m_27)&&((((profGet l_4 at_).getD sp0).2.2.2 == m_28)&&true)))))||(!((profGet l_4 at_).isSome == some_4)))||(!(((profSum l_4).1 == 0)&&(((profSum l_4).2.1 == m_22)&&(((profSum l_4).2.2.1 == m_23)&&(((profSum l_4).2.2.2 == m_24)&&true)))))))) (v:=.sl (false&&((if (ln top_2) < (if 0 > many_ then 0 else many_) then (ln top_2) else (if 0 > many_ then 0 else many_)):Int).toNat == top_2.length) (((if (ln top_2) < (if 0 > many_ then 0 else many_) then (ln top_2) else (if 0 > many_ then 0 else many_)):Int).toNat - 0) (cat prof_Spot.v (top_2.drop 0))) (by kernel_rfl) hf8 (by kernel_rfl) (by kernel_rfl) (by kernel_rfl) (fun hb33=>e_slice_sl (g:=prof_Spot.v) (l:=top_2) (n:=top_2.length) (u:=false) (by kernel_rfl) (b_ns (k:=.i64) (iv:=(if (ln top_2) < (if 0 > many_ then 0 else many_) then (ln top_2) else (if 0 > many_ then 0 else many_))) (by kernel_rfl) (c32 hb33))) fun f9 hf9 => ?_
        obtain ⟨r_15,hx_r_15,h⟩:=Option.bind_eq_some_iff.1 h
        refine mops_gcall (dst:=(some 160)) (m:=10) (args:=[(.t 152),(.t 159)]) (aft:=[17,24,17,14]) (t:=149) (w:=false) (ch:=[(149,false)]) (b:=(!(((!((((profGet l_4 at_).getD sp0).1 == m_25)&&((((profGet l_4 at_).getD sp0).2.1 == m_26)&&((((profGet l_4 at_).getD sp0).2.2.1 == m_27)&&((((profGet l_4 at_).getD sp0).2.2.2 == m_28)&&true)))))||(!((profGet l_4 at_).isSome == some_4)))||(!(((profSum l_4).1 == 0)&&(((profSum l_4).2.1 == m_22)&&(((profSum l_4).2.2.1 == m_23)&&(((profSum l_4).2.2.2 == m_24)&&true)))))))) (by kernel_rfl) hf9 (by kernel_rfl) (by kernel_rfl) (av:=[.sl false ((profTop l_4 many_).map (fun s=>(⟨s.1,s.2.1,s.2.2.1,s.2.2.2⟩:prof_Spot))).length (cat prof_Spot.v ((profTop l_4 many_).map (fun s=>(⟨s.1,s.2.1,s.2.2.1,s.2.2.2⟩:prof_Spot)))),.sl (false&&((if (ln top_2) < (if 0 > many_ then 0 else many_) then (ln top_2) else (if 0 > many_ then 0 else many_)):Int).toNat == top_2.length) (((if (ln top_2) < (if 0 > many_ then 0 else many_) then (ln top_2) else (if 0 > many_ then 0 else many_)):Int).toNat - 0) (cat prof_Spot.v (top_2.drop 0))]) (by kernel_rfl) (v:=.s (.bool r_15)) (by kernel_rfl) (fun hb34=>(CalL.purew (slices_Equal_sl_prof_Spot_prof_Spot_ok ((profTop l_4 many_).map (fun s=>(⟨s.1,s.2.1,s.2.2.1,s.2.2.2⟩:prof_Spot))) ((top_2.drop 0).take (((if (ln top_2) < (if 0 > many_ then 0 else many_) then (ln top_2) else (if 0 > many_ then 0 else many_)):Int).toNat - 0)) r_15 (if_t hx_r_15 hb34)) (Wks.cons Wk.refl (Wks.cons (Wk.part (g:=prof_Spot.v) (cut_le (l:=top_2) (a:=0) (b:=((if (ln top_2) < (if 0 > many_ then 0 else many_) then (ln top_2) else (if 0 > many_ then 0 else many_)):Int).toNat) (cut_ns (n:=top_2.length) (c32 hb34)) rfl)) Wks.nil)) (by simp [V.static,statics,cat_stat]) rfl (by kernel_rfl))) fun f10 hf10 => ?_
        refine mops_end [1,6,7,162] hf10 (l':=[⟨1,[],.s (.int .u16 at_)⟩,⟨6,[],.s (.bool false)⟩,⟨7,[],.ptr 0 0 0⟩,⟨162,[],.s (.bool ((((!((((profGet l_4 at_).getD sp0).1 == m_25)&&((((profGet l_4 at_).getD sp0).2.1 == m_26)&&((((profGet l_4 at_).getD sp0).2.2.1 == m_27)&&((((profGet l_4 at_).getD sp0).2.2.2 == m_28)&&true)))))||(!((profGet l_4 at_).isSome == some_4)))||(!(((profSum l_4).1 == 0)&&(((profSum l_4).2.1 == m_22)&&(((profSum l_4).2.2.1 == m_23)&&(((profSum l_4).2.2.2 == m_24)&&true))))))||(!r_15)))⟩]) (L':=[⟨0,.res (ProfX l_4),1,[]⟩,⟨1,.grow,4,cat prof_Spot.v ([]:List prof_Spot)⟩,⟨0,.mem,1,[.s (.int .u16 0),.s (.int .i64 m_22),.s (.int .i64 m_23),.s (.int .i64 m_24)]⟩,⟨0,.mem,1,[.s (.int .u16 m_25),.s (.int .i64 m_26),.s (.int .i64 m_27),.s (.int .i64 m_28)]⟩,⟨1,.grow,4,cat prof_Spot.v ([]:List prof_Spot)⟩,⟨0,.mem,1,[.s (.int .u16 ((profGet l_4 at_).getD sp0).1),.s (.int .i64 ((profGet l_4 at_).getD sp0).2.1),.s (.int .i64 ((profGet l_4 at_).getD sp0).2.2.1),.s (.int .i64 ((profGet l_4 at_).getD sp0).2.2.2)]⟩]) (by kernel_rfl) fun f11 hf11 => ?_
        refine k_c ?_
        refine k_cond hf11 (t:=((((!((((profGet l_4 at_).getD sp0).1 == m_25)&&((((profGet l_4 at_).getD sp0).2.1 == m_26)&&((((profGet l_4 at_).getD sp0).2.2.1 == m_27)&&((((profGet l_4 at_).getD sp0).2.2.2 == m_28)&&true)))))||(!((profGet l_4 at_).isSome == some_4)))||(!(((profSum l_4).1 == 0)&&(((profSum l_4).2.1 == m_22)&&(((profSum l_4).2.2.1 == m_23)&&(((profSum l_4).2.2.2 == m_24)&&true))))))||(!r_15))) (by kernel_rfl) (fun hc35 => ?_) (fun hc35 => ?_)
        · have h:=if_t h hc35
          refine k_seq ?_
          refine k_reg ?_
          refine mops_en hf11 (by kernel_rfl) fun f12 hf12 => ?_
          refine k_c ?_
          refine k_ret ?_
          refine x_c nofun ?_
          obtain rfl:=Option.some.inj h
          exact k_fin (fin_ret (.inl rfl) hf12 (vs:=[.s (.bool false)]) (by kernel_rfl) (SettL.pure (FzL.stat rfl)))
        · have h:=if_f h hc35
          refine k_skip ?_
          refine k_c ?_
          refine k_seq ?_
          refine k_reg ?_
          refine mops_sg 1 hf11 (by kernel_rfl) fun f12 hf12 => ?_
          refine mops_call rfl hf12 (av:=[.ptr 0 0 0]) (by kernel_rfl) (v:=.tup []) (L':=[⟨0,.res (ProfX ([]:ProfT)),1,[]⟩,⟨1,.grow,4,cat prof_Spot.v ([]:List prof_Spot)⟩,⟨0,.mem,1,[.s (.int .u16 0),.s (.int .i64 m_22),.s (.int .i64 m_23),.s (.int .i64 m_24)]⟩,⟨0,.mem,1,[.s (.int .u16 m_25),.s (.int .i64 m_26),.s (.int .i64 m_27),.s (.int .i64 m_28)]⟩,⟨1,.grow,4,cat prof_Spot.v ([]:List prof_Spot)⟩,⟨0,.mem,1,[.s (.int .u16 ((profGet l_4 at_).getD sp0).1),.s (.int .i64 ((profGet l_4 at_).getD sp0).2.1),.s (.int .i64 ((profGet l_4 at_).getD sp0).2.2.1),.s (.int .i64 ((profGet l_4 at_).getD sp0).2.2.2)]⟩]) (CalL.borrow (M:=[⟨0,.res (ProfX l_4),1,[]⟩]) (M':=[⟨0,.res (ProfX ([]:ProfT)),1,[]⟩]) [0] (prof_Clear_con l_4) (by kernel_rfl) (RNs.cons (RN.ptr (by kernel_rfl)) RNs.nil) (RN.stat rfl) (RBs.cons (RNs.stat rfl) RBs.nil) (RBs.cons (RNs.stat rfl) RBs.nil) (by kernel_rfl) (by kernel_rfl)) (by intro h; cases h) fun f13 hf13 => ?_
          refine mops_en hf13 (by kernel_rfl) fun f14 hf14 => ?_
          refine k_c ?_
          refine k_seq ?_
          refine k_reg ?_
          refine mops_sg 2 hf14 (by kernel_rfl) fun f15 hf15 => ?_
          obtain ⟨c36,h⟩:=as_ok h
          refine mops_call rfl hf15 (av:=[.ptr 0 0 0,.s (.int .u16 at_)]) (by kernel_rfl) (v:=.tup [.agg [.s (.int .u16 ((profGet ([]:ProfT) at_).getD sp0).1),.s (.int .i64 ((profGet ([]:ProfT) at_).getD sp0).2.1),.s (.int .i64 ((profGet ([]:ProfT) at_).getD sp0).2.2.1),.s (.int .i64 ((profGet ([]:ProfT) at_).getD sp0).2.2.2)],.s (.bool (profGet ([]:ProfT) at_).isSome)]) (L':=[⟨0,.res (ProfX ([]:ProfT)),1,[]⟩,⟨1,.grow,4,cat prof_Spot.v ([]:List prof_Spot)⟩,⟨0,.mem,1,[.s (.int .u16 0),.s (.int .i64 m_22),.s (.int .i64 m_23),.s (.int .i64 m_24)]⟩,⟨0,.mem,1,[.s (.int .u16 m_25),.s (.int .i64 m_26),.s (.int .i64 m_27),.s (.int .i64 m_28)]⟩,⟨1,.grow,4,cat prof_Spot.v ([]:List prof_Spot)⟩,⟨0,.mem,1,[.s (.int .u16 ((profGet l_4 at_).getD sp0).1),.s (.int .i64 ((profGet l_4 at_).getD sp0).2.1),.s (.int .i64 ((profGet l_4 at_).getD sp0).2.2.1),.s (.int .i64 ((profGet l_4 at_).getD sp0).2.2.2)]⟩]) (CalL.borrow (M:=[⟨0,.res (ProfX ([]:ProfT)),1,[]⟩]) (M':=[⟨0,.res (ProfX ([]:ProfT)),1,[]⟩]) [0] (prof_Of_con ([]:ProfT) at_ c36) (by kernel_rfl) (RNs.cons (RN.ptr (by kernel_rfl)) (RNs.cons (RN.stat rfl) RNs.nil)) (RN.stat rfl) (RBs.cons (RNs.stat rfl) RBs.nil) (RBs.cons (RNs.stat rfl) RBs.nil) (by kernel_rfl) (by kernel_rfl)) (by intro h; cases h) fun f16 hf16 => ?_
          refine mops_en hf16 (by kernel_rfl) fun f17 hf17 => ?_
          refine k_c ?_
          refine k_seq ?_
          refine k_reg ?_
          refine mops_sg 4 hf17 (by kernel_rfl) fun f18 hf18 => ?_
          refine mops_gcall (dst:=(some 175)) (m:=9) (args:=[(.t 174)]) (aft:=[3,2,2]) (t:=173) (w:=true) (ch:=[(173,true)]) (b:=(!(profGet ([]:ProfT) at_).isSome)) (by kernel_rfl) hf18 (by kernel_rfl) (by kernel_rfl) (av:=[.ptr 0 0 0]) (by kernel_rfl) (v:=.agg [.s (.int .u16 (profSum ([]:ProfT)).1),.s (.int .i64 (profSum ([]:ProfT)).2.1),.s (.int .i64 (profSum ([]:ProfT)).2.2.1),.s (.int .i64 (profSum ([]:ProfT)).2.2.2)]) (by kernel_rfl) (fun hb37=>(CalL.borrow (M:=[⟨0,.res (ProfX ([]:ProfT)),1,[]⟩]) (M':=[⟨0,.res (ProfX ([]:ProfT)),1,[]⟩]) [0] (prof_Sum_con ([]:ProfT)) (by kernel_rfl) (RNs.cons (RN.ptr (by kernel_rfl)) RNs.nil) (RN.stat rfl) (RBs.cons (RNs.stat rfl) RBs.nil) (RBs.cons (RNs.stat rfl) RBs.nil) (by kernel_rfl) (by kernel_rfl))) fun f19 hf19 => ?_
          refine mops_sg 5 hf19 (by kernel_rfl) fun f20 hf20 => ?_
          obtain ⟨c38,h⟩:=as_ok h
          obtain ⟨c39,h⟩:=as_ok h
          refine mops_gcall (dst:=(some 181)) (m:=11) (args:=[(.t 180),(.k (.int .i64 99))]) (aft:=[9,8,8]) (t:=179) (w:=true) (ch:=[(179,true)]) (b:=((!(profGet ([]:ProfT) at_).isSome)&&(((profSum ([]:ProfT)).1 == 0)&&(((profSum ([]:ProfT)).2.1 == 0)&&(((profSum ([]:ProfT)).2.2.1 == 0)&&(((profSum ([]:ProfT)).2.2.2 == 0)&&true)))))) (by kernel_rfl) hf20 (by kernel_rfl) (by kernel_rfl) (av:=[.ptr 0 0 0,.s (.int .i64 99)]) (by kernel_rfl) (v:=.sl false ((profTop ([]:ProfT) (99)).map (fun s=>(⟨s.1,s.2.1,s.2.2.1,s.2.2.2⟩:prof_Spot))).length (cat prof_Spot.v ((profTop ([]:ProfT) (99)).map (fun s=>(⟨s.1,s.2.1,s.2.2.1,s.2.2.2⟩:prof_Spot))))) (by kernel_rfl) (fun hb40=>(CalL.borrow (M:=[⟨0,.res (ProfX ([]:ProfT)),1,[]⟩]) (M':=[⟨0,.res (ProfX ([]:ProfT)),1,[]⟩]) [0] (prof_Top_con (fun s=>(⟨s.1,s.2.1,s.2.2.1,s.2.2.2⟩:prof_Spot)) prof_Spot.v (fun _=>rfl) ([]:ProfT) (99) (c38 hb40) (c39 hb40)) (by kernel_rfl) (RNs.cons (RN.ptr (by kernel_rfl)) (RNs.cons (RN.stat rfl) RNs.nil)) (RN.stat (by simp [V.static,statics,cat_stat])) (RBs.cons (RNs.stat rfl) RBs.nil) (RBs.cons (RNs.stat rfl) RBs.nil) (by kernel_rfl) (by kernel_rfl))) fun f21 hf21 => ?_
          refine mops_sg 4 hf21 (by kernel_rfl) fun f22 hf22 => ?_
          obtain ⟨r_16,hx_r_16,h⟩:=Option.bind_eq_some_iff.1 h
          refine mops_gcall (dst:=(some 186)) (m:=13) (args:=[]) (aft:=[14,14]) (t:=185) (w:=true) (ch:=[(185,true)]) (b:=(((!(profGet ([]:ProfT) at_).isSome)&&(((profSum ([]:ProfT)).1 == 0)&&(((profSum ([]:ProfT)).2.1 == 0)&&(((profSum ([]:ProfT)).2.2.1 == 0)&&(((profSum ([]:ProfT)).2.2.2 == 0)&&true)))))&&((ln ((profTop ([]:ProfT) (99)).map (fun s=>(⟨s.1,s.2.1,s.2.2.1,s.2.2.2⟩:prof_Spot)))) == 0))) (by kernel_rfl) hf22 (by kernel_rfl) (by kernel_rfl) (av:=[]) (by kernel_rfl) (v:=.s (.bool r_16)) (by kernel_rfl) (fun hb41=>(CalL.pure (spinetlaw53_alive_ok  r_16 (if_t hx_r_16 hb41)) rfl rfl (Nat.le_of_ble_eq_true (by kernel_rfl)))) fun f23 hf23 => ?_
          refine mops_en hf23 (by kernel_rfl) fun f24 hf24 => ?_
          refine k_c ?_
          refine k_ret ?_
          obtain rfl:=Option.some.inj h
          exact k_fin (fin_ret (.inl rfl) hf24 (vs:=[.s (.bool ((((!(profGet ([]:ProfT) at_).isSome)&&(((profSum ([]:ProfT)).1 == 0)&&(((profSum ([]:ProfT)).2.1 == 0)&&(((profSum ([]:ProfT)).2.2.1 == 0)&&(((profSum ([]:ProfT)).2.2.2 == 0)&&true)))))&&((ln ((profTop ([]:ProfT) (99)).map (fun s=>(⟨s.1,s.2.1,s.2.2.1,s.2.2.2⟩:prof_Spot)))) == 0))&&r_16))]) (by kernel_rfl) (SettL.pure (FzL.stat rfl)))
      refine k_loop BIG ?_
      refine loop_ind (fun n f L=>∃ (m_15:Int) (m_16:Int) (m_17:Int) (m_18:Int) (m_19:Int) (m_20:Int) (m_21:Int) (top_1:(List prof_Spot)) (some_3:Bool) (i_3:Int),spinetlaw53_ProfCounts_l5 at_ l_5 n m_15 m_16 m_17 m_18 m_19 m_20 m_21 top_1 some_3 i_3=some o1∧FOk f [⟨1,[],.s (.int .u16 at_)⟩,⟨2,[],.s (.int .i64 many_)⟩,⟨6,[],.s (.bool false)⟩,⟨7,[],.ptr 0 0 0⟩,⟨8,[],.sl false l_5.length (cat prof_Spot.v l_5)⟩,⟨10,[],.ptr 2 0 0⟩,⟨11,[],.ptr 3 0 0⟩,⟨12,[],.sl false top_1.length (cat prof_Spot.v top_1)⟩,⟨13,[],.s (.bool some_3)⟩,⟨14,[],.s (.int .i64 i_3)⟩]∧L=[⟨0,.res (ProfX l_4),1,[]⟩,⟨1,.grow,4,cat prof_Spot.v ([]:List prof_Spot)⟩,⟨0,.mem,1,[.s (.int .u16 0),.s (.int .i64 m_15),.s (.int .i64 m_16),.s (.int .i64 m_17)]⟩,⟨0,.mem,1,[.s (.int .u16 m_18),.s (.int .i64 m_19),.s (.int .i64 m_20),.s (.int .i64 m_21)]⟩,⟨1,.grow,4,cat prof_Spot.v ([]:List prof_Spot)⟩]) ?_ ?_ BIG _ _ ⟨(0),(0),(0),(0),(0),(0),(0),([]:List prof_Spot),false,(0),hx1,FOk_of [1,2,6,7,8,10,11,12,13,14] hf5 (by kernel_rfl),(by kernel_rfl)⟩
      · rintro f L ⟨m_15,m_16,m_17,m_18,m_19,m_20,m_21,top_1,some_3,i_3,h,_⟩
        cases (show (none:Option _)=some _ from h)
      · rintro n1 R1 ih f L ⟨m_15,m_16,m_17,m_18,m_19,m_20,m_21,top_1,some_3,i_3,h,hf,rfl⟩
        rw [spinetlaw53_ProfCounts_l5] at h
        refine k_seq ?_
        refine k_seq ?_
        refine k_reg ?_
        refine mops_en hf (by kernel_rfl) fun f1 hf1 => ?_
        refine k_c ?_
        refine k_cond hf1 (t:=(decide (i_3 < (ln l_5)))) (by kernel_rfl) (fun hc9 => ?_) (fun hc9 => ?_)
        · have h:=if_t h hc9
          refine k_skip ?_
          refine k_c ?_
          refine k_seq ?_
          refine k_block ?_
          refine k_seq ?_
          refine k_regw ?_
          refine lw_tight 9 (by kernel_rfl) ?_
          refine mops_seg [1,2,6,7,8,10,11,12,13,14,61,62,63] 4 hf1 (l':=[⟨1,[],.s (.int .u16 at_)⟩,⟨2,[],.s (.int .i64 many_)⟩,⟨6,[],.s (.bool false)⟩,⟨7,[],.ptr 0 0 0⟩,⟨8,[],.sl false l_5.length (cat prof_Spot.v l_5)⟩,⟨10,[],.ptr 2 0 0⟩,⟨11,[],.ptr 3 0 0⟩,⟨12,[],.sl false top_1.length (cat prof_Spot.v top_1)⟩,⟨13,[],.s (.bool some_3)⟩,⟨14,[],.s (.int .i64 i_3)⟩,⟨61,[],.s (.int .i64 m_15)⟩,⟨62,[],.sl false l_5.length (cat prof_Spot.v l_5)⟩,⟨63,[],.s (.int .i64 i_3)⟩]) (L':=[⟨0,.res (ProfX l_4),1,[]⟩,⟨1,.grow,4,cat prof_Spot.v ([]:List prof_Spot)⟩,⟨0,.mem,1,[.s (.int .u16 0),.s (.int .i64 m_15),.s (.int .i64 m_16),.s (.int .i64 m_17)]⟩,⟨0,.mem,1,[.s (.int .u16 m_18),.s (.int .i64 m_19),.s (.int .i64 m_20),.s (.int .i64 m_21)]⟩,⟨1,.grow,4,cat prof_Spot.v ([]:List prof_Spot)⟩]) (by kernel_rfl) fun f2 hf2 => ?_
          obtain ⟨c10,h⟩:=as_ok h
          refine mops_adv rfl (v:=.ip ((cat prof_Spot.v l_5).drop ((i_3:Int).toNat*4))) hf2 (by kernel_rfl) (e_ias (n:=l_5.length) (xv:=.sl false l_5.length (cat prof_Spot.v l_5)) (k:=.i64) (iv:=i_3) (p:=.ip ((cat prof_Spot.v l_5).drop ((i_3:Int).toNat*4))) (by kernel_rfl) (by kernel_rfl) (by kernel_rfl) (by kernel_rfl) c10) fun f3 hf3 => ?_
          refine mops_seg [1,2,6,7,8,10,11,12,13,14,61,65] 1 hf3 (l':=[⟨1,[],.s (.int .u16 at_)⟩,⟨2,[],.s (.int .i64 many_)⟩,⟨6,[],.s (.bool false)⟩,⟨7,[],.ptr 0 0 0⟩,⟨8,[],.sl false l_5.length (cat prof_Spot.v l_5)⟩,⟨10,[],.ptr 2 0 0⟩,⟨11,[],.ptr 3 0 0⟩,⟨12,[],.sl false top_1.length (cat prof_Spot.v top_1)⟩,⟨13,[],.s (.bool some_3)⟩,⟨14,[],.s (.int .i64 i_3)⟩,⟨61,[],.s (.int .i64 m_15)⟩,⟨65,[],.ip (((cat prof_Spot.v l_5).drop ((i_3:Int).toNat*4)).drop 1)⟩]) (L':=[⟨0,.res (ProfX l_4),1,[]⟩,⟨1,.grow,4,cat prof_Spot.v ([]:List prof_Spot)⟩,⟨0,.mem,1,[.s (.int .u16 0),.s (.int .i64 m_15),.s (.int .i64 m_16),.s (.int .i64 m_17)]⟩,⟨0,.mem,1,[.s (.int .u16 m_18),.s (.int .i64 m_19),.s (.int .i64 m_20),.s (.int .i64 m_21)]⟩,⟨1,.grow,4,cat prof_Spot.v ([]:List prof_Spot)⟩]) (by kernel_rfl) fun f4 hf4 => ?_
          refine mops_adv rfl (v:=.s (.int .i64 (gt l_5 i_3).Times)) hf4 (by kernel_rfl) (e_load_ip (g:=prof_Spot.v) (l:=l_5) (iv:=i_3) [1] (by kernel_rfl) c10 (by kernel_rfl) (by kernel_rfl)) fun f5 hf5 => ?_
          refine mops_end [1,2,6,7,8,10,11,12,13,14,67,68] hf5 (l':=[⟨1,[],.s (.int .u16 at_)⟩,⟨2,[],.s (.int .i64 many_)⟩,⟨6,[],.s (.bool false)⟩,⟨7,[],.ptr 0 0 0⟩,⟨8,[],.sl false l_5.length (cat prof_Spot.v l_5)⟩,⟨10,[],.ptr 2 0 0⟩,⟨11,[],.ptr 3 0 0⟩,⟨12,[],.sl false top_1.length (cat prof_Spot.v top_1)⟩,⟨13,[],.s (.bool some_3)⟩,⟨14,[],.s (.int .i64 i_3)⟩,⟨67,[],.s (.int .i64 (IntKind.wrap .i64 (m_15+(gt l_5 i_3).Times)))⟩,⟨68,[],.ptr 2 0 1⟩]) (L':=[⟨0,.res (ProfX l_4),1,[]⟩,⟨1,.grow,4,cat prof_Spot.v ([]:List prof_Spot)⟩,⟨0,.mem,1,[.s (.int .u16 0),.s (.int .i64 m_15),.s (.int .i64 m_16),.s (.int .i64 m_17)]⟩,⟨0,.mem,1,[.s (.int .u16 m_18),.s (.int .i64 m_19),.s (.int .i64 m_20),.s (.int .i64 m_21)]⟩,⟨1,.grow,4,cat prof_Spot.v ([]:List prof_Spot)⟩]) (by kernel_rfl) fun f6 hf6 => ?_
          intro _
          refine lw_w (a:=⟨⟨none,(.e (.store 1 (.t 68) (.t 67))),none,[8,7,0,1,2,3,4,5,6,7]⟩,true,0,1⟩) (by kernel_rfl) rfl rfl ?_
          refine mops_end [1,2,6,7,8,10,11,12,13,14] hf6 (l':=[⟨1,[],.s (.int .u16 at_)⟩,⟨2,[],.s (.int .i64 many_)⟩,⟨6,[],.s (.bool false)⟩,⟨7,[],.ptr 0 0 0⟩,⟨8,[],.sl false l_5.length (cat prof_Spot.v l_5)⟩,⟨10,[],.ptr 2 0 0⟩,⟨11,[],.ptr 3 0 0⟩,⟨12,[],.sl false top_1.length (cat prof_Spot.v top_1)⟩,⟨13,[],.s (.bool some_3)⟩,⟨14,[],.s (.int .i64 i_3)⟩]) (L':=[⟨0,.res (ProfX l_4),1,[]⟩,⟨1,.grow,4,cat prof_Spot.v ([]:List prof_Spot)⟩,⟨0,.mem,1,[.s (.int .u16 0),.s (.int .i64 (IntKind.wrap .i64 (m_15+(gt l_5 i_3).Times))),.s (.int .i64 m_16),.s (.int .i64 m_17)]⟩,⟨0,.mem,1,[.s (.int .u16 m_18),.s (.int .i64 m_19),.s (.int .i64 m_20),.s (.int .i64 m_21)]⟩,⟨1,.grow,4,cat prof_Spot.v ([]:List prof_Spot)⟩]) (by kernel_rfl) fun f7 hf7 => ?_
          refine ⟨trivial,?_⟩
          refine lw_end (by kernel_rfl) ?_
          refine k_c ?_
          refine k_seq ?_
          refine k_regw ?_
          refine lw_tight 9 (by kernel_rfl) ?_
          refine mops_seg [1,2,6,7,8,10,11,12,13,14,70,71,72] 4 hf7 (l':=[⟨1,[],.s (.int .u16 at_)⟩,⟨2,[],.s (.int .i64 many_)⟩,⟨6,[],.s (.bool false)⟩,⟨7,[],.ptr 0 0 0⟩,⟨8,[],.sl false l_5.length (cat prof_Spot.v l_5)⟩,⟨10,[],.ptr 2 0 0⟩,⟨11,[],.ptr 3 0 0⟩,⟨12,[],.sl false top_1.length (cat prof_Spot.v top_1)⟩,⟨13,[],.s (.bool some_3)⟩,⟨14,[],.s (.int .i64 i_3)⟩,⟨70,[],.s (.int .i64 m_16)⟩,⟨71,[],.sl false l_5.length (cat prof_Spot.v l_5)⟩,⟨72,[],.s (.int .i64 i_3)⟩]) (L':=[⟨0,.res (ProfX l_4),1,[]⟩,⟨1,.grow,4,cat prof_Spot.v ([]:List prof_Spot)⟩,⟨0,.mem,1,[.s (.int .u16 0),.s (.int .i64 (IntKind.wrap .i64 (m_15+(gt l_5 i_3).Times))),.s (.int .i64 m_16),.s (.int .i64 m_17)]⟩,⟨0,.mem,1,[.s (.int .u16 m_18),.s (.int .i64 m_19),.s (.int .i64 m_20),.s (.int .i64 m_21)]⟩,⟨1,.grow,4,cat prof_Spot.v ([]:List prof_Spot)⟩]) (by kernel_rfl) fun f8 hf8 => ?_
          obtain ⟨c11,h⟩:=as_ok h
          refine mops_adv rfl (v:=.ip ((cat prof_Spot.v l_5).drop ((i_3:Int).toNat*4))) hf8 (by kernel_rfl) (e_ias (n:=l_5.length) (xv:=.sl false l_5.length (cat prof_Spot.v l_5)) (k:=.i64) (iv:=i_3) (p:=.ip ((cat prof_Spot.v l_5).drop ((i_3:Int).toNat*4))) (by kernel_rfl) (by kernel_rfl) (by kernel_rfl) (by kernel_rfl) c11) fun f9 hf9 => ?_
          refine mops_seg [1,2,6,7,8,10,11,12,13,14,70,74] 1 hf9 (l':=[⟨1,[],.s (.int .u16 at_)⟩,⟨2,[],.s (.int .i64 many_)⟩,⟨6,[],.s (.bool false)⟩,⟨7,[],.ptr 0 0 0⟩,⟨8,[],.sl false l_5.length (cat prof_Spot.v l_5)⟩,⟨10,[],.ptr 2 0 0⟩,⟨11,[],.ptr 3 0 0⟩,⟨12,[],.sl false top_1.length (cat prof_Spot.v top_1)⟩,⟨13,[],.s (.bool some_3)⟩,⟨14,[],.s (.int .i64 i_3)⟩,⟨70,[],.s (.int .i64 m_16)⟩,⟨74,[],.ip (((cat prof_Spot.v l_5).drop ((i_3:Int).toNat*4)).drop 2)⟩]) (L':=[⟨0,.res (ProfX l_4),1,[]⟩,⟨1,.grow,4,cat prof_Spot.v ([]:List prof_Spot)⟩,⟨0,.mem,1,[.s (.int .u16 0),.s (.int .i64 (IntKind.wrap .i64 (m_15+(gt l_5 i_3).Times))),.s (.int .i64 m_16),.s (.int .i64 m_17)]⟩,⟨0,.mem,1,[.s (.int .u16 m_18),.s (.int .i64 m_19),.s (.int .i64 m_20),.s (.int .i64 m_21)]⟩,⟨1,.grow,4,cat prof_Spot.v ([]:List prof_Spot)⟩]) (by kernel_rfl) fun f10 hf10 => ?_
          refine mops_adv rfl (v:=.s (.int .i64 (gt l_5 i_3).Cycles)) hf10 (by kernel_rfl) (e_load_ip (g:=prof_Spot.v) (l:=l_5) (iv:=i_3) [2] (by kernel_rfl) c11 (by kernel_rfl) (by kernel_rfl)) fun f11 hf11 => ?_
          refine mops_end [1,2,6,7,8,10,11,12,13,14,76,77] hf11 (l':=[⟨1,[],.s (.int .u16 at_)⟩,⟨2,[],.s (.int .i64 many_)⟩,⟨6,[],.s (.bool false)⟩,⟨7,[],.ptr 0 0 0⟩,⟨8,[],.sl false l_5.length (cat prof_Spot.v l_5)⟩,⟨10,[],.ptr 2 0 0⟩,⟨11,[],.ptr 3 0 0⟩,⟨12,[],.sl false top_1.length (cat prof_Spot.v top_1)⟩,⟨13,[],.s (.bool some_3)⟩,⟨14,[],.s (.int .i64 i_3)⟩,⟨76,[],.s (.int .i64 (IntKind.wrap .i64 (m_16+(gt l_5 i_3).Cycles)))⟩,⟨77,[],.ptr 2 0 2⟩]) (L':=[⟨0,.res (ProfX l_4),1,[]⟩,⟨1,.grow,4,cat prof_Spot.v ([]:List prof_Spot)⟩,⟨0,.mem,1,[.s (.int .u16 0),.s (.int .i64 (IntKind.wrap .i64 (m_15+(gt l_5 i_3).Times))),.s (.int .i64 m_16),.s (.int .i64 m_17)]⟩,⟨0,.mem,1,[.s (.int .u16 m_18),.s (.int .i64 m_19),.s (.int .i64 m_20),.s (.int .i64 m_21)]⟩,⟨1,.grow,4,cat prof_Spot.v ([]:List prof_Spot)⟩]) (by kernel_rfl) fun f12 hf12 => ?_
          intro _
          refine lw_w (a:=⟨⟨none,(.e (.store 1 (.t 77) (.t 76))),none,[8,7,0,1,2,3,4,5,6,7]⟩,true,0,1⟩) (by kernel_rfl) rfl rfl ?_
          refine mops_end [1,2,6,7,8,10,11,12,13,14] hf12 (l':=[⟨1,[],.s (.int .u16 at_)⟩,⟨2,[],.s (.int .i64 many_)⟩,⟨6,[],.s (.bool false)⟩,⟨7,[],.ptr 0 0 0⟩,⟨8,[],.sl false l_5.length (cat prof_Spot.v l_5)⟩,⟨10,[],.ptr 2 0 0⟩,⟨11,[],.ptr 3 0 0⟩,⟨12,[],.sl false top_1.length (cat prof_Spot.v top_1)⟩,⟨13,[],.s (.bool some_3)⟩,⟨14,[],.s (.int .i64 i_3)⟩]) (L':=[⟨0,.res (ProfX l_4),1,[]⟩,⟨1,.grow,4,cat prof_Spot.v ([]:List prof_Spot)⟩,⟨0,.mem,1,[.s (.int .u16 0),.s (.int .i64 (IntKind.wrap .i64 (m_15+(gt l_5 i_3).Times))),.s (.int .i64 (IntKind.wrap .i64 (m_16+(gt l_5 i_3).Cycles))),.s (.int .i64 m_17)]⟩,⟨0,.mem,1,[.s (.int .u16 m_18),.s (.int .i64 m_19),.s (.int .i64 m_20),.s (.int .i64 m_21)]⟩,⟨1,.grow,4,cat prof_Spot.v ([]:List prof_Spot)⟩]) (by kernel_rfl) fun f13 hf13 => ?_
          refine ⟨trivial,?_⟩
          refine lw_end (by kernel_rfl) ?_
          refine k_c ?_
          refine k_seq ?_
          refine k_regw ?_
          refine lw_tight 9 (by kernel_rfl) ?_
          refine mops_seg [1,2,6,7,8,10,11,12,13,14,79,80,81] 4 hf13 (l':=[⟨1,[],.s (.int .u16 at_)⟩,⟨2,[],.s (.int .i64 many_)⟩,⟨6,[],.s (.bool false)⟩,⟨7,[],.ptr 0 0 0⟩,⟨8,[],.sl false l_5.length (cat prof_Spot.v l_5)⟩,⟨10,[],.ptr 2 0 0⟩,⟨11,[],.ptr 3 0 0⟩,⟨12,[],.sl false top_1.length (cat prof_Spot.v top_1)⟩,⟨13,[],.s (.bool some_3)⟩,⟨14,[],.s (.int .i64 i_3)⟩,⟨79,[],.s (.int .i64 m_17)⟩,⟨80,[],.sl false l_5.length (cat prof_Spot.v l_5)⟩,⟨81,[],.s (.int .i64 i_3)⟩]) (L':=[⟨0,.res (ProfX l_4),1,[]⟩,⟨1,.grow,4,cat prof_Spot.v ([]:List prof_Spot)⟩,⟨0,.mem,1,[.s (.int .u16 0),.s (.int .i64 (IntKind.wrap .i64 (m_15+(gt l_5 i_3).Times))),.s (.int .i64 (IntKind.wrap .i64 (m_16+(gt l_5 i_3).Cycles))),.s (.int .i64 m_17)]⟩,⟨0,.mem,1,[.s (.int .u16 m_18),.s (.int .i64 m_19),.s (.int .i64 m_20),.s (.int .i64 m_21)]⟩,⟨1,.grow,4,cat prof_Spot.v ([]:List prof_Spot)⟩]) (by kernel_rfl) fun f14 hf14 => ?_
          obtain ⟨c12,h⟩:=as_ok h
          refine mops_adv rfl (v:=.ip ((cat prof_Spot.v l_5).drop ((i_3:Int).toNat*4))) hf14 (by kernel_rfl) (e_ias (n:=l_5.length) (xv:=.sl false l_5.length (cat prof_Spot.v l_5)) (k:=.i64) (iv:=i_3) (p:=.ip ((cat prof_Spot.v l_5).drop ((i_3:Int).toNat*4))) (by kernel_rfl) (by kernel_rfl) (by kernel_rfl) (by kernel_rfl) c12) fun f15 hf15 => ?_
          refine mops_seg [1,2,6,7,8,10,11,12,13,14,79,83] 1 hf15 (l':=[⟨1,[],.s (.int .u16 at_)⟩,⟨2,[],.s (.int .i64 many_)⟩,⟨6,[],.s (.bool false)⟩,⟨7,[],.ptr 0 0 0⟩,⟨8,[],.sl false l_5.length (cat prof_Spot.v l_5)⟩,⟨10,[],.ptr 2 0 0⟩,⟨11,[],.ptr 3 0 0⟩,⟨12,[],.sl false top_1.length (cat prof_Spot.v top_1)⟩,⟨13,[],.s (.bool some_3)⟩,⟨14,[],.s (.int .i64 i_3)⟩,⟨79,[],.s (.int .i64 m_17)⟩,⟨83,[],.ip (((cat prof_Spot.v l_5).drop ((i_3:Int).toNat*4)).drop 3)⟩]) (L':=[⟨0,.res (ProfX l_4),1,[]⟩,⟨1,.grow,4,cat prof_Spot.v ([]:List prof_Spot)⟩,⟨0,.mem,1,[.s (.int .u16 0),.s (.int .i64 (IntKind.wrap .i64 (m_15+(gt l_5 i_3).Times))),.s (.int .i64 (IntKind.wrap .i64 (m_16+(gt l_5 i_3).Cycles))),.s (.int .i64 m_17)]⟩,⟨0,.mem,1,[.s (.int .u16 m_18),.s (.int .i64 m_19),.s (.int .i64 m_20),.s (.int .i64 m_21)]⟩,⟨1,.grow,4,cat prof_Spot.v ([]:List prof_Spot)⟩]) (by kernel_rfl) fun f16 hf16 => ?_
          refine mops_adv rfl (v:=.s (.int .i64 (gt l_5 i_3).Lost)) hf16 (by kernel_rfl) (e_load_ip (g:=prof_Spot.v) (l:=l_5) (iv:=i_3) [3] (by kernel_rfl) c12 (by kernel_rfl) (by kernel_rfl)) fun f17 hf17 => ?_
          refine mops_end [1,2,6,7,8,10,11,12,13,14,85,86] hf17 (l':=[⟨1,[],.s (.int .u16 at_)⟩,⟨2,[],.s (.int .i64 many_)⟩,⟨6,[],.s (.bool false)⟩,⟨7,[],.ptr 0 0 0⟩,⟨8,[],.sl false l_5.length (cat prof_Spot.v l_5)⟩,⟨10,[],.ptr 2 0 0⟩,⟨11,[],.ptr 3 0 0⟩,⟨12,[],.sl false top_1.length (cat prof_Spot.v top_1)⟩,⟨13,[],.s (.bool some_3)⟩,⟨14,[],.s (.int .i64 i_3)⟩,⟨85,[],.s (.int .i64 (IntKind.wrap .i64 (m_17+(gt l_5 i_3).Lost)))⟩,⟨86,[],.ptr 2 0 3⟩]) (L':=[⟨0,.res (ProfX l_4),1,[]⟩,⟨1,.grow,4,cat prof_Spot.v ([]:List prof_Spot)⟩,⟨0,.mem,1,[.s (.int .u16 0),.s (.int .i64 (IntKind.wrap .i64 (m_15+(gt l_5 i_3).Times))),.s (.int .i64 (IntKind.wrap .i64 (m_16+(gt l_5 i_3).Cycles))),.s (.int .i64 m_17)]⟩,⟨0,.mem,1,[.s (.int .u16 m_18),.s (.int .i64 m_19),.s (.int .i64 m_20),.s (.int .i64 m_21)]⟩,⟨1,.grow,4,cat prof_Spot.v ([]:List prof_Spot)⟩]) (by kernel_rfl) fun f18 hf18 => ?_
          intro _
          refine lw_w (a:=⟨⟨none,(.e (.store 1 (.t 86) (.t 85))),none,[8,7,0,1,2,3,4,5,6,7]⟩,true,0,1⟩) (by kernel_rfl) rfl rfl ?_
          refine mops_end [1,2,6,7,8,10,11,12,13,14] hf18 (l':=[⟨1,[],.s (.int .u16 at_)⟩,⟨2,[],.s (.int .i64 many_)⟩,⟨6,[],.s (.bool false)⟩,⟨7,[],.ptr 0 0 0⟩,⟨8,[],.sl false l_5.length (cat prof_Spot.v l_5)⟩,⟨10,[],.ptr 2 0 0⟩,⟨11,[],.ptr 3 0 0⟩,⟨12,[],.sl false top_1.length (cat prof_Spot.v top_1)⟩,⟨13,[],.s (.bool some_3)⟩,⟨14,[],.s (.int .i64 i_3)⟩]) (L':=[⟨0,.res (ProfX l_4),1,[]⟩,⟨1,.grow,4,cat prof_Spot.v ([]:List prof_Spot)⟩,⟨0,.mem,1,[.s (.int .u16 0),.s (.int .i64 (IntKind.wrap .i64 (m_15+(gt l_5 i_3).Times))),.s (.int .i64 (IntKind.wrap .i64 (m_16+(gt l_5 i_3).Cycles))),.s (.int .i64 (IntKind.wrap .i64 (m_17+(gt l_5 i_3).Lost)))]⟩,⟨0,.mem,1,[.s (.int .u16 m_18),.s (.int .i64 m_19),.s (.int .i64 m_20),.s (.int .i64 m_21)]⟩,⟨1,.grow,4,cat prof_Spot.v ([]:List prof_Spot)⟩]) (by kernel_rfl) fun f19 hf19 => ?_
          refine ⟨trivial,?_⟩
          refine lw_end (by kernel_rfl) ?_
          refine k_c ?_
          refine k_seq ?_
          refine k_seq ?_
          refine k_reg ?_
          refine mops_sg 2 hf19 (by kernel_rfl) fun f20 hf20 => ?_
          obtain ⟨c13,h⟩:=as_ok h
          refine mops_adv rfl (v:=.ip ((cat prof_Spot.v l_5).drop ((i_3:Int).toNat*4))) hf20 (by kernel_rfl) (e_ias (n:=l_5.length) (xv:=.sl false l_5.length (cat prof_Spot.v l_5)) (k:=.i64) (iv:=i_3) (p:=.ip ((cat prof_Spot.v l_5).drop ((i_3:Int).toNat*4))) (by kernel_rfl) (by kernel_rfl) (by kernel_rfl) (by kernel_rfl) c13) fun f21 hf21 => ?_
          refine mops_sg 1 hf21 (by kernel_rfl) fun f22 hf22 => ?_
          refine mops_adv rfl (v:=.s (.int .u16 (gt l_5 i_3).At)) hf22 (by kernel_rfl) (e_load_ip (g:=prof_Spot.v) (l:=l_5) (iv:=i_3) [0] (by kernel_rfl) c13 (by kernel_rfl) (by kernel_rfl)) fun f23 hf23 => ?_
          refine mops_en hf23 (by kernel_rfl) fun f24 hf24 => ?_
          refine k_c ?_
          have hj1:∀ (m_29:Int) (m_30:Int) (m_31:Int) (m_32:Int) (some_5:Bool),spinetlaw53_ProfCounts_j0 ((spinetlaw53_ProfCounts_l5 at_ l_5 n1)) l_5 m_15 m_16 m_17 top_1 i_3 m_29 m_30 m_31 m_32 some_5=some o1→∀ f,FOk f [⟨1,[],.s (.int .u16 at_)⟩,⟨2,[],.s (.int .i64 many_)⟩,⟨6,[],.s (.bool false)⟩,⟨7,[],.ptr 0 0 0⟩,⟨8,[],.sl false l_5.length (cat prof_Spot.v l_5)⟩,⟨10,[],.ptr 2 0 0⟩,⟨11,[],.ptr 3 0 0⟩,⟨12,[],.sl false top_1.length (cat prof_Spot.v top_1)⟩,⟨13,[],.s (.bool some_5)⟩,⟨14,[],.s (.int .i64 i_3)⟩]→kont Try.prog [] (spinetlaw53_ProfCounts_C r) ((.c spinetlaw53_ProfCounts_i44)::(.b 3)::(.c spinetlaw53_ProfCounts_i49)::(.l R1)::(.b 2)::(.c spinetlaw53_ProfCounts_i66)::[]) .normal f [⟨0,.res (ProfX l_4),1,[]⟩,⟨1,.grow,4,cat prof_Spot.v ([]:List prof_Spot)⟩,⟨0,.mem,1,[.s (.int .u16 0),.s (.int .i64 (IntKind.wrap .i64 (m_15+(gt l_5 i_3).Times))),.s (.int .i64 (IntKind.wrap .i64 (m_16+(gt l_5 i_3).Cycles))),.s (.int .i64 (IntKind.wrap .i64 (m_17+(gt l_5 i_3).Lost)))]⟩,⟨0,.mem,1,[.s (.int .u16 m_29),.s (.int .i64 m_30),.s (.int .i64 m_31),.s (.int .i64 m_32)]⟩,⟨1,.grow,4,cat prof_Spot.v ([]:List prof_Spot)⟩]:=by
            intro m_29 m_30 m_31 m_32 some_5 h f hf
            unfold spinetlaw53_ProfCounts_j0 at h
            refine k_c ?_
            refine k_seq ?_
            refine k_reg ?_
            refine mops_en hf (by kernel_rfl) fun f1 hf1 => ?_
            refine k_c ?_
            refine k_seq ?_
            refine k_block ?_
            obtain ⟨o2,hx2,h⟩:=Option.bind_eq_some_iff.1 h
            have hgo2:∀ (k_8:Int),k_8=o2→∀ f,FOk f [⟨1,[],.s (.int .u16 at_)⟩,⟨2,[],.s (.int .i64 many_)⟩,⟨6,[],.s (.bool false)⟩,⟨7,[],.ptr 0 0 0⟩,⟨8,[],.sl false l_5.length (cat prof_Spot.v l_5)⟩,⟨10,[],.ptr 2 0 0⟩,⟨11,[],.ptr 3 0 0⟩,⟨12,[],.sl false top_1.length (cat prof_Spot.v top_1)⟩,⟨13,[],.s (.bool some_5)⟩,⟨14,[],.s (.int .i64 i_3)⟩,⟨15,[],.s (.int .i64 k_8)⟩]→kont Try.prog [] (spinetlaw53_ProfCounts_C r) ((.c spinetlaw53_ProfCounts_i42)::(.b 3)::(.c spinetlaw53_ProfCounts_i49)::(.l R1)::(.b 2)::(.c spinetlaw53_ProfCounts_i66)::[]) .normal f [⟨0,.res (ProfX l_4),1,[]⟩,⟨1,.grow,4,cat prof_Spot.v ([]:List prof_Spot)⟩,⟨0,.mem,1,[.s (.int .u16 0),.s (.int .i64 (IntKind.wrap .i64 (m_15+(gt l_5 i_3).Times))),.s (.int .i64 (IntKind.wrap .i64 (m_16+(gt l_5 i_3).Cycles))),.s (.int .i64 (IntKind.wrap .i64 (m_17+(gt l_5 i_3).Lost)))]⟩,⟨0,.mem,1,[.s (.int .u16 m_29),.s (.int .i64 m_30),.s (.int .i64 m_31),.s (.int .i64 m_32)]⟩,⟨1,.grow,4,cat prof_Spot.v ([]:List prof_Spot)⟩]:=by
              intro k_8 e f hf
              subst e
              refine k_c ?_
              refine k_regw ?_
              refine lw_tight 14 (by kernel_rfl) ?_
              refine mops_seg [1,2,6,7,8,10,11,12,13,14,15,116,117] 2 hf (l':=[⟨1,[],.s (.int .u16 at_)⟩,⟨2,[],.s (.int .i64 many_)⟩,⟨6,[],.s (.bool false)⟩,⟨7,[],.ptr 0 0 0⟩,⟨8,[],.sl false l_5.length (cat prof_Spot.v l_5)⟩,⟨10,[],.ptr 2 0 0⟩,⟨11,[],.ptr 3 0 0⟩,⟨12,[],.sl false top_1.length (cat prof_Spot.v top_1)⟩,⟨13,[],.s (.bool some_5)⟩,⟨14,[],.s (.int .i64 i_3)⟩,⟨15,[],.s (.int .i64 k_8)⟩,⟨116,[],.sl false top_1.length (cat prof_Spot.v top_1)⟩,⟨117,[],.s (.int .i64 k_8)⟩]) (L':=[⟨0,.res (ProfX l_4),1,[]⟩,⟨1,.grow,4,cat prof_Spot.v ([]:List prof_Spot)⟩,⟨0,.mem,1,[.s (.int .u16 0),.s (.int .i64 (IntKind.wrap .i64 (m_15+(gt l_5 i_3).Times))),.s (.int .i64 (IntKind.wrap .i64 (m_16+(gt l_5 i_3).Cycles))),.s (.int .i64 (IntKind.wrap .i64 (m_17+(gt l_5 i_3).Lost)))]⟩,⟨0,.mem,1,[.s (.int .u16 m_29),.s (.int .i64 m_30),.s (.int .i64 m_31),.s (.int .i64 m_32)]⟩,⟨1,.grow,4,cat prof_Spot.v ([]:List prof_Spot)⟩]) (by kernel_rfl) fun f1 hf1 => ?_
              obtain ⟨c24,h⟩:=as_ok h
              refine mops_adv rfl (v:=.sl (false&&(k_8:Int).toNat == top_1.length) ((k_8:Int).toNat - 0) (cat prof_Spot.v (top_1.drop 0))) hf1 (by kernel_rfl) (e_slice_sl (g:=prof_Spot.v) (l:=top_1) (n:=top_1.length) (u:=false) (by kernel_rfl) (b_ns (k:=.i64) (iv:=k_8) (by kernel_rfl) c24)) fun f2 hf2 => ?_
              refine mops_seg [1,2,6,7,8,10,11,12,13,14,15,118,119,120] 2 hf2 (l':=[⟨1,[],.s (.int .u16 at_)⟩,⟨2,[],.s (.int .i64 many_)⟩,⟨6,[],.s (.bool false)⟩,⟨7,[],.ptr 0 0 0⟩,⟨8,[],.sl false l_5.length (cat prof_Spot.v l_5)⟩,⟨10,[],.ptr 2 0 0⟩,⟨11,[],.ptr 3 0 0⟩,⟨12,[],.sl false top_1.length (cat prof_Spot.v top_1)⟩,⟨13,[],.s (.bool some_5)⟩,⟨14,[],.s (.int .i64 i_3)⟩,⟨15,[],.s (.int .i64 k_8)⟩,⟨118,[],.sl (false&&(k_8:Int).toNat == top_1.length) ((k_8:Int).toNat - 0) (cat prof_Spot.v (top_1.drop 0))⟩,⟨119,[],.sl false l_5.length (cat prof_Spot.v l_5)⟩,⟨120,[],.s (.int .i64 i_3)⟩]) (L':=[⟨0,.res (ProfX l_4),1,[]⟩,⟨1,.grow,4,cat prof_Spot.v ([]:List prof_Spot)⟩,⟨0,.mem,1,[.s (.int .u16 0),.s (.int .i64 (IntKind.wrap .i64 (m_15+(gt l_5 i_3).Times))),.s (.int .i64 (IntKind.wrap .i64 (m_16+(gt l_5 i_3).Cycles))),.s (.int .i64 (IntKind.wrap .i64 (m_17+(gt l_5 i_3).Lost)))]⟩,⟨0,.mem,1,[.s (.int .u16 m_29),.s (.int .i64 m_30),.s (.int .i64 m_31),.s (.int .i64 m_32)]⟩,⟨1,.grow,4,cat prof_Spot.v ([]:List prof_Spot)⟩]) (by kernel_rfl) fun f3 hf3 => ?_
              obtain ⟨c25,h⟩:=as_ok h
              refine mops_adv rfl (v:=.ip ((cat prof_Spot.v l_5).drop ((i_3:Int).toNat*4))) hf3 (by kernel_rfl) (e_ias (n:=l_5.length) (xv:=.sl false l_5.length (cat prof_Spot.v l_5)) (k:=.i64) (iv:=i_3) (p:=.ip ((cat prof_Spot.v l_5).drop ((i_3:Int).toNat*4))) (by kernel_rfl) (by kernel_rfl) (by kernel_rfl) (by kernel_rfl) c25) fun f4 hf4 => ?_
              refine mops_adv rfl (v:=.agg [.s (.int .u16 (gt l_5 i_3).At),.s (.int .i64 (gt l_5 i_3).Times),.s (.int .i64 (gt l_5 i_3).Cycles),.s (.int .i64 (gt l_5 i_3).Lost)]) hf4 (by kernel_rfl) (e_load_ip (g:=prof_Spot.v) (l:=l_5) (iv:=i_3) [] (by kernel_rfl) c25 (by kernel_rfl) (by kernel_rfl)) fun f5 hf5 => ?_
              refine mops_seg [1,2,6,7,8,10,11,12,13,14,118,123,124,125] 3 hf5 (l':=[⟨1,[],.s (.int .u16 at_)⟩,⟨2,[],.s (.int .i64 many_)⟩,⟨6,[],.s (.bool false)⟩,⟨7,[],.ptr 0 0 0⟩,⟨8,[],.sl false l_5.length (cat prof_Spot.v l_5)⟩,⟨10,[],.ptr 2 0 0⟩,⟨11,[],.ptr 3 0 0⟩,⟨12,[],.sl false top_1.length (cat prof_Spot.v top_1)⟩,⟨13,[],.s (.bool some_5)⟩,⟨14,[],.s (.int .i64 i_3)⟩,⟨118,[],.sl (false&&(k_8:Int).toNat == top_1.length) ((k_8:Int).toNat - 0) (cat prof_Spot.v (top_1.drop 0))⟩,⟨123,[],.sl true 1 [.s (.int .u16 (gt l_5 i_3).At),.s (.int .i64 (gt l_5 i_3).Times),.s (.int .i64 (gt l_5 i_3).Cycles),.s (.int .i64 (gt l_5 i_3).Lost)]⟩,⟨124,[],.sl false top_1.length (cat prof_Spot.v top_1)⟩,⟨125,[],.s (.int .i64 k_8)⟩]) (L':=[⟨0,.res (ProfX l_4),1,[]⟩,⟨1,.grow,4,cat prof_Spot.v ([]:List prof_Spot)⟩,⟨0,.mem,1,[.s (.int .u16 0),.s (.int .i64 (IntKind.wrap .i64 (m_15+(gt l_5 i_3).Times))),.s (.int .i64 (IntKind.wrap .i64 (m_16+(gt l_5 i_3).Cycles))),.s (.int .i64 (IntKind.wrap .i64 (m_17+(gt l_5 i_3).Lost)))]⟩,⟨0,.mem,1,[.s (.int .u16 m_29),.s (.int .i64 m_30),.s (.int .i64 m_31),.s (.int .i64 m_32)]⟩,⟨1,.grow,4,cat prof_Spot.v ([]:List prof_Spot)⟩]) (by kernel_rfl) fun f6 hf6 => ?_
              obtain ⟨c26,h⟩:=as_ok h
              refine mops_adv rfl (v:=.sl (false&&top_1.length == top_1.length) (top_1.length - (k_8:Int).toNat) (cat prof_Spot.v (top_1.drop (k_8:Int).toNat))) hf6 (by kernel_rfl) (e_slice_sl (g:=prof_Spot.v) (l:=top_1) (n:=top_1.length) (u:=false) (by kernel_rfl) (b_sn (k:=.i64) (iv:=k_8) (by kernel_rfl) c26)) fun f7 hf7 => ?_
              refine mops_adv rfl (v:=.sl true 3 [.sl (false&&(k_8:Int).toNat == top_1.length) ((k_8:Int).toNat - 0) (cat prof_Spot.v (top_1.drop 0)),.sl true 1 [.s (.int .u16 (gt l_5 i_3).At),.s (.int .i64 (gt l_5 i_3).Times),.s (.int .i64 (gt l_5 i_3).Cycles),.s (.int .i64 (gt l_5 i_3).Lost)],.sl (false&&top_1.length == top_1.length) (top_1.length - (k_8:Int).toNat) (cat prof_Spot.v (top_1.drop (k_8:Int).toNat))]) hf7 (by kernel_rfl) (e_bsl (by kernel_rfl) (by simp [V.static,statics,cat_stat,dropcat_stat]) (by kernel_rfl)) fun f8 hf8 => ?_
              obtain ⟨r_14,hx_r_14,h⟩:=Option.bind_eq_some_iff.1 h
              refine mops_call rfl hf8 (av:=[.sl true 3 [.sl (false&&(k_8:Int).toNat == top_1.length) ((k_8:Int).toNat - 0) (cat prof_Spot.v (top_1.drop 0)),.sl true 1 [.s (.int .u16 (gt l_5 i_3).At),.s (.int .i64 (gt l_5 i_3).Times),.s (.int .i64 (gt l_5 i_3).Cycles),.s (.int .i64 (gt l_5 i_3).Lost)],.sl (false&&top_1.length == top_1.length) (top_1.length - (k_8:Int).toNat) (cat prof_Spot.v (top_1.drop (k_8:Int).toNat))]]) (by kernel_rfl) (v:=.sl false r_14.length (cat prof_Spot.v r_14)) (CalL.purew (slices_Concat_sl_prof_Spot_prof_Spot_ok [((top_1.drop 0).take ((k_8:Int).toNat - 0)),[(gt l_5 i_3)],((top_1.drop (k_8:Int).toNat).take (top_1.length - (k_8:Int).toNat))] r_14 hx_r_14) (Wks.cons (Wk.slcs (Wks.cons (Wk.part (g:=prof_Spot.v) (cut_le (l:=top_1) (a:=0) (b:=(k_8:Int).toNat) (cut_ns (n:=top_1.length) c24) rfl)) (Wks.cons Wk.slf (Wks.cons (Wk.part (g:=prof_Spot.v) (cut_le (l:=top_1) (a:=(k_8:Int).toNat) (b:=top_1.length) (cut_sn (n:=top_1.length) c26) rfl)) Wks.nil)))) Wks.nil) (by simp [V.static,statics,cat_stat]) (by simp [V.static,statics,cat_stat,slices_Concat_sl_prof_Spot_prof_Spot_V]) (by kernel_rfl)) (fun _=>rfl) fun f9 hf9 => ?_
              refine mops_end [1,2,6,7,8,10,11,12,13,14] hf9 (l':=[⟨1,[],.s (.int .u16 at_)⟩,⟨2,[],.s (.int .i64 many_)⟩,⟨6,[],.s (.bool false)⟩,⟨7,[],.ptr 0 0 0⟩,⟨8,[],.sl false l_5.length (cat prof_Spot.v l_5)⟩,⟨10,[],.ptr 2 0 0⟩,⟨11,[],.ptr 3 0 0⟩,⟨12,[],.sl false r_14.length (cat prof_Spot.v r_14)⟩,⟨13,[],.s (.bool some_5)⟩,⟨14,[],.s (.int .i64 i_3)⟩]) (L':=[⟨0,.res (ProfX l_4),1,[]⟩,⟨1,.grow,4,cat prof_Spot.v ([]:List prof_Spot)⟩,⟨0,.mem,1,[.s (.int .u16 0),.s (.int .i64 (IntKind.wrap .i64 (m_15+(gt l_5 i_3).Times))),.s (.int .i64 (IntKind.wrap .i64 (m_16+(gt l_5 i_3).Cycles))),.s (.int .i64 (IntKind.wrap .i64 (m_17+(gt l_5 i_3).Lost)))]⟩,⟨0,.mem,1,[.s (.int .u16 m_29),.s (.int .i64 m_30),.s (.int .i64 m_31),.s (.int .i64 m_32)]⟩,⟨1,.grow,4,cat prof_Spot.v ([]:List prof_Spot)⟩]) (by kernel_rfl) fun f10 hf10 => ?_
              intro _
              refine lw_end (by kernel_rfl) ?_
              refine k_b ?_
              refine k_c ?_
              refine k_reg ?_
              refine mops_en hf10 (by kernel_rfl) fun f11 hf11 => ?_
              refine k_l ?_
              exact ih _ _ ⟨(IntKind.wrap .i64 (m_15+(gt l_5 i_3).Times)),(IntKind.wrap .i64 (m_16+(gt l_5 i_3).Cycles)),(IntKind.wrap .i64 (m_17+(gt l_5 i_3).Lost)),m_29,m_30,m_31,m_32,r_14,some_5,(IntKind.wrap .i64 (i_3+1)),h,FOk_of [1,2,6,7,8,10,11,12,13,14] hf11 (by kernel_rfl),(by kernel_rfl)⟩
            refine k_loop BIG ?_
            refine loop_ind (fun n f L=>∃ (k_7:Int),spinetlaw53_ProfCounts_l6 l_5 top_1 i_3 n k_7=some o2∧FOk f [⟨1,[],.s (.int .u16 at_)⟩,⟨2,[],.s (.int .i64 many_)⟩,⟨6,[],.s (.bool false)⟩,⟨7,[],.ptr 0 0 0⟩,⟨8,[],.sl false l_5.length (cat prof_Spot.v l_5)⟩,⟨10,[],.ptr 2 0 0⟩,⟨11,[],.ptr 3 0 0⟩,⟨12,[],.sl false top_1.length (cat prof_Spot.v top_1)⟩,⟨13,[],.s (.bool some_5)⟩,⟨14,[],.s (.int .i64 i_3)⟩,⟨15,[],.s (.int .i64 k_7)⟩]∧L=[⟨0,.res (ProfX l_4),1,[]⟩,⟨1,.grow,4,cat prof_Spot.v ([]:List prof_Spot)⟩,⟨0,.mem,1,[.s (.int .u16 0),.s (.int .i64 (IntKind.wrap .i64 (m_15+(gt l_5 i_3).Times))),.s (.int .i64 (IntKind.wrap .i64 (m_16+(gt l_5 i_3).Cycles))),.s (.int .i64 (IntKind.wrap .i64 (m_17+(gt l_5 i_3).Lost)))]⟩,⟨0,.mem,1,[.s (.int .u16 m_29),.s (.int .i64 m_30),.s (.int .i64 m_31),.s (.int .i64 m_32)]⟩,⟨1,.grow,4,cat prof_Spot.v ([]:List prof_Spot)⟩]) ?_ ?_ BIG _ _ ⟨(ln top_1),hx2,FOk_of [1,2,6,7,8,10,11,12,13,14,15] hf1 (by kernel_rfl),(by kernel_rfl)⟩
            · rintro f L ⟨k_7,h,_⟩
              cases (show (none:Option _)=some _ from h)
            · rintro n2 R2 ih f L ⟨k_7,h,hf,rfl⟩
              rw [spinetlaw53_ProfCounts_l6] at h
              refine k_seq ?_
              refine k_seq ?_
              refine k_regq ?_
              refine mops_sg 5 hf (by kernel_rfl) fun f1 hf1 => ?_
              obtain ⟨c16,h⟩:=as_ok h
              refine mops_gadv (dst:=(some 105)) (op:=(.ias 4 (.t 103) (.t 104))) (aft:=[3,4,2]) (t:=102) (w:=true) (ch:=[(102,true)]) (b:=(decide (0 < k_7))) (v:=.ip ((cat prof_Spot.v l_5).drop ((i_3:Int).toNat*4))) (by kernel_rfl) hf1 (by kernel_rfl) (by kernel_rfl) (by kernel_rfl) (fun hb17=>e_ias (n:=l_5.length) (xv:=.sl false l_5.length (cat prof_Spot.v l_5)) (k:=.i64) (iv:=i_3) (p:=.ip ((cat prof_Spot.v l_5).drop ((i_3:Int).toNat*4))) (by kernel_rfl) (by kernel_rfl) (by kernel_rfl) (by kernel_rfl) (c16 hb17)) fun f2 hf2 => ?_
              refine mops_gadv (dst:=(some 106)) (op:=(.load true 4 (.t 105))) (aft:=[5,2]) (t:=102) (w:=true) (ch:=[(102,true)]) (b:=(decide (0 < k_7))) (v:=.agg [.s (.int .u16 (gt l_5 i_3).At),.s (.int .i64 (gt l_5 i_3).Times),.s (.int .i64 (gt l_5 i_3).Cycles),.s (.int .i64 (gt l_5 i_3).Lost)]) (by kernel_rfl) hf2 (by kernel_rfl) (by kernel_rfl) (by kernel_rfl) (fun hb18=>e_load_ip (g:=prof_Spot.v) (l:=l_5) (iv:=i_3) [] (by kernel_rfl) (c16 hb18) (by kernel_rfl) (by kernel_rfl)) fun f3 hf3 => ?_
              refine mops_sg 3 hf3 (by kernel_rfl) fun f4 hf4 => ?_
              obtain ⟨c19,h⟩:=as_ok h
              refine mops_gadv (dst:=(some 110)) (op:=(.ias 4 (.t 107) (.t 109))) (aft:=[7,9,2]) (t:=102) (w:=true) (ch:=[(102,true)]) (b:=(decide (0 < k_7))) (v:=.ip ((cat prof_Spot.v top_1).drop (((IntKind.wrap .i64 (k_7 - 1)):Int).toNat*4))) (by kernel_rfl) hf4 (by kernel_rfl) (by kernel_rfl) (by kernel_rfl) (fun hb20=>e_ias (n:=top_1.length) (xv:=.sl false top_1.length (cat prof_Spot.v top_1)) (k:=.i64) (iv:=(IntKind.wrap .i64 (k_7 - 1))) (p:=.ip ((cat prof_Spot.v top_1).drop (((IntKind.wrap .i64 (k_7 - 1)):Int).toNat*4))) (by kernel_rfl) (by kernel_rfl) (by kernel_rfl) (by kernel_rfl) (c19 hb20)) fun f5 hf5 => ?_
              refine mops_gadv (dst:=(some 111)) (op:=(.load true 4 (.t 110))) (aft:=[10,2]) (t:=102) (w:=true) (ch:=[(102,true)]) (b:=(decide (0 < k_7))) (v:=.agg [.s (.int .u16 (gt top_1 (IntKind.wrap .i64 (k_7 - 1))).At),.s (.int .i64 (gt top_1 (IntKind.wrap .i64 (k_7 - 1))).Times),.s (.int .i64 (gt top_1 (IntKind.wrap .i64 (k_7 - 1))).Cycles),.s (.int .i64 (gt top_1 (IntKind.wrap .i64 (k_7 - 1))).Lost)]) (by kernel_rfl) hf5 (by kernel_rfl) (by kernel_rfl) (by kernel_rfl) (fun hb21=>e_load_ip (g:=prof_Spot.v) (l:=top_1) (iv:=(IntKind.wrap .i64 (k_7 - 1))) [] (by kernel_rfl) (c19 hb21) (by kernel_rfl) (by kernel_rfl)) fun f6 hf6 => ?_
              obtain ⟨r_13,hx_r_13,h⟩:=Option.bind_eq_some_iff.1 h
              refine mops_gcall (dst:=(some 112)) (m:=6) (args:=[(.t 106),(.t 111)]) (aft:=[6,11,2,2]) (t:=102) (w:=true) (ch:=[(102,true)]) (b:=(decide (0 < k_7))) (by kernel_rfl) hf6 (by kernel_rfl) (by kernel_rfl) (av:=[.agg [.s (.int .u16 (gt l_5 i_3).At),.s (.int .i64 (gt l_5 i_3).Times),.s (.int .i64 (gt l_5 i_3).Cycles),.s (.int .i64 (gt l_5 i_3).Lost)],.agg [.s (.int .u16 (gt top_1 (IntKind.wrap .i64 (k_7 - 1))).At),.s (.int .i64 (gt top_1 (IntKind.wrap .i64 (k_7 - 1))).Times),.s (.int .i64 (gt top_1 (IntKind.wrap .i64 (k_7 - 1))).Cycles),.s (.int .i64 (gt top_1 (IntKind.wrap .i64 (k_7 - 1))).Lost)]]) (by kernel_rfl) (v:=.s (.bool r_13)) (by kernel_rfl) (fun hb22=>(CalL.pure (spinetlaw53_before_ok (gt l_5 i_3) (gt top_1 (IntKind.wrap .i64 (k_7 - 1))) r_13 (if_t hx_r_13 hb22)) rfl rfl (Nat.le_of_ble_eq_true (by kernel_rfl)))) fun f7 hf7 => ?_
              refine mops_en hf7 (by kernel_rfl) fun f8 hf8 => ?_
              refine k_c ?_
              refine k_cond hf8 (t:=((decide (0 < k_7))&&r_13)) (by kernel_rfl) (fun hc23 => ?_) (fun hc23 => ?_)
              · have h:=if_t h hc23
                refine k_skip ?_
                refine k_c ?_
                refine k_block ?_
                refine k_reg ?_
                refine mops_en hf8 (by kernel_rfl) fun f9 hf9 => ?_
                refine k_b ?_
                refine k_l ?_
                exact ih _ _ ⟨(IntKind.wrap .i64 (k_7 - 1)),h,FOk_of [1,2,6,7,8,10,11,12,13,14,15] hf9 (by kernel_rfl),(by kernel_rfl)⟩
              · have h:=if_f h hc23
                refine k_exit ?_
                refine x_c nofun ?_
                refine x_l nofun ?_
                refine x_b ?_
                refine k_hp (L':=[⟨0,.res (ProfX l_4),1,[]⟩,⟨1,.grow,4,cat prof_Spot.v ([]:List prof_Spot)⟩,⟨0,.mem,1,[.s (.int .u16 0),.s (.int .i64 (IntKind.wrap .i64 (m_15+(gt l_5 i_3).Times))),.s (.int .i64 (IntKind.wrap .i64 (m_16+(gt l_5 i_3).Cycles))),.s (.int .i64 (IntKind.wrap .i64 (m_17+(gt l_5 i_3).Lost)))]⟩,⟨0,.mem,1,[.s (.int .u16 m_29),.s (.int .i64 m_30),.s (.int .i64 m_31),.s (.int .i64 m_32)]⟩,⟨1,.grow,4,cat prof_Spot.v ([]:List prof_Spot)⟩]) (by kernel_rfl) ?_
                exact hgo2 k_7 (Option.some.inj h) _ (FOk_of [1,2,6,7,8,10,11,12,13,14,15] hf8 (by kernel_rfl))
          refine k_cond hf24 (t:=((gt l_5 i_3).At == at_)) (by kernel_rfl) (fun hc14 => ?_) (fun hc14 => ?_)
          · have h:=if_t h hc14
            refine k_reg ?_
            refine mops_sg 2 hf24 (by kernel_rfl) fun f25 hf25 => ?_
            obtain ⟨c15,h⟩:=as_ok h
            refine mops_adv rfl (v:=.ip ((cat prof_Spot.v l_5).drop ((i_3:Int).toNat*4))) hf25 (by kernel_rfl) (e_ias (n:=l_5.length) (xv:=.sl false l_5.length (cat prof_Spot.v l_5)) (k:=.i64) (iv:=i_3) (p:=.ip ((cat prof_Spot.v l_5).drop ((i_3:Int).toNat*4))) (by kernel_rfl) (by kernel_rfl) (by kernel_rfl) (by kernel_rfl) c15) fun f26 hf26 => ?_
            refine mops_adv rfl (v:=.agg [.s (.int .u16 (gt l_5 i_3).At),.s (.int .i64 (gt l_5 i_3).Times),.s (.int .i64 (gt l_5 i_3).Cycles),.s (.int .i64 (gt l_5 i_3).Lost)]) hf26 (by kernel_rfl) (e_load_ip (g:=prof_Spot.v) (l:=l_5) (iv:=i_3) [] (by kernel_rfl) c15 (by kernel_rfl) (by kernel_rfl)) fun f27 hf27 => ?_
            refine mops_en hf27 (by kernel_rfl) fun f28 hf28 => ?_
            refine k_hp (L':=[⟨0,.res (ProfX l_4),1,[]⟩,⟨1,.grow,4,cat prof_Spot.v ([]:List prof_Spot)⟩,⟨0,.mem,1,[.s (.int .u16 0),.s (.int .i64 (IntKind.wrap .i64 (m_15+(gt l_5 i_3).Times))),.s (.int .i64 (IntKind.wrap .i64 (m_16+(gt l_5 i_3).Cycles))),.s (.int .i64 (IntKind.wrap .i64 (m_17+(gt l_5 i_3).Lost)))]⟩,⟨0,.mem,1,[.s (.int .u16 (gt l_5 i_3).At),.s (.int .i64 (gt l_5 i_3).Times),.s (.int .i64 (gt l_5 i_3).Cycles),.s (.int .i64 (gt l_5 i_3).Lost)]⟩,⟨1,.grow,4,cat prof_Spot.v ([]:List prof_Spot)⟩]) (by kernel_rfl) ?_
            exact hj1 ((gt l_5 i_3).At) ((gt l_5 i_3).Times) ((gt l_5 i_3).Cycles) ((gt l_5 i_3).Lost) true h _ (FOk_of [1,2,6,7,8,10,11,12,13,14] hf28 (by kernel_rfl))
          · have h:=if_f h hc14
            refine k_skip ?_
            refine k_hp (L':=[⟨0,.res (ProfX l_4),1,[]⟩,⟨1,.grow,4,cat prof_Spot.v ([]:List prof_Spot)⟩,⟨0,.mem,1,[.s (.int .u16 0),.s (.int .i64 (IntKind.wrap .i64 (m_15+(gt l_5 i_3).Times))),.s (.int .i64 (IntKind.wrap .i64 (m_16+(gt l_5 i_3).Cycles))),.s (.int .i64 (IntKind.wrap .i64 (m_17+(gt l_5 i_3).Lost)))]⟩,⟨0,.mem,1,[.s (.int .u16 m_18),.s (.int .i64 m_19),.s (.int .i64 m_20),.s (.int .i64 m_21)]⟩,⟨1,.grow,4,cat prof_Spot.v ([]:List prof_Spot)⟩]) (by kernel_rfl) ?_
            exact hj1 m_18 m_19 m_20 m_21 some_3 h _ (FOk_of [1,2,6,7,8,10,11,12,13,14] hf24 (by kernel_rfl))
        · have h:=if_f h hc9
          refine k_exit ?_
          refine x_c nofun ?_
          refine x_l nofun ?_
          refine x_b ?_
          refine k_hp (L':=[⟨0,.res (ProfX l_4),1,[]⟩,⟨1,.grow,4,cat prof_Spot.v ([]:List prof_Spot)⟩,⟨0,.mem,1,[.s (.int .u16 0),.s (.int .i64 m_15),.s (.int .i64 m_16),.s (.int .i64 m_17)]⟩,⟨0,.mem,1,[.s (.int .u16 m_18),.s (.int .i64 m_19),.s (.int .i64 m_20),.s (.int .i64 m_21)]⟩,⟨1,.grow,4,cat prof_Spot.v ([]:List prof_Spot)⟩]) (by kernel_rfl) ?_
          exact hgo1 m_15 m_16 m_17 m_18 m_19 m_20 m_21 top_1 some_3 (Option.some.inj h) _ (FOk_of [1,2,6,7,10,11,12,13] hf1 (by kernel_rfl))
    refine k_loop BIG ?_
    refine loop_ind (fun n f L=>∃ (l_2:ProfT) (l_3:(List prof_Spot)) (i_1:Int),spinetlaw53_ProfCounts_l0 parts_ n l_2 l_3 i_1=some o0∧FOk f [⟨0,[],.sl false parts_.length (cat sl_api_Rec parts_)⟩,⟨1,[],.s (.int .u16 at_)⟩,⟨2,[],.s (.int .i64 many_)⟩,⟨6,[],.s (.bool false)⟩,⟨7,[],.ptr 0 0 0⟩,⟨8,[],.sl false l_3.length (cat prof_Spot.v l_3)⟩,⟨9,[],.s (.int .i64 i_1)⟩]∧L=[⟨0,.res (ProfX l_2),1,[]⟩,⟨1,.grow,4,cat prof_Spot.v ([]:List prof_Spot)⟩]) ?_ ?_ BIG _ _ ⟨([]:ProfT),([]:List prof_Spot),(0),hx0,FOk_of [0,1,2,6,7,8,9] hf6 (by kernel_rfl),(by kernel_rfl)⟩
    · rintro f L ⟨l_2,l_3,i_1,h,_⟩
      cases (show (none:Option _)=some _ from h)
    · rintro n0 R0 ih f L ⟨l_2,l_3,i_1,h,hf,rfl⟩
      rw [spinetlaw53_ProfCounts_l0] at h
      refine k_seq ?_
      refine k_seq ?_
      refine k_reg ?_
      refine mops_en hf (by kernel_rfl) fun f1 hf1 => ?_
      refine k_c ?_
      refine k_cond hf1 (t:=(decide (i_1 < (ln parts_)))) (by kernel_rfl) (fun hc2 => ?_) (fun hc2 => ?_)
      · have h:=if_t h hc2
        refine k_skip ?_
        refine k_c ?_
        refine k_seq ?_
        refine k_block ?_
        refine k_seq ?_
        refine k_seq ?_
        refine k_reg ?_
        refine mops_sg 2 hf1 (by kernel_rfl) fun f2 hf2 => ?_
        obtain ⟨c3,h⟩:=as_ok h
        refine mops_adv rfl (v:=.ip ((cat sl_api_Rec parts_).drop ((i_1:Int).toNat*1))) hf2 (by kernel_rfl) (e_ias (n:=parts_.length) (xv:=.sl false parts_.length (cat sl_api_Rec parts_)) (k:=.i64) (iv:=i_1) (p:=.ip ((cat sl_api_Rec parts_).drop ((i_1:Int).toNat*1))) (by kernel_rfl) (by kernel_rfl) (by kernel_rfl) (by kernel_rfl) c3) fun f3 hf3 => ?_
        refine mops_adv rfl (v:=.sl false (gt parts_ i_1).length (cat api_Rec.v (gt parts_ i_1))) hf3 (by kernel_rfl) (e_load_ip (g:=sl_api_Rec) (l:=parts_) (iv:=i_1) [] (by kernel_rfl) c3 (by kernel_rfl) (by kernel_rfl)) fun f4 hf4 => ?_
        refine mops_en hf4 (by kernel_rfl) fun f5 hf5 => ?_
        refine k_c ?_
        refine k_cond hf5 (t:=(decide (30 < (ln (gt parts_ i_1))))) (by kernel_rfl) (fun hc4 => ?_) (fun hc4 => ?_)
        · have h:=if_t h hc4
          refine k_seq ?_
          refine k_reg ?_
          refine mops_en hf5 (by kernel_rfl) fun f6 hf6 => ?_
          refine k_c ?_
          refine k_ret ?_
          refine x_c nofun ?_
          refine x_br ?_
          refine x_c nofun ?_
          refine x_l nofun ?_
          refine x_br ?_
          refine x_c nofun ?_
          obtain rfl:=hret0 _ (Option.some.inj h)
          exact k_fin (fin_ret (.inl rfl) hf6 (vs:=[.s (.bool true)]) (by kernel_rfl) (SettL.pure (FzL.stat rfl)))
        · have h:=if_f h hc4
          refine k_skip ?_
          refine k_c ?_
          refine k_seq ?_
          refine k_reg ?_
          refine mops_sg 3 hf5 (by kernel_rfl) fun f6 hf6 => ?_
          obtain ⟨c5,h⟩:=as_ok h
          refine mops_adv rfl (v:=.ip ((cat sl_api_Rec parts_).drop ((i_1:Int).toNat*1))) hf6 (by kernel_rfl) (e_ias (n:=parts_.length) (xv:=.sl false parts_.length (cat sl_api_Rec parts_)) (k:=.i64) (iv:=i_1) (p:=.ip ((cat sl_api_Rec parts_).drop ((i_1:Int).toNat*1))) (by kernel_rfl) (by kernel_rfl) (by kernel_rfl) (by kernel_rfl) c5) fun f7 hf7 => ?_
          refine mops_adv rfl (v:=.sl false (gt parts_ i_1).length (cat api_Rec.v (gt parts_ i_1))) hf7 (by kernel_rfl) (e_load_ip (g:=sl_api_Rec) (l:=parts_) (iv:=i_1) [] (by kernel_rfl) c5 (by kernel_rfl) (by kernel_rfl)) fun f8 hf8 => ?_
          refine mops_sg 4 hf8 (by kernel_rfl) fun f9 hf9 => ?_
          refine mops_adv rfl (v:=.sl true 1 [.sl false (gt parts_ i_1).length (cat api_Rec.v (gt parts_ i_1)),.s (.bool ((Int.tmod i_1 2) == 0))]) hf9 (by kernel_rfl) (e_bsl (by kernel_rfl) (by simp [V.static,statics,cat_stat,dropcat_stat]) (by kernel_rfl)) fun f10 hf10 => ?_
          obtain ⟨start_2,hx_start_2,h⟩:=Option.bind_eq_some_iff.1 h
          obtain ⟨own_2,hx_own_2,h⟩:=Option.bind_eq_some_iff.1 h
          obtain ⟨lost_2,hx_lost_2,h⟩:=Option.bind_eq_some_iff.1 h
          obtain ⟨c6,h⟩:=as_ok h
          obtain ⟨c7,h⟩:=as_ok h
          refine mops_call rfl hf10 (av:=[.ptr 0 0 0,.sl true 1 [.sl false (gt parts_ i_1).length (cat api_Rec.v (gt parts_ i_1)),.s (.bool ((Int.tmod i_1 2) == 0))]]) (by kernel_rfl) (v:=.tup []) (L':=[⟨0,.res (ProfX ([(start_2.1,start_2.2,own_2,lost_2)].foldl profAdd l_2)),1,[]⟩,⟨1,.grow,4,cat prof_Spot.v ([]:List prof_Spot)⟩]) (CalL.borrow (M:=[⟨0,.res (ProfX l_2),1,[]⟩]) (M':=[⟨0,.res (ProfX ([(start_2.1,start_2.2,own_2,lost_2)].foldl profAdd l_2)),1,[]⟩]) [0] (prof_Add_con l_2 true ([(.sl false (gt parts_ i_1).length (cat api_Rec.v (gt parts_ i_1)),.s (.bool ((Int.tmod i_1 2) == 0)),start_2.1,start_2.2,own_2,lost_2)]:List PartV) (List.forall_mem_cons.2 ⟨(PartP.of (slice_Part_Start_ok (slice_Part.mk (gt parts_ i_1) ((Int.tmod i_1 2) == 0)) start_2 hx_start_2) (slice_Part_Own_ok (slice_Part.mk (gt parts_ i_1) ((Int.tmod i_1 2) == 0)) own_2 hx_own_2) (slice_Part_Lost_ok (slice_Part.mk (gt parts_ i_1) ((Int.tmod i_1 2) == 0)) lost_2 hx_lost_2) Wk.refl (by simp [V.static,statics,cat_stat,dropcat_stat,slice_Part.v]) (by simp [V.static,statics,cat_stat,dropcat_stat,slice_Part.v]) ⟨_,_,_,rfl⟩ ⟨_,rfl⟩ c6),List.forall_mem_nil _⟩) c7) (by kernel_rfl) (RNs.cons (RN.ptr (by kernel_rfl)) (RNs.cons (RN.stat (by simp [V.static,statics,cat_stat,dropcat_stat])) RNs.nil)) (RN.stat rfl) (RBs.cons (RNs.stat rfl) RBs.nil) (RBs.cons (RNs.stat rfl) RBs.nil) (by kernel_rfl) (by kernel_rfl)) (by intro h; cases h) fun f11 hf11 => ?_
          refine mops_en hf11 (by kernel_rfl) fun f12 hf12 => ?_
          refine k_c ?_
          refine k_reg ?_
          refine mops_sg 3 hf12 (by kernel_rfl) fun f13 hf13 => ?_
          obtain ⟨c8,h⟩:=as_ok h
          refine mops_adv rfl (v:=.ip ((cat sl_api_Rec parts_).drop ((i_1:Int).toNat*1))) hf13 (by kernel_rfl) (e_ias (n:=parts_.length) (xv:=.sl false parts_.length (cat sl_api_Rec parts_)) (k:=.i64) (iv:=i_1) (p:=.ip ((cat sl_api_Rec parts_).drop ((i_1:Int).toNat*1))) (by kernel_rfl) (by kernel_rfl) (by kernel_rfl) (by kernel_rfl) c8) fun f14 hf14 => ?_
          refine mops_adv rfl (v:=.sl false (gt parts_ i_1).length (cat api_Rec.v (gt parts_ i_1))) hf14 (by kernel_rfl) (e_load_ip (g:=sl_api_Rec) (l:=parts_) (iv:=i_1) [] (by kernel_rfl) c8 (by kernel_rfl) (by kernel_rfl)) fun f15 hf15 => ?_
          obtain ⟨r_2,hx_r_2,h⟩:=Option.bind_eq_some_iff.1 h
          refine mops_call rfl hf15 (av:=[.sl false l_3.length (cat prof_Spot.v l_3),.sl false (gt parts_ i_1).length (cat api_Rec.v (gt parts_ i_1))]) (by kernel_rfl) (v:=.sl false r_2.length (cat prof_Spot.v r_2)) (CalL.pure (spinetlaw53_add_ok l_3 (gt parts_ i_1) r_2 hx_r_2) (by simp [V.static,statics,cat_stat]) (by simp [V.static,statics,cat_stat,spinetlaw53_add_V]) (Nat.le_of_ble_eq_true (by kernel_rfl))) (fun _=>rfl) fun f16 hf16 => ?_
          refine mops_en hf16 (by kernel_rfl) fun f17 hf17 => ?_
          refine k_b ?_
          refine k_c ?_
          refine k_reg ?_
          refine mops_en hf17 (by kernel_rfl) fun f18 hf18 => ?_
          refine k_l ?_
          exact ih _ _ ⟨([(start_2.1,start_2.2,own_2,lost_2)].foldl profAdd l_2),r_2,(IntKind.wrap .i64 (i_1+1)),h,FOk_of [0,1,2,6,7,8,9] hf18 (by kernel_rfl),(by kernel_rfl)⟩
      · have h:=if_f h hc2
        refine k_exit ?_
        refine x_c nofun ?_
        refine x_l nofun ?_
        refine x_b ?_
        refine k_hp (L':=[⟨0,.res (ProfX l_2),1,[]⟩,⟨1,.grow,4,cat prof_Spot.v ([]:List prof_Spot)⟩]) (by kernel_rfl) ?_
        exact hgo0 l_2 l_3 (Option.some.inj h) _ (FOk_of [1,2,6,7,8] hf1 (by kernel_rfl))
end Go.Proofs.YtoemlgdlejkliaaK
