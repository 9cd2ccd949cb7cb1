/- The functions, over typed data. Printed by a program of this work. -/
import Derived.Test.YtoemlgdlejkliaaPg
import Derived.Test.YtoemlgdlejkliaaPh
import Derived.Test.YtoemlgdlejkliaaRj
namespace Go.Proofs.YtoemlgdlejkliaaK
set_option linter.unusedVariables false
set_option linter.unusedSimpArgs false
set_option maxHeartbeats 4000000
open Go.RowKit
attribute [local irreducible] dwv mops lops lqops lwops kont iter run runK rk okK ex E1 vals val chain chB sel resF
structure api_Rec where
 Addr:Int
 Data:Int
 Read:Bool
 BA:Bool
 BS:Bool
 LIC:Bool
 AVMA:Bool
 BUSY:Bool
 Mine:Bool
instance:Inhabited api_Rec:=⟨⟨0,0,false,false,false,false,false,false,false⟩⟩
def api_Rec.v (x:api_Rec):List V:=[.s (.int .u16 x.Addr),.s (.int .u8 x.Data),.s (.bool x.Read),.s (.bool x.BA),.s (.bool x.BS),.s (.bool x.LIC),.s (.bool x.AVMA),.s (.bool x.BUSY),.s (.bool x.Mine)]
instance:Cells api_Rec.v 9:=⟨fun _=>rfl,fun _=>rfl,fun _=>rfl⟩
def sl_api_Rec (x:(List api_Rec)):List V:=[.sl false x.length (cat api_Rec.v x)]
instance:Cells sl_api_Rec 1:=⟨fun _=>rfl,fun _=>by simp [sl_api_Rec,statics,V.static,cat_stat],fun _=>rfl⟩
structure slice_Part where
 Recs:(List api_Rec)
 Ended:Bool
instance:Inhabited slice_Part:=⟨⟨[],false⟩⟩
def slice_Part.v (x:slice_Part):List V:=[.sl false x.Recs.length (cat api_Rec.v x.Recs),.s (.bool x.Ended)]
instance:Cells slice_Part.v 2:=⟨fun _=>rfl,fun _=>by simp [slice_Part.v,statics,V.static,cat_stat],fun _=>rfl⟩
structure prof_Spot where
 At:Int
 Times:Int
 Cycles:Int
 Lost:Int
instance:Inhabited prof_Spot:=⟨⟨0,0,0,0⟩⟩
def prof_Spot.v (x:prof_Spot):List V:=[.s (.int .u16 x.At),.s (.int .i64 x.Times),.s (.int .i64 x.Cycles),.s (.int .i64 x.Lost)]
instance:Cells prof_Spot.v 4:=⟨fun _=>rfl,fun _=>rfl,fun _=>rfl⟩
def sl_prof_Spot (x:(List prof_Spot)):List V:=[.sl false x.length (cat prof_Spot.v x)]
instance:Cells sl_prof_Spot 1:=⟨fun _=>rfl,fun _=>by simp [sl_prof_Spot,statics,V.static,cat_stat],fun _=>rfl⟩
def sl_sl_prof_Spot (x:(List (List prof_Spot))):List V:=[.sl false x.length (cat sl_prof_Spot x)]
instance:Cells sl_sl_prof_Spot 1:=⟨fun _=>rfl,fun _=>by simp [sl_sl_prof_Spot,statics,V.static,cat_stat],fun _=>rfl⟩
def sl_sl_api_Rec (x:(List (List api_Rec))):List V:=[.sl false x.length (cat sl_api_Rec x)]
instance:Cells sl_sl_api_Rec 1:=⟨fun _=>rfl,fun _=>by simp [sl_sl_api_Rec,statics,V.static,cat_stat],fun _=>rfl⟩
def slice_Part_Start_l0 (p_:slice_Part):Nat→Int→Option (Out (Int × Bool) (Unit))
 | 0,_=>none
 | k+1,t_1 =>
 if (decide (t_1 < (ln p_.Recs)))=true then
 if 0≤(t_1:Int)∧t_1 < ln p_.Recs then
 if (gt p_.Recs t_1).Mine=true then
 some (.ret ((gt p_.Recs t_1).Addr,true))
 else
 slice_Part_Start_l0 p_ k (IntKind.wrap .i64 (t_1+1))
 else none
 else
 some (.go ())
def slice_Part_Start (p_:slice_Part):Option (Int × Bool) :=
 (slice_Part_Start_l0 p_ BIG (0)).bind fun o=>match o with
 | .ret r=>some r
 | .go _ =>
 some (0,false)
def slice_Part_Own_l0 (p_:slice_Part):Nat→Int→Int→Option Int
 | 0,_,_=>none
 | k+1,n_1,t_1 =>
 if (decide (t_1 < (ln p_.Recs)))=true then
 if 0≤(t_1:Int)∧t_1 < ln p_.Recs then
 if (gt p_.Recs t_1).Mine=true then
 slice_Part_Own_l0 p_ k (IntKind.wrap .i64 (n_1+1)) (IntKind.wrap .i64 (t_1+1))
 else
 slice_Part_Own_l0 p_ k n_1 (IntKind.wrap .i64 (t_1+1))
 else none
 else
 some n_1
def slice_Part_Own (p_:slice_Part):Option (Int) :=
 (slice_Part_Own_l0 p_ BIG (0) (0)).bind fun n_2 =>
 some n_2
def slice_Part_Lost (p_:slice_Part):Option (Int) :=
 (slice_Part_Own p_).bind fun r_ =>
 some (IntKind.wrap .i64 ((ln p_.Recs) - r_))
def spinetlaw53_add_l0 (recs_:(List api_Rec)):Nat→Int→Int→Int→Option (Int × Int)
 | 0,_,_,_=>none
 | k+1,own_1,at_1,i_1 =>
 if (decide (0≤i_1))=true then
 if 0≤(i_1:Int)∧i_1 < ln recs_ then
 if (gt recs_ i_1).Mine=true then
 if 0≤(i_1:Int)∧i_1 < ln recs_ then
 spinetlaw53_add_l0 recs_ k (IntKind.wrap .i64 (own_1+1)) ((gt recs_ i_1).Addr) (IntKind.wrap .i64 (i_1 - 1))
 else none
 else
 spinetlaw53_add_l0 recs_ k own_1 at_1 (IntKind.wrap .i64 (i_1 - 1))
 else none
 else
 some (own_1,at_1)
def spinetlaw53_add_l1 (l_:(List prof_Spot)) (recs_:(List api_Rec)) (own_2:Int) (at_2:Int):Nat→Int→Option (Out ((List prof_Spot)) (Unit))
 | 0,_=>none
 | k+1,i_3 =>
 if (decide (i_3 < (ln l_)))=true then
 if 0≤(i_3:Int)∧i_3 < ln l_ then
 if ((gt l_ i_3).At == at_2)=true then
 if 0≤(i_3:Int)∧i_3 < ln l_ then
 if 0≤(i_3:Int)∧i_3 < ln l_ then
 if 0≤(i_3:Int)∧i_3 < ln (st l_ i_3 (prof_Spot.mk ((gt l_ i_3).At) (IntKind.wrap .i64 ((gt l_ i_3).Times+1)) ((gt l_ i_3).Cycles) ((gt l_ i_3).Lost))) then
 if 0≤(i_3:Int)∧i_3 < ln (st l_ i_3 (prof_Spot.mk ((gt l_ i_3).At) (IntKind.wrap .i64 ((gt l_ i_3).Times+1)) ((gt l_ i_3).Cycles) ((gt l_ i_3).Lost))) then
 if 0≤(i_3:Int)∧i_3 < ln (st (st l_ i_3 (prof_Spot.mk ((gt l_ i_3).At) (IntKind.wrap .i64 ((gt l_ i_3).Times+1)) ((gt l_ i_3).Cycles) ((gt l_ i_3).Lost))) i_3 (prof_Spot.mk ((gt (st l_ i_3 (prof_Spot.mk ((gt l_ i_3).At) (IntKind.wrap .i64 ((gt l_ i_3).Times+1)) ((gt l_ i_3).Cycles) ((gt l_ i_3).Lost))) i_3).At) ((gt (st l_ i_3 (prof_Spot.mk ((gt l_ i_3).At) (IntKind.wrap .i64 ((gt l_ i_3).Times+1)) ((gt l_ i_3).Cycles) ((gt l_ i_3).Lost))) i_3).Times) (IntKind.wrap .i64 ((gt (st l_ i_3 (prof_Spot.mk ((gt l_ i_3).At) (IntKind.wrap .i64 ((gt l_ i_3).Times+1)) ((gt l_ i_3).Cycles) ((gt l_ i_3).Lost))) i_3).Cycles+own_2)) ((gt (st l_ i_3 (prof_Spot.mk ((gt l_ i_3).At) (IntKind.wrap .i64 ((gt l_ i_3).Times+1)) ((gt l_ i_3).Cycles) ((gt l_ i_3).Lost))) i_3).Lost))) then
 if 0≤(i_3:Int)∧i_3 < ln (st (st l_ i_3 (prof_Spot.mk ((gt l_ i_3).At) (IntKind.wrap .i64 ((gt l_ i_3).Times+1)) ((gt l_ i_3).Cycles) ((gt l_ i_3).Lost))) i_3 (prof_Spot.mk ((gt (st l_ i_3 (prof_Spot.mk ((gt l_ i_3).At) (IntKind.wrap .i64 ((gt l_ i_3).Times+1)) ((gt l_ i_3).Cycles) ((gt l_ i_3).Lost))) i_3).At) ((gt (st l_ i_3 (prof_Spot.mk ((gt l_ i_3).At) (IntKind.wrap .i64 ((gt l_ i_3).Times+1)) ((gt l_ i_3).Cycles) ((gt l_ i_3).Lost))) i_3).Times) (IntKind.wrap .i64 ((gt (st l_ i_3 (prof_Spot.mk ((gt l_ i_3).At) (IntKind.wrap .i64 ((gt l_ i_3).Times+1)) ((gt l_ i_3).Cycles) ((gt l_ i_3).Lost))) i_3).Cycles+own_2)) ((gt (st l_ i_3 (prof_Spot.mk ((gt l_ i_3).At) (IntKind.wrap .i64 ((gt l_ i_3).Times+1)) ((gt l_ i_3).Cycles) ((gt l_ i_3).Lost))) i_3).Lost))) then
 some (.ret (st (st (st l_ i_3 (prof_Spot.mk ((gt l_ i_3).At) (IntKind.wrap .i64 ((gt l_ i_3).Times+1)) ((gt l_ i_3).Cycles) ((gt l_ i_3).Lost))) i_3 (prof_Spot.mk ((gt (st l_ i_3 (prof_Spot.mk ((gt l_ i_3).At) (IntKind.wrap .i64 ((gt l_ i_3).Times+1)) ((gt l_ i_3).Cycles) ((gt l_ i_3).Lost))) i_3).At) ((gt (st l_ i_3 (prof_Spot.mk ((gt l_ i_3).At) (IntKind.wrap .i64 ((gt l_ i_3).Times+1)) ((gt l_ i_3).Cycles) ((gt l_ i_3).Lost))) i_3).Times) (IntKind.wrap .i64 ((gt (st l_ i_3 (prof_Spot.mk ((gt l_ i_3).At) (IntKind.wrap .i64 ((gt l_ i_3).Times+1)) ((gt l_ i_3).Cycles) ((gt l_ i_3).Lost))) i_3).Cycles+own_2)) ((gt (st l_ i_3 (prof_Spot.mk ((gt l_ i_3).At) (IntKind.wrap .i64 ((gt l_ i_3).Times+1)) ((gt l_ i_3).Cycles) ((gt l_ i_3).Lost))) i_3).Lost))) i_3 (prof_Spot.mk ((gt (st (st l_ i_3 (prof_Spot.mk ((gt l_ i_3).At) (IntKind.wrap .i64 ((gt l_ i_3).Times+1)) ((gt l_ i_3).Cycles) ((gt l_ i_3).Lost))) i_3 (prof_Spot.mk ((gt (st l_ i_3 (prof_Spot.mk ((gt l_ i_3).At) (IntKind.wrap .i64 ((gt l_ i_3).Times+1)) ((gt l_ i_3).Cycles) ((gt l_ i_3).Lost))) i_3).At) ((gt (st l_ i_3 (prof_Spot.mk ((gt l_ i_3).At) (IntKind.wrap .i64 ((gt l_ i_3).Times+1)) ((gt l_ i_3).Cycles) ((gt l_ i_3).Lost))) i_3).Times) (IntKind.wrap .i64 ((gt (st l_ i_3 (prof_Spot.mk ((gt l_ i_3).At) (IntKind.wrap .i64 ((gt l_ i_3).Times+1)) ((gt l_ i_3).Cycles) ((gt l_ i_3).Lost))) i_3).Cycles+own_2)) ((gt (st l_ i_3 (prof_Spot.mk ((gt l_ i_3).At) (IntKind.wrap .i64 ((gt l_ i_3).Times+1)) ((gt l_ i_3).Cycles) ((gt l_ i_3).Lost))) i_3).Lost))) i_3).At) ((gt (st (st l_ i_3 (prof_Spot.mk ((gt l_ i_3).At) (IntKind.wrap .i64 ((gt l_ i_3).Times+1)) ((gt l_ i_3).Cycles) ((gt l_ i_3).Lost))) i_3 (prof_Spot.mk ((gt (st l_ i_3 (prof_Spot.mk ((gt l_ i_3).At) (IntKind.wrap .i64 ((gt l_ i_3).Times+1)) ((gt l_ i_3).Cycles) ((gt l_ i_3).Lost))) i_3).At) ((gt (st l_ i_3 (prof_Spot.mk ((gt l_ i_3).At) (IntKind.wrap .i64 ((gt l_ i_3).Times+1)) ((gt l_ i_3).Cycles) ((gt l_ i_3).Lost))) i_3).Times) (IntKind.wrap .i64 ((gt (st l_ i_3 (prof_Spot.mk ((gt l_ i_3).At) (IntKind.wrap .i64 ((gt l_ i_3).Times+1)) ((gt l_ i_3).Cycles) ((gt l_ i_3).Lost))) i_3).Cycles+own_2)) ((gt (st l_ i_3 (prof_Spot.mk ((gt l_ i_3).At) (IntKind.wrap .i64 ((gt l_ i_3).Times+1)) ((gt l_ i_3).Cycles) ((gt l_ i_3).Lost))) i_3).Lost))) i_3).Times) ((gt (st (st l_ i_3 (prof_Spot.mk ((gt l_ i_3).At) (IntKind.wrap .i64 ((gt l_ i_3).Times+1)) ((gt l_ i_3).Cycles) ((gt l_ i_3).Lost))) i_3 (prof_Spot.mk ((gt (st l_ i_3 (prof_Spot.mk ((gt l_ i_3).At) (IntKind.wrap .i64 ((gt l_ i_3).Times+1)) ((gt l_ i_3).Cycles) ((gt l_ i_3).Lost))) i_3).At) ((gt (st l_ i_3 (prof_Spot.mk ((gt l_ i_3).At) (IntKind.wrap .i64 ((gt l_ i_3).Times+1)) ((gt l_ i_3).Cycles) ((gt l_ i_3).Lost))) i_3).Times) (IntKind.wrap .i64 ((gt (st l_ i_3 (prof_Spot.mk ((gt l_ i_3).At) (IntKind.wrap .i64 ((gt l_ i_3).Times+1)) ((gt l_ i_3).Cycles) ((gt l_ i_3).Lost))) i_3).Cycles+own_2)) ((gt (st l_ i_3 (prof_Spot.mk ((gt l_ i_3).At) (IntKind.wrap .i64 ((gt l_ i_3).Times+1)) ((gt l_ i_3).Cycles) ((gt l_ i_3).Lost))) i_3).Lost))) i_3).Cycles) (IntKind.wrap .i64 ((gt (st (st l_ i_3 (prof_Spot.mk ((gt l_ i_3).At) (IntKind.wrap .i64 ((gt l_ i_3).Times+1)) ((gt l_ i_3).Cycles) ((gt l_ i_3).Lost))) i_3 (prof_Spot.mk ((gt (st l_ i_3 (prof_Spot.mk ((gt l_ i_3).At) (IntKind.wrap .i64 ((gt l_ i_3).Times+1)) ((gt l_ i_3).Cycles) ((gt l_ i_3).Lost))) i_3).At) ((gt (st l_ i_3 (prof_Spot.mk ((gt l_ i_3).At) (IntKind.wrap .i64 ((gt l_ i_3).Times+1)) ((gt l_ i_3).Cycles) ((gt l_ i_3).Lost))) i_3).Times) (IntKind.wrap .i64 ((gt (st l_ i_3 (prof_Spot.mk ((gt l_ i_3).At) (IntKind.wrap .i64 ((gt l_ i_3).Times+1)) ((gt l_ i_3).Cycles) ((gt l_ i_3).Lost))) i_3).Cycles+own_2)) ((gt (st l_ i_3 (prof_Spot.mk ((gt l_ i_3).At) (IntKind.wrap .i64 ((gt l_ i_3).Times+1)) ((gt l_ i_3).Cycles) ((gt l_ i_3).Lost))) i_3).Lost))) i_3).Lost+(IntKind.wrap .i64 ((ln recs_) - own_2)))))))
 else none
 else none
 else none
 else none
 else none
 else none
 else
 spinetlaw53_add_l1 l_ recs_ own_2 at_2 k (IntKind.wrap .i64 (i_3+1))
 else none
 else
 some (.go ())
def spinetlaw53_add (l_:(List prof_Spot)) (recs_:(List api_Rec)):Option ((List prof_Spot)) :=
 (spinetlaw53_add_l0 recs_ BIG (0) (0) (IntKind.wrap .i64 ((ln recs_) - 1))).bind fun (own_2,at_2) =>
 if (own_2 == 0)=true then
 some l_
 else
 if l_.length*32≤140737488355328 then
 (spinetlaw53_add_l1 l_ recs_ own_2 at_2 BIG (0)).bind fun o=>match o with
 | .ret r=>some r
 | .go _ =>
 if (l_.length+[(prof_Spot.mk at_2 (1) own_2 (IntKind.wrap .i64 ((ln recs_) - own_2)))].length)*32≤140737488355328 then
 some (l_++[(prof_Spot.mk at_2 (1) own_2 (IntKind.wrap .i64 ((ln recs_) - own_2)))])
 else none
 else none
def spinetlaw53_before (a_:prof_Spot) (b_:prof_Spot):Option (Bool) :=
 some ((decide (b_.Cycles < a_.Cycles))||((a_.Cycles == b_.Cycles)&&(decide (a_.At < b_.At))))
def slices_Concat_sl_prof_Spot_prof_Spot_l0 (slices_:(List (List prof_Spot))):Nat→Int→Int→Option Int
 | 0,_,_=>none
 | k+1,size_1,t_1 =>
 if (decide (t_1 < (ln slices_)))=true then
 if 0≤(t_1:Int)∧t_1 < ln slices_ then
 if (decide ((IntKind.wrap .i64 (size_1+(ln (gt slices_ t_1)))) < 0))=true then
 none
 else
 slices_Concat_sl_prof_Spot_prof_Spot_l0 slices_ k (IntKind.wrap .i64 (size_1+(ln (gt slices_ t_1)))) (IntKind.wrap .i64 (t_1+1))
 else none
 else
 some size_1
def slices_Concat_sl_prof_Spot_prof_Spot_l1 (slices_:(List (List prof_Spot))):Nat→(List prof_Spot)→Int→Option (List prof_Spot)
 | 0,_,_=>none
 | k+1,l_1,t_3 =>
 if (decide (t_3 < (ln slices_)))=true then
 if 0≤(t_3:Int)∧t_3 < ln slices_ then
 if (l_1.length+(gt slices_ t_3).length)*32≤140737488355328 then
 slices_Concat_sl_prof_Spot_prof_Spot_l1 slices_ k (l_1++(gt slices_ t_3)) (IntKind.wrap .i64 (t_3+1))
 else none
 else none
 else
 some l_1
def slices_Concat_sl_prof_Spot_prof_Spot (slices_:(List (List prof_Spot))):Option ((List prof_Spot)) :=
 (slices_Concat_sl_prof_Spot_prof_Spot_l0 slices_ BIG (0) (0)).bind fun size_2 =>
 if 0≤(size_2:Int)∧size_2≤(1000000:Int) then
 (slices_Concat_sl_prof_Spot_prof_Spot_l1 slices_ BIG ([]:List prof_Spot) (0)).bind fun l_2 =>
 some l_2
 else none
def slices_Equal_sl_prof_Spot_prof_Spot_l0 (s1_:(List prof_Spot)) (s2_:(List prof_Spot)):Nat→Int→Option (Out (Bool) (Unit))
 | 0,_=>none
 | k+1,t_1 =>
 if (decide (t_1 < (ln s1_)))=true then
 if 0≤(t_1:Int)∧t_1 < ln s1_ then
 if 0≤(t_1:Int)∧t_1 < ln s2_ then
 if (!(((gt s1_ t_1).At == (gt s2_ t_1).At)&&(((gt s1_ t_1).Times == (gt s2_ t_1).Times)&&(((gt s1_ t_1).Cycles == (gt s2_ t_1).Cycles)&&(((gt s1_ t_1).Lost == (gt s2_ t_1).Lost)&&true)))))=true then
 some (.ret false)
 else
 slices_Equal_sl_prof_Spot_prof_Spot_l0 s1_ s2_ k (IntKind.wrap .i64 (t_1+1))
 else none
 else none
 else
 some (.go ())
def slices_Equal_sl_prof_Spot_prof_Spot (s1_:(List prof_Spot)) (s2_:(List prof_Spot)):Option (Bool) :=
 if ((ln s1_) != (ln s2_))=true then
 some false
 else
 (slices_Equal_sl_prof_Spot_prof_Spot_l0 s1_ s2_ BIG (0)).bind fun o=>match o with
 | .ret r=>some r
 | .go _ =>
 some true
def spinetlaw53_alive:Option (Bool) :=
 (slice_Part_Start (slice_Part.mk [(api_Rec.mk (5) (0) false false false false false false true),(api_Rec.mk (5) (0) false false false false false false true)] false)).bind fun start_ =>
 (slice_Part_Own (slice_Part.mk [(api_Rec.mk (5) (0) false false false false false false true),(api_Rec.mk (5) (0) false false false false false false true)] false)).bind fun own_ =>
 (slice_Part_Lost (slice_Part.mk [(api_Rec.mk (5) (0) false false false false false false true),(api_Rec.mk (5) (0) false false false false false false true)] false)).bind fun lost_ =>
 if 0≤(start_.1:Int)∧start_.1 < (65536:Int) then
 (slice_Part_Start (slice_Part.mk [(api_Rec.mk (5) (0) false false false false false false true),(api_Rec.mk (5) (0) false false false false false false true),(api_Rec.mk (5) (0) false false false false false false true)] false)).bind fun start_1 =>
 (slice_Part_Own (slice_Part.mk [(api_Rec.mk (5) (0) false false false false false false true),(api_Rec.mk (5) (0) false false false false false false true),(api_Rec.mk (5) (0) false false false false false false true)] false)).bind fun own_1 =>
 (slice_Part_Lost (slice_Part.mk [(api_Rec.mk (5) (0) false false false false false false true),(api_Rec.mk (5) (0) false false false false false false true),(api_Rec.mk (5) (0) false false false false false false true)] false)).bind fun lost_1 =>
 if 0≤(start_1.1:Int)∧start_1.1 < (65536:Int) then
 if 2≤1000000∧([]:ProfT).length≤1000000 then
 if 0≤((5):Int)∧(5) < (65536:Int) then
 some (((((profGet ([(start_.1,start_.2,own_,lost_),(start_1.1,start_1.2,own_1,lost_1)].foldl profAdd ([]:ProfT)) (5)).getD sp0).1 == 5)&&((((profGet ([(start_.1,start_.2,own_,lost_),(start_1.1,start_1.2,own_1,lost_1)].foldl profAdd ([]:ProfT)) (5)).getD sp0).2.1 == 2)&&((((profGet ([(start_.1,start_.2,own_,lost_),(start_1.1,start_1.2,own_1,lost_1)].foldl profAdd ([]:ProfT)) (5)).getD sp0).2.2.1 == 5)&&((((profGet ([(start_.1,start_.2,own_,lost_),(start_1.1,start_1.2,own_1,lost_1)].foldl profAdd ([]:ProfT)) (5)).getD sp0).2.2.2 == 0)&&true))))&&(profGet ([(start_.1,start_.2,own_,lost_),(start_1.1,start_1.2,own_1,lost_1)].foldl profAdd ([]:ProfT)) (5)).isSome)
 else none
 else none
 else none
 else none
def spinetlaw53_ProfCounts_l0 (parts_:(List (List api_Rec))):Nat→ProfT→(List prof_Spot)→Int→Option (Out (Bool) (ProfT × (List prof_Spot)))
 | 0,_,_,_=>none
 | k+1,l_2,l_3,i_1 =>
 if (decide (i_1 < (ln parts_)))=true then
 if 0≤(i_1:Int)∧i_1 < ln parts_ then
 if (decide (30 < (ln (gt parts_ i_1))))=true then
 some (.ret true)
 else
 if 0≤(i_1:Int)∧i_1 < ln parts_ then
 (slice_Part_Start (slice_Part.mk (gt parts_ i_1) ((Int.tmod i_1 2) == 0))).bind fun start_2 =>
 (slice_Part_Own (slice_Part.mk (gt parts_ i_1) ((Int.tmod i_1 2) == 0))).bind fun own_2 =>
 (slice_Part_Lost (slice_Part.mk (gt parts_ i_1) ((Int.tmod i_1 2) == 0))).bind fun lost_2 =>
 if 0≤(start_2.1:Int)∧start_2.1 < (65536:Int) then
 if 1≤1000000∧l_2.length≤1000000 then
 if 0≤(i_1:Int)∧i_1 < ln parts_ then
 (spinetlaw53_add l_3 (gt parts_ i_1)).bind fun r_2 =>
 spinetlaw53_ProfCounts_l0 parts_ k ([(start_2.1,start_2.2,own_2,lost_2)].foldl profAdd l_2) r_2 (IntKind.wrap .i64 (i_1+1))
 else none
 else none
 else none
 else none
 else none
 else
 some (.go (l_2,l_3))
def spinetlaw53_ProfCounts_l6 (l_5:(List prof_Spot)) (top_1:(List prof_Spot)) (i_3:Int):Nat→Int→Option Int
 | 0,_=>none
 | k+1,k_7 =>
 if (decide (0 < k_7))=true→0≤(i_3:Int)∧i_3 < ln l_5 then
 if (decide (0 < k_7))=true→0≤((IntKind.wrap .i64 (k_7 - 1)):Int)∧(IntKind.wrap .i64 (k_7 - 1)) < ln top_1 then
 ((if (decide (0 < k_7))=true then spinetlaw53_before (gt l_5 i_3) (gt top_1 (IntKind.wrap .i64 (k_7 - 1))) else some default)).bind fun r_13 =>
 if ((decide (0 < k_7))&&r_13)=true then
 spinetlaw53_ProfCounts_l6 l_5 top_1 i_3 k (IntKind.wrap .i64 (k_7 - 1))
 else
 some k_7
 else none
 else none
def spinetlaw53_ProfCounts_j0 (rec:Int→Int→Int→Int→Int→Int→Int→(List prof_Spot)→Bool→Int→Option (Int × Int × Int × Int × Int × Int × Int × (List prof_Spot) × Bool)) (l_5:(List prof_Spot)) (m_15:Int) (m_16:Int) (m_17:Int) (top_1:(List prof_Spot)) (i_3:Int) (m_29:Int) (m_30:Int) (m_31:Int) (m_32:Int) (some_5:Bool):Option (Int × Int × Int × Int × Int × Int × Int × (List prof_Spot) × Bool) :=
 (spinetlaw53_ProfCounts_l6 l_5 top_1 i_3 BIG (ln top_1)).bind fun k_8 =>
 if 0≤(k_8:Int)∧k_8≤(ln top_1) then
 if 0≤(i_3:Int)∧i_3 < ln l_5 then
 if 0≤(k_8:Int)∧k_8≤(ln top_1) then
 (slices_Concat_sl_prof_Spot_prof_Spot [((top_1.drop 0).take ((k_8:Int).toNat - 0)),[(gt l_5 i_3)],((top_1.drop (k_8:Int).toNat).take (top_1.length - (k_8:Int).toNat))]).bind fun r_14 =>
 rec (IntKind.wrap .i64 (m_15+(gt l_5 i_3).Times)) (IntKind.wrap .i64 (m_16+(gt l_5 i_3).Cycles)) (IntKind.wrap .i64 (m_17+(gt l_5 i_3).Lost)) m_29 m_30 m_31 m_32 r_14 some_5 (IntKind.wrap .i64 (i_3+1))
 else none
 else none
 else none
def spinetlaw53_ProfCounts_l5 (at_:Int) (l_5:(List prof_Spot)):Nat→Int→Int→Int→Int→Int→Int→Int→(List prof_Spot)→Bool→Int→Option (Int × Int × Int × Int × Int × Int × Int × (List prof_Spot) × Bool)
 | 0,_,_,_,_,_,_,_,_,_,_=>none
 | k+1,m_15,m_16,m_17,m_18,m_19,m_20,m_21,top_1,some_3,i_3 =>
 if (decide (i_3 < (ln l_5)))=true then
 if 0≤(i_3:Int)∧i_3 < ln l_5 then
 if 0≤(i_3:Int)∧i_3 < ln l_5 then
 if 0≤(i_3:Int)∧i_3 < ln l_5 then
 if 0≤(i_3:Int)∧i_3 < ln l_5 then
 if ((gt l_5 i_3).At == at_)=true then
 if 0≤(i_3:Int)∧i_3 < ln l_5 then
 spinetlaw53_ProfCounts_j0 (spinetlaw53_ProfCounts_l5 at_ l_5 k) l_5 m_15 m_16 m_17 top_1 i_3 ((gt l_5 i_3).At) ((gt l_5 i_3).Times) ((gt l_5 i_3).Cycles) ((gt l_5 i_3).Lost) true
 else none
 else
 spinetlaw53_ProfCounts_j0 (spinetlaw53_ProfCounts_l5 at_ l_5 k) l_5 m_15 m_16 m_17 top_1 i_3 m_18 m_19 m_20 m_21 some_3
 else none
 else none
 else none
 else none
 else
 some (m_15,m_16,m_17,m_18,m_19,m_20,m_21,top_1,some_3)
def spinetlaw53_ProfCounts (parts_:(List (List api_Rec))) (at_:Int) (many_:Int):Option (Bool) :=
 if (decide (60 < (ln parts_)))=true then
 some true
 else
 (spinetlaw53_ProfCounts_l0 parts_ BIG ([]:ProfT) ([]:List prof_Spot) (0)).bind fun o=>match o with
 | .ret r=>some r
 | .go (l_4,l_5) =>
 (spinetlaw53_ProfCounts_l5 at_ l_5 BIG (0) (0) (0) (0) (0) (0) (0) ([]:List prof_Spot) false (0)).bind fun (m_22,m_23,m_24,m_25,m_26,m_27,m_28,top_2,some_4) =>
 if 0≤(at_:Int)∧at_ < (65536:Int) then
 if (!(((!((((profGet l_4 at_).getD sp0).1 == m_25)&&((((profGet l_4 at_).getD sp0).2.1 == m_26)&&((((profGet l_4 at_).getD sp0).2.2.1 == m_27)&&((((profGet l_4 at_).getD sp0).2.2.2 == m_28)&&true)))))||(!((profGet l_4 at_).isSome == some_4)))||(!(((profSum l_4).1 == 0)&&(((profSum l_4).2.1 == m_22)&&(((profSum l_4).2.2.1 == m_23)&&(((profSum l_4).2.2.2 == m_24)&&true)))))))=true→(l_4.length+1)*32≤140737488355328 then
 if (!(((!((((profGet l_4 at_).getD sp0).1 == m_25)&&((((profGet l_4 at_).getD sp0).2.1 == m_26)&&((((profGet l_4 at_).getD sp0).2.2.1 == m_27)&&((((profGet l_4 at_).getD sp0).2.2.2 == m_28)&&true)))))||(!((profGet l_4 at_).isSome == some_4)))||(!(((profSum l_4).1 == 0)&&(((profSum l_4).2.1 == m_22)&&(((profSum l_4).2.2.1 == m_23)&&(((profSum l_4).2.2.2 == m_24)&&true)))))))=true→∀ p∈l_4,p.2.1=p.1 then
 if (!(((!((((profGet l_4 at_).getD sp0).1 == m_25)&&((((profGet l_4 at_).getD sp0).2.1 == m_26)&&((((profGet l_4 at_).getD sp0).2.2.1 == m_27)&&((((profGet l_4 at_).getD sp0).2.2.2 == m_28)&&true)))))||(!((profGet l_4 at_).isSome == some_4)))||(!(((profSum l_4).1 == 0)&&(((profSum l_4).2.1 == m_22)&&(((profSum l_4).2.2.1 == m_23)&&(((profSum l_4).2.2.2 == m_24)&&true)))))))=true→0≤((if (ln top_2) < (if 0 > many_ then 0 else many_) then (ln top_2) else (if 0 > many_ then 0 else many_)):Int)∧(if (ln top_2) < (if 0 > many_ then 0 else many_) then (ln top_2) else (if 0 > many_ then 0 else many_))≤(ln top_2) then
 ((if (!(((!((((profGet l_4 at_).getD sp0).1 == m_25)&&((((profGet l_4 at_).getD sp0).2.1 == m_26)&&((((profGet l_4 at_).getD sp0).2.2.1 == m_27)&&((((profGet l_4 at_).getD sp0).2.2.2 == m_28)&&true)))))||(!((profGet l_4 at_).isSome == some_4)))||(!(((profSum l_4).1 == 0)&&(((profSum l_4).2.1 == m_22)&&(((profSum l_4).2.2.1 == m_23)&&(((profSum l_4).2.2.2 == m_24)&&true)))))))=true then slices_Equal_sl_prof_Spot_prof_Spot ((profTop l_4 many_).map (fun s=>(⟨s.1,s.2.1,s.2.2.1,s.2.2.2⟩:prof_Spot))) ((top_2.drop 0).take (((if (ln top_2) < (if 0 > many_ then 0 else many_) then (ln top_2) else (if 0 > many_ then 0 else many_)):Int).toNat - 0)) else some default)).bind fun r_15 =>
 if ((((!((((profGet l_4 at_).getD sp0).1 == m_25)&&((((profGet l_4 at_).getD sp0).2.1 == m_26)&&((((profGet l_4 at_).getD sp0).2.2.1 == m_27)&&((((profGet l_4 at_).getD sp0).2.2.2 == m_28)&&true)))))||(!((profGet l_4 at_).isSome == some_4)))||(!(((profSum l_4).1 == 0)&&(((profSum l_4).2.1 == m_22)&&(((profSum l_4).2.2.1 == m_23)&&(((profSum l_4).2.2.2 == m_24)&&true))))))||(!r_15))=true then
 some false
 else
 if 0≤(at_:Int)∧at_ < (65536:Int) then
 if ((!(profGet ([]:ProfT) at_).isSome)&&(((profSum ([]:ProfT)).1 == 0)&&(((profSum ([]:ProfT)).2.1 == 0)&&(((profSum ([]:ProfT)).2.2.1 == 0)&&(((profSum ([]:ProfT)).2.2.2 == 0)&&true)))))=true→(([]:ProfT).length+1)*32≤140737488355328 then
 if ((!(profGet ([]:ProfT) at_).isSome)&&(((profSum ([]:ProfT)).1 == 0)&&(((profSum ([]:ProfT)).2.1 == 0)&&(((profSum ([]:ProfT)).2.2.1 == 0)&&(((profSum ([]:ProfT)).2.2.2 == 0)&&true)))))=true→∀ p∈([]:ProfT),p.2.1=p.1 then
 ((if (((!(profGet ([]:ProfT) at_).isSome)&&(((profSum ([]:ProfT)).1 == 0)&&(((profSum ([]:ProfT)).2.1 == 0)&&(((profSum ([]:ProfT)).2.2.1 == 0)&&(((profSum ([]:ProfT)).2.2.2 == 0)&&true)))))&&((ln ((profTop ([]:ProfT) (99)).map (fun s=>(⟨s.1,s.2.1,s.2.2.1,s.2.2.2⟩:prof_Spot)))) == 0))=true then spinetlaw53_alive else some default)).bind fun r_16 =>
 some ((((!(profGet ([]:ProfT) at_).isSome)&&(((profSum ([]:ProfT)).1 == 0)&&(((profSum ([]:ProfT)).2.1 == 0)&&(((profSum ([]:ProfT)).2.2.1 == 0)&&(((profSum ([]:ProfT)).2.2.2 == 0)&&true)))))&&((ln ((profTop ([]:ProfT) (99)).map (fun s=>(⟨s.1,s.2.1,s.2.2.1,s.2.2.2⟩:prof_Spot)))) == 0))&&r_16)
 else none
 else none
 else none
 else none
 else none
 else none
 else none
end Go.Proofs.YtoemlgdlejkliaaK
