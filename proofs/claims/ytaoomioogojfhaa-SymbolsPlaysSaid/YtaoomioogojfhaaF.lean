/- The functions, over typed data. Printed by a program of this work. -/
import Derived.Test.YtaoomioogojfhaaSo
import Derived.Test.YtaoomioogojfhaaSt
import Derived.Test.YtaoomioogojfhaaRj
namespace Go.Proofs.YtaoomioogojfhaaK
set_option linter.unusedVariables false
set_option linter.unusedSimpArgs false
set_option maxHeartbeats 4000000
open Go.RowKit
attribute [local irreducible] dwv mops lops lqops lwops kont iter run runK rk okK ex E1 vals val chain chB sel resF
structure spinetlaw41_Pair where
 Name:ByteArray
 At:Int
 Drop:Bool
instance:Inhabited spinetlaw41_Pair:=⟨⟨⟨#[]⟩,0,false⟩⟩
def spinetlaw41_Pair.v (x:spinetlaw41_Pair):List V:=[.s (.string x.Name),.s (.int .u16 x.At),.s (.bool x.Drop)]
instance:Cells spinetlaw41_Pair.v 3:=⟨fun _=>rfl,fun _=>rfl,fun _=>rfl⟩
def sl_spinetlaw41_Pair (x:(List spinetlaw41_Pair)):List V:=[.sl false x.length (cat spinetlaw41_Pair.v x)]
instance:Cells sl_spinetlaw41_Pair 1:=⟨fun _=>rfl,fun _=>by simp [sl_spinetlaw41_Pair,statics,V.static,cat_stat],fun _=>rfl⟩
def sl_str (x:(List ByteArray)):List V:=[.sl false x.length (cat nS x)]
instance:Cells sl_str 1:=⟨fun _=>rfl,fun _=>by simp [sl_str,statics,V.static,cat_stat],fun _=>rfl⟩
def symbols_Right_l0 (s_:ByteArray):Nat→Int→Option (Out (Bool) (Unit))
 | 0,_=>none
 | k+1,t_1 =>
 if (decide (t_1 < (sln s_)))=true then
 if 0≤(t_1:Int)∧t_1 < sln s_ then
 if ((!(((((decide (65≤(bt s_ t_1)))&&(decide ((bt s_ t_1)≤90)))||((decide (97≤(bt s_ t_1)))&&(decide ((bt s_ t_1)≤122))))||((bt s_ t_1) == 95))||((bt s_ t_1) == 46)))&&(((t_1 == 0)||(decide ((bt s_ t_1) < 48)))||(decide (57 < (bt s_ t_1)))))=true then
 some (.ret false)
 else
 symbols_Right_l0 s_ k (IntKind.wrap .i64 (t_1+1))
 else none
 else
 some (.go ())
def symbols_Right (s_:ByteArray):Option (Bool) :=
 (symbols_Right_l0 s_ BIG (0)).bind fun o=>match o with
 | .ret r=>some r
 | .go _ =>
 some ((decide (1≤(sln s_)))&&(decide ((sln s_)≤16)))
def spinetref41_Letter (c_:Int):Option (Bool) :=
 some (((((decide (65≤c_))&&(decide (c_≤90)))||((decide (97≤c_))&&(decide (c_≤122))))||(c_ == 46))||(c_ == 95))
def spinetref41_Right_l0 (s_:ByteArray):Nat→Int→Option (Out (Bool) (Unit))
 | 0,_=>none
 | k+1,i_1 =>
 if (decide (i_1 < (sln s_)))=true then
 if 0≤(i_1:Int)∧i_1 < sln s_ then
 (spinetref41_Letter (bt s_ i_1)).bind fun r_3 =>
 if (!r_3)=true→0≤(i_1:Int)∧i_1 < sln s_ then
 if ((!(decide ((bt s_ i_1) < 48)))&&(!r_3))=true→0≤(i_1:Int)∧i_1 < sln s_ then
 if ((!r_3)&&((decide ((bt s_ i_1) < 48))||(decide (57 < (bt s_ i_1)))))=true then
 some (.ret false)
 else
 spinetref41_Right_l0 s_ k (IntKind.wrap .i64 (i_1+1))
 else none
 else none
 else none
 else
 some (.go ())
def spinetref41_Right (s_:ByteArray):Option (Bool) :=
 if (!((decide ((sln s_) < 1))||(decide (16 < (sln s_)))))=true→0≤(0:Int)∧0 < sln s_ then
 ((if (!((decide ((sln s_) < 1))||(decide (16 < (sln s_)))))=true then spinetref41_Letter (bt s_ (0)) else some default)).bind fun r_ =>
 if (((decide ((sln s_) < 1))||(decide (16 < (sln s_))))||(!r_))=true then
 some false
 else
 (spinetref41_Right_l0 s_ BIG (1)).bind fun o=>match o with
 | .ret r=>some r
 | .go _ =>
 some true
 else none
def spinetlaw41_find_l0 (l_:(List spinetlaw41_Pair)) (s_:ByteArray):Nat→Int→Option (Out (Int) (Unit))
 | 0,_=>none
 | k+1,i_1 =>
 if (decide (i_1 < (ln l_)))=true then
 if 0≤(i_1:Int)∧i_1 < ln l_ then
 if (((gt l_ i_1).Name).toList == s_.toList)=true then
 some (.ret i_1)
 else
 spinetlaw41_find_l0 l_ s_ k (IntKind.wrap .i64 (i_1+1))
 else none
 else
 some (.go ())
def spinetlaw41_find (l_:(List spinetlaw41_Pair)) (s_:ByteArray):Option (Int) :=
 (spinetlaw41_find_l0 l_ s_ BIG (0)).bind fun o=>match o with
 | .ret r=>some r
 | .go _ =>
 some (-1)
def slices_Equal_sl_string_string_l0 (s1_:(List ByteArray)) (s2_:(List ByteArray)):Nat→Int→Option (Out (Bool) (Unit))
 | 0,_=>none
 | k+1,t_1 =>
 if (decide (t_1 < (ln s1_)))=true then
 if 0≤(t_1:Int)∧t_1 < ln s1_ then
 if 0≤(t_1:Int)∧t_1 < ln s2_ then
 if (!((gt s1_ t_1).toList == (gt s2_ t_1).toList))=true then
 some (.ret false)
 else
 slices_Equal_sl_string_string_l0 s1_ s2_ k (IntKind.wrap .i64 (t_1+1))
 else none
 else none
 else
 some (.go ())
def slices_Equal_sl_string_string (s1_:(List ByteArray)) (s2_:(List ByteArray)):Option (Bool) :=
 if ((ln s1_) != (ln s2_))=true then
 some false
 else
 (slices_Equal_sl_string_string_l0 s1_ s2_ BIG (0)).bind fun o=>match o with
 | .ret r=>some r
 | .go _ =>
 some true
def spinetlaw41_alive:Option (Bool) :=
 (symbols_Right (⟨#[97]⟩:ByteArray)).bind fun ok_ =>
 if ((⟨#[97]⟩:ByteArray).size≤symSz∧([]:SymT).length≤symSz)∧0≤((5):Int)∧(5) < (65536:Int) then
 if 0≤((7):Int)∧(7) < (65536:Int) then
 if ((symSet ([]:SymT) (⟨#[97]⟩:ByteArray) (5) ok_).2).length*16≤140737488355328 then
 if ∀ p∈((symSet ([]:SymT) (⟨#[97]⟩:ByteArray) (5) ok_).2),p.1.length≤symSz then
 some ((((((symSet ([]:SymT) (⟨#[97]⟩:ByteArray) (5) ok_).1 == 0)&&(((symNearR ((symSet ([]:SymT) (⟨#[97]⟩:ByteArray) (5) ok_).2) (7)).1).toList == (⟨#[97]⟩:ByteArray).toList))&&((symNearR ((symSet ([]:SymT) (⟨#[97]⟩:ByteArray) (5) ok_).2) (7)).2.1 == 2))&&(symNearR ((symSet ([]:SymT) (⟨#[97]⟩:ByteArray) (5) ok_).2) (7)).2.2)||false)
 else none
 else none
 else none
 else none
def spinetlaw41_SymbolsPlays_j0 (rec:SymT→(List spinetlaw41_Pair)→Int→Option (Out (Bool) (SymT × (List spinetlaw41_Pair)))) (l_:(List spinetlaw41_Pair)) (l_7:SymT) (i_1:Int) (l_11:(List spinetlaw41_Pair)):Option (Out (Bool) (SymT × (List spinetlaw41_Pair))) :=
 rec (symDel l_7 ((gt l_ i_1).Name)) l_11 (IntKind.wrap .i64 (i_1+1))
def spinetlaw41_SymbolsPlays_j1 (rec:SymT→(List spinetlaw41_Pair)→Int→Option (Out (Bool) (SymT × (List spinetlaw41_Pair)))) (l_:(List spinetlaw41_Pair)) (l_7:SymT) (i_1:Int) (l_12:(List spinetlaw41_Pair)) (want_2:Int):Option (Out (Bool) (SymT × (List spinetlaw41_Pair))) :=
 if 0≤(i_1:Int)∧i_1 < ln l_ then
 (symbols_Right ((gt l_ i_1).Name)).bind fun ok_2 =>
 if (((gt l_ i_1).Name).size≤symSz∧l_7.length≤symSz)∧0≤(((gt l_ i_1).At):Int)∧((gt l_ i_1).At) < (65536:Int) then
 if ((symSet l_7 ((gt l_ i_1).Name) ((gt l_ i_1).At) ok_2).1 != want_2)=true then
 some (.ret false)
 else
 rec ((symSet l_7 ((gt l_ i_1).Name) ((gt l_ i_1).At) ok_2).2) l_12 (IntKind.wrap .i64 (i_1+1))
 else none
 else none
def spinetlaw41_SymbolsPlays_l0 (l_:(List spinetlaw41_Pair)):Nat→SymT→(List spinetlaw41_Pair)→Int→Option (Out (Bool) (SymT × (List spinetlaw41_Pair)))
 | 0,_,_,_=>none
 | k+1,l_7,l_8,i_1 =>
 if (decide (i_1 < (ln l_)))=true then
 if 0≤(i_1:Int)∧i_1 < ln l_ then
 if (decide (100 < (sln ((gt l_ i_1).Name))))=true then
 some (.ret true)
 else
 (symbols_Right ((gt l_ i_1).Name)).bind fun r_8 =>
 (spinetref41_Right ((gt l_ i_1).Name)).bind fun r_9 =>
 if (!(r_8 == r_9))=true then
 some (.ret false)
 else
 (spinetlaw41_find l_8 ((gt l_ i_1).Name)).bind fun r_10 =>
 if 0≤(i_1:Int)∧i_1 < ln l_ then
 if (gt l_ i_1).Drop=true then
 if ((gt l_ i_1).Name).size≤symSz then
 if (!((symGet l_7 ((gt l_ i_1).Name)).isSome == (decide (0≤r_10))))=true then
 some (.ret false)
 else
 if (decide (0≤r_10))=true then
 if 0≤(r_10:Int)∧r_10≤(ln l_8) then
 if (([]:List spinetlaw41_Pair).length+((l_8.drop 0).take ((r_10:Int).toNat - 0)).length)*24≤140737488355328 then
 if 0≤((IntKind.wrap .i64 (r_10+1)):Int)∧(IntKind.wrap .i64 (r_10+1))≤(ln l_8) then
 if ((([]:List spinetlaw41_Pair)++((l_8.drop 0).take ((r_10:Int).toNat - 0))).length+((l_8.drop ((IntKind.wrap .i64 (r_10+1)):Int).toNat).take (l_8.length - ((IntKind.wrap .i64 (r_10+1)):Int).toNat)).length)*24≤140737488355328 then
 spinetlaw41_SymbolsPlays_j0 (spinetlaw41_SymbolsPlays_l0 l_ k) l_ l_7 i_1 ((([]:List spinetlaw41_Pair)++((l_8.drop 0).take ((r_10:Int).toNat - 0)))++((l_8.drop ((IntKind.wrap .i64 (r_10+1)):Int).toNat).take (l_8.length - ((IntKind.wrap .i64 (r_10+1)):Int).toNat)))
 else none
 else none
 else none
 else none
 else
 spinetlaw41_SymbolsPlays_j0 (spinetlaw41_SymbolsPlays_l0 l_ k) l_ l_7 i_1 l_8
 else none
 else
 (spinetref41_Right ((gt l_ i_1).Name)).bind fun r_11 =>
 if (!r_11)=true then
 spinetlaw41_SymbolsPlays_j1 (spinetlaw41_SymbolsPlays_l0 l_ k) l_ l_7 i_1 l_8 (40)
 else
 if (decide (0≤r_10))=true→0≤(r_10:Int)∧r_10 < ln l_8 then
 if (decide (0≤r_10))=true→0≤(i_1:Int)∧i_1 < ln l_ then
 if ((decide (0≤r_10))&&((gt l_8 r_10).At != (gt l_ i_1).At))=true then
 spinetlaw41_SymbolsPlays_j1 (spinetlaw41_SymbolsPlays_l0 l_ k) l_ l_7 i_1 l_8 (41)
 else
 if (decide (r_10 < 0))=true then
 if 0≤(i_1:Int)∧i_1 < ln l_ then
 if (l_8.length+[(gt l_ i_1)].length)*24≤140737488355328 then
 spinetlaw41_SymbolsPlays_j1 (spinetlaw41_SymbolsPlays_l0 l_ k) l_ l_7 i_1 (l_8++[(gt l_ i_1)]) (0)
 else none
 else none
 else
 spinetlaw41_SymbolsPlays_j1 (spinetlaw41_SymbolsPlays_l0 l_ k) l_ l_7 i_1 l_8 (0)
 else none
 else none
 else none
 else none
 else
 some (.go (l_7,l_8))
def spinetlaw41_SymbolsPlays_j2 (rec:(List ByteArray)→(List ByteArray)→ByteArray→Int→Bool→Int→Option ((List ByteArray) × (List ByteArray) × ByteArray × Int × Bool)) (at_:Int) (l_10:(List spinetlaw41_Pair)) (l_17:(List ByteArray)) (near_1:ByteArray) (off_1:Int) (some_1:Bool) (i_3:Int) (l_21:(List ByteArray)):Option ((List ByteArray) × (List ByteArray) × ByteArray × Int × Bool) :=
 if 0≤(i_3:Int)∧i_3 < ln l_10 then
 if (((IntKind.wrap .i64 ((IntKind.wrap .i64 at_) - (IntKind.wrap .i64 (gt l_10 i_3).At))) == off_1)&&((!((!some_1)||(decide ((IntKind.wrap .i64 ((IntKind.wrap .i64 at_) - (IntKind.wrap .i64 (gt l_10 i_3).At))) < off_1))))&&(decide (0≤(IntKind.wrap .i64 ((IntKind.wrap .i64 at_) - (IntKind.wrap .i64 (gt l_10 i_3).At)))))))=true→0≤(i_3:Int)∧i_3 < ln l_10 then
 if ((decide (0≤(IntKind.wrap .i64 ((IntKind.wrap .i64 at_) - (IntKind.wrap .i64 (gt l_10 i_3).At)))))&&(((!some_1)||(decide ((IntKind.wrap .i64 ((IntKind.wrap .i64 at_) - (IntKind.wrap .i64 (gt l_10 i_3).At))) < off_1)))||(((IntKind.wrap .i64 ((IntKind.wrap .i64 at_) - (IntKind.wrap .i64 (gt l_10 i_3).At))) == off_1)&&(Op.bytesLess ((gt l_10 i_3).Name).toList near_1.toList))))=true then
 if 0≤(i_3:Int)∧i_3 < ln l_10 then
 rec (l_17++[(gt l_10 i_3).Name]) l_21 ((gt l_10 i_3).Name) (IntKind.wrap .i64 ((IntKind.wrap .i64 at_) - (IntKind.wrap .i64 (gt l_10 i_3).At))) true (IntKind.wrap .i64 (i_3+1))
 else none
 else
 rec (l_17++[(gt l_10 i_3).Name]) l_21 near_1 off_1 some_1 (IntKind.wrap .i64 (i_3+1))
 else none
 else none
def spinetlaw41_SymbolsPlays_l1 (at_:Int) (l_10:(List spinetlaw41_Pair)):Nat→(List ByteArray)→(List ByteArray)→ByteArray→Int→Bool→Int→Option ((List ByteArray) × (List ByteArray) × ByteArray × Int × Bool)
 | 0,_,_,_,_,_,_=>none
 | k+1,l_17,l_18,near_1,off_1,some_1,i_3 =>
 if (decide (i_3 < (ln l_10)))=true then
 if 0≤(i_3:Int)∧i_3 < ln l_10 then
 if (l_17.length+[(gt l_10 i_3).Name].length)*16≤140737488355328 then
 if 0≤(i_3:Int)∧i_3 < ln l_10 then
 if ((gt l_10 i_3).At == at_)=true then
 if 0≤(i_3:Int)∧i_3 < ln l_10 then
 if (l_18.length+[(gt l_10 i_3).Name].length)*16≤140737488355328 then
 spinetlaw41_SymbolsPlays_j2 (spinetlaw41_SymbolsPlays_l1 at_ l_10 k) at_ l_10 l_17 near_1 off_1 some_1 i_3 (l_18++[(gt l_10 i_3).Name])
 else none
 else none
 else
 spinetlaw41_SymbolsPlays_j2 (spinetlaw41_SymbolsPlays_l1 at_ l_10 k) at_ l_10 l_17 near_1 off_1 some_1 i_3 l_18
 else none
 else none
 else none
 else
 some (l_17,l_18,near_1,off_1,some_1)
def spinetlaw41_SymbolsPlays (l_:(List spinetlaw41_Pair)) (at_:Int) (ask_:ByteArray):Option (Bool) :=
 if ((decide (60 < (ln l_)))||(decide (100 < (sln ask_))))=true then
 some true
 else
 (spinetlaw41_SymbolsPlays_l0 l_ BIG ([]:SymT) ([]:List spinetlaw41_Pair) (0)).bind fun o=>match o with
 | .ret r=>some r
 | .go (l_9,l_10) =>
 (spinetlaw41_SymbolsPlays_l1 at_ l_10 BIG ([]:List ByteArray) ([]:List ByteArray) (⟨#[]⟩:ByteArray) (0) false (0)).bind fun (l_19,l_20,near_2,off_2,some_2) =>
 if l_19.length < 4611686018427387904 then
 if l_20.length < 4611686018427387904 then
 if ask_.size≤symSz then
 (spinetlaw41_find l_10 ask_).bind fun r_12 =>
 if ((symGet l_9 ask_).isSome&&(!(!((symGet l_9 ask_).isSome == (decide (0≤r_12))))))=true→0≤(r_12:Int)∧r_12 < ln l_10 then
 if (((!((symGet l_9 ask_).isSome == (decide (0≤r_12))))||((symGet l_9 ask_).isSome&&((IntKind.wrap .u16 ((symGet l_9 ask_).getD 0)) != (gt l_10 r_12).At)))||((!(symGet l_9 ask_).isSome)&&((IntKind.wrap .u16 ((symGet l_9 ask_).getD 0)) != 0)))=true then
 some false
 else
 if 0≤(at_:Int)∧at_ < (65536:Int) then
 if l_9.length*16≤140737488355328 then
 if ∀ p∈l_9,p.1.length≤symSz then
 if (((l_9.length:Nat):Int) == (ln l_10))=true→l_9.length*16≤140737488355328 then
 ((if (((l_9.length:Nat):Int) == (ln l_10))=true then slices_Equal_sl_string_string (symNs l_9) (sortS l_19) else some default)).bind fun r_13 =>
 if ((((l_9.length:Nat):Int) == (ln l_10))&&r_13)=true→0≤(at_:Int)∧at_ < (65536:Int) then
 if ((((l_9.length:Nat):Int) == (ln l_10))&&r_13)=true→l_9.length*16≤140737488355328 then
 if ((((l_9.length:Nat):Int) == (ln l_10))&&r_13)=true→∀ p∈l_9,p.1.length≤symSz then
 ((if ((((l_9.length:Nat):Int) == (ln l_10))&&r_13)=true then slices_Equal_sl_string_string (symAs l_9 at_) (sortS l_20) else some default)).bind fun r_14 =>
 ((if ((((((((l_9.length:Nat):Int) == (ln l_10))&&r_13)&&r_14)&&(((symNearR l_9 at_).1).toList == near_2.toList))&&((symNearR l_9 at_).2.1 == off_2))&&((symNearR l_9 at_).2.2 == some_2))=true then spinetlaw41_alive else some default)).bind fun r_15 =>
 some (((((((((l_9.length:Nat):Int) == (ln l_10))&&r_13)&&r_14)&&(((symNearR l_9 at_).1).toList == near_2.toList))&&((symNearR l_9 at_).2.1 == off_2))&&((symNearR l_9 at_).2.2 == some_2))&&r_15)
 else none
 else none
 else none
 else none
 else none
 else none
 else none
 else none
 else none
 else none
 else none
end Go.Proofs.YtaoomioogojfhaaK
