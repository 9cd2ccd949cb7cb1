/- The law DisTexts: the parts of an instruction's text. -/
import Derived.Test.YtfcegejpdlbkdaaGreatUDig
import Derived.Test.YtfcegejpdlbkdaaGreatUPut
import Derived.Test.YtfcegejpdlbkdaaGreatUJoin
namespace Go.Proofs.YtfcegejpdlbkdaaGreatK
set_option linter.unusedVariables false
set_option linter.unusedSimpArgs false
set_option maxHeartbeats 1000000
open Go.RowKit
attribute [local irreducible] dwv mops lops lqops lwops kont iter run runK rk okK ex E1 vals val chain chB sel resF
theorem sz_app (a b:ByteArray):(a++b).size=a.size+b.size:=by rw [← sbl_len,sbl_app,List.length_append,sbl_len,sbl_len]
theorem sz1 (a:UInt8):(⟨#[a]⟩:ByteArray).size=1:=rfl
theorem sz2 (a b:UInt8):(⟨#[a,b]⟩:ByteArray).size=2:=rfl
theorem sz3 (a b c:UInt8):(⟨#[a,b,c]⟩:ByteArray).size=3:=rfl
theorem wrap_u16m (n:Int):IntKind.wrap .u16 n=n % 65536:=by simp [IntKind.wrap,IntKind.signed,IntKind.bits]
theorem word_t {w:Int} (h0:0≤w) (h1:w < 65536):∃ W,dis_Word w=some W∧spinetref42_Hex w 4=some W∧W.size≤20∧0 < W.size:=by
  obtain ⟨S,q1,q2,q3,q4⟩:=hex_is h0 (by omega) (wd:=4) (by omega) (by omega)
  have w1:IntKind.wrap .u64 w=w:=wrap_u64 (by omega) (by omega)
  refine ⟨(⟨#[36]⟩:ByteArray)++S,?_,?_,by rw [sz_app,sz1]; omega,by rw [sz_app,sz1]; omega⟩
  · unfold dis_Word
    rw [w1,show (4:Int)=((4:Nat):Int) from rfl,q1,Option.bind_some,if_pos (by rw [sz1]; omega)]
  · unfold spinetref42_Hex
    rw [w1,show (4:Int)=((4:Nat):Int) from rfl,q2,Option.bind_some,if_pos (by rw [sz1]; omega)]
theorem byte_t {x:Int} (h0:0≤x) (h1:x < 256):∃ B,dis_Byte x=some B∧spinetref42_Hex x 2=some B∧B.size=3:=by
  obtain ⟨S,q1,q2,q3⟩:=pair_is h0 h1
  have w1:IntKind.wrap .u64 x=x:=wrap_u64 (by omega) (by omega)
  refine ⟨(⟨#[36]⟩:ByteArray)++S,?_,?_,by rw [sz_app,sz1]; omega⟩
  · unfold dis_Byte
    rw [q1,Option.bind_some,if_pos (by rw [sz1]; omega)]
  · unfold spinetref42_Hex
    rw [w1,q2,Option.bind_some,if_pos (by rw [sz1]; omega)]
theorem signed_t {w:Int} (h0:0≤w) (h1:w < 65536):∃ S,dis_signed w=some S∧spinetref42_Signed w=some S∧S.size≤21∧0 < S.size:=by
  have w1:IntKind.wrap .u64 w=w:=wrap_u64 (by omega) (by omega)
  have w2:IntKind.wrap .i64 w=w:=wrap_i64 (by omega) (by omega)
  unfold dis_signed spinetref42_Signed
  rw [w1,w2]
  by_cases h:32767 < w
  · have w3:IntKind.wrap .u16 (0 - w)=65536 - w:=by rw [wrap_u16m]; omega
    have w4:IntKind.wrap .u64 (65536 - w)=65536 - w:=wrap_u64 (by omega) (by omega)
    have w5:IntKind.wrap .i64 (65536 - w)=65536 - w:=wrap_i64 (by omega) (by omega)
    obtain ⟨S,q1,q2,q3,q4⟩:=dec_is (n:=65536 - w) (by omega) (by omega)
    rw [if_pos (decide_eq_true h),if_pos (decide_eq_true h),w3,w5,w4,q1,q2,Option.bind_some,if_pos (by rw [sz1]; omega)]
    exact ⟨_,rfl,rfl,by rw [sz_app,sz1]; omega,by rw [sz_app,sz1]; omega⟩
  · obtain ⟨S,q1,q2,q3,q4⟩:=dec_is h0 (by omega)
    rw [if_neg (fun e=>h (of_decide_eq_true e)),if_neg (fun e=>h (of_decide_eq_true e)),q1,q2,Option.bind_some]
    exact ⟨_,rfl,rfl,by omega,q4⟩
/-! ### What hangs on one byte, or on an entry of the table -/
def pchk (p:Nat):Bool:=match post_Of (p:Int),spinetref15_Of (p:Int) with
  | some P,some Q=>(match ops_Reg P.Reg,spinetref13_Reg Q.Reg with
    | some R,some R'=>decide (R=R')&&decide (R.size≤3)&&(P.Kind == Q.Kind)&&decide (0≤P.Kind)&&decide (P.Kind < 14)&&(P.Off == IntKind.wrap .u16 Q.Off)&&decide (0≤P.Off)&&decide (P.Off < 65536)&&(P.Indirect == Q.Indirect)&&((!(P.Kind == 11||P.Kind == 12))||decide (R=(⟨#[80,67]⟩:ByteArray)))
    | _,_=>false)
  | _,_=>false
theorem pchk_all:((List.range 256).all pchk)=true:=by decide +kernel
def schk (p:Nat):Bool:=match post_Of (p:Int) with
  | some P=>(match post_Post_Code P with
    | some c=>(c.2&&(c.1 == (p:Int))) == (if p < 128 then true else if (((((Int.tmod (p:Int) 16) == 7)||((Int.tmod (p:Int) 16) == 10))||((Int.tmod (p:Int) 16) == 14))||((((Int.tmod (p:Int) 16) == 12)||((Int.tmod (p:Int) 16) == 13))&&(decide (0 < (Int.tmod (IntKind.wrap .u8 (Int.tdiv (p:Int) 32)) 4)))))=true then false else (((Int.tmod (p:Int) 16) != 15)||((p:Int) == 159)))
    | none=>false)
  | none=>false
theorem schk_all:((List.range 256).all schk)=true:=by decide +kernel
def rchk (p:Nat):Bool:=match dis_Reg (IntKind.wrap .i64 (Int.fdiv (p:Int) (2 ^ (4)))),spinetref42_Reg (IntKind.wrap .i64 (IntKind.wrap .u8 (Int.tdiv (p:Int) 16))),dis_Reg (IntKind.wrap .i64 (bits .and .u8 (p:Int) 15)),spinetref42_Reg (IntKind.wrap .i64 (Int.tmod (p:Int) 16)) with
  | some a,some b,some c,some d=>decide (a=b)&&decide (c=d)&&decide (a.size≤20)&&decide (c.size≤20)
  | _,_,_,_=>false
theorem rchk_all:((List.range 256).all rchk)=true:=by decide +kernel
def lchk (st:Int) (p:Nat):Bool:=match lists_Text (p:Int) st,spinetref42_list (p:Int) (st == 3) with
  | some a,some b=>decide (a=b)&&decide (a.size≤40)
  | _,_=>false
theorem lchk_all3:((List.range 256).all (lchk 3))=true:=by decide +kernel
theorem lchk_all0:((List.range 256).all (lchk 0))=true:=by decide +kernel
def nchk (R:List spinetref13_Row) (e:api_Entry):Bool:=(e.Op == 0)||(match ops_Name e.Op e.Reg,(spinetref13_Name_l0 e.Op e.Reg R BIG 0) with
  | some a,some (.ret b)=>decide (a=b)&&decide (a.size≤40)
  | _,_=>false)
theorem nchk_all:(match spinetref13_Rows with | some R=>refTab.all fun k=>nchk R k.Entry | none=>false)=true:=by decide +kernel
theorem alive42:spinetlaw42_alive=some true:=by decide +kernel
end Go.Proofs.YtfcegejpdlbkdaaGreatK
