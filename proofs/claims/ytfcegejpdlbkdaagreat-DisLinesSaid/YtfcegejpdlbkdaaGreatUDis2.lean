/- The law DisTexts: operands. -/
import Derived.Test.YtfcegejpdlbkdaaGreatUDis
namespace Go.Proofs.YtfcegejpdlbkdaaGreatK
set_option linter.unusedVariables false
set_option linter.unusedSimpArgs false
set_option maxHeartbeats 1000000
open Go.RowKit
attribute [local irreducible] dwv mops lops lqops lwops kont iter run runK rk okK ex E1 vals val chain chB sel resF
theorem upto {q:Nat→Bool} {m:Nat} (h:(List.range m).all q=true) {n:Int} (h0:0≤n) (h1:n < m):∃ c:Nat,n=c∧q c=true :=
  ⟨n.toNat,by omega,List.all_eq_true.1 h n.toNat (List.mem_range.2 (by omega))⟩
/-- The texts of an indexed operand, by its kind. -/
def idxT (R S0 S W:ByteArray):List ByteArray:=[((⟨#[44]⟩:ByteArray)++R),((S0++(⟨#[44]⟩:ByteArray))++R),((((⟨#[60]⟩:ByteArray)++S)++(⟨#[44]⟩:ByteArray))++R),((((⟨#[62]⟩:ByteArray)++W)++(⟨#[44]⟩:ByteArray))++R),((⟨#[65,44]⟩:ByteArray)++R),((⟨#[66,44]⟩:ByteArray)++R),((⟨#[68,44]⟩:ByteArray)++R),(((⟨#[44]⟩:ByteArray)++R)++(⟨#[43]⟩:ByteArray)),(((⟨#[44]⟩:ByteArray)++R)++(⟨#[43,43]⟩:ByteArray)),((⟨#[44,45]⟩:ByteArray)++R),((⟨#[44,45,45]⟩:ByteArray)++R),(((⟨#[60]⟩:ByteArray)++S)++(⟨#[44,80,67]⟩:ByteArray)),(((⟨#[62]⟩:ByteArray)++W)++(⟨#[44,80,67]⟩:ByteArray)),W]
theorem pc_text (T:ByteArray):(T++(⟨#[44]⟩:ByteArray))++(⟨#[80,67]⟩:ByteArray)=T++(⟨#[44,80,67]⟩:ByteArray):=by
  apply sbl_inj
  rw [sbl_app,sbl_app,sbl_app,List.append_assoc]; rfl
theorem idx_dis {P:post_Post} {v:Int} {R S0 S W:ByteArray} (k0:0≤P.Kind) (k1:P.Kind < 14) (hR:ops_Reg P.Reg=some R) (hr:R.size≤3) (h0:dis_signed P.Off=some S0) (z0:S0.size≤21) (hS:dis_signed v=some S) (zS:S.size≤21) (hW:dis_Word v=some W) (zW:W.size≤20) (hpc:P.Kind=11∨P.Kind=12→R=(⟨#[80,67]⟩:ByteArray)) :
    dis_indexed P v=some (gt (idxT R S0 S W) P.Kind):=by
  have hk:P.Kind=0∨P.Kind=1∨P.Kind=2∨P.Kind=3∨P.Kind=4∨P.Kind=5∨P.Kind=6∨P.Kind=7∨P.Kind=8∨P.Kind=9∨P.Kind=10∨P.Kind=11∨P.Kind=12∨P.Kind=13:=by omega
  unfold dis_indexed dis_indexed_j1 dis_indexed_j0
  rw [hR,Option.bind_some,h0,hS,hW]
  rcases hk with h | h | h | h | h | h | h | h | h | h | h | h | h | h
  all_goals
    repeat first
      | rw [if_neg (by rw [h]; decide)]
      | rw [if_pos (by rw [h]; decide)]
      | rw [Option.bind_some]
      | rw [if_pos (by simp only [sz_app,sz1,sz2,sz3]; omega)]
  all_goals rw [h]
  all_goals first
    | rfl
    | (obtain rfl:=hpc (by omega); rw [pc_text]; rfl)
theorem gt_idx {R S0 S W:ByteArray} (hr:R.size≤3) (z0:S0.size≤21) (zS:S.size≤21) (zW:W.size≤20) (zW0:0 < W.size) {k:Int} (k0:0≤k) (k1:k < 14):(gt (idxT R S0 S W) k).size≤60∧0 < (gt (idxT R S0 S W) k).size:=by
  have hk:k=0∨k=1∨k=2∨k=3∨k=4∨k=5∨k=6∨k=7∨k=8∨k=9∨k=10∨k=11∨k=12∨k=13:=by omega
  have e:∀ j:Nat,j < 14→gt (idxT R S0 S W) (j:Int)=(idxT R S0 S W).getD j default:=fun j _=>rfl
  rcases hk with rfl | rfl | rfl | rfl | rfl | rfl | rfl | rfl | rfl | rfl | rfl | rfl | rfl | rfl
  · show ((⟨#[44]⟩:ByteArray)++R).size≤60∧0 < ((⟨#[44]⟩:ByteArray)++R).size
    simp only [sz_app,sz1,sz2,sz3]; omega
  · show ((S0++(⟨#[44]⟩:ByteArray))++R).size≤60∧0 < ((S0++(⟨#[44]⟩:ByteArray))++R).size
    simp only [sz_app,sz1,sz2,sz3]; omega
  · show ((((⟨#[60]⟩:ByteArray)++S)++(⟨#[44]⟩:ByteArray))++R).size≤60∧0 < ((((⟨#[60]⟩:ByteArray)++S)++(⟨#[44]⟩:ByteArray))++R).size
    simp only [sz_app,sz1,sz2,sz3]; omega
  · show ((((⟨#[62]⟩:ByteArray)++W)++(⟨#[44]⟩:ByteArray))++R).size≤60∧0 < ((((⟨#[62]⟩:ByteArray)++W)++(⟨#[44]⟩:ByteArray))++R).size
    simp only [sz_app,sz1,sz2,sz3]; omega
  · show ((⟨#[65,44]⟩:ByteArray)++R).size≤60∧0 < ((⟨#[65,44]⟩:ByteArray)++R).size
    simp only [sz_app,sz1,sz2,sz3]; omega
  · show ((⟨#[66,44]⟩:ByteArray)++R).size≤60∧0 < ((⟨#[66,44]⟩:ByteArray)++R).size
    simp only [sz_app,sz1,sz2,sz3]; omega
  · show ((⟨#[68,44]⟩:ByteArray)++R).size≤60∧0 < ((⟨#[68,44]⟩:ByteArray)++R).size
    simp only [sz_app,sz1,sz2,sz3]; omega
  · show (((⟨#[44]⟩:ByteArray)++R)++(⟨#[43]⟩:ByteArray)).size≤60∧0 < (((⟨#[44]⟩:ByteArray)++R)++(⟨#[43]⟩:ByteArray)).size
    simp only [sz_app,sz1,sz2,sz3]; omega
  · show (((⟨#[44]⟩:ByteArray)++R)++(⟨#[43,43]⟩:ByteArray)).size≤60∧0 < (((⟨#[44]⟩:ByteArray)++R)++(⟨#[43,43]⟩:ByteArray)).size
    simp only [sz_app,sz1,sz2,sz3]; omega
  · show ((⟨#[44,45]⟩:ByteArray)++R).size≤60∧0 < ((⟨#[44,45]⟩:ByteArray)++R).size
    simp only [sz_app,sz1,sz2,sz3]; omega
  · show ((⟨#[44,45,45]⟩:ByteArray)++R).size≤60∧0 < ((⟨#[44,45,45]⟩:ByteArray)++R).size
    simp only [sz_app,sz1,sz2,sz3]; omega
  · show (((⟨#[60]⟩:ByteArray)++S)++(⟨#[44,80,67]⟩:ByteArray)).size≤60∧0 < (((⟨#[60]⟩:ByteArray)++S)++(⟨#[44,80,67]⟩:ByteArray)).size
    simp only [sz_app,sz1,sz2,sz3]; omega
  · show (((⟨#[62]⟩:ByteArray)++W)++(⟨#[44,80,67]⟩:ByteArray)).size≤60∧0 < (((⟨#[62]⟩:ByteArray)++W)++(⟨#[44,80,67]⟩:ByteArray)).size
    simp only [sz_app,sz1,sz2,sz3]; omega
  · show W.size≤60∧0 < W.size
    omega
theorem idx_ref {p v:Int} {Q:spinetref15_P} {R S0 S W:ByteArray} (hv0:0≤v) (hv1:v < 65536) (hQ:spinetref15_Of p=some Q) (k0:0≤Q.Kind) (k1:Q.Kind < 14) (hR:spinetref13_Reg Q.Reg=some R) (hr:R.size≤3) (h0:spinetref42_Signed (IntKind.wrap .u16 Q.Off)=some S0) (z0:S0.size≤21) (hS:spinetref42_Signed v=some S) (zS:S.size≤21) (hW:spinetref42_Hex v 4=some W) (zW:W.size≤20) (zW0:0 < W.size) :
    spinetref42_indexed p v=some (if Q.Indirect=true then ((⟨#[91]⟩:ByteArray)++gt (idxT R S0 S W) Q.Kind)++(⟨#[93]⟩:ByteArray) else gt (idxT R S0 S W) Q.Kind):=by
  have w:IntKind.wrap .i64 v=v:=wrap_i64 (by omega) (by omega)
  obtain ⟨g1,g2⟩:=gt_idx hr z0 zS zW zW0 k0 k1
  unfold spinetref42_indexed
  rw [hQ,Option.bind_some,hR,Option.bind_some,h0,hS,w,hW]
  repeat first
    | rw [if_pos (by simp only [sz_app,sz1,sz2,sz3]; omega)]
    | rw [Option.bind_some]
  change (if Q.Indirect=true then (if 0≤Q.Kind∧Q.Kind < (14:Int) then (if (((⟨#[91]⟩:ByteArray).size+(gt (idxT R S0 S W) Q.Kind).size:Nat):Int)≤9223372036854775807 then (if ((((⟨#[91]⟩:ByteArray)++(gt (idxT R S0 S W) Q.Kind)).size+(⟨#[93]⟩:ByteArray).size:Nat):Int)≤9223372036854775807 then some (((⟨#[91]⟩:ByteArray)++(gt (idxT R S0 S W) Q.Kind))++(⟨#[93]⟩:ByteArray)) else none) else none) else none) else (if 0≤Q.Kind∧Q.Kind < (14:Int) then some (gt (idxT R S0 S W) Q.Kind) else none))=_
  cases Q.Indirect with
  | true=>rw [if_pos (show true=true from rfl),if_pos ⟨k0,k1⟩,if_pos (by simp only [sz1]; omega),if_pos (by simp only [sz_app,sz1]; omega),if_pos (show true=true from rfl)]
  | false=>rw [if_neg (show ¬ (false=true) by simp),if_pos ⟨k0,k1⟩,if_neg (show ¬ (false=true) by simp)]
end Go.Proofs.YtfcegejpdlbkdaaGreatK
