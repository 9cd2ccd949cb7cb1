/- Builders: a text that is written. -/
import Derived.Test.YtfcegejpdlbkdaaGreatSc
namespace Go.Proofs.YtfcegejpdlbkdaaGreatK
set_option linter.unusedVariables false
set_option linter.unusedSimpArgs false
set_option maxHeartbeats 4000000
open Go.RowKit
attribute [local irreducible] dwv mops lops lqops lwops kont iter run runK rk okK ex E1 vals val chain chB sel resF
def ws_i0:List Op1:=[oM 4 (.k (.int .i64 0)) [],oM 5 (.k .nilIface) [0]]
def ws_i1:List Op1:=[oM 6 (.t 0) [],oC 7 67 [(.t 6)] [0]]
def ws_i2:List Op1:=[oM 8 (.t 0) [],oM 9 (.t 0) [],oE 10 (.nilc (.t 9)) [1],oE 11 (.fld 1 (.t 10)) [2],oE 12 (.load false 1 (.t 11)) [3],oM 13 (.t 1) [],oE 14 (.apps 5 1 (.t 12) (.t 13)) [4,5],oE 15 (.nilc (.t 8)) [0,0,1,2,3,4,5,6],oE 16 (.fld 1 (.t 15)) [7,0,1,2,3,4,5,6],oN (.store 1 (.t 16) (.t 14)) [8,6,6,0,1,2,3,4,5,6]]
def ws_i3:List Op1:=[oM 17 (.t 1) [],oE 18 (.lens (.t 17)) [0],oM 4 (.t 18) [1,0,1],oM 5 (.k .nilIface) [2,0,1,2]]
def ws_ir:IR:=(.seq (.reg false ws_i0) (.seq (.reg false ws_i1) (.seq (.reg false ws_i2) (.seq (.reg false ws_i3) .ret))))
theorem ws_cfn:cFn Tryz.prog 46=some (ws_ir,[(.t 4),(.t 5)],19):=by kernel_rfl
theorem ws_con (z:Bool) (v:Nat) (l:List Int) (s:ByteArray) (hc:(l.length+s.size)*1≤140737488355328) :
    ConL Tryz.prog 46 [.ptr 1 0 0,.s (.string s)] (Bld BT BU z v l) (.tup [.s (.int .i64 ((s.size:Nat):Int)),.s .nilIface]) (Bld BT BU false (v+1) (l++sbl s)):=by
  refine ConL.of ws_cfn (Nat.le_of_ble_eq_true (by kernel_rfl)) (Nat.le_of_ble_eq_true (by kernel_rfl)) ?_
  refine k_start ?_
  have hf:FOk (fr0 [.ptr 1 0 0,.s (.string s)]) [⟨0,[],.ptr 1 0 0⟩,⟨1,[],.s (.string s)⟩]:=⟨⟨fun _=>rfl,fun h=>(h trivial).elim⟩,⟨fun _=>rfl,fun h=>(h trivial).elim⟩,trivial⟩
  generalize fr0 [.ptr 1 0 0,.s (.string s)]=f at hf ⊢
  refine k_seq ?_
  refine k_reg ?_
  refine mops_end [0,1] hf (l':=[⟨0,[],.ptr 1 0 0⟩,⟨1,[],.s (.string s)⟩]) (L':=Bld BT BU z v l) (by kernel_rfl) fun f1 hf1 => ?_
  refine k_c ?_
  refine k_seq ?_
  refine k_reg ?_
  refine mops_seg [0,1,6] 1 hf1 (l':=[⟨0,[],.ptr 1 0 0⟩,⟨1,[],.s (.string s)⟩,⟨6,[],.ptr 1 0 0⟩]) (L':=Bld BT BU z v l) (by kernel_rfl) fun f2 hf2 => ?_
  refine mops_call rfl hf2 (av:=[.ptr 1 0 0]) (by kernel_rfl) (v:=.tup []) (L':=Bld BT BU false v l) (cc_con z v l) (by intro h; cases h) fun f3 hf3 => ?_
  refine mops_end [0,1] hf3 (l':=[⟨0,[],.ptr 1 0 0⟩,⟨1,[],.s (.string s)⟩]) (L':=Bld BT BU false v l) (by kernel_rfl) fun f4 hf4 => ?_
  refine k_c ?_
  refine k_seq ?_
  refine k_reg ?_
  refine mops_sg 6 hf4 (by kernel_rfl) fun f5 hf5 => ?_
  refine mops_adv rfl (v:=.ref 0 (v+1) 0 (l++sbl s).length) hf5 (by kernel_rfl) (e_apps (kd:=.buf BU) (q:=l) (t:=s) (b:=0) (ver:=v) (n:=l.length) (by kernel_rfl) (by kernel_rfl) rfl (live_k (by kernel_rfl) (by simp)) (by kernel_rfl) hc) fun f6 hf6 => ?_
  refine mops_en hf6 (by kernel_rfl) fun f7 hf7 => ?_
  refine k_c ?_
  refine k_seq ?_
  refine k_reg ?_
  refine mops_en hf7 (by kernel_rfl) fun f8 hf8 => ?_
  refine k_c ?_
  refine k_ret ?_
  refine k_hp (L':=Bld BT BU false (v+1) (l++sbl s)) (by kernel_rfl) ?_
  exact k_fin (fin_ret (.inl rfl) hf8 (vs:=[.s (.int .i64 ((s.size:Nat):Int)),.s .nilIface]) (by kernel_rfl) SettL.refl)
end Go.Proofs.YtfcegejpdlbkdaaGreatK
