/- Package ram, by hand: a byte is poked, bytes are loaded, a memory is made, a byte is read. -/
import Derived.Test.YtfcegejpdlbkdaaGreatRr
import Derived.Test.YtfcegejpdlbkdaaGreatProg
namespace Go.Proofs.YtfcegejpdlbkdaaGreatK
set_option linter.unusedVariables false
set_option linter.unusedSimpArgs false
set_option maxHeartbeats 4000000
open Go.RowKit
attribute [local irreducible] dwv mops lops lqops lwops kont iter run runK rk okK ex E1 vals val chain chB sel resF
def rhi_i0:List Op1:=[(oM 2 (.k (.int .u8 0)) [])]
def rhi_i1:List Op1:=[(oM 3 (.t 0) []),(oE 4 (.bin .shr (.t 3) (.k (.int .u64 8))) [0]),(oE 5 (.cint .u8 (.t 4)) [1]),(oM 2 (.t 5) [2,0,1,2])]
def rhi_ir:IR:=(.seq (.reg false rhi_i0) (.seq (.reg false rhi_i1) .ret))
theorem rhi_cfn:cFn Tryz.prog 53=some (rhi_ir,[(.t 2)],6):=by kernel_rfl
theorem hi_con (a:Int) (ha:0≤a∧a < 65536):Pure Tryz.prog 53 [.s (.int .u16 a)] (.s (.int .u8 (a / 256))):=by
  have e:IntKind.wrap .u8 (Int.fdiv a (2 ^ (8)))=a / 256:=by
    have h1:Int.fdiv a (2 ^ 8)=a / 256:=by rw [Int.fdiv_eq_ediv_of_nonneg _ (by decide)]; rfl
    rw [h1]
    simp [IntKind.wrap,IntKind.bits,IntKind.signed]; omega
  rw [← e]
  refine ConL.of rhi_cfn (Nat.le_of_ble_eq_true (by kernel_rfl)) (Nat.le_of_ble_eq_true (by kernel_rfl)) ?_
  refine k_start ?_
  have hf:FOk (fr0 [.s (.int .u16 a)]) [⟨0,[],.s (.int .u16 a)⟩]:=⟨⟨fun _=>rfl,fun h=>(h trivial).elim⟩,trivial⟩
  generalize fr0 [.s (.int .u16 a)]=f at hf ⊢
  refine k_seq ?_
  refine k_reg ?_
  refine mops_en hf (by kernel_rfl) fun f1 hf1 => ?_
  refine k_c ?_
  refine k_seq ?_
  refine k_reg ?_
  refine mops_en hf1 (by kernel_rfl) fun f2 hf2 => ?_
  refine k_c ?_
  refine k_ret ?_
  exact k_fin (fin_ret (.inl rfl) hf2 (vs:=[.s (.int .u8 (IntKind.wrap .u8 (Int.fdiv a (2 ^ (8)))))]) (by kernel_rfl) (SettL.pure (FzL.stat rfl)))
def rlo_i0:List Op1:=[(oM 2 (.k (.int .u8 0)) [])]
def rlo_i1:List Op1:=[(oM 3 (.t 0) []),(oE 4 (.cint .u8 (.t 3)) [0]),(oM 2 (.t 4) [1,0,1])]
def rlo_ir:IR:=(.seq (.reg false rlo_i0) (.seq (.reg false rlo_i1) .ret))
theorem rlo_cfn:cFn Tryz.prog 40=some (rlo_ir,[(.t 2)],5):=by kernel_rfl
theorem lo_con (a:Int):Pure Tryz.prog 40 [.s (.int .u16 a)] (.s (.int .u8 (a % 256))):=by
  have e:IntKind.wrap .u8 a=a % 256:=by simp [IntKind.wrap,IntKind.bits,IntKind.signed]
  rw [← e]
  refine ConL.of rlo_cfn (Nat.le_of_ble_eq_true (by kernel_rfl)) (Nat.le_of_ble_eq_true (by kernel_rfl)) ?_
  refine k_start ?_
  have hf:FOk (fr0 [.s (.int .u16 a)]) [⟨0,[],.s (.int .u16 a)⟩]:=⟨⟨fun _=>rfl,fun h=>(h trivial).elim⟩,trivial⟩
  generalize fr0 [.s (.int .u16 a)]=f at hf ⊢
  refine k_seq ?_
  refine k_reg ?_
  refine mops_en hf (by kernel_rfl) fun f1 hf1 => ?_
  refine k_c ?_
  refine k_seq ?_
  refine k_reg ?_
  refine mops_en hf1 (by kernel_rfl) fun f2 hf2 => ?_
  refine k_c ?_
  refine k_ret ?_
  exact k_fin (fin_ret (.inl rfl) hf2 (vs:=[.s (.int .u8 (IntKind.wrap .u8 a))]) (by kernel_rfl) (SettL.pure (FzL.stat rfl)))
/-! ### Poke -/
def pk_i0:List Op1:=[oM 7 (.t 1) [],oC 8 53 [(.t 7)] [0],oM 6 (.t 8) [1,1,0,1]]
def pk_i1:List Op1:=[oM 9 (.t 0) [],oM 10 (.t 6) [],oE 11 (.nilc (.t 9)) [0],oE 12 (.fld 0 (.t 11)) [2],oE 13 (.iaa 256 1 (.t 12) (.t 10)) [3,1],oE 14 (.load false 1 (.t 13)) [4],oE 15 (.isnil false true (.t 14)) [5]]
def pk_i2:List Op1:=[oM 16 (.t 2) [],oE 17 (.bin .eql (.t 16) (.k (.int .u8 0))) [0]]
def pk_w0:List An:=[⟨oM 18 (.t 0) [],false,0,1⟩,⟨oM 19 (.t 6) [],false,0,1⟩,⟨oE 20 (.mks [(.int .u8 0)] 1 (.k (.int .i64 256)) (.k (.int .i64 256))) [],true,0,1⟩,⟨oE 21 (.nilc (.t 18)) [0],false,0,1⟩,⟨oE 22 (.fld 0 (.t 21)) [3],false,0,1⟩,⟨oE 23 (.iaa 256 1 (.t 22) (.t 19)) [4,1,0,1,2],false,1,1⟩,⟨oN (.store 1 (.t 23) (.t 20)) [5,2,0,1,2],true,1,2⟩]
def pk_w1:List An:=[⟨oM 24 (.t 0) [],false,0,0⟩,⟨oM 25 (.t 6) [],false,0,0⟩,⟨oE 26 (.nilc (.t 24)) [0],false,0,0⟩,⟨oE 27 (.fld 0 (.t 26)) [2],false,0,0⟩,⟨oE 28 (.iaa 256 1 (.t 27) (.t 25)) [3,1],false,0,0⟩,⟨oE 29 (.load false 1 (.t 28)) [4],false,0,0⟩,⟨oM 30 (.t 1) [],false,0,0⟩,⟨oC 31 40 [(.t 30)] [6],false,0,0⟩,⟨oM 32 (.t 2) [],false,0,0⟩,⟨oE 33 (.ias 1 (.t 29) (.t 31)) [5,7,0,1,2,3,4,5,6,7,8],false,0,0⟩,⟨oN (.store 1 (.t 33) (.t 32)) [9,8,7,0,1,2,3,4,5,6,7,8],true,0,1⟩]
def pk_ir:IR:=(.seq (.reg false pk_i0) (.seq (.seq (.reg false pk_i1) (.cond (.t 15) (.seq (.seq (.reg false pk_i2) (.cond (.t 17) .ret .skip)) (.regw pk_w0)) .skip)) (.regw pk_w1)))
theorem pk_cfn:cFn Tryz.prog 30=some (pk_ir,[],34):=by kernel_rfl
theorem pk_tail {L0:Hp} {C:X→Fr→Hp→Prop} (r:RamT) (h:r.Ok) {a b:Int} (ha:0≤a∧a < 65536) {k:Nat} (hk:r.ix[(a / 256).toNat]? = some (some k)) (hn:L0.length≤r.H.length) {f:Fr} (hf:FOk f [⟨0,[],.ptr 0 0 0⟩,⟨1,[],.s (.int .u16 a)⟩,⟨2,[],.s (.int .u8 b)⟩,⟨6,[],.s (.int .u8 (a / 256))⟩])
    (K:∀ f,FOk f []→kont Tryz.prog L0 C [] .normal f (r.poke a b).H):kont Tryz.prog L0 C [.c (.regw pk_w1)] .normal f r.H:=by
  have hi:0≤a / 256∧a / 256 < ((256:Nat):Int):=by omega
  have hkl:=h.k _ _ hk
  have hlen:(r.bl.getD k []).length=256:=by
    rw [List.getD_eq_getElem?_getD,List.getElem?_eq_getElem hkl]; exact h.l k _ (List.getElem?_eq_getElem hkl)
  obtain ⟨p,hp,hc⟩:=RamT.cell_at h (i:=(a / 256).toNat) (by omega)
  rw [hk] at hp; injection hp with hp; subst hp
  have hc:r.cells[0+(a / 256).toNat*1]? = some (.ref (k+1) 0 0 256):=by rw [show 0+(a / 256).toNat*1=(a / 256).toNat by omega]; exact hc
  have hlo:0≤a % 256∧a % 256 < ln (r.bl.getD k []):=by unfold ln; rw [hlen]; omega
  have hL:=RamT.liveK hkl
  have hpk:r.poke a b=⟨r.ix,r.bl.set k (st (r.bl.getD k []) (a % 256) b),r.rom⟩:=by unfold RamT.poke; rw [hk]
  rw [hpk,← RamT.set_row] at K
  refine k_c ?_
  refine k_regw ?_
  refine lw_tight 10 (by kernel_rfl) ?_
  refine mops_seg [1,2,25,27] 4 hf (l':=[⟨1,[],.s (.int .u16 a)⟩,⟨2,[],.s (.int .u8 b)⟩,⟨25,[],.s (.int .u8 (a / 256))⟩,⟨27,[],.ptr 0 0 0⟩]) (L':=r.H) (by kernel_rfl) fun f1 hf1 => ?_
  refine mops_adv rfl (v:=.ptr 0 0 (0+(a / 256).toNat*1)) hf1 (by kernel_rfl) (e_iaa (n:=256) (xv:=.ptr 0 0 0) (k:=.u8) (iv:=a / 256) (p:=.ptr 0 0 (0+(a / 256).toNat*1)) (by kernel_rfl) (by kernel_rfl) (by kernel_rfl) (by kernel_rfl) hi) fun f2 hf2 => ?_
  refine mops_adv rfl (v:=.ref (k+1) 0 0 256) hf2 (by kernel_rfl) (e_load_raw (b:=0) (ver:=0) (o:=0+(a / 256).toNat*1) (B:=⟨0,.mem,1,r.cells⟩) (by kernel_rfl) (RamT.live0 r) hc) fun f3 hf3 => ?_
  refine mops_seg [1,2,29,30] 1 hf3 (l':=[⟨1,[],.s (.int .u16 a)⟩,⟨2,[],.s (.int .u8 b)⟩,⟨29,[],.ref (k+1) 0 0 256⟩,⟨30,[],.s (.int .u16 a)⟩]) (L':=r.H) (by kernel_rfl) fun f4 hf4 => ?_
  refine mops_call rfl hf4 (av:=[.s (.int .u16 a)]) (by kernel_rfl) (v:=.s (.int .u8 (a % 256))) (CalL.pure (lo_con a) rfl rfl hn) (fun _=>rfl) fun f5 hf5 => ?_
  refine mops_seg [29,31,32] 1 hf5 (l':=[⟨29,[],.ref (k+1) 0 0 256⟩,⟨31,[],.s (.int .u8 (a % 256))⟩,⟨32,[],.s (.int .u8 b)⟩]) (L':=r.H) (by kernel_rfl) fun f6 hf6 => ?_
  refine mops_adv rfl (v:=.ptr (k+1) 0 (0+(a % 256).toNat*1)) hf6 (by kernel_rfl) (e_ias_ref (l:=r.bl.getD k []) (B:=row8 (r.bl.getD k [])) (b:=k+1) (ver:=0) (n:=256) (k:=.u8) (iv:=a % 256) (by kernel_rfl) (by kernel_rfl) hlen hL hlo) fun f7 hf7 => ?_
  refine mops_end [32,33] hf7 (l':=[⟨32,[],.s (.int .u8 b)⟩,⟨33,[],.ptr (k+1) 0 (0+(a % 256).toNat*1)⟩]) (L':=r.H) (by kernel_rfl) fun f8 hf8 => ?_
  intro _
  refine lw_w (a:=⟨oN (.store 1 (.t 33) (.t 32)) [9,8,7,0,1,2,3,4,5,6,7,8],true,0,1⟩) (by kernel_rfl) rfl rfl ?_
  refine mops_adv rfl (v:=.s undef) hf8 (by kernel_rfl) (e_store_pe (g:=nI .u8) (l:=r.bl.getD k []) (iv:=a % 256) (kd:=.grow) (q:=1) (b:=k+1) (ver:=0) (ys:=[.s (.int .u8 b)]) (a:=b) [] (by kernel_rfl) hL (by kernel_rfl) (by kernel_rfl) (by kernel_rfl) hlo (by kernel_rfl) (by kernel_rfl)) fun f9 hf9 => ?_
  refine mops_end [] hf9 (l':=[]) (L':=r.H.set (k+1) (row8 (st (r.bl.getD k []) (a % 256) b))) (by kernel_rfl) fun f10 hf10 => ?_
  refine ⟨trivial,?_⟩
  refine lw_end (by kernel_rfl) ?_
  exact K _ hf10
theorem poke_con (r:RamT) (h:r.Ok) (a b:Int) (ha:0≤a∧a < 65536):ConL Tryz.prog 30 [.ptr 0 0 0,.s (.int .u16 a),.s (.int .u8 b)] r.H (.tup []) (r.poke a b).H:=by
  have hi:0≤a / 256∧a / 256 < ((256:Nat):Int):=by omega
  obtain ⟨p,hp,hc⟩:=RamT.cell_at h (i:=(a / 256).toNat) (by omega)
  have hc:r.cells[0+(a / 256).toNat*1]? = some (pcell p):=by rw [show 0+(a / 256).toNat*1=(a / 256).toNat by omega]; exact hc
  refine ConL.of pk_cfn (Nat.le_of_ble_eq_true (by kernel_rfl)) (r.poke_len a b) ?_
  refine k_start ?_
  have hf:FOk (fr0 [.ptr 0 0 0,.s (.int .u16 a),.s (.int .u8 b)]) [⟨0,[],.ptr 0 0 0⟩,⟨1,[],.s (.int .u16 a)⟩,⟨2,[],.s (.int .u8 b)⟩]:=⟨⟨fun _=>rfl,fun h=>(h trivial).elim⟩,⟨fun _=>rfl,fun h=>(h trivial).elim⟩,⟨fun _=>rfl,fun h=>(h trivial).elim⟩,trivial⟩
  generalize fr0 [.ptr 0 0 0,.s (.int .u16 a),.s (.int .u8 b)]=f at hf ⊢
  refine k_seq ?_
  refine k_reg ?_
  refine mops_seg [0,1,2,7] 1 hf (l':=[⟨0,[],.ptr 0 0 0⟩,⟨1,[],.s (.int .u16 a)⟩,⟨2,[],.s (.int .u8 b)⟩,⟨7,[],.s (.int .u16 a)⟩]) (L':=r.H) (by kernel_rfl) fun f1 hf1 => ?_
  refine mops_call rfl hf1 (av:=[.s (.int .u16 a)]) (by kernel_rfl) (v:=.s (.int .u8 (a / 256))) (CalL.pure (hi_con a ha) rfl rfl (Nat.le_refl _)) (by intro h; cases h) fun f2 hf2 => ?_
  refine mops_end [0,1,2,6] hf2 (l':=[⟨0,[],.ptr 0 0 0⟩,⟨1,[],.s (.int .u16 a)⟩,⟨2,[],.s (.int .u8 b)⟩,⟨6,[],.s (.int .u8 (a / 256))⟩]) (L':=r.H) (by kernel_rfl) fun f3 hf3 => ?_
  refine k_c ?_
  refine k_seq ?_
  refine k_seq ?_
  refine k_reg ?_
  refine mops_seg [0,1,2,6,10,12] 4 hf3 (l':=[⟨0,[],.ptr 0 0 0⟩,⟨1,[],.s (.int .u16 a)⟩,⟨2,[],.s (.int .u8 b)⟩,⟨6,[],.s (.int .u8 (a / 256))⟩,⟨10,[],.s (.int .u8 (a / 256))⟩,⟨12,[],.ptr 0 0 0⟩]) (L':=r.H) (by kernel_rfl) fun f4 hf4 => ?_
  refine mops_adv rfl (v:=.ptr 0 0 (0+(a / 256).toNat*1)) hf4 (by kernel_rfl) (e_iaa (n:=256) (xv:=.ptr 0 0 0) (k:=.u8) (iv:=a / 256) (p:=.ptr 0 0 (0+(a / 256).toNat*1)) (by kernel_rfl) (by kernel_rfl) (by kernel_rfl) (by kernel_rfl) hi) fun f5 hf5 => ?_
  refine mops_adv rfl (v:=pcell p) hf5 (by kernel_rfl) (e_load_raw (b:=0) (ver:=0) (o:=0+(a / 256).toNat*1) (B:=⟨0,.mem,1,r.cells⟩) (by kernel_rfl) (RamT.live0 r) hc) fun f6 hf6 => ?_
  cases p with
  | some k =>
    have hkl:=h.k _ _ hp
    refine mops_adv rfl (v:=.s (.bool false)) hf6 (by kernel_rfl) (e_nil_row (b:=k+1) (ver:=0) (o:=0) (n:=255) (B:=row8 (r.bl.getD k [])) (by kernel_rfl) (RamT.liveK hkl)) fun f7 hf7 => ?_
    refine mops_end [0,1,2,6,15] hf7 (l':=[⟨0,[],.ptr 0 0 0⟩,⟨1,[],.s (.int .u16 a)⟩,⟨2,[],.s (.int .u8 b)⟩,⟨6,[],.s (.int .u8 (a / 256))⟩,⟨15,[],.s (.bool false)⟩]) (L':=r.H) (by kernel_rfl) fun f8 hf8 => ?_
    refine k_c ?_
    refine k_cond hf8 (t:=false) (by kernel_rfl) (fun e=>by cases e) (fun _ => ?_)
    refine k_skip ?_
    exact pk_tail r h ha hp (Nat.le_refl _) (FOk_of [0,1,2,6] hf8 (by kernel_rfl)) fun f hf=>k_fin (fin_ret (.inr rfl) hf (vs:=[]) (by kernel_rfl) SettL.refl)
  | none =>
    refine mops_adv rfl (v:=.s (.bool true)) hf6 (by kernel_rfl) (e_nil_lit (by kernel_rfl)) fun f7 hf7 => ?_
    refine mops_end [0,1,2,6,15] hf7 (l':=[⟨0,[],.ptr 0 0 0⟩,⟨1,[],.s (.int .u16 a)⟩,⟨2,[],.s (.int .u8 b)⟩,⟨6,[],.s (.int .u8 (a / 256))⟩,⟨15,[],.s (.bool true)⟩]) (L':=r.H) (by kernel_rfl) fun f8 hf8 => ?_
    refine k_c ?_
    refine k_cond hf8 (t:=true) (by kernel_rfl) (fun _ => ?_) (fun e=>by cases e)
    refine k_seq ?_
    refine k_seq ?_
    refine k_reg ?_
    refine mops_end [0,1,2,6,17] hf8 (l':=[⟨0,[],.ptr 0 0 0⟩,⟨1,[],.s (.int .u16 a)⟩,⟨2,[],.s (.int .u8 b)⟩,⟨6,[],.s (.int .u8 (a / 256))⟩,⟨17,[],.s (.bool (b == 0))⟩]) (L':=r.H) (by kernel_rfl) fun f9 hf9 => ?_
    refine k_c ?_
    refine k_cond hf9 (t:=(b == 0)) (by kernel_rfl) (fun hb => ?_) (fun hb => ?_)
    · have hb:b=0:=eq_of_beq hb
      have e:r.poke a b=r:=by unfold RamT.poke; rw [hp]; simp only; rw [if_pos hb]
      refine k_ret ?_
      refine x_c nofun ?_
      refine x_c nofun ?_
      refine k_fin ?_
      rw [e]
      exact fin_ret (.inl rfl) hf9 (vs:=[]) (by kernel_rfl) SettL.refl
    · have hb:b ≠ 0:=fun e=>by rw [e] at hb; simp at hb
      refine k_skip ?_
      refine k_c ?_
      refine k_regw ?_
      refine lw_free' (dst:=(some 18)) (op:=(.mv (.t 0))) (aft:=[]) (lo:=0) (hi:=1) (v:=.ptr 0 0 0) (by kernel_rfl) (by kernel_rfl) hf9 (by kernel_rfl) (by kernel_rfl) trivial fun f10 hf10 => ?_
      refine lw_free' (dst:=(some 19)) (op:=(.mv (.t 6))) (aft:=[]) (lo:=0) (hi:=1) (v:=.s (.int .u8 (a / 256))) (by kernel_rfl) (by kernel_rfl) hf10 (by kernel_rfl) (by kernel_rfl) trivial fun f11 hf11 => ?_
      refine lw_w (a:=⟨oE 20 (.mks [(.int .u8 0)] 1 (.k (.int .i64 256)) (.k (.int .i64 256))) [],true,0,1⟩) (by kernel_rfl) rfl rfl ?_
      refine mops_adv rfl (v:=.ref (r.bl.length+1) 0 0 (rp 256 (0:Int)).length) (L':=r.H++[row8 (rp 256 (0:Int))]) hf11 (by kernel_rfl) (e_mks (g:=nI .u8) (a:=(0:Int)) (k:=.i64) (k':=.i64) (iv:=256) (jv:=256) (by kernel_rfl) (by kernel_rfl) (by kernel_rfl) (by decide) (RamT.H_len r)) fun f12 hf12 => ?_
      refine mops_end [0,1,2,6,18,19,20] hf12 (l':=[⟨0,[],.ptr 0 0 0⟩,⟨1,[],.s (.int .u16 a)⟩,⟨2,[],.s (.int .u8 b)⟩,⟨6,[],.s (.int .u8 (a / 256))⟩,⟨18,[],.ptr 0 0 0⟩,⟨19,[],.s (.int .u8 (a / 256))⟩,⟨20,[],.ref (r.bl.length+1) 0 0 256⟩]) (L':=r.H++[row8 (rp 256 (0:Int))]) (by kernel_rfl) fun f13 hf13 => ?_
      refine ⟨(pend_ok hf10 (by kernel_rfl) (by kernel_rfl) (pend_ok hf9 (by kernel_rfl) (by kernel_rfl) trivial)),?_⟩
      refine lw_free (dst:=(some 21)) (op:=(.nilc (.t 18))) (aft:=[0]) (lo:=0) (hi:=1) (v:=.ptr 0 0 0) (by kernel_rfl) (by kernel_rfl) hf13 (by kernel_rfl) (by kernel_rfl) (old_ok hf13 (by kernel_rfl) (by kernel_rfl) trivial) fun f14 hf14 => ?_
      refine lw_free (dst:=(some 22)) (op:=(.fld 0 (.t 21))) (aft:=[3]) (lo:=0) (hi:=1) (v:=.ptr 0 0 0) (by kernel_rfl) (by kernel_rfl) hf14 (by kernel_rfl) (by kernel_rfl) (old_ok hf14 (by kernel_rfl) (by kernel_rfl) trivial) fun f15 hf15 => ?_
      refine lw_tight 1 (by kernel_rfl) ?_
      refine mops_adv rfl (v:=.ptr 0 0 (0+(a / 256).toNat*1)) hf15 (by kernel_rfl) (e_iaa (n:=256) (xv:=.ptr 0 0 0) (k:=.u8) (iv:=a / 256) (p:=.ptr 0 0 (0+(a / 256).toNat*1)) (by kernel_rfl) (by kernel_rfl) (by kernel_rfl) (by kernel_rfl) hi) fun f16 hf16 => ?_
      refine mops_end [0,1,2,6,20,23] hf16 (l':=[⟨0,[],.ptr 0 0 0⟩,⟨1,[],.s (.int .u16 a)⟩,⟨2,[],.s (.int .u8 b)⟩,⟨6,[],.s (.int .u8 (a / 256))⟩,⟨20,[],.ref (r.bl.length+1) 0 0 256⟩,⟨23,[],.ptr 0 0 (0+(a / 256).toNat*1)⟩]) (L':=r.H++[row8 (rp 256 (0:Int))]) (by kernel_rfl) fun f17 hf17 => ?_
      intro _
      refine lw_w (a:=⟨oN (.store 1 (.t 23) (.t 20)) [5,2,0,1,2],true,1,2⟩) (by kernel_rfl) rfl rfl ?_
      refine mops_adv rfl (v:=.s undef) (L':=(r.page a).H) hf17 (by kernel_rfl) (by
        have hs:0+(a / 256).toNat*1 < r.cells.length:=(List.getElem?_eq_some_iff.1 hc).1
        have:=e_store_raw (b:=0) (ver:=0) (o:=0+(a / 256).toNat*1) (B:=⟨0,.mem,1,r.cells⟩) (v:=.ref (r.bl.length+1) 0 0 256) (f:=frF [⟨0,[],.ptr 0 0 0⟩,⟨1,[],.s (.int .u16 a)⟩,⟨2,[],.s (.int .u8 b)⟩,⟨6,[],.s (.int .u8 (a / 256))⟩,⟨20,[],.ref (r.bl.length+1) 0 0 256⟩,⟨23,[],.ptr 0 0 (0+(a / 256).toNat*1)⟩] []) (x:=.t 23) (y:=.t 20) (L:=r.H++[row8 (rp 256 (0:Int))]) (by kernel_rfl) (by kernel_rfl) (by kernel_rfl) rfl rfl hs
        rw [show 0+(a / 256).toNat*1=(a / 256).toNat by omega] at this ⊢
        have e2:=RamT.set_new h (i:=(a / 256).toNat) (by omega) (l:=rp 256 (0:Int))
        simp only at this
        rw [e2] at this
        exact this) fun f18 hf18 => ?_
      refine mops_end [0,1,2,6] hf18 (l':=[⟨0,[],.ptr 0 0 0⟩,⟨1,[],.s (.int .u16 a)⟩,⟨2,[],.s (.int .u8 b)⟩,⟨6,[],.s (.int .u8 (a / 256))⟩]) (L':=(r.page a).H) (by kernel_rfl) fun f19 hf19 => ?_
      refine ⟨(pend_no (by kernel_rfl) (pend_no (by kernel_rfl) trivial)),?_⟩
      refine lw_end (by kernel_rfl) ?_
      refine pk_tail (r.page a) (h.page a) ha (RamT.page_at h ha) (by rw [RamT.H_len,RamT.H_len]; simp [RamT.page]) hf19 fun f hf => ?_
      rw [RamT.page_poke h ha hp hb]
      exact k_fin (fin_ret (.inr rfl) hf (vs:=[]) (by kernel_rfl) SettL.refl)
/-! ### Load, from the address 0 on -/
def ld_i0:List Op1:=[oM 6 (.k (.int .i64 0)) []]
def ld_i1:List Op1:=[oM 9 (.t 1) [],oE 10 (.bin .lss (.t 9) (.k (.int .i64 0))) [0],oM 11 (.t 10) [1],oG 12 (.mv (.t 1)) 11 false [2],oG 13 (.bin .gtr (.t 12) (.k (.int .i64 65536))) 11 false [3,2],oE 14 (.pick (.t 11) (.k (.bool true)) (.t 13)) [2,4],oM 15 (.t 14) [5,2],oG 16 (.mv (.t 2)) 15 false [6],oG 17 (.len (.t 16)) 15 false [7,6],oG 18 (.mv (.t 1)) 15 false [6],oG 19 (.bin .sub (.k (.int .i64 65536)) (.t 18)) 15 false [9,6],oG 20 (.bin .gtr (.t 17) (.t 19)) 15 false [8,10,6],oE 21 (.pick (.t 15) (.k (.bool true)) (.t 20)) [6,11]]
def ld_i2:List Op1:=[oM 6 (.k (.int .i64 11)) []]
def ld_i3:List Op1:=[oM 22 (.t 2) [],oE 23 (.len (.t 22)) [0],oM 24 (.k (.int .i64 0)) []]
def ld_i4:List Op1:=[oE 25 (.bin .lss (.t 24) (.t 23)) []]
def ld_i5:List Op1:=[oM 26 (.t 24) [],oE 27 (.ias 1 (.t 22) (.t 24)) [],oE 28 (.load false 1 (.t 27)) [1],oM 7 (.t 26) [0,0,1,2],oM 8 (.t 28) [2,3,0,1,2,3]]
def ld_i6:List Op1:=[oM 29 (.t 0) [],oM 30 (.t 1) [],oM 31 (.t 7) [],oE 32 (.bin .add (.t 30) (.t 31)) [1,2],oE 33 (.cint .u16 (.t 32)) [3],oM 34 (.t 8) [],oC 35 30 [(.t 29),(.t 33),(.t 34)] [0,4,5]]
def ld_i7:List Op1:=[oE 36 (.bin .add (.t 24) (.k (.int .i64 1))) [],oM 24 (.t 36) [0]]
def ld_i8:List Op1:=[oM 6 (.k (.int .i64 0)) []]
def ld_body:IR:=(.seq (.reg false ld_i4) (.seq (.cond (.t 25) .skip (.exit 0)) (.seq (.block 1 (.seq (.reg false ld_i5) (.reg false ld_i6))) (.reg false ld_i7))))
def ld_ir:IR:=(.seq (.reg false ld_i0) (.seq (.seq (.reg false ld_i1) (.cond (.t 21) (.seq (.reg false ld_i2) .ret) .skip)) (.seq (.seq (.reg false ld_i3) (.block 0 (.loop ld_body))) (.seq (.reg false ld_i8) .ret))))
theorem ld_cfn:cFn Tryz.prog 13=some (ld_ir,[(.t 6)],37):=by kernel_rfl
theorem load_con (r:RamT) (h:r.Ok) (l:List Int) (hl:l.length≤65536):ConL Tryz.prog 13 [.ptr 0 0 0,.s (.int .i64 0),.sl false l.length (cat (nI .u8) l)] r.H (.s (.int .i64 0)) (r.load 0 l).H:=by
  refine ConL.of ld_cfn (Nat.le_of_ble_eq_true (by kernel_rfl)) (RamT.load_len l r 0) ?_
  refine k_start ?_
  have hf:FOk (fr0 [.ptr 0 0 0,.s (.int .i64 0),.sl false l.length (cat (nI .u8) l)]) [⟨0,[],.ptr 0 0 0⟩,⟨1,[],.s (.int .i64 0)⟩,⟨2,[],.sl false l.length (cat (nI .u8) l)⟩]:=⟨⟨fun _=>rfl,fun h=>(h trivial).elim⟩,⟨fun _=>rfl,fun h=>(h trivial).elim⟩,⟨fun _=>rfl,fun h=>(h trivial).elim⟩,trivial⟩
  generalize fr0 [.ptr 0 0 0,.s (.int .i64 0),.sl false l.length (cat (nI .u8) l)]=f at hf ⊢
  refine k_seq ?_
  refine k_reg ?_
  refine mops_end [0,1,2] hf (l':=[⟨0,[],.ptr 0 0 0⟩,⟨1,[],.s (.int .i64 0)⟩,⟨2,[],.sl false l.length (cat (nI .u8) l)⟩]) (L':=r.H) (by kernel_rfl) fun f1 hf1 => ?_
  refine k_c ?_
  refine k_seq ?_
  refine k_seq ?_
  refine k_reg ?_
  refine mops_end [0,1,2,21] hf1 (l':=[⟨0,[],.ptr 0 0 0⟩,⟨1,[],.s (.int .i64 0)⟩,⟨2,[],.sl false l.length (cat (nI .u8) l)⟩,⟨21,[],.s (.bool (((decide ((0:Int) < 0))||(decide ((65536:Int) < 0)))||(decide ((IntKind.wrap .i64 ((65536:Int) - 0)) < (ln l)))))⟩]) (L':=r.H) (by kernel_rfl) fun f2 hf2 => ?_
  refine k_c ?_
  refine k_cond hf2 (t:=((decide ((0:Int) < 0))||(decide ((65536:Int) < 0)))||(decide ((IntKind.wrap .i64 ((65536:Int) - 0)) < (ln l)))) (by kernel_rfl) (fun e => ?_) (fun _ => ?_)
  · exfalso
    have hw:IntKind.wrap .i64 ((65536:Int) - 0)=65536:=by decide
    rw [hw] at e
    simp only [Bool.or_eq_true,decide_eq_true_eq] at e
    unfold ln at e
    rcases e with (e | e) | e <;> omega
  refine k_skip ?_
  refine k_c ?_
  refine k_seq ?_
  refine k_seq ?_
  refine k_reg ?_
  refine mops_end [0,1,22,23,24] hf2 (l':=[⟨0,[],.ptr 0 0 0⟩,⟨1,[],.s (.int .i64 0)⟩,⟨22,[],.sl false l.length (cat (nI .u8) l)⟩,⟨23,[],.s (.int .i64 (ln l))⟩,⟨24,[],.s (.int .i64 0)⟩]) (L':=r.H) (by kernel_rfl) fun f3 hf3 => ?_
  refine k_c ?_
  refine k_block ?_
  refine k_loop BIG ?_
  refine loop_ind (fun n f L=>∃ (j:Nat) (q:RamT),q.Ok∧j≤l.length∧l.length - j < n∧q.load (j:Int) (l.drop j)=r.load 0 l∧r.H.length≤q.H.length∧FOk f [⟨0,[],.ptr 0 0 0⟩,⟨1,[],.s (.int .i64 0)⟩,⟨22,[],.sl false l.length (cat (nI .u8) l)⟩,⟨23,[],.s (.int .i64 (ln l))⟩,⟨24,[],.s (.int .i64 (j:Int))⟩]∧L=q.H) ?_ ?_ BIG _ _ ⟨0,r,h,Nat.zero_le _,by unfold BIG; omega,rfl,Nat.le_refl _,hf3,rfl⟩
  · rintro f L ⟨j,q,_,_,hn,_⟩
    omega
  · rintro n R ih f L ⟨j,q,hq,hj,hn,he,hle,hf,rfl⟩
    refine k_seq ?_
    refine k_reg ?_
    refine mops_end [0,1,22,23,24,25] hf (l':=[⟨0,[],.ptr 0 0 0⟩,⟨1,[],.s (.int .i64 0)⟩,⟨22,[],.sl false l.length (cat (nI .u8) l)⟩,⟨23,[],.s (.int .i64 (ln l))⟩,⟨24,[],.s (.int .i64 (j:Int))⟩,⟨25,[],.s (.bool (decide ((j:Int) < (ln l))))⟩]) (L':=q.H) (by kernel_rfl) fun f4 hf4 => ?_
    refine k_c ?_
    refine k_seq ?_
    refine k_cond hf4 (t:=decide ((j:Int) < (ln l))) (by kernel_rfl) (fun hc => ?_) (fun hc => ?_)
    · have hc:(j:Int) < ln l:=of_decide_eq_true hc
      have hjl:j < l.length:=by unfold ln at hc; omega
      have hidx:0≤(j:Int)∧(j:Int) < ln l:=⟨by omega,hc⟩
      refine k_skip ?_
      refine k_c ?_
      refine k_seq ?_
      refine k_block ?_
      refine k_seq ?_
      refine k_reg ?_
      refine mops_seg [0,1,22,23,24,26] 1 hf4 (l':=[⟨0,[],.ptr 0 0 0⟩,⟨1,[],.s (.int .i64 0)⟩,⟨22,[],.sl false l.length (cat (nI .u8) l)⟩,⟨23,[],.s (.int .i64 (ln l))⟩,⟨24,[],.s (.int .i64 (j:Int))⟩,⟨26,[],.s (.int .i64 (j:Int))⟩]) (L':=q.H) (by kernel_rfl) fun f5 hf5 => ?_
      refine mops_adv rfl (v:=.ip ((cat (nI .u8) l).drop ((j:Int).toNat*1))) hf5 (by kernel_rfl) (e_ias (n:=l.length) (xv:=.sl false l.length (cat (nI .u8) l)) (k:=.i64) (iv:=(j:Int)) (p:=.ip ((cat (nI .u8) l).drop ((j:Int).toNat*1))) (by kernel_rfl) (by kernel_rfl) (by kernel_rfl) (by kernel_rfl) hidx) fun f6 hf6 => ?_
      refine mops_adv rfl (v:=.s (.int .u8 (gt l (j:Int)))) hf6 (by kernel_rfl) (e_load_ip (g:=nI .u8) (l:=l) (iv:=(j:Int)) [] (by kernel_rfl) hidx (by kernel_rfl) (by kernel_rfl)) fun f7 hf7 => ?_
      refine mops_end [0,1,22,23,24,7,8] hf7 (l':=[⟨0,[],.ptr 0 0 0⟩,⟨1,[],.s (.int .i64 0)⟩,⟨22,[],.sl false l.length (cat (nI .u8) l)⟩,⟨23,[],.s (.int .i64 (ln l))⟩,⟨24,[],.s (.int .i64 (j:Int))⟩,⟨7,[],.s (.int .i64 (j:Int))⟩,⟨8,[],.s (.int .u8 (gt l (j:Int)))⟩]) (L':=q.H) (by kernel_rfl) fun f8 hf8 => ?_
      refine k_c ?_
      refine k_reg ?_
      have hw:IntKind.wrap .u16 (IntKind.wrap .i64 (0+(j:Int)))=(j:Int):=by rw [wrap_i64 (by omega) (by omega),wrap_u16 (by omega) (by omega)]; omega
      refine mops_seg [22,23,24,0,1,29,33,34] 6 hf8 (l':=[⟨22,[],.sl false l.length (cat (nI .u8) l)⟩,⟨23,[],.s (.int .i64 (ln l))⟩,⟨24,[],.s (.int .i64 (j:Int))⟩,⟨0,[],.ptr 0 0 0⟩,⟨1,[],.s (.int .i64 0)⟩,⟨29,[],.ptr 0 0 0⟩,⟨33,[],.s (.int .u16 (IntKind.wrap .u16 (IntKind.wrap .i64 (0+(j:Int)))))⟩,⟨34,[],.s (.int .u8 (gt l (j:Int)))⟩]) (L':=q.H) (by kernel_rfl) fun f9 hf9 => ?_
      rw [hw] at hf9
      refine mops_call rfl hf9 (av:=[.ptr 0 0 0,.s (.int .u16 (j:Int)),.s (.int .u8 (gt l (j:Int)))]) (by kernel_rfl) (v:=.tup []) (L':=(q.poke (j:Int) (gt l (j:Int))).H) (by
        have:=CalL.of (n0:=r.H.length) (poke_con q hq (j:Int) (gt l (j:Int)) ⟨by omega,by omega⟩) (Emb.idn _) hle
        rw [rns_id,rn_id] at this
        exact this) (by intro h; cases h) fun f10 hf10 => ?_
      refine mops_end [0,1,22,23,24] hf10 (l':=[⟨0,[],.ptr 0 0 0⟩,⟨1,[],.s (.int .i64 0)⟩,⟨22,[],.sl false l.length (cat (nI .u8) l)⟩,⟨23,[],.s (.int .i64 (ln l))⟩,⟨24,[],.s (.int .i64 (j:Int))⟩]) (L':=(q.poke (j:Int) (gt l (j:Int))).H) (by kernel_rfl) fun f11 hf11 => ?_
      refine k_b ?_
      refine k_c ?_
      refine k_reg ?_
      refine mops_end [0,1,22,23,24] hf11 (l':=[⟨0,[],.ptr 0 0 0⟩,⟨1,[],.s (.int .i64 0)⟩,⟨22,[],.sl false l.length (cat (nI .u8) l)⟩,⟨23,[],.s (.int .i64 (ln l))⟩,⟨24,[],.s (.int .i64 (IntKind.wrap .i64 ((j:Int)+1)))⟩]) (L':=(q.poke (j:Int) (gt l (j:Int))).H) (by kernel_rfl) fun f12 hf12 => ?_
      refine k_l ?_
      have hw2:IntKind.wrap .i64 ((j:Int)+1)=((j+1:Nat):Int):=by rw [wrap_i64 (by omega) (by omega)]; rfl
      rw [hw2] at hf12
      refine ih _ _ ⟨j+1,q.poke (j:Int) (gt l (j:Int)),hq.poke _ _,by omega,by omega,?_,Nat.le_trans hle (q.poke_len _ _),hf12,rfl⟩
      rw [← he,List.drop_eq_getElem_cons hjl]
      have hg:gt l (j:Int)=l[j]:=by unfold gt; rw [Int.toNat_natCast,List.getD_eq_getElem?_getD,List.getElem?_eq_getElem hjl]; rfl
      rw [hg]; rfl
    · have hc:¬ (j:Int) < ln l:=fun e=>by simp [e] at hc
      have hjl:j=l.length:=by unfold ln at hc; omega
      have e:q=r.load 0 l:=by
        rw [← he,hjl,List.drop_eq_nil_iff.2 (Nat.le_refl _)]; rfl
      refine k_exit ?_
      refine x_c nofun ?_
      refine x_l nofun ?_
      refine x_b ?_
      refine k_c ?_
      refine k_seq ?_
      refine k_reg ?_
      refine mops_end [6] hf4 (l':=[⟨6,[],.s (.int .i64 0)⟩]) (L':=q.H) (by kernel_rfl) fun f5 hf5 => ?_
      refine k_c ?_
      refine k_ret ?_
      refine k_fin ?_
      rw [e]
      exact fin_ret (.inl rfl) hf5 (vs:=[.s (.int .i64 0)]) (by kernel_rfl) SettL.refl
/-! ### New -/
def nw_i0:List Op1:=[oM 4 (.k (.pointer none)) [],oM 5 (.k (.int .i64 0)) [0]]
def nw_i1:List Op1:=[oM 8 (.t 1) [],oE 9 (.bin .lss (.t 8) (.k (.int .i64 0))) [0],oM 10 (.t 9) [1],oG 11 (.mv (.t 1)) 10 false [2],oG 12 (.bin .gtr (.t 11) (.k (.int .i64 65536))) 10 false [3,2],oE 13 (.pick (.t 10) (.k (.bool true)) (.t 12)) [2,4]]
def nw_i2:List Op1:=[oM 4 (.k (.pointer none)) [],oM 5 (.k (.int .i64 10)) [0,0]]
def nw_i3:List Op1:=[oM 14 (.t 1) [],oE 15 (.build (List.replicate 256 (.slice none 0 0)++[.int .i64 0]) [(256,(1,(.t 14)))]) [0],oE 16 (.box (.t 15)) [1],oM 6 (.t 16) [2,0,1,2]]
def nw_i4:List Op1:=[oM 17 (.t 6) [],oM 18 (.t 0) [],oC 19 13 [(.t 17),(.k (.int .i64 0)),(.t 18)] [0,1],oM 7 (.t 19) [2,2,0,1,2]]
def nw_i5:List Op1:=[oM 20 (.t 7) [],oE 21 (.bin .neq (.t 20) (.k (.int .i64 0))) [0]]
def nw_i6:List Op1:=[oM 4 (.k (.pointer none)) [],oM 5 (.k (.int .i64 12)) [0,0]]
def nw_i7:List Op1:=[oM 22 (.t 6) [],oM 4 (.t 22) [0,0],oM 5 (.k (.int .i64 0)) [1,0,1]]
def nw_ir:IR:=(.seq (.reg false nw_i0) (.seq (.seq (.reg false nw_i1) (.cond (.t 13) (.seq (.reg false nw_i2) .ret) .skip)) (.seq (.reg false nw_i3) (.seq (.seq (.reg false nw_i4) (.seq (.reg false nw_i5) (.cond (.t 21) (.seq (.reg false nw_i6) .ret) .skip))) (.seq (.reg false nw_i7) .ret)))))
theorem nw_cfn:cFn Tryz.prog 5=some (nw_ir,[(.t 4),(.t 5)],23):=by kernel_rfl
theorem ram_New_ok (image:List Int) (rom:Int) (r:RamT × Int) (h:ram_New image rom=some r):Pure Tryz.prog 5 [.sl false image.length (cat (nI .u8) image),.s (.int .i64 rom)] (.tup [RamT.v r.1,.s (.int .i64 r.2)]):=by
  unfold ram_New at h
  split at h
  case isFalse=>simp at h
  rename_i hc
  obtain ⟨hrom,hl⟩:=hc
  obtain rfl:=Option.some.inj h
  have hnew:=RamT.Ok.new rom
  have hok:=RamT.Ok.load image hnew 0
  refine ConL.of nw_cfn (Nat.le_of_ble_eq_true (by kernel_rfl)) (Nat.le_refl _) ?_
  refine k_start ?_
  have hf:FOk (fr0 [.sl false image.length (cat (nI .u8) image),.s (.int .i64 rom)]) [⟨0,[],.sl false image.length (cat (nI .u8) image)⟩,⟨1,[],.s (.int .i64 rom)⟩]:=⟨⟨fun _=>rfl,fun h=>(h trivial).elim⟩,⟨fun _=>rfl,fun h=>(h trivial).elim⟩,trivial⟩
  generalize fr0 [.sl false image.length (cat (nI .u8) image),.s (.int .i64 rom)]=f at hf ⊢
  refine k_seq ?_
  refine k_reg ?_
  refine mops_end [0,1] hf (l':=[⟨0,[],.sl false image.length (cat (nI .u8) image)⟩,⟨1,[],.s (.int .i64 rom)⟩]) (L':=[]) (by kernel_rfl) fun f1 hf1 => ?_
  refine k_c ?_
  refine k_seq ?_
  refine k_seq ?_
  refine k_reg ?_
  refine mops_end [0,1,13] hf1 (l':=[⟨0,[],.sl false image.length (cat (nI .u8) image)⟩,⟨1,[],.s (.int .i64 rom)⟩,⟨13,[],.s (.bool ((decide (rom < 0))||(decide (65536 < rom))))⟩]) (L':=[]) (by kernel_rfl) fun f2 hf2 => ?_
  refine k_c ?_
  refine k_cond hf2 (t:=((decide (rom < 0))||(decide (65536 < rom)))) (by kernel_rfl) (fun e => ?_) (fun _ => ?_)
  · exfalso
    simp at e
    omega
  refine k_skip ?_
  refine k_c ?_
  refine k_seq ?_
  refine k_reg ?_
  refine mops_end [0,6] hf2 (l':=[⟨0,[],.sl false image.length (cat (nI .u8) image)⟩,⟨6,[],.ptr 0 0 0⟩]) (L':=(RamT.new rom).H) (by kernel_rfl) fun f3 hf3 => ?_
  refine k_c ?_
  refine k_seq ?_
  refine k_seq ?_
  refine k_reg ?_
  refine mops_seg [6,17,18] 2 hf3 (l':=[⟨6,[],.ptr 0 0 0⟩,⟨17,[],.ptr 0 0 0⟩,⟨18,[],.sl false image.length (cat (nI .u8) image)⟩]) (L':=(RamT.new rom).H) (by kernel_rfl) fun f4 hf4 => ?_
  refine mops_call rfl hf4 (av:=[.ptr 0 0 0,.s (.int .i64 0),.sl false image.length (cat (nI .u8) image)]) (by kernel_rfl) (v:=.s (.int .i64 0)) (L':=((RamT.new rom).load 0 image).H) (by
    have:=CalL.of (n0:=0) (load_con (RamT.new rom) hnew image hl) (Emb.idn _) (Nat.zero_le _)
    rw [rns_id,rn_id] at this
    exact this) (by intro h; cases h) fun f5 hf5 => ?_
  refine mops_end [6,7] hf5 (l':=[⟨6,[],.ptr 0 0 0⟩,⟨7,[],.s (.int .i64 0)⟩]) (L':=((RamT.new rom).load 0 image).H) (by kernel_rfl) fun f6 hf6 => ?_
  refine k_c ?_
  refine k_seq ?_
  refine k_reg ?_
  refine mops_end [6,21] hf6 (l':=[⟨6,[],.ptr 0 0 0⟩,⟨21,[],.s (.bool ((0:Int) != 0))⟩]) (L':=((RamT.new rom).load 0 image).H) (by kernel_rfl) fun f7 hf7 => ?_
  refine k_c ?_
  refine k_cond hf7 (t:=((0:Int) != 0)) (by kernel_rfl) (fun e=>by simp at e) (fun _ => ?_)
  refine k_skip ?_
  refine k_c ?_
  refine k_seq ?_
  refine k_reg ?_
  refine mops_end [4,5] hf7 (l':=[⟨4,[],.ptr 0 0 0⟩,⟨5,[],.s (.int .i64 0)⟩]) (L':=((RamT.new rom).load 0 image).H) (by kernel_rfl) fun f8 hf8 => ?_
  refine k_c ?_
  refine k_ret ?_
  exact k_fin (fin_ret (.inl rfl) hf8 (vs:=[.ptr 0 0 0,.s (.int .i64 0)]) (by kernel_rfl) (SettL.pure (FzL.tup (FzsL.cons (FzL.ram hok) (FzsL.cons (FzL.stat rfl) FzsL.nil)))))
/-! ### Read -/
def rd_i0:List Op1:=[oM 4 (.k (.int .u8 0)) []]
def rd_i1:List Op1:=[oM 6 (.t 0) [],oM 7 (.t 1) [],oC 8 53 [(.t 7)] [1],oE 9 (.nilc (.t 6)) [0],oE 10 (.fld 0 (.t 9)) [3],oE 11 (.iaa 256 1 (.t 10) (.t 8)) [4,2],oE 12 (.load false 1 (.t 11)) [5],oM 5 (.t 12) [6,2,0,1,2,3,4,5,6]]
def rd_i2:List Op1:=[oM 13 (.t 5) [],oE 14 (.isnil false true (.t 13)) [0]]
def rd_i3:List Op1:=[oM 4 (.k (.int .u8 0)) []]
def rd_i4:List Op1:=[oM 15 (.t 5) [],oM 16 (.t 1) [],oC 17 40 [(.t 16)] [1],oE 18 (.ias 1 (.t 15) (.t 17)) [0,2],oE 19 (.load false 1 (.t 18)) [3],oM 4 (.t 19) [4,2,0,1,2,3,4]]
def rd_ir:IR:=(.seq (.reg false rd_i0) (.seq (.reg true rd_i1) (.seq (.seq (.reg false rd_i2) (.cond (.t 14) (.seq (.reg false rd_i3) .ret) .skip)) (.seq (.reg false rd_i4) .ret))))
theorem rd_cfn:cFn Tryz.prog 121=some (rd_ir,[(.t 4)],20):=by kernel_rfl
theorem ram_Read_ok (m:RamT) (a:Int) (r:Int) (h:ram_Read m a=some r):Pure Tryz.prog 121 [RamT.v m,.s (.int .u16 a)] (.s (.int .u8 r)):=by
  unfold ram_Read at h
  split at h
  case isFalse=>simp at h
  rename_i hc
  obtain ⟨hok,ha⟩:=hc
  have hok:=RamT.okB_iff.1 hok
  obtain rfl:=Option.some.inj h
  have hi:0≤a / 256∧a / 256 < ((256:Nat):Int):=by omega
  obtain ⟨p,hp,hc⟩:=RamT.c_at hok (i:=(a / 256).toNat) (by omega)
  have hc:(m.c.drop ((a / 256).toNat*1))[0]? = some (pip m.bl p):=by
    rw [List.getElem?_drop,show (a / 256).toNat*1+0=(a / 256).toNat by omega]; exact hc
  refine ConL.of rd_cfn (Nat.le_of_ble_eq_true (by kernel_rfl)) (Nat.le_refl _) ?_
  refine k_start ?_
  have hf:FOk (fr0 [RamT.v m,.s (.int .u16 a)]) [⟨0,[],.ip m.c⟩,⟨1,[],.s (.int .u16 a)⟩]:=⟨⟨fun _=>rfl,fun h=>(h trivial).elim⟩,⟨fun _=>rfl,fun h=>(h trivial).elim⟩,trivial⟩
  generalize fr0 [RamT.v m,.s (.int .u16 a)]=f at hf ⊢
  refine k_seq ?_
  refine k_reg ?_
  refine mops_end [0,1] hf (l':=[⟨0,[],.ip m.c⟩,⟨1,[],.s (.int .u16 a)⟩]) (L':=[]) (by kernel_rfl) fun f1 hf1 => ?_
  refine k_c ?_
  refine k_seq ?_
  refine k_regq ?_
  refine mops_seg [1,6,7] 2 hf1 (l':=[⟨1,[],.s (.int .u16 a)⟩,⟨6,[],.ip m.c⟩,⟨7,[],.s (.int .u16 a)⟩]) (L':=[]) (by kernel_rfl) fun f2 hf2 => ?_
  refine mops_call rfl hf2 (av:=[.s (.int .u16 a)]) (by kernel_rfl) (v:=.s (.int .u8 (a / 256))) (CalL.pure (hi_con a ha) rfl rfl (Nat.le_refl _)) (fun _=>rfl) fun f3 hf3 => ?_
  refine mops_seg [1,8,10] 2 hf3 (l':=[⟨1,[],.s (.int .u16 a)⟩,⟨8,[],.s (.int .u8 (a / 256))⟩,⟨10,[],.ip m.c⟩]) (L':=[]) (by kernel_rfl) fun f4 hf4 => ?_
  refine mops_adv rfl (v:=.ip (m.c.drop ((a / 256).toNat*1))) hf4 (by kernel_rfl) (e_iaa (n:=256) (xv:=.ip m.c) (k:=.u8) (iv:=a / 256) (p:=.ip (m.c.drop ((a / 256).toNat*1))) (by kernel_rfl) (by kernel_rfl) (by kernel_rfl) (by kernel_rfl) hi) fun f5 hf5 => ?_
  refine mops_adv rfl (v:=pip m.bl p) hf5 (by kernel_rfl) (e_load_rip (cs:=m.c.drop ((a / 256).toNat*1)) (by kernel_rfl) hc) fun f6 hf6 => ?_
  refine mops_end [1,5] hf6 (l':=[⟨1,[],.s (.int .u16 a)⟩,⟨5,[],pip m.bl p⟩]) (L':=[]) (by kernel_rfl) fun f7 hf7 => ?_
  refine k_c ?_
  refine k_seq ?_
  refine k_seq ?_
  refine k_reg ?_
  refine mops_seg [1,5,13] 1 hf7 (l':=[⟨1,[],.s (.int .u16 a)⟩,⟨5,[],pip m.bl p⟩,⟨13,[],pip m.bl p⟩]) (L':=[]) (by kernel_rfl) fun f8 hf8 => ?_
  cases p with
  | none =>
    have hg:m.get a=0:=by unfold RamT.get; rw [hp]
    refine mops_adv rfl (v:=.s (.bool true)) hf8 (by kernel_rfl) (e_nil_lit (by kernel_rfl)) fun f9 hf9 => ?_
    refine mops_end [14] hf9 (l':=[⟨14,[],.s (.bool true)⟩]) (L':=[]) (by kernel_rfl) fun f10 hf10 => ?_
    refine k_c ?_
    refine k_cond hf10 (t:=true) (by kernel_rfl) (fun _ => ?_) (fun e=>by cases e)
    refine k_seq ?_
    refine k_reg ?_
    refine mops_end [4] hf10 (l':=[⟨4,[],.s (.int .u8 0)⟩]) (L':=[]) (by kernel_rfl) fun f11 hf11 => ?_
    refine k_c ?_
    refine k_ret ?_
    refine x_c nofun ?_
    rw [hg]
    exact k_fin (fin_ret (.inl rfl) hf11 (vs:=[.s (.int .u8 0)]) (by kernel_rfl) (SettL.pure (FzL.stat rfl)))
  | some k =>
    have hkl:=hok.k _ _ hp
    have hlen:(m.bl.getD k []).length=256:=by
      rw [List.getD_eq_getElem?_getD,List.getElem?_eq_getElem hkl]; exact hok.l k _ (List.getElem?_eq_getElem hkl)
    have hlo:0≤a % 256∧a % 256 < ((256:Nat):Int):=by omega
    have hlo2:0≤a % 256∧a % 256 < ln (m.bl.getD k []):=by unfold ln; rw [hlen]; exact hlo
    have hg:m.get a=gt (m.bl.getD k []) (a % 256):=by unfold RamT.get; rw [hp]
    refine mops_adv rfl (v:=.s (.bool false)) hf8 (by kernel_rfl) (e_nil_sl (n:=255) (u:=false) (cs:=cat (nI .u8) (m.bl.getD k [])) (by kernel_rfl)) fun f9 hf9 => ?_
    refine mops_end [1,5,14] hf9 (l':=[⟨1,[],.s (.int .u16 a)⟩,⟨5,[],.sl false 256 (cat (nI .u8) (m.bl.getD k []))⟩,⟨14,[],.s (.bool false)⟩]) (L':=[]) (by kernel_rfl) fun f10 hf10 => ?_
    refine k_c ?_
    refine k_cond hf10 (t:=false) (by kernel_rfl) (fun e=>by cases e) (fun _ => ?_)
    refine k_skip ?_
    refine k_c ?_
    refine k_seq ?_
    refine k_reg ?_
    refine mops_seg [15,16] 2 hf10 (l':=[⟨15,[],.sl false 256 (cat (nI .u8) (m.bl.getD k []))⟩,⟨16,[],.s (.int .u16 a)⟩]) (L':=[]) (by kernel_rfl) fun f11 hf11 => ?_
    refine mops_call rfl hf11 (av:=[.s (.int .u16 a)]) (by kernel_rfl) (v:=.s (.int .u8 (a % 256))) (CalL.pure (lo_con a) rfl rfl (Nat.le_refl _)) (by intro h; cases h) fun f12 hf12 => ?_
    refine mops_adv rfl (v:=.ip ((cat (nI .u8) (m.bl.getD k [])).drop ((a % 256).toNat*1))) hf12 (by kernel_rfl) (e_ias (n:=256) (xv:=.sl false 256 (cat (nI .u8) (m.bl.getD k []))) (k:=.u8) (iv:=a % 256) (p:=.ip ((cat (nI .u8) (m.bl.getD k [])).drop ((a % 256).toNat*1))) (by kernel_rfl) (by kernel_rfl) (by kernel_rfl) (by kernel_rfl) hlo) fun f13 hf13 => ?_
    refine mops_adv rfl (v:=.s (.int .u8 (gt (m.bl.getD k []) (a % 256)))) hf13 (by kernel_rfl) (e_load_ip (g:=nI .u8) (l:=m.bl.getD k []) (iv:=a % 256) [] (by kernel_rfl) hlo2 (by kernel_rfl) (by kernel_rfl)) fun f14 hf14 => ?_
    refine mops_end [4] hf14 (l':=[⟨4,[],.s (.int .u8 (gt (m.bl.getD k []) (a % 256)))⟩]) (L':=[]) (by kernel_rfl) fun f15 hf15 => ?_
    refine k_c ?_
    refine k_ret ?_
    rw [hg]
    exact k_fin (fin_ret (.inl rfl) hf15 (vs:=[.s (.int .u8 (gt (m.bl.getD k []) (a % 256)))]) (by kernel_rfl) (SettL.pure (FzL.stat rfl)))
/-- The method behind the interface. -/
theorem ram_method (b o:Nat) (w:World):(method (Tryz.prog.types.size+Made.depth) 28 (.pointer (some ⟨b,o,none⟩)) "Read").run Tryz.prog w=.ok (121,.pointer (some ⟨b,o,none⟩)) w:=by
  kernel_rfl
end Go.Proofs.YtfcegejpdlbkdaaGreatK
