/- How the steps are reckoned by rewriting: what is outermost comes first. -/
import Derived.Test.YtoemlgdlejkliaaKm
namespace Go.Proofs.YtoemlgdlejkliaaK
set_option linter.unusedVariables false
set_option linter.unusedSimpArgs false
universe u
open Go.RowKit
/-- To be used as a plain equation. -/
theorem rfl' {α:Sort u} {a:α}:a=a:=Eq.trans (Eq.refl a) (Eq.refl a)
def tagA:Nat:=0
def tagB:Nat:=0
@[go_sem] theorem tag_eq:tagA=tagB:=rfl'
section
variable {P:Program} {f:Fr} {H H' H0:Hp} {K:V→Hp→Prop} {KF:Fr→Hp→Prop} {KQ:Fr→Prop} {Q Q':X→Fr→Hp→Prop}
-- What waits is left alone.
@[go_sem ↓] theorem dwp_skip:dwp P .skip Q f H=Q .normal f H:=rfl'
@[go_sem ↓] theorem dwp_reg {l:List Op1}:dwp P (.reg false l) Q f H=dops P l f H (Q .normal):=rfl'
@[go_sem ↓] theorem dwp_regq {l:List Op1}:dwp P (.reg true l) Q f H=qops P l f H fun f'=>Q .normal f' H:=rfl'
@[go_sem ↓] theorem dwp_regw {l:List An}:dwp P (.regw l) Q f H=wops P l f [] H [] (Q .normal):=rfl'
@[go_sem ↓] theorem dwp_seq {a b:IR}:dwp P (.seq a b) Q f H=dwp P a (X.then (dwp P b Q) Q) f H:=rfl'
@[go_sem ↓] theorem dwp_cond {c:Opd} {a b:IR}:dwp P (.cond c a b) Q f H=andB (asB (ev c f)) (dwp P a Q f H) (dwp P b Q f H):=rfl'
@[go_sem ↓] theorem dwp_block {id:Nat} {a:IR}:dwp P (.block id a) Q f H=dwp P a (X.inBlock id Q) f H:=rfl'
@[go_sem ↓] theorem dwp_exit {id:Nat}:dwp P (.exit id) Q f H=Q (.exit id) f H:=rfl'
@[go_sem ↓] theorem dwp_ret:dwp P .ret Q f H=Q .ret f H:=rfl'
@[go_sem ↓] theorem then_normal {K:Fr→Hp→Prop}:X.then K Q .normal=K:=rfl'
@[go_sem ↓] theorem then_exit {K:Fr→Hp→Prop} {id:Nat}:X.then K Q (.exit id)=Q (.exit id):=rfl'
@[go_sem ↓] theorem then_ret {K:Fr→Hp→Prop}:X.then K Q .ret=Q .ret:=rfl'
@[go_sem ↓] theorem inBlock_normal {id:Nat}:X.inBlock id Q .normal=Q .normal:=rfl'
@[go_sem ↓] theorem inBlock_ret {id:Nat}:X.inBlock id Q .ret=Q .ret:=rfl'
@[go_sem ↓] theorem inBlock_exit {id id':Nat}:X.inBlock id Q (.exit id')=if id'=id then Q .normal else Q (.exit id'):=rfl'
@[go_sem ↓] theorem Fini_normal {ts:List RV} {r:V}:Fini ts H0 r H' .normal f H=andR (resV f H ts) fun l=>Settle H0 (mkRes l) H r H':=rfl'
@[go_sem ↓] theorem Fini_ret {ts:List RV} {r:V}:Fini ts H0 r H' .ret f H=andR (resV f H ts) fun l=>Settle H0 (mkRes l) H r H':=rfl'
@[go_sem] theorem resV_nil:resV f H []=some []:=rfl'
@[go_sem] theorem resV_t {n:Nat} {r:List RV}:resV f H (.t n::r)=(resV f H r).map fun l=>f n::l:=rfl'
@[go_sem] theorem resV_c {n sz:Nat} {ag:Bool} {r:List RV}:resV f H (.c n ag sz::r)=(cellsAt H (f n) sz).bind fun l=>(one? ag l).bind fun v=>(resV f H r).map fun l=>v::l:=rfl'
@[go_sem] theorem andR_some {l:List V} {K:List V→Prop}:andR (some l) K=K l:=rfl'
@[go_sem ↓] theorem andB_true {A B:Prop}:andB (some true) A B=A:=by simp [andB]
@[go_sem ↓] theorem andB_false {A B:Prop}:andB (some false) A B=B:=by simp [andB]
@[go_sem ↓] theorem dops_nil:dops P [] f H KF=KF f H:=rfl'
@[go_sem ↓] theorem dops_none {d:Option Nat} {op:Ik} {af:List Nat} {l:List Op1}:dops P (⟨d,op,none,af⟩::l) f H KF=d1 P op f H fun v H'=>dops P l (upd d v f) H' KF:=rfl'
@[go_sem ↓] theorem dops_some {d:Option Nat} {op:Ik} {af:List Nat} {l:List Op1} {t:Nat} {b:Bool}:dops P (⟨d,op,some (t,b),af⟩::l) f H KF=(sg (f t)=true∧dg P op (gd (f t) b=true) f H fun v H'=>dops P l (upd d v f) H' KF):=rfl'
@[go_sem ↓] theorem wops_nil {hs:List Hp} {pend:List (Op1 × Fr × V × Nat)}:wops P [] f hs H pend KF=KF f H:=rfl'
@[go_sem ↓] theorem wops_w {d:Option Nat} {op:Ik} {af:List Nat} {lo hi:Nat} {l:List An} {hs:List Hp} {pend:List (Op1 × Fr × V × Nat)}:wops P (⟨⟨d,op,none,af⟩,true,lo,hi⟩::l) f hs H pend KF=d1 P op f H fun v H'=>pendAll P (hs.length+1) H' pend∧wops P l (upd d v f) (H::hs) H' pend KF:=rfl'
@[go_sem ↓] theorem wops_wg {d:Option Nat} {op:Ik} {af:List Nat} {t:Nat} {b:Bool} {lo hi:Nat} {l:List An} {hs:List Hp} {pend:List (Op1 × Fr × V × Nat)}:wops P (⟨⟨d,op,some (t,b),af⟩,true,lo,hi⟩::l) f hs H pend KF=(sg (f t)=true∧dg P op (gd (f t) b=true) f H fun v H'=>pendAll P (hs.length+1) H' pend∧wops P l (upd d v f) (H::hs) H' pend KF):=rfl'
@[go_sem ↓] theorem wops_r {d:Option Nat} {op:Ik} {af:List Nat} {lo hi:Nat} {l:List An} {hs:List Hp} {pend:List (Op1 × Fr × V × Nat)}:wops P (⟨⟨d,op,none,af⟩,false,lo,hi⟩::l) f hs H pend KF=q1 P op f H fun v=>oldAll P ⟨d,op,none,af⟩ f v (hs.take (hs.length - lo))∧wops P l (upd d v f) hs H (if hi≤hs.length then pend else (⟨d,op,none,af⟩,f,v,hi)::pend) KF:=rfl'
@[go_sem ↓] theorem wops_rg {d:Option Nat} {op:Ik} {af:List Nat} {t:Nat} {b:Bool} {lo hi:Nat} {l:List An} {hs:List Hp} {pend:List (Op1 × Fr × V × Nat)}:wops P (⟨⟨d,op,some (t,b),af⟩,false,lo,hi⟩::l) f hs H pend KF=(sg (f t)=true∧qg P op (gd (f t) b=true) f H fun v=>oldAll P ⟨d,op,some (t,b),af⟩ f v (hs.take (hs.length - lo))∧wops P l (upd d v f) hs H (if hi≤hs.length then pend else (⟨d,op,some (t,b),af⟩,f,v,hi)::pend) KF):=rfl'
@[go_sem] theorem oldAll_nil {o:Op1} {v:V}:oldAll P o f v []=True:=rfl'
@[go_sem] theorem oldAll_cons {o:Op1} {v:V} {l:List Hp}:oldAll P o f v (H::l)=(qv P o f H v∧oldAll P o f v l):=rfl'
@[go_sem] theorem pendAll_nil {s:Nat}:pendAll P s H []=True:=rfl'
@[go_sem] theorem pendAll_cons {s hi:Nat} {o:Op1} {v:V} {l:List (Op1 × Fr × V × Nat)}:pendAll P s H ((o,f,v,hi)::l)=((s≤hi→qv P o f H v)∧pendAll P s H l):=rfl'
@[go_sem ↓] theorem qv_none {d:Option Nat} {op:Ik} {af:List Nat} {v:V}:qv P ⟨d,op,none,af⟩ f H v=q1 P op f H (· = v):=rfl'
@[go_sem ↓] theorem qv_some {d:Option Nat} {op:Ik} {af:List Nat} {t:Nat} {b:Bool} {v:V}:qv P ⟨d,op,some (t,b),af⟩ f H v=(sg (f t)=true∧qg P op (gd (f t) b=true) f H (· = v)):=rfl'
@[go_sem ↓] theorem qops_nil:qops P [] f H KQ=KQ f:=rfl'
@[go_sem ↓] theorem qops_none {d:Option Nat} {op:Ik} {af:List Nat} {l:List Op1}:qops P (⟨d,op,none,af⟩::l) f H KQ=q1 P op f H fun v=>qops P l (upd d v f) H KQ:=rfl'
@[go_sem ↓] theorem qops_some {d:Option Nat} {op:Ik} {af:List Nat} {l:List Op1} {t:Nat} {b:Bool}:qops P (⟨d,op,some (t,b),af⟩::l) f H KQ=(sg (f t)=true∧qg P op (gd (f t) b=true) f H fun v=>qops P l (upd d v f) H KQ):=rfl'
@[go_sem ↓] theorem d1_e {op:I}:d1 P (.e op) f H K=andV (E1 op f H) K:=rfl'
@[go_sem ↓] theorem d1_call {m:FuncId} {l:List Opd}:d1 P (.call m l) f H K=dcall P m (l.map (ev · f)) H K:=rfl'
@[go_sem ↓] theorem q1_e {op:I} {K:V→Prop}:q1 P (.e op) f H K=(isQ op=true∧andV (E1 op f H) fun v _=>K v):=rfl'
@[go_sem ↓] theorem q1_call {m:FuncId} {l:List Opd} {K:V→Prop}:q1 P (.call m l) f H K=qcall P m (l.map (ev · f)) H K:=rfl'
@[go_sem ↓] theorem qg_e {op:I} {K:V→Prop} {c:Prop} [Decidable c]:qg P (.e op) c f H K=(isQ op=true∧andG c (E1 op f H) H fun v _=>K v):=rfl'
@[go_sem ↓] theorem qg_call {m:FuncId} {l:List Opd} {K:V→Prop} {c:Prop} [Decidable c]:qg P (.call m l) c f H K=gcall P m (l.map (ev · f)) c H fun v _=>K v:=rfl'
@[go_sem ↓] theorem dg_e {op:I} {c:Prop} [Decidable c]:dg P (.e op) c f H K=if isQ op=true then andG c (E1 op f H) H K else (c→andV (E1 op f H) K)∧(¬ c→K (.s undef) H):=rfl'
@[go_sem ↓] theorem dg_call {m:FuncId} {l:List Opd} {c:Prop} [Decidable c]:dg P (.call m l) c f H K=gcall P m (l.map (ev · f)) c H K:=rfl'
@[go_sem ↓] theorem andV_some {v:V}:andV (some (v,H)) K=K v H:=rfl'
@[go_sem] theorem sg_s {v:Value}:sg (.s v)=true:=rfl'
@[go_sem] theorem sg_ite {c:Prop} [Decidable c] {u v:Value}:sg (if c then .s u else .s v)=true:=by split <;> rfl
@[go_sem] theorem gd_true {b:Bool}:gd (.s (.bool b)) true=b:=by cases b <;> rfl
@[go_sem] theorem gd_false {b:Bool}:gd (.s (.bool b)) false=!b:=by cases b <;> rfl
@[go_sem] theorem ev_t {n:Nat}:ev (.t n) f=f n:=rfl'
@[go_sem] theorem ev_fn {m:FuncId}:ev (.fn m) f=.s (.func (.func m) #[] #[]):=rfl'
@[go_sem] theorem ev_bool {b:Bool}:ev (.k (.bool b)) f=.s (.bool b):=rfl'
@[go_sem] theorem ev_int {k:IntKind} {n:Int}:ev (.k (.int k n)) f=.s (.int k n):=rfl'
@[go_sem] theorem ev_str {s:ByteArray}:ev (.k (.string s)) f=.s (.string s):=rfl'
@[go_sem] theorem ev_ptr {p:Option Addr}:ev (.k (.pointer p)) f=.s (.pointer p):=rfl'
@[go_sem] theorem ev_sl {p:Option Addr} {n c:Nat}:ev (.k (.slice p n c)) f=.s (.slice p n c):=rfl'
@[go_sem] theorem ev_agg {l:List Value}:ev (.k (.agg ⟨l⟩)) f=.agg (l.map .s):=rfl'
@[go_sem] theorem ev_nilFunc:ev (.k .nilFunc) f=.s .nilFunc:=rfl'
@[go_sem] theorem ev_nilIface:ev (.k .nilIface) f=.s .nilIface:=rfl'
@[go_sem] theorem ev_map {r:Option Nat}:ev (.k (.map r)) f=.s (.map r):=rfl'
@[go_sem ↓] theorem upd_none {v:V}:upd none v f=f:=rfl'
@[go_sem] theorem upd_at {d t:Nat} {v:V}:upd (some d) v f t=if t=d then v else f t:=rfl'
@[go_sem] theorem fr0_at {l:List V} {t:Nat}:fr0 l t=(l[t]?).getD (.s undef):=rfl'
@[go_sem] theorem mkRes_one {v:V}:mkRes [v]=v:=rfl'
@[go_sem] theorem mkRes_none:mkRes []=.tup []:=rfl'
@[go_sem] theorem mkRes_more {v u:V} {l:List V}:mkRes (v::u::l)=.tup (v::u::l):=rfl'
@[go_sem] theorem asB_bool {b:Bool}:asB (.s (.bool b))=some b:=rfl'
@[go_sem] theorem asI_int {k:IntKind} {n:Int}:asI (.s (.int k n))=some n:=rfl'
@[go_sem] theorem asS_s {v:Value}:asS (.s v)=some v:=rfl'
@[go_sem] theorem asStr_str {s:ByteArray}:asStr (.s (.string s))=some s:=rfl'
@[go_sem] theorem asAgg_agg {l:List V}:asAgg (.agg l)=some l:=rfl'
@[go_sem] theorem asTup_tup {l:List V}:asTup (.tup l)=some l:=rfl'
@[go_sem] theorem cells_agg {l:List V}:(V.agg l).cells=l:=rfl'
@[go_sem] theorem cells_bool {b:Bool}:(V.s (.bool b)).cells=[.s (.bool b)]:=rfl'
@[go_sem] theorem cells_int {k:IntKind} {n:Int}:(V.s (.int k n)).cells=[.s (.int k n)]:=rfl'
@[go_sem] theorem cells_str {s:ByteArray}:(V.s (.string s)).cells=[.s (.string s)]:=rfl'
@[go_sem] theorem cells_slice {a:Option Addr} {n c:Nat}:(V.s (.slice a n c)).cells=[.s (.slice a n c)]:=rfl'
@[go_sem] theorem cells_pointer {a:Option Addr}:(V.s (.pointer a)).cells=[.s (.pointer a)]:=rfl'
@[go_sem] theorem cells_nilF  : (V.s (.nilFunc)).cells=[.s (.nilFunc)]:=rfl'
@[go_sem] theorem cells_nilI  : (V.s (.nilIface)).cells=[.s (.nilIface)]:=rfl'
@[go_sem] theorem cells_map {r:Option Nat}:(V.s (.map r)).cells=[.s (.map r)]:=rfl'
@[go_sem] theorem cells_ptr {a b c:Nat}:(V.ptr a b c).cells=[.ptr a b c]:=rfl'
@[go_sem] theorem cells_ref {a b c d:Nat}:(V.ref a b c d).cells=[.ref a b c d]:=rfl'
@[go_sem] theorem cells_sl {b:Bool} {n:Nat} {l:List V}:(V.sl b n l).cells=[.sl b n l]:=rfl'
@[go_sem] theorem cells_ip {l:List V}:(V.ip l).cells=[.ip l]:=rfl'
@[go_sem] theorem cells_ifc {t:TypeId} {x:V}:(V.ifc t x).cells=[.ifc t x]:=rfl'
@[go_sem] theorem one_bool {b:Bool}:(V.s (.bool b)).one=true:=rfl'
@[go_sem] theorem one_int {k:IntKind} {n:Int}:(V.s (.int k n)).one=true:=rfl'
@[go_sem] theorem one_str {s:ByteArray}:(V.s (.string s)).one=true:=rfl'
@[go_sem] theorem one_slice {a:Option Addr} {n c:Nat}:(V.s (.slice a n c)).one=true:=rfl'
@[go_sem] theorem one_pointer {a:Option Addr}:(V.s (.pointer a)).one=true:=rfl'
@[go_sem] theorem one_sl {b:Bool} {n:Nat} {l:List V}:(V.sl b n l).one=true:=rfl'
@[go_sem] theorem one_ptr {a b c:Nat}:(V.ptr a b c).one=true:=rfl'
@[go_sem] theorem one_ref {a b c d:Nat}:(V.ref a b c d).one=true:=rfl'
@[go_sem] theorem one_ip {l:List V}:(V.ip l).one=true:=rfl'
@[go_sem] theorem E1_mv {x:Opd}:E1 (.mv x) f H=some (ev x f,H):=rfl'
@[go_sem] theorem E1_nilg {n:Nat}:E1 (.nilg n) f H=some (.ref H.length 0 0 0,H++[⟨0,.grow,n,[]⟩]):=rfl'
@[go_sem] theorem E1_pick {c a b:Opd}:E1 (.pick c a b) f H=(asB (ev c f)).map fun t=>(if t=true then ev a f else ev b f,H):=rfl'
@[go_sem] theorem E1_box {x:Opd}:E1 (.box x) f H=if (ev x f).cells.all V.one=true then some (.ptr H.length 0 0,H++[⟨0,.mem,1,(ev x f).cells⟩]) else none:=rfl'
@[go_sem] theorem E1_zero {l:List Value}:E1 (.zero l) f H=some (.ptr H.length 0 0,H++[⟨0,.mem,1,l.map .s⟩]):=rfl'
@[go_sem] theorem E1_build {l:List Value} {ps:List (Nat × Nat × Opd)}:E1 (.build l ps) f H=(fillV f (l.map .s) ps).map fun l=>(.agg l,H):=rfl'
@[go_sem] theorem E1_bsl {n:Nat} {l:List Value} {ps:List (Nat × Nat × Opd)}:E1 (.bsl n l ps) f H=(fillV f (l.map .s) ps).bind fun l=>if statics l=true∧l.all V.one=true then some (.sl true n l,H) else none:=rfl'
@[go_sem] theorem E1_load {ag:Bool} {sz:Nat} {x:Opd}:E1 (.load ag sz x) f H=(cellsAt H (ev x f) sz).bind fun l=>(one? ag l).map fun v=>(v,H):=rfl'
@[go_sem] theorem E1_store {sz:Nat} {p x:Opd}:E1 (.store sz p x) f H=if (ev x f).cells.length=sz then (storeAt H (ev p f) (ev x f).cells).map fun H'=>(.s undef,H') else none:=rfl'
@[go_sem] theorem E1_nilc {x:Opd}:E1 (.nilc x) f H=if isAddr H (ev x f)=true then some (ev x f,H) else none:=rfl'
@[go_sem] theorem E1_bin {op:BinOp} {x y:Opd}:E1 (.bin op x y) f H=(asS (ev x f)).bind fun a=>(asS (ev y f)).bind fun b=>(dbin op a b).map fun v=>(.s v,H):=rfl'
@[go_sem] theorem E1_bbin {neg:Bool} {x y:Opd}:E1 (.bbin neg x y) f H=(asB (ev x f)).bind fun a=>(asB (ev y f)).map fun b=>(.s (.bool (if neg=true then !(a == b) else a == b)),H):=rfl'
@[go_sem] theorem E1_eqa {neg:Bool} {ks:List TK} {x y:Opd}:E1 (.eqa neg ks x y) f H=(asAgg (ev x f)).bind fun a=>(asAgg (ev y f)).bind fun b=>(eqKs ks a b).map fun v=>(.s (.bool (if neg=true then !v else v)),H):=rfl'
@[go_sem] theorem E1_isnil {neg isl:Bool} {x:Opd}:E1 (.isnil neg isl x) f H=(nil? isl H (ev x f)).map fun v=>(.s (.bool (if neg=true then !v else v)),H):=rfl'
@[go_sem] theorem E1_un {op:UnOp} {x:Opd}:E1 (.un op x) f H=(asS (ev x f)).bind fun a=>(dun op a).map fun v=>(.s v,H):=rfl'
@[go_sem] theorem E1_cint {k:IntKind} {x:Opd}:E1 (.cint k x) f H=(asI (ev x f)).map fun n=>(.s (.int k (k.wrap n)),H):=rfl'
@[go_sem] theorem E1_cid {x:Opd}:E1 (.cid x) f H=(asStr (ev x f)).map fun s=>(.s (.string s),H):=rfl'
@[go_sem] theorem E1_bstr {x:Opd}:E1 (.bstr x) f H=(slCells H 1 (ev x f)).bind fun l=>(bytesOf l).map fun s=>(.s (.string ⟨s.toArray⟩),H):=rfl'
@[go_sem] theorem E1_strb {x:Opd}:E1 (.strb x) f H=(asStr (ev x f)).bind fun s=>if s.size≤room then some (.ref H.length 0 0 s.size,H++[⟨0,.grow,1,ofBytes s⟩]) else none:=rfl'
@[go_sem] theorem E1_mks {z:List Value} {k:Nat} {l c:Opd}:E1 (.mks z k l c) f H=(asI (ev l f)).bind fun l=>(asI (ev c f)).bind fun c=>if 0≤l∧l≤c∧c*k≤281474976710656∧c≤281474976710656 then some (.ref H.length 0 0 l.toNat,H++[⟨0,.grow,z.length,repV l.toNat z⟩]) else none:=rfl'
@[go_sem] theorem E1_slice {sz:Nat} {x:Opd} {lo hi:Option Opd}:E1 (.slice sz x lo hi) f H=(slLen H (ev x f)).bind fun n=>(bounds f n lo hi).bind fun b=>(slCut H sz (ev x f) b.1 b.2).map fun v=>(v,H):=rfl'
@[go_sem] theorem E1_sarr {n sz:Nat} {x:Opd} {lo hi:Option Opd}:E1 (.sarr n sz x lo hi) f H=(bounds f n lo hi).bind fun b=>(arrCut H n sz (ev x f) b.1 b.2).map fun v=>(v,H):=rfl'
@[go_sem] theorem E1_sstr {x:Opd} {lo hi:Option Opd}:E1 (.sstr x lo hi) f H=(asStr (ev x f)).bind fun s=>(bounds f s.size lo hi).map fun b=>(.s (.string (s.extract b.1 b.2)),H):=rfl'
@[go_sem] theorem E1_fld {off:Nat} {x:Opd}:E1 (.fld off x) f H=if isAddr H (ev x f)=true then (ptrAdd (ev x f) off).map fun v=>(v,H) else none:=rfl'
@[go_sem] theorem E1_part {ag:Bool} {off sz:Nat} {x:Opd}:E1 (.part ag off sz x) f H=(asAgg (ev x f)).bind fun l=>if off+sz≤l.length then (one? ag ((l.drop off).take sz)).map fun v=>(v,H) else none:=rfl'
@[go_sem] theorem E1_iaa {n sz:Nat} {x i:Opd}:E1 (.iaa n sz x i) f H=if isAddr H (ev x f)=true then (asI (ev i f)).bind fun i=>(idx sz n i).bind fun k=>(ptrAdd (ev x f) k).map fun v=>(v,H) else none:=rfl'
@[go_sem] theorem E1_ias {sz:Nat} {x i:Opd}:E1 (.ias sz x i) f H=(asI (ev i f)).bind fun i=>(slLen H (ev x f)).bind fun n=>(idx sz n i).bind fun k=>(slAt (ev x f) k).map fun v=>(v,H):=rfl'
@[go_sem] theorem E1_ixa {ag:Bool} {n sz:Nat} {x i:Opd}:E1 (.ixa ag n sz x i) f H=(asI (ev i f)).bind fun i=>(idx sz n i).bind fun k=>(asAgg (ev x f)).bind fun l=>if k+sz≤l.length then (one? ag ((l.drop k).take sz)).map fun v=>(v,H) else none:=rfl'
@[go_sem] theorem E1_ixs {x i:Opd}:E1 (.ixs x i) f H=(asI (ev i f)).bind fun i=>(asStr (ev x f)).bind fun s=>if 0≤i∧i < s.size then some (.s (.int .u8 (s.data.getD i.toNat 0).toNat),H) else none:=rfl'
@[go_sem] theorem E1_ext {i:Nat} {x:Opd}:E1 (.ext i x) f H=(asTup (ev x f)).bind fun l=>(l[i]?).map fun v=>(v,H):=rfl'
@[go_sem] theorem E1_len {x:Opd}:E1 (.len x) f H=(slLen H (ev x f)).map fun n=>(.s (.int .i64 (n:Nat)),H):=rfl'
@[go_sem] theorem E1_lens {x:Opd}:E1 (.lens x) f H=(asStr (ev x f)).map fun s=>(.s (.int .i64 (s.size:Nat)),H):=rfl'
@[go_sem] theorem E1_mnx {mx:Bool} {x y:Opd}:E1 (.mnx mx x y) f H=(asS (ev x f)).bind fun a=>(asS (ev y f)).bind fun b=>(mnx mx a b).map fun v=>(.s v,H):=rfl'
@[go_sem] theorem E1_app {e sz k:Nat} {x y:Opd}:E1 (.app e sz k x y) f H=(slLen H (ev y f)).bind fun n=>(slCells H sz (ev y f)).bind fun ys=>appendV H e sz k (ev x f) ys n:=rfl'
@[go_sem] theorem E1_apps {e k:Nat} {x y:Opd}:E1 (.apps e k x y) f H=(asStr (ev y f)).bind fun s=>appendV H e 1 k (ev x f) (ofBytes s) s.size:=rfl'
@[go_sem] theorem E1_mki {t:TypeId} {x:Opd}:E1 (.mki t x) f H=if (ev x f).one=true then some (.ifc t (ev x f),H) else none:=rfl'
@[go_sem] theorem isQ_nilg {n:Nat}:isQ (.nilg n)=false:=rfl'
@[go_sem] theorem isQ_box {x:Opd}:isQ (.box x)=false:=rfl'
@[go_sem] theorem isQ_zero {l:List Value}:isQ (.zero l)=false:=rfl'
@[go_sem] theorem isQ_store {n:Nat} {p x:Opd}:isQ (.store n p x)=false:=rfl'
@[go_sem] theorem isQ_strb {x:Opd}:isQ (.strb x)=false:=rfl'
@[go_sem] theorem isQ_mks {z:List Value} {k:Nat} {l c:Opd}:isQ (.mks z k l c)=false:=rfl'
@[go_sem] theorem isQ_app {e n k:Nat} {x y:Opd}:isQ (.app e n k x y)=false:=rfl'
@[go_sem] theorem isQ_apps {e k:Nat} {x y:Opd}:isQ (.apps e k x y)=false:=rfl'
@[go_sem] theorem isQ_mv {x:Opd}:isQ (.mv x)=true:=rfl'
@[go_sem] theorem isQ_pick {c a b:Opd}:isQ (.pick c a b)=true:=rfl'
@[go_sem] theorem isQ_build {l:List Value} {ps:List (Nat × Nat × Opd)}:isQ (.build l ps)=true:=rfl'
@[go_sem] theorem isQ_bsl {n:Nat} {l:List Value} {ps:List (Nat × Nat × Opd)}:isQ (.bsl n l ps)=true:=rfl'
@[go_sem] theorem isQ_load {g:Bool} {n:Nat} {x:Opd}:isQ (.load g n x)=true:=rfl'
@[go_sem] theorem isQ_nilc {x:Opd}:isQ (.nilc x)=true:=rfl'
@[go_sem] theorem isQ_bin {o:BinOp} {x y:Opd}:isQ (.bin o x y)=true:=rfl'
@[go_sem] theorem isQ_bbin {g:Bool} {x y:Opd}:isQ (.bbin g x y)=true:=rfl'
@[go_sem] theorem isQ_eqa {g:Bool} {ks:List TK} {x y:Opd}:isQ (.eqa g ks x y)=true:=rfl'
@[go_sem] theorem isQ_isnil {g h:Bool} {x:Opd}:isQ (.isnil g h x)=true:=rfl'
@[go_sem] theorem isQ_un {o:UnOp} {x:Opd}:isQ (.un o x)=true:=rfl'
@[go_sem] theorem isQ_cint {k:IntKind} {x:Opd}:isQ (.cint k x)=true:=rfl'
@[go_sem] theorem isQ_cid {x:Opd}:isQ (.cid x)=true:=rfl'
@[go_sem] theorem isQ_bstr {x:Opd}:isQ (.bstr x)=true:=rfl'
@[go_sem] theorem isQ_slice {n:Nat} {x:Opd} {l h:Option Opd}:isQ (.slice n x l h)=true:=rfl'
@[go_sem] theorem isQ_sarr {n m:Nat} {x:Opd} {l h:Option Opd}:isQ (.sarr n m x l h)=true:=rfl'
@[go_sem] theorem isQ_sstr {x:Opd} {l h:Option Opd}:isQ (.sstr x l h)=true:=rfl'
@[go_sem] theorem isQ_fld {n:Nat} {x:Opd}:isQ (.fld n x)=true:=rfl'
@[go_sem] theorem isQ_part {g:Bool} {n m:Nat} {x:Opd}:isQ (.part g n m x)=true:=rfl'
@[go_sem] theorem isQ_iaa {n m:Nat} {x y:Opd}:isQ (.iaa n m x y)=true:=rfl'
@[go_sem] theorem isQ_ias {n:Nat} {x y:Opd}:isQ (.ias n x y)=true:=rfl'
@[go_sem] theorem isQ_ixa {g:Bool} {n m:Nat} {x y:Opd}:isQ (.ixa g n m x y)=true:=rfl'
@[go_sem] theorem isQ_ixs {x y:Opd}:isQ (.ixs x y)=true:=rfl'
@[go_sem] theorem isQ_ext {n:Nat} {x:Opd}:isQ (.ext n x)=true:=rfl'
@[go_sem] theorem isQ_len {x:Opd}:isQ (.len x)=true:=rfl'
@[go_sem] theorem isQ_lens {x:Opd}:isQ (.lens x)=true:=rfl'
@[go_sem] theorem isQ_cpy {x y:Opd}:isQ (.cpy x y)=false:=rfl'
@[go_sem] theorem isQ_mnx {g:Bool} {x y:Opd}:isQ (.mnx g x y)=true:=rfl'
@[go_sem] theorem E1_mkf {m:Nat} {cs:List Opd}:E1 (.mkf m cs) f H=some (.clo m (cs.map (ev · f)),H):=rfl'
@[go_sem] theorem E1_clr {z:List Value} {x:Opd}:E1 (.clr z x) f H=(clrV H z (ev x f)).map fun H'=>(.tup [],H'):=rfl'
@[go_sem] theorem isQ_mki {t:TypeId} {x:Opd}:isQ (.mki t x)=true:=rfl'
end
section
variable {f:Fr} {H H0 L:Hp} {k:IntKind} {a b n m:Int}
-- Integers.
@[go_sem] theorem dbin_seql {x y:ByteArray}:dbin .eql (.string x) (.string y)=some (.bool (x.toList == y.toList)):=rfl'
@[go_sem] theorem dbin_sneq {x y:ByteArray}:dbin .neq (.string x) (.string y)=some (.bool (!(x.toList == y.toList))):=rfl'
@[go_sem] theorem dun_neg:dun .neg (.int k n)=some (.int k (k.wrap (0 - n))):=rfl'
@[go_sem] theorem dun_xor:dun .xor (.int k n)=some (.int k (bits .xor k (if k.signed then -1 else k.max) n)):=rfl'
@[go_sem] theorem dun_not {b:Bool}:dun .not (.bool b)=some (.bool (!b)):=rfl'
@[go_sem] theorem mnx_max:mnx true (.int k a) (.int k b)=some (.int k (if b > a then b else a)):=rfl'
@[go_sem] theorem mnx_min:mnx false (.int k a) (.int k b)=some (.int k (if b < a then b else a)):=rfl'
@[go_sem] theorem wrap_i64 (h : -9223372036854775808≤n) (h':n < 9223372036854775808):IntKind.i64.wrap n=n:=by simp [IntKind.wrap,IntKind.signed,IntKind.bits]; omega
-- Memory.
theorem get_app {b:Nat}:(H0++L)[H0.length+b]? = L[b]? := by rw [List.getElem?_append_right (by omega)]; congr 1; omega
theorem get_app0:(H0++L)[H0.length]? = L[0]? := by rw [List.getElem?_append_right (by omega)]; simp
theorem set_app {b:Nat} {B:Blk}:(H0++L).set (H0.length+b) B=H0++L.set b B:=by rw [List.set_append_right _ _ (by omega)]; congr 2; omega
theorem set_app0 {B:Blk}:(H0++L).set H0.length B=H0++L.set 0 B:=by rw [List.set_append_right _ _ (by omega)]; simp
attribute [go_sem] get_app get_app0 set_app set_app0
def liveOf (x:Option Blk) (ver:Nat):Option Blk:=match x with
  | some B=>if B.ver=ver∧B.kind.live=true then some B else none
  | none=>none
@[go_sem] theorem live_eq {b ver:Nat}:live H b ver=liveOf H[b]? ver:=rfl'
@[go_sem] theorem cellsAt_ptr {b ver o n:Nat}:cellsAt H (.ptr b ver o) n=(live H b ver).bind fun B=>if o+n≤B.cs.length then some ((B.cs.drop o).take n) else none:=by simp only [cellsAt]; cases live H b ver <;> rfl
@[go_sem] theorem cellsAt_ip {cs:List V} {n:Nat}:cellsAt H (.ip cs) n=if n≤cs.length then some (cs.take n) else none:=rfl'
@[go_sem] theorem one_agg {l:List V}:one? true l=some (.agg l):=rfl'
@[go_sem] theorem one_one {v:V}:one? false [v]=some v:=rfl'
@[go_sem] theorem storeAt_ptr {b ver o:Nat} {cs:List V}:storeAt H (.ptr b ver o) cs=(live H b ver).bind fun B=>if o+cs.length≤B.cs.length∧cs.all V.one then some (H.set b { B with cs:=splice B.cs o cs }) else none:=by simp only [storeAt]; cases live H b ver <;> rfl
@[go_sem] theorem isAddr_ptr {b ver o:Nat}:isAddr H (.ptr b ver o)=(live H b ver).isSome:=rfl'
@[go_sem] theorem isAddr_ip {cs:List V}:isAddr H (.ip cs)=true:=rfl'
@[go_sem] theorem ptrAdd_ptr {b ver o j:Nat}:ptrAdd (.ptr b ver o) j=some (.ptr b ver (o+j)):=rfl'
@[go_sem] theorem ptrAdd_ip {cs:List V} {j:Nat}:ptrAdd (.ip cs) j=some (.ip (cs.drop j)):=rfl'
@[go_sem] theorem slAt_ref {b ver o n j:Nat}:slAt (.ref b ver o n) j=some (.ptr b ver (o+j)):=rfl'
@[go_sem] theorem slAt_sl {u:Bool} {n j:Nat} {cs:List V}:slAt (.sl u n cs) j=some (.ip (cs.drop j)):=rfl'
@[go_sem] theorem slLen_ref {b ver o n:Nat}:slLen H (.ref b ver o n)=if (live H b ver).isSome=true then some n else none:=rfl'
@[go_sem] theorem slLen_sl {u:Bool} {n:Nat} {cs:List V}:slLen H (.sl u n cs)=some n:=rfl'
@[go_sem] theorem slLen_nil:slLen H (.s (.slice none 0 0))=some 0:=rfl'
@[go_sem] theorem slCells_ref {b ver o n sz:Nat}:slCells H sz (.ref b ver o n)=(live H b ver).bind fun B=>if o+n*sz≤B.cs.length then some ((B.cs.drop o).take (n*sz)) else none:=by simp only [slCells]; cases live H b ver <;> rfl
@[go_sem] theorem slCells_sl {u:Bool} {n sz:Nat} {cs:List V}:slCells H sz (.sl u n cs)=if n*sz≤cs.length then some (cs.take (n*sz)) else none:=rfl'
@[go_sem] theorem slCells_nil {sz:Nat}:slCells H sz (.s (.slice none 0 0))=some []:=rfl'
@[go_sem] theorem appendV_ref {e sz k b ver o n m:Nat} {ys:List V}:appendV H e sz k (.ref b ver o n) ys m=(live H b ver).bind fun B=>if growable B.kind e=true∧B.sz=sz∧o=0∧n*sz=B.cs.length∧(n+m)*k≤room∧ys.all V.one then some (.ref b (ver+1) 0 (n+m),H.set b { B with ver:=ver+1,cs:=B.cs++ys }) else none:=by
  simp only [appendV]; cases h:live H b ver with
  | none=>rfl
  | some B=>have:=(live_ok h).2.1; subst this; rfl
@[go_sem] theorem appendV_sl {e sz k n m:Nat} {cs ys:List V}:appendV H e sz k (.sl true n cs) ys m=if m=0 then some (.sl true n cs,H) else if n*sz=cs.length∧(n+m)*k≤room∧ys.all V.one∧cs.all V.one then some (.ref H.length 0 0 (n+m),H++[⟨0,.grow,sz,cs++ys⟩]) else none:=rfl'
@[go_sem] theorem appendV_nil {e sz k m:Nat} {ys:List V}:appendV H e sz k (.s (.slice none 0 0)) ys m=if m=0 then some (.s (.slice none 0 0),H) else if m*k≤room∧ys.all V.one then some (.ref H.length 0 0 m,H++[⟨0,.grow,sz,ys⟩]) else none:=rfl'
@[go_sem] theorem fillV_nil {l:List V}:fillV f l []=some l:=rfl'
@[go_sem] theorem fillV_cons {l:List V} {o n:Nat} {x:Opd} {r:List (Nat × Nat × Opd)}:fillV f l ((o,n,x)::r)=if (ev x f).cells.length=n∧o+n≤l.length∧(ev x f).cells.all V.one then fillV f (splice l o (ev x f).cells) r else none:=rfl'
@[go_sem] theorem splice_eq {l xs:List V} {o:Nat}:splice l o xs=l.take o++xs++l.drop (o+xs.length):=rfl'
@[go_sem] theorem bounds_ss {n:Nat} {x y:Opd}:bounds f n (some x) (some y)=(asI (ev y f)).bind fun h=>(asI (ev x f)).bind fun l=>if 0≤l∧l≤h∧h≤n then some (l.toNat,h.toNat) else none:=rfl'
@[go_sem] theorem slCut_ref {sz b ver o n l h:Nat}:slCut H sz (.ref b ver o n) l h=(live H b ver).bind fun B=>if B.sz=sz then some (.ref b ver (o+l*sz) (h - l)) else none:=rfl'
@[go_sem] theorem slCut_sl {sz n l h:Nat} {u:Bool} {cs:List V}:slCut H sz (.sl u n cs) l h=some (.sl (u&&h == n) (h - l) (cs.drop (l*sz))):=rfl'
@[go_sem] theorem slCut_nil {sz l h:Nat}:slCut H sz (.s (.slice none 0 0)) l h=some (.s (.slice none 0 0)):=rfl'
@[go_sem] theorem arrCut_ptr {n sz b ver o l h:Nat}:arrCut H n sz (.ptr b ver o) l h=(live H b ver).bind fun B=>if B.sz=sz∧o+n*sz≤B.cs.length then some (.ref b ver (o+l*sz) (h - l)) else none:=rfl'
@[go_sem] theorem nil_sl' {u:Bool} {n:Nat} {cs:List V}:nil? true H (.sl u n cs)=if n=0 then none else some false:=rfl'
@[go_sem] theorem nil_slnil:nil? true H (.s (.slice none 0 0))=some true:=rfl'
@[go_sem] theorem nil_ref {b ver o n:Nat}:nil? true H (.ref b ver o n)=if n ≠ 0∧(live H b ver).isSome then some false else none:=rfl'
@[go_sem] theorem nil_pnil:nil? false H (.s (.pointer none))=some true:=rfl'
@[go_sem] theorem nil_ip {cs:List V}:nil? false H (.ip cs)=some false:=rfl'
@[go_sem] theorem nil_ptr' {b ver o:Nat}:nil? false H (.ptr b ver o)=if (live H b ver).isSome then some false else none:=rfl'
@[go_sem] theorem statics_nil:statics []=true:=rfl'
@[go_sem] theorem statics_cons {v:V} {l:List V}:statics (v::l)=(v.static&&statics l):=rfl'
@[go_sem] theorem static_s {v:Value}:(V.s v).static=true:=rfl'
@[go_sem] theorem static_sl {u:Bool} {n:Nat} {l:List V}:(V.sl u n l).static=statics l:=rfl'
@[go_sem] theorem static_agg {l:List V}:(V.agg l).static=statics l:=rfl'
@[go_sem] theorem eqKs_nil:eqKs [] [] []=some true:=rfl'
@[go_sem] theorem eqKs_cons {k:TK} {ks:List TK} {x y:V} {xs ys:List V}:eqKs (k::ks) (x::xs) (y::ys)=(eqK k x y).bind fun a=>(eqKs ks xs ys).map fun b=>a&&b:=rfl'
@[go_sem] theorem eqK_bool {a b:Bool}:eqK .bool (.s (.bool a)) (.s (.bool b))=some (a == b):=rfl'
@[go_sem] theorem eqK_str {a b:ByteArray}:eqK .str (.s (.string a)) (.s (.string b))=some (a == b):=rfl'
end
theorem Settle.of_eq {H0 H:Hp} {r r':V} (h:r=r'):Settle H0 r H r' H:=h ▸ Settle.refl
-- Conditions that stop early.
@[go_sem] theorem ite_same {α:Type} {c:Prop} [Decidable c] {a b d:α}:(if c then (if c then a else b) else d)=if c then a else d:=by split <;> rfl
@[go_sem] theorem ite_other {α:Type} {b:Bool} {a x u:α}:(if b=true then a else (if (!b)=true then x else u))=if b=true then a else x:=by cases b <;> rfl
@[go_sem] theorem ite_other' {α:Type} {b:Bool} {a x u:α}:(if b=true then a else (if b=false then x else u))=if b=true then a else x:=by cases b <;> rfl
@[go_sem] theorem ite_and {b x:Bool}:(if b=true then V.s (.bool x) else V.s (.bool false))=.s (.bool (b&&x)):=by cases b <;> rfl
@[go_sem] theorem ite_or {b x:Bool}:(if b=true then V.s (.bool true) else V.s (.bool x))=.s (.bool (b||x)):=by cases b <;> rfl
/-- In a function's frame: what leads to the first n blocks alone. -/
def cutV (n:Nat) (v:V):V:=if v.under n=true then v else .any
def cutF (n:Nat) (f:Fr):Fr:=fun t=>cutV n (f t)
@[go_sem] theorem cutF_at {n t:Nat} {f:Fr}:cutF n f t=cutV n (f t):=rfl'
@[go_sem] theorem cutV_s {n:Nat} {v:Value}:cutV n (.s v)=.s v:=rfl'
mutual
theorem static_under (n:Nat):∀ (v:V),v.static=true→v.under n=true
  | .s _,_=>rfl
  | .any,_=>rfl
  | .ptr ..,h=>by simp [V.static] at h
  | .ref ..,h=>by simp [V.static] at h
  | .sl _ k cs,h=>by simp only [V.under,Bool.or_eq_true]; exact .inr (statics_unders n cs h)
  | .ip cs,h=>statics_unders n cs h
  | .agg cs,h=>statics_unders n cs h
  | .tup cs,h=>statics_unders n cs h
  | .clo _ cs,h=>statics_unders n cs h
  | .ifc _ x,h=>static_under n x h
theorem statics_unders (n:Nat):∀ (l:List V),statics l=true→unders n l=true
  | [],_=>rfl
  | v::r,h=>by
    simp only [statics,Bool.and_eq_true] at h
    simp only [unders,Bool.and_eq_true]
    exact ⟨static_under n v h.1,statics_unders n r h.2⟩
end
theorem if_le {α:Type} {a b:Nat} {x y:α} (h:a≤b):(if a≤b then x else y)=x:=if_pos h
theorem take_one {cs:List V} {k:Nat} (h:k < cs.length):(cs.drop k).take 1=[cs.getD k .any]:=by
  rw [List.drop_eq_getElem_cons h,List.take_succ_cons,List.take_zero]; simp [List.getD,h]
attribute [go_sem] if_le take_one
-- Of the lists and the rest of the language.
attribute [go_sem] gt_iff_lt ge_iff_le List.length_drop List.length_take List.getD_cons_succ List.getD_cons_zero andV_some andB_true andB_false
attribute [go_sem] Option.bind_some Option.map_some Option.isSome_some Option.getD_some Option.getD_none if_true if_false ite_self
  List.map_cons List.map_nil List.length_append List.length_cons List.length_nil List.append_assoc List.cons_append List.nil_append List.append_nil
  List.getElem?_cons_zero List.getElem?_cons_succ List.getElem?_nil List.set_cons_zero List.set_cons_succ
  List.all_cons List.all_nil List.drop_zero List.drop_succ_cons List.drop_nil List.take_zero List.take_succ_cons List.take_nil List.length_map
  Bool.and_true Bool.true_and Bool.and_self Bool.false_and Bool.and_false Bool.not_true Bool.not_false Bool.false_eq_true and_true true_and and_self Bool.or_true Bool.true_or Bool.or_false Bool.false_or
  Nat.zero_add Nat.add_zero Nat.mul_one Nat.one_mul decide_true decide_false beq_self_eq_true not_true_eq_false not_false_eq_true ne_eq forall_const true_implies false_implies implies_true Int.toNat_natCast List.drop_drop
end Go.Proofs.YtoemlgdlejkliaaK
