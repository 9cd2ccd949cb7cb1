/- The steps: what an operation comes to over abstract values; the statement that a function is called and answers. -/
import Derived.Test.YtoemlgdlejkliaaKa
namespace Go.Proofs.YtoemlgdlejkliaaK
set_option linter.unusedVariables false
set_option linter.unusedSimpArgs false
open Go.RowKit
inductive Opd where
  | t (n:Nat)
  | k (v:Value)
  | fn (f:FuncId)
inductive TK where
  | int | bool | str
  deriving DecidableEq
inductive I where
  | mv (x:Opd)
  | nilg (sz:Nat)
  | pick (c a b:Opd)
  | box (x:Opd)
  | zero (cs:List Value)
  | zerob (t u:TypeId)
  | build (cs:List Value) (ps:List (Nat × Nat × Opd))
  | bsl (n:Nat) (cs:List Value) (ps:List (Nat × Nat × Opd))
  | bslo (sz n:Nat) (cs:List Value) (ps:List (Nat × Nat × Opd))
  | load (ag:Bool) (sz:Nat) (x:Opd)
  | store (sz:Nat) (p x:Opd)
  | nilc (x:Opd)
  | bin (op:BinOp) (x y:Opd)
  | bbin (neg:Bool) (x y:Opd)
  | eqa (neg:Bool) (ks:List TK) (x y:Opd)
  | isnil (neg:Bool) (isl:Bool) (x:Opd)
  | un (op:UnOp) (x:Opd)
  | cint (k:IntKind) (x:Opd)
  | cid (x:Opd)
  | bstr (x:Opd)
  | strb (x:Opd)
  | mks (z:List Value) (by_:Nat) (l c:Opd)
  | slice (sz:Nat) (x:Opd) (lo hi:Option Opd)
  | sarr (n sz:Nat) (x:Opd) (lo hi:Option Opd)
  | sl3 (sz:Nat) (x:Opd) (lo:Option Opd) (hi mx:Opd)
  | sstr (x:Opd) (lo hi:Option Opd)
  | fld (off:Nat) (x:Opd)
  | part (ag:Bool) (off sz:Nat) (x:Opd)
  | iaa (n sz:Nat) (x i:Opd)
  | ias (sz:Nat) (x i:Opd)
  | ixa (ag:Bool) (n sz:Nat) (x i:Opd)
  | ixs (x i:Opd)
  | ext (i:Nat) (x:Opd)
  | len (x:Opd)
  | lens (x:Opd)
  | mnx (mx:Bool) (x y:Opd)
  | app (e:TypeId) (sz by_:Nat) (x y:Opd)
  | apps (e:TypeId) (by_:Nat) (x y:Opd)
  | mki (t:TypeId) (x:Opd)
  | cpy (x y:Opd)
  | mkf (m:Nat) (cs:List Opd)
  | clr (z:List Value) (x:Opd)
/-- An operation: a step of its own, or a call. -/
inductive Ik where
  | e (op:I)
  | call (m:FuncId) (args:List Opd)
structure Op1 where
  dst:Option Nat
  op:Ik
  g:Option (Nat × Bool)
  aft:List Nat
/-- An operation of a region that writes: does it write; before and behind how many that write may it stand. -/
structure An where
  o:Op1
  wr:Bool
  lo:Nat
  hi:Nat
def oM (d:Nat) (x:Opd) (aft:List Nat):Op1:=⟨some d,.e (.mv x),none,aft⟩
def oE (d:Nat) (op:I) (aft:List Nat):Op1:=⟨some d,.e op,none,aft⟩
def oN (op:I) (aft:List Nat):Op1:=⟨none,.e op,none,aft⟩
def oG (d:Nat) (op:I) (t:Nat) (w:Bool) (aft:List Nat):Op1:=⟨some d,.e op,some (t,w),aft⟩
def oC (d:Nat) (m:FuncId) (args:List Opd) (aft:List Nat):Op1:=⟨some d,.call m args,none,aft⟩
def aO (o:Op1) (wr:Bool) (lo hi:Nat):An:=⟨o,wr,lo,hi⟩
inductive IR where
  | skip
  | regw (ops:List An)
  | reg (draw:Bool) (ops:List Op1)
  | seq (a b:IR)
  | cond (c:Opd) (a b:IR)
  | block (id:Nat) (a:IR)
  | loop (a:IR)
  | exit (id:Nat)
  | ret
abbrev Fr:=Nat→V
def lit:Value→V
  | .agg cs=>.agg (cs.toList.map .s)
  | v=>.s v
def ev (x:Opd) (f:Fr):V:=match x with
  | .t n=>f n
  | .k v=>lit v
  | .fn m=>.s (.func (.func m) #[] #[])
def upd (d:Option Nat) (v:V) (f:Fr):Fr:=match d with
  | none=>f
  | some d=>fun t=>if t=d then v else f t
def V.cells:V→List V
  | .agg cs=>cs
  | v=>[v]
def V.one:V→Bool
  | .s v=>v.oneCell'
  | .agg _ | .tup _ | .clo .. | .any=>false
  | _=>true
mutual
/-- No reference to memory that may be written. -/
def V.static:V→Bool
  | .s _=>true
  | .ptr .. | .ref .. => false
  | .sl _ _ cs | .ip cs | .agg cs | .tup cs | .clo _ cs=>statics cs
  | .ifc _ x=>x.static
  | .any=>true
def statics:List V→Bool
  | []=>true
  | v::r=>v.static&&statics r
end
def splice (cs:List V) (o:Nat) (xs:List V):List V:=cs.take o++xs++cs.drop (o+xs.length)
def fillV (f:Fr):List V→List (Nat × Nat × Opd)→Option (List V)
  | cs,[]=>some cs
  | cs,(o,n,x)::r=>if (ev x f).cells.length=n∧o+n≤cs.length∧(ev x f).cells.all V.one then fillV f (splice cs o (ev x f).cells) r else none
def live (H:Hp) (b ver:Nat):Option Blk:=match H[b]? with
  | some B=>if B.ver=ver∧B.kind.live=true then some B else none
  | none=>none
/-- So many cells behind a pointer. -/
def cellsAt (H:Hp) (p:V) (n:Nat):Option (List V):=match p with
  | .ptr b ver o=>match live H b ver with
    | some B=>if o+n≤B.cs.length then some ((B.cs.drop o).take n) else none
    | none=>none
  | .ip cs=>if n≤cs.length then some (cs.take n) else none
  | _=>none
def one? (ag:Bool) (l:List V):Option V:=if ag then some (.agg l) else match l with
  | [v]=>some v
  | _=>none
/-- A slice's cells (elements of so many cells). -/
def slCells (H:Hp) (sz:Nat) (x:V):Option (List V):=match x with
  | .ref b ver o n=>match live H b ver with
    | some B=>if o+n*sz≤B.cs.length then some ((B.cs.drop o).take (n*sz)) else none
    | none=>none
  | .sl _ n cs=>if n*sz≤cs.length then some (cs.take (n*sz)) else none
  | .s (.slice none 0 0)=>some []
  | _=>none
def slLen (H:Hp):V→Option Nat
  | .ref b ver _ n=>if (live H b ver).isSome then some n else none
  | .sl _ n _=>some n
  | .s (.slice none 0 0)=>some 0
  | _=>none
def mnx (mx:Bool):Value→Value→Option Value
  | .int k a,.int _ b=>some (.int k (if mx then (if b > a then b else a) else (if b < a then b else a)))
  | _,_=>none
def dbin (op:BinOp) (x y:Value):Option Value:=match x,y with
  | .int k a,.int k' b=>if k=k' then (match op with
    | .add=>some (.int k (k.wrap (a+b)))
    | .sub=>some (.int k (k.wrap (a - b)))
    | .mul=>some (.int k (k.wrap (a*b)))
    | .quo=>if b=0 then none else some (.int k (k.wrap (a.tdiv b)))
    | .rem=>if b=0 then none else some (.int k (a.tmod b))
    | .and=>some (.int k (bits .and k a b))
    | .or=>some (.int k (bits .or k a b))
    | .xor=>some (.int k (bits .xor k a b))
    | .andNot=>some (.int k (bits .andNot k a b))
    | .shl=>if b < 0 then none else some (.int k (k.wrap (a*2 ^ min b.toNat k.bits)))
    | .shr=>if b < 0 then none else some (.int k (a.fdiv (2 ^ min b.toNat k.bits)))
    | .eql=>some (.bool (a == b))
    | .neq=>some (.bool (a != b))
    | .lss=>some (.bool (decide (a < b)))
    | .leq=>some (.bool (decide (a≤b)))
    | .gtr=>some (.bool (decide (b < a)))
    | .geq=>some (.bool (decide (b≤a)))) else (match op with
    | .shl=>if b < 0 then none else some (.int k (k.wrap (a*2 ^ min b.toNat k.bits)))
    | .shr=>if b < 0 then none else some (.int k (a.fdiv (2 ^ min b.toNat k.bits)))
    | _=>none)
  | .string a,.string b=>(match op with
    | .add=>if ((a.size+b.size:Nat):Int)≤9223372036854775807 then some (.string (a++b)) else none
    | .eql=>some (.bool (a.toList == b.toList))
    | .neq=>some (.bool (!(a.toList == b.toList)))
    | .lss=>some (.bool (Op.bytesLess a.toList b.toList))
    | .leq=>some (.bool (Op.bytesLess a.toList b.toList||a.toList == b.toList))
    | .gtr=>some (.bool (!(Op.bytesLess a.toList b.toList||a.toList == b.toList)))
    | .geq=>some (.bool (!(Op.bytesLess a.toList b.toList)))
    | _=>none)
  | _,_=>none
def dun (op:UnOp) (x:Value):Option Value:=match op,x with
  | .neg,.int k n=>some (.int k (k.wrap (0 - n)))
  | .xor,.int k n=>some (.int k (bits .xor k (if k.signed then -1 else k.max) n))
  | .not,.bool b=>some (.bool (!b))
  | _,_=>none
def asB:V→Option Bool
  | .s (.bool b)=>some b
  | _=>none
def asI:V→Option Int
  | .s (.int _ n)=>some n
  | _=>none
def asS:V→Option Value
  | .s v=>some v
  | _=>none
def asStr:V→Option ByteArray
  | .s (.string s)=>some s
  | _=>none
def asAgg:V→Option (List V)
  | .agg l=>some l
  | _=>none
def asTup:V→Option (List V)
  | .tup l=>some l
  | _=>none
def eqK:TK→V→V→Option Bool
  | .int,.s (.int k a),.s (.int k' b)=>if k=k' then some (a == b) else none
  | .bool,.s (.bool a),.s (.bool b)=>some (a == b)
  | .str,.s (.string a),.s (.string b)=>some (a == b)
  | _,_,_=>none
def eqKs:List TK→List V→List V→Option Bool
  | [],[],[]=>some true
  | k::ks,x::xs,y::ys=>(eqK k x y).bind fun a=>(eqKs ks xs ys).map fun b=>a&&b
  | _,_,_=>none
def bytesOf:List V→Option (List UInt8)
  | []=>some []
  | .s (.int .u8 n)::r=>(bytesOf r).map fun l=>UInt8.ofNat n.toNat::l
  | _::_=>none
def ofBytes (s:ByteArray):List V:=s.data.toList.map fun b=>.s (.int .u8 b.toNat)
def repV (n:Nat) (z:List Value):List V:=(List.replicate n (z.map V.s)).flatten
/-- The bounds of a slice expression: 0 ≤ l ≤ h ≤ n. -/
def bounds (f:Fr) (n:Nat) (lo hi:Option Opd):Option (Nat × Nat) :=
  (match hi with | none=>some (n:Int) | some x=>asI (ev x f)).bind fun h =>
  (match lo with | none=>some (0:Int) | some x=>asI (ev x f)).bind fun l =>
  if 0≤l∧l≤h∧h≤n then some (l.toNat,h.toNat) else none
def idx (sz n:Nat) (i:Int):Option Nat:=if 0≤i∧i < n then some (i.toNat*sz) else none
def ptrAdd (x:V) (k:Nat):Option V:=match x with
  | .ptr b ver o=>some (.ptr b ver (o+k))
  | .ip cs=>some (.ip (cs.drop k))
  | _=>none
def slAt (x:V) (k:Nat):Option V:=match x with
  | .ref b ver o _=>some (.ptr b ver (o+k))
  | .sl _ _ cs=>some (.ip (cs.drop k))
  | _=>none
def slCut (H:Hp) (sz:Nat) (x:V) (l h:Nat):Option V:=match x with
  | .ref b ver o _=>(live H b ver).bind fun B=>if B.sz=sz then some (.ref b ver (o+l*sz) (h - l)) else none
  | .sl full n cs=>some (.sl (full&&h == n) (h - l) (cs.drop (l*sz)))
  | .s (.slice none 0 0)=>some x
  | _=>none
/-- A part of a slice that is read, with a capacity of its own. -/
def sl3Cut (sz:Nat) (x:V) (l h:Nat):Option V:=match x with
  | .sl _ _ cs=>some (.sl false (h - l) (cs.drop (l*sz)))
  | _=>none
def arrCut (H:Hp) (n sz:Nat) (x:V) (l h:Nat):Option V:=match x with
  | .ptr b ver o=>(live H b ver).bind fun B=>if B.sz=sz∧o+n*sz≤B.cs.length then some (.ref b ver (o+l*sz) (h - l)) else none
  | _=>none
def storeAt (H:Hp) (p:V) (cs:List V):Option Hp:=match p with
  | .ptr b ver o=>match live H b ver with
    | some B=>if o+cs.length≤B.cs.length∧cs.all V.one then some (H.set b { B with cs:=splice B.cs o cs }) else none
    | none=>none
  | _=>none
def room:Nat:=140737488355328
/-- append(x, ys...), k elements. -/
def appendV (H:Hp) (e:TypeId) (sz by_:Nat) (x:V) (ys:List V) (k:Nat):Option (V × Hp):=match x with
  | .ref b ver o n=>match live H b ver with
    | some B=>if growable B.kind e=true∧B.sz=sz∧o=0∧n*sz=B.cs.length∧(n+k)*by_≤room∧ys.all V.one then
        some (.ref b (ver+1) 0 (n+k),H.set b { B with ver:=ver+1,cs:=B.cs++ys }) else none
    | none=>none
  | .sl true n cs => if k = 0 then some (x, H) else if n * sz = cs.length ∧ (n + k) * by_ ≤ room ∧ ys.all V.one ∧ cs.all V.one then
        some (.ref H.length 0 0 (n+k),H++[⟨0,.grow,sz,cs++ys⟩]) else none
  | .s (.slice none 0 0) => if k = 0 then some (x, H) else if k * by_ ≤ room ∧ ys.all V.one then
        some (.ref H.length 0 0 k,H++[⟨0,.grow,sz,ys⟩]) else none
  | _=>none
/-- copy(x, ..) of cells, one an element. -/
def copyV (H:Hp) (x:V) (cs:List V):Option Hp:=if cs.isEmpty then some H else match x with
  | .ref b ver o _=>storeAt H (.ptr b ver o) cs
  | _=>none
def isAddr (H:Hp):V→Bool
  | .ptr b ver _=>(live H b ver).isSome
  | .ip _=>true
  | _=>false
/-- Is it nil? (A slice; a pointer.) -/
def nil? (isl:Bool) (H:Hp) (x:V):Option Bool:=if isl then (match x with
    | .s (.slice none 0 0)=>some true
    | .sl _ n _=>if n=0 then none else some false
    | .ref b ver _ n=>if n ≠ 0∧(live H b ver).isSome then some false else none
    | _=>none)
  else (match x with
    | .s (.pointer none)=>some true
    | .ptr b ver _=>if (live H b ver).isSome then some false else none
    | .ip _=>some false
    | _=>none)
/-- clear(x): what was there is known no more. -/
def clrV (H:Hp) (z:List Value) (x:V):Option Hp:=match x with
  | .ref b ver o _=>(live H b ver).bind fun B=>if B.sz=z.length∧z.all Value.oneCell'=true then some (H.set b { B with cs:=B.cs.take o }) else none
  | _=>none
/-- An operation that is no call: the value, the memory behind it. -/
def E1 (op:I) (f:Fr) (H:Hp):Option (V × Hp):=match op with
  | .mv x=>some (ev x f,H)
  | .nilg sz=>some (.ref H.length 0 0 0,H++[⟨0,.grow,sz,[]⟩])
  | .pick c a b=>(asB (ev c f)).map fun t=>(if t then ev a f else ev b f,H)
  | .box x=>if (ev x f).cells.all V.one then some (.ptr H.length 0 0,H++[⟨0,.mem,1,(ev x f).cells⟩]) else none
  | .zero cs=>some (.ptr H.length 0 0,H++[⟨0,.mem,1,cs.map .s⟩])
  | .zerob t u=>some (.ptr (H.length+1) 0 0,(H++[⟨0,.buf u,1,[]⟩])++[⟨0,.bld t,1,[.s (.pointer none),.ref H.length 0 0 0]⟩])
  | .build cs ps=>(fillV f (cs.map .s) ps).map fun l=>(.agg l,H)
  | .bsl n cs ps=>(fillV f (cs.map .s) ps).bind fun l=>if statics l∧l.all V.one then some (.sl true n l,H) else none
  | .bslo sz n cs ps=>(fillV f (cs.map .s) ps).bind fun l=>if l.all V.one then some (.ref H.length 0 0 n,H++[⟨0,.grow,sz,l⟩]) else none
  | .load ag sz x=>(cellsAt H (ev x f) sz).bind fun l=>(one? ag l).map fun v=>(v,H)
  | .store sz p x=>if (ev x f).cells.length=sz then (storeAt H (ev p f) (ev x f).cells).map fun H'=>(.s undef,H') else none
  | .nilc x=>if isAddr H (ev x f) then some (ev x f,H) else none
  | .bin op x y=>(asS (ev x f)).bind fun a=>(asS (ev y f)).bind fun b=>(dbin op a b).map fun v=>(.s v,H)
  | .bbin neg x y=>(asB (ev x f)).bind fun a=>(asB (ev y f)).map fun b=>(.s (.bool (if neg then !(a == b) else a == b)),H)
  | .eqa neg ks x y=>(asAgg (ev x f)).bind fun a=>(asAgg (ev y f)).bind fun b=>(eqKs ks a b).map fun v=>(.s (.bool (if neg then !v else v)),H)
  | .isnil neg isl x=>(nil? isl H (ev x f)).map fun v=>(.s (.bool (if neg then !v else v)),H)
  | .un op x=>(asS (ev x f)).bind fun a=>(dun op a).map fun v=>(.s v,H)
  | .cint k x=>(asI (ev x f)).map fun n=>(.s (.int k (k.wrap n)),H)
  | .cid x=>(asStr (ev x f)).map fun s=>(.s (.string s),H)
  | .bstr x=>(slCells H 1 (ev x f)).bind fun l=>(bytesOf l).map fun s=>(.s (.string ⟨s.toArray⟩),H)
  | .strb x=>(asStr (ev x f)).bind fun s=>if s.size≤room then some (.ref H.length 0 0 s.size,H++[⟨0,.grow,1,ofBytes s⟩]) else none
  | .mks z by_ l c=>(asI (ev l f)).bind fun l=>(asI (ev c f)).bind fun c =>
      if 0≤l∧l≤c∧c*by_≤281474976710656∧c≤281474976710656 then some (.ref H.length 0 0 l.toNat,H++[⟨0,.grow,z.length,repV l.toNat z⟩]) else none
  | .slice sz x lo hi=>(slLen H (ev x f)).bind fun n=>(bounds f n lo hi).bind fun b=>(slCut H sz (ev x f) b.1 b.2).map fun v=>(v,H)
  | .sl3 sz x lo hi mx=>(slLen H (ev x f)).bind fun n=>(asI (ev mx f)).bind fun m=>if 0≤m∧m≤(n:Int) then (bounds f m.toNat lo (some hi)).bind fun b=>(sl3Cut sz (ev x f) b.1 b.2).map fun v=>(v,H) else none
  | .sarr n sz x lo hi=>(bounds f n lo hi).bind fun b=>(arrCut H n sz (ev x f) b.1 b.2).map fun v=>(v,H)
  | .sstr x lo hi=>(asStr (ev x f)).bind fun s=>(bounds f s.size lo hi).map fun b=>(.s (.string (s.extract b.1 b.2)),H)
  | .fld off x=>if isAddr H (ev x f) then (ptrAdd (ev x f) off).map fun v=>(v,H) else none
  | .part ag off sz x=>(asAgg (ev x f)).bind fun l=>if off+sz≤l.length then (one? ag ((l.drop off).take sz)).map fun v=>(v,H) else none
  | .iaa n sz x i=>if isAddr H (ev x f) then (asI (ev i f)).bind fun i=>(idx sz n i).bind fun k=>(ptrAdd (ev x f) k).map fun v=>(v,H) else none
  | .ias sz x i=>(asI (ev i f)).bind fun i=>(slLen H (ev x f)).bind fun n=>(idx sz n i).bind fun k=>(slAt (ev x f) k).map fun v=>(v,H)
  | .ixa ag n sz x i=>(asI (ev i f)).bind fun i=>(idx sz n i).bind fun k=>(asAgg (ev x f)).bind fun l=>if k+sz≤l.length then (one? ag ((l.drop k).take sz)).map fun v=>(v,H) else none
  | .ixs x i=>(asI (ev i f)).bind fun i=>(asStr (ev x f)).bind fun s=>if 0≤i∧i < s.size then some (.s (.int .u8 (s.data.getD i.toNat 0).toNat),H) else none
  | .ext i x=>(asTup (ev x f)).bind fun l=>(l[i]?).map fun v=>(v,H)
  | .len x=>(slLen H (ev x f)).map fun n=>(.s (.int .i64 (n:Nat)),H)
  | .lens x=>(asStr (ev x f)).map fun s=>(.s (.int .i64 (s.size:Nat)),H)
  | .mnx mx x y=>(asS (ev x f)).bind fun a=>(asS (ev y f)).bind fun b=>(mnx mx a b).map fun v=>(.s v,H)
  | .app e sz by_ x y=>(slLen H (ev y f)).bind fun k=>(slCells H sz (ev y f)).bind fun ys=>appendV H e sz by_ (ev x f) ys k
  | .apps e by_ x y=>(asStr (ev y f)).bind fun s=>appendV H e 1 by_ (ev x f) (ofBytes s) s.size
  | .mki t x=>if (ev x f).one then some (.ifc t (ev x f),H) else none
  | .mkf m cs=>some (.clo m (cs.map (ev · f)),H)
  | .clr z x=>(clrV H z (ev x f)).map fun H'=>(.tup [],H')
  | .cpy x y=>(slLen H (ev x f)).bind fun n=>(slCells H 1 (ev y f)).bind fun ys=>(copyV H (ev x f) (ys.take n)).map fun H'=>(.s (.int .i64 ((ys.take n).length:Nat)),H')
/-- May an operation be reckoned though its guard is not decided? -/
def isQ:I→Bool
  | .nilg _ | .box _ | .zero _ | .zerob .. | .bslo .. | .store .. | .strb _ | .mks .. | .app .. | .apps .. | .cpy .. | .clr .. => false
  | _=>true
def callable (P:Program) (m:FuncId):Bool:=Nat.blt m 4294967296&&match P.funcs[m]? with
  | some fn=>!(fn.name == "runtime.NumGoroutine")&&fn.body.isSome
  | none=>false
/-- What is called where the function is told only while it runs: a function's value; a method of what an interface holds. -/
def DYN:Nat:=4294967296
def nmId (s:String):Option Nat:=if s = "Read" then some 4294967297 else if s = "Write" then some 4294967298 else none
def Res (P:Program) (m:FuncId) (cs:List Value) (m':FuncId) (cs':List Value):Prop :=
  (m=DYN∧∃ caps r,cs=.func (.func m') #[] caps::r∧cs'=r++caps.toList) ∨
  ∃ s t v r u,nmId s=some m∧cs=.iface t v::r∧cs'=u::r∧∀ w,(method (P.types.size+Made.depth) t v s).run P w=.ok (m',u) w
def CallsD (P:Program) (m:FuncId) (cs:List Value) (w:World) (Q:Ending→World→Prop):Prop:=match Nat.blt m 4294967296 with
  | true=>Calls P m cs.toArray w Q
  | false=>∃ m' cs',callable P m'=true∧Res P m cs m' cs'∧Calls P m' cs'.toArray w Q
theorem CallsD.st {P:Program} {m:FuncId} {cs:List Value} {w:World} {Q:Ending→World→Prop} (h:Nat.blt m 4294967296=true):CallsD P m cs w Q=Calls P m cs.toArray w Q:=by
  unfold CallsD; rw [h]
theorem CallsD.dy {P:Program} {m:FuncId} {cs:List Value} {w:World} {Q:Ending→World→Prop} (h:Nat.blt m 4294967296=false):CallsD P m cs w Q=∃ m' cs',callable P m'=true∧Res P m cs m' cs'∧Calls P m' cs'.toArray w Q:=by
  unfold CallsD; rw [h]
theorem CallsD.mono {P:Program} {m:FuncId} {cs:List Value} {w:World} {Q Q':Ending→World→Prop} (h:CallsD P m cs w Q) (k:∀ e w',Q e w'→Q' e w'):CallsD P m cs w Q':=by
  cases hb:Nat.blt m 4294967296 with
  | true=>rw [CallsD.st hb] at h ⊢; exact h.mono k
  | false =>
    rw [CallsD.dy hb] at h ⊢
    obtain ⟨m',cs',h1,h2,h3⟩:=h
    exact ⟨m',cs',h1,h2,h3.mono k⟩
/-- Function m of P, handed these values in such a memory, answers r and leaves such a memory. -/
def Con (P:Program) (m:FuncId) (args:List V) (H:Hp) (r:V) (H':Hp):Prop :=
  ∀ im w cargs,Rel im H w→VRs im H w args cargs→CallsD P m cargs w fun e w'=>∃ im' c,e=.returned c∧Rel im' H' w'∧Ext im H w im' H' w'∧VR im' H' w' r c
def andV (x:Option (V × Hp)) (K:V→Hp→Prop):Prop:=match x with
  | some (v,H')=>K v H'
  | none=>False
def dcall (P:Program) (m:FuncId) (args:List V) (H:Hp) (K:V→Hp→Prop):Prop:=∃ r H',Con P m args H r H'∧K r H'
/-- A call that no memory that is told of is changed by; under a guard. -/
def gcall (P:Program) (m:FuncId) (args:List V) (c:Prop) [Decidable c] (H:Hp) (K:V→Hp→Prop):Prop:=∃ r,(c→Con P m args H r H)∧K (if c then r else .s undef) H
def qcall (P:Program) (m:FuncId) (args:List V) (H:Hp) (K:V→Prop):Prop:=∃ r,Con P m args H r H∧K r
def andG (c:Prop) [Decidable c] (x:Option (V × Hp)) (H:Hp) (K:V→Hp→Prop):Prop :=
  (c→x.isSome=true)∧K (if c then (x.map Prod.fst).getD (.s undef) else .s undef) H
def d1 (P:Program) (op:Ik) (f:Fr) (H:Hp) (K:V→Hp→Prop):Prop:=match op with
  | .call m args=>dcall P m (args.map (ev · f)) H K
  | .e op=>andV (E1 op f H) K
def dg (P:Program) (op:Ik) (c:Prop) [Decidable c] (f:Fr) (H:Hp) (K:V→Hp→Prop):Prop:=match op with
  | .call m args=>gcall P m (args.map (ev · f)) c H K
  | .e op=>if isQ op=true then andG c (E1 op f H) H K else (c→andV (E1 op f H) K)∧(¬ c→K (.s undef) H)
def sg:V→Bool
  | .s _=>true
  | _=>false
/-- What a guard says. -/
def gd (v:V) (want:Bool):Bool:=match v with
  | .s (.bool b)=>b == want
  | _=>false
def dops (P:Program):List Op1→Fr→Hp→(Fr→Hp→Prop)→Prop
  | [],f,H,K=>K f H
  | o::r,f,H,K=>match o.g with
    | none=>d1 P o.op f H fun v H'=>dops P r (upd o.dst v f) H' K
    | some (t,want)=>sg (f t)=true∧dg P o.op (gd (f t) want=true) f H fun v H'=>dops P r (upd o.dst v f) H' K
/-- The same for operations whose order is open: none writes. -/
def q1 (P:Program) (op:Ik) (f:Fr) (H:Hp) (K:V→Prop):Prop:=match op with
  | .call m args=>qcall P m (args.map (ev · f)) H K
  | .e op=>isQ op=true∧andV (E1 op f H) fun v _=>K v
def qg (P:Program) (op:Ik) (c:Prop) [Decidable c] (f:Fr) (H:Hp) (K:V→Prop):Prop:=match op with
  | .call m args=>gcall P m (args.map (ev · f)) c H fun v _=>K v
  | .e op=>isQ op=true∧andG c (E1 op f H) H fun v _=>K v
def qops (P:Program):List Op1→Fr→Hp→(Fr→Prop)→Prop
  | [],f,_,K=>K f
  | o::r,f,H,K=>match o.g with
    | none=>q1 P o.op f H fun v=>qops P r (upd o.dst v f) H K
    | some (t,want)=>sg (f t)=true∧qg P o.op (gd (f t) want=true) f H fun v=>qops P r (upd o.dst v f) H K
inductive X where
  | normal
  | exit (id:Nat)
  | ret
def X.then (next:Fr→Hp→Prop) (Q:X→Fr→Hp→Prop):X→Fr→Hp→Prop
  | .normal=>next
  | e=>Q e
def X.inBlock (id:Nat) (Q:X→Fr→Hp→Prop):X→Fr→Hp→Prop
  | .exit id'=>if id'=id then Q .normal else Q (.exit id')
  | e=>Q e
end Go.Proofs.YtoemlgdlejkliaaK
