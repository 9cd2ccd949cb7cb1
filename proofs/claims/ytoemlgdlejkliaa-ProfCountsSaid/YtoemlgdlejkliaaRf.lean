/- Rows of typed things; steps over them; what is handed to a call. -/
import Derived.Test.YtoemlgdlejkliaaRe
namespace Go.Proofs.YtoemlgdlejkliaaK
set_option linter.unusedVariables false
set_option linter.unusedSimpArgs false
set_option linter.unusedSectionVars false
open Go.RowKit
def cat {α:Type} (g:α→List V) (l:List α):List V:=(l.map g).flatten
class Cells {α:Type} (g:α→List V) (sz:outParam Nat):Prop where
  len:∀ a,(g a).length=sz
  stat:∀ a,statics (g a)=true
  one:∀ a,(g a).all V.one=true
def nI (k:IntKind) (x:Int):List V:=[.s (.int k x)]
def nB (b:Bool):List V:=[.s (.bool b)]
def nS (s:ByteArray):List V:=[.s (.string s)]
instance (k:IntKind):Cells (nI k) 1:=⟨fun _=>rfl,fun _=>rfl,fun _=>rfl⟩
instance:Cells nB 1:=⟨fun _=>rfl,fun _=>rfl,fun _=>rfl⟩
instance:Cells nS 1:=⟨fun _=>rfl,fun _=>rfl,fun _=>rfl⟩
theorem stat_app:∀ (a b:List V),statics (a++b)=(statics a&&statics b)
  | [],b=>rfl
  | v::r,b=>by simp only [List.cons_append,statics,stat_app r b,Bool.and_assoc]
section
variable {α:Type} {g:α→List V} {sz:Nat} [Cells g sz]
theorem cat_len (l:List α):(cat g l).length=l.length*sz:=by
  induction l with
  | nil=>simp [cat]
  | cons a r ih=>simp only [cat,List.map_cons,List.flatten_cons,List.length_append,List.length_cons] at ih ⊢; rw [ih,Cells.len (g:=g) a,Nat.add_mul]; omega
include sz in
theorem cat_stat (l:List α):statics (cat g l)=true:=by
  induction l with
  | nil=>rfl
  | cons a r ih=>simp only [cat,List.map_cons,List.flatten_cons] at ih ⊢; rw [stat_app,Cells.stat (g:=g) (sz:=sz) a,ih]; rfl
include sz in
theorem dropcat_stat (k:Nat) (l:List α):statics ((cat g l).drop k)=true:=by
  have:∀ (m:List V) (k:Nat),statics m=true→statics (m.drop k)=true:=by
    intro m
    induction m with
    | nil=>intro k _; simp [statics]
    | cons x r ih =>
      intro k h
      cases k with
      | zero=>exact h
      | succ k=>simp only [statics,Bool.and_eq_true] at h; exact ih k h.2
  exact this _ k (cat_stat (g:=g) (sz:=sz) l)
include sz in
theorem cat_one (l:List α):(cat g l).all V.one=true:=by
  induction l with
  | nil=>rfl
  | cons a r ih=>simp only [cat,List.map_cons,List.flatten_cons,List.all_append] at ih ⊢; rw [Cells.one (g:=g) (sz:=sz) a,ih]; rfl
theorem cat_app (a b:List α):cat g (a++b)=cat g a++cat g b:=by simp [cat]
theorem cat_cons (a:α) (b:List α):cat g (a::b)=g a++cat g b:=by simp [cat]
theorem cat_dropn:∀ (n:Nat) (l:List α),(cat g l).drop (n*sz)=cat g (l.drop n)
  | 0,l=>by simp
  | n+1,[]=>by simp [cat]
  | n+1,a::r=>by
    rw [cat_cons,show (n+1)*sz=sz+n*sz by rw [Nat.add_mul]; omega,← List.drop_drop,← Cells.len (g:=g) a,List.drop_left,Cells.len (g:=g) a,cat_dropn n r]; rfl
theorem cat_taken:∀ (n:Nat) (l:List α),(cat g l).take (n*sz)=cat g (l.take n)
  | 0,l=>by simp [cat]
  | n+1,[]=>by simp [cat]
  | n+1,a::r=>by
    rw [cat_cons,show (n+1)*sz=sz+n*sz by rw [Nat.add_mul]; omega,List.take_add,List.take_append_of_le_length (by rw [Cells.len (g:=g) a]; exact Nat.le_refl _),← Cells.len (g:=g) a,List.take_length,List.drop_left,Cells.len (g:=g) a,cat_taken n r,List.take_succ_cons,cat_cons]
theorem cat_split [Inhabited α] {l:List α} {k:Nat} (h:k < l.length):cat g l=cat g (l.take k)++(g (l.getD k default)++cat g (l.drop (k+1))):=by
  rw [← cat_cons,← cat_app]
  congr 1
  rw [List.getD_eq_getElem?_getD,List.getElem?_eq_getElem h,Option.getD_some,← List.drop_eq_getElem_cons h,List.take_append_drop]
theorem cat_get [Inhabited α] {l:List α} {k off n:Nat} (h:k < l.length) (ho:off+n≤sz):(((cat g l).drop (k*sz)).drop off).take n=((g (l.getD k default)).drop off).take n:=by
  rw [cat_dropn,List.drop_eq_getElem_cons h,cat_cons]
  rw [List.getD_eq_getElem?_getD,List.getElem?_eq_getElem h,Option.getD_some]
  rw [List.drop_append_of_le_length (by rw [Cells.len (g:=g)]; omega),List.take_append_of_le_length (by rw [List.length_drop,Cells.len (g:=g)]; omega)]
end
/-- An element, by a whole number. -/
def gt {α:Type} [Inhabited α] (l:List α) (i:Int):α:=l.getD i.toNat default
/-- Another element there. -/
def st {α:Type} (l:List α) (i:Int) (a:α):List α:=l.set i.toNat a
def sb (s:ByteArray) (l h:Int):ByteArray:=s.extract l.toNat h.toNat
def bs (l:List Int):ByteArray:=⟨(l.map fun b=>UInt8.ofNat b.toNat).toArray⟩
def ln {α:Type} (l:List α):Int:=((l.length:Nat):Int)
section
variable {f:Fr} {L:Hp} {x y i j:Opd} {xv:V} {k:IntKind} {iv jv:Int}
theorem e_ias {sz n:Nat} {p:V} (hx:ev x f=xv) (hi:ev i f=.s (.int k iv)) (hn:slLen L xv=some n) (hp:slAt xv (iv.toNat*sz)=some p) (h:0≤iv∧iv < (n:Int)):E1 (.ias sz x i) f L=some (p,L):=by
  simp only [E1,hx,hi,asI,Option.bind_some,hn,idx,if_pos h,hp,Option.map_some]
variable {α:Type} [Inhabited α] {g:α→List V} {s:Nat} [Cells g s] {l:List α}
def dr (os:List Nat) (l:List V):List V:=os.foldl (fun l k=>l.drop k) l
def ad (os:List Nat) (n:Nat):Nat:=os.foldl (fun n k=>n+k) n
theorem dr_eq:∀ (os:List Nat) (l:List V),dr os l=l.drop (ad os 0)
  | [],l=>by simp [dr,ad]
  | k::r,l=>by
    have h:=dr_eq r (l.drop k)
    have e:ad (k::r) 0=k+ad r 0:=by
      have:∀ (r:List Nat) (a b:Nat),ad r (a+b)=a+ad r b:=by
        intro r
        induction r with
        | nil=>intro a b; rfl
        | cons x r ih=>intro a b; simp only [ad,List.foldl_cons] at ih ⊢; rw [Nat.add_assoc]; exact ih a (b+x)
      have:=this r k 0
      simpa [ad] using this
    simp only [dr,List.foldl_cons] at h ⊢
    rw [h,List.drop_drop,e]
theorem ad_eq:∀ (r:List Nat) (a:Nat),ad r a=a+ad r 0
  | [],a=>by simp [ad]
  | x::r,a=>by
    have h1:=ad_eq r (a+x)
    have h2:=ad_eq r (0+x)
    simp only [ad,List.foldl_cons] at h1 h2 ⊢
    rw [h1,h2]; omega
theorem e_load_ip {ag:Bool} {n:Nat} {v:V} (os:List Nat) (hx:ev x f=.ip (dr os ((cat g l).drop (iv.toNat*s)))) (h:0≤iv∧iv < ln l) (ho:Nat.ble (ad os 0+n) s=true) (hv:one? ag (((g (gt l iv)).drop (ad os 0)).take n)=some v):E1 (.load ag n x) f L=some (v,L):=by
  have hk:iv.toNat < l.length:=by unfold ln at h; omega
  have ho:=Nat.le_of_ble_eq_true ho
  rw [dr_eq] at hx
  generalize ad os 0=off at *
  have hb:n≤(((cat g l).drop (iv.toNat*s)).drop off).length:=by
    rw [List.length_drop,List.length_drop,cat_len]
    have:(iv.toNat+1)*s≤l.length*s:=Nat.mul_le_mul_right _ (by omega)
    rw [Nat.add_mul] at this; omega
  simp only [E1,hx,cellsAt,if_pos hb,Option.bind_some,cat_get (g:=g) hk ho]
  unfold gt at hv
  rw [hv]; rfl
/-- A part of an element in a block. -/
theorem e_load_pe {ag:Bool} {n b ver:Nat} {kd:BK} {q:Nat} {v:V} (os:List Nat) (hx:ev x f=.ptr b ver (ad os (0+iv.toNat*s))) (hL:live L b ver=some ⟨ver,kd,q,cat g l⟩) (h:0≤iv∧iv < ln l) (ho:Nat.ble (ad os 0+n) s=true) (hv:one? ag (((g (gt l iv)).drop (ad os 0)).take n)=some v):E1 (.load ag n x) f L=some (v,L):=by
  have hk:iv.toNat < l.length:=by unfold ln at h; omega
  have ho:=Nat.le_of_ble_eq_true ho
  rw [ad_eq] at hx
  generalize ad os 0=off at *
  have hb:0+iv.toNat*s+off+n≤(cat g l).length:=by
    rw [cat_len]
    have:(iv.toNat+1)*s≤l.length*s:=Nat.mul_le_mul_right _ (by omega)
    rw [Nat.add_mul] at this; omega
  simp only [E1,hx,cellsAt,hL,if_pos hb,Option.bind_some]
  rw [Nat.zero_add,← List.drop_drop,cat_get (g:=g) hk ho]
  unfold gt at hv
  rw [hv]; rfl
theorem e_store_pe {n b ver:Nat} {kd:BK} {q:Nat} {ys:List V} {a:α} (os:List Nat) (hx:ev x f=.ptr b ver (ad os (0+iv.toNat*s))) (hL:live L b ver=some ⟨ver,kd,q,cat g l⟩) (hy:(ev y f).cells=ys) (hn:Nat.beq ys.length n=true) (ho1:ys.all V.one=true) (h:0≤iv∧iv < ln l) (ho:Nat.ble (ad os 0+n) s=true) (ha:(g (gt l iv)).take (ad os 0)++ys++(g (gt l iv)).drop (ad os 0+n)=g a):E1 (.store n x y) f L=some (.s undef,L.set b ⟨ver,kd,q,cat g (st l iv a)⟩):=by
  have hn:=Nat.eq_of_beq_eq_true hn
  have hk:iv.toNat < l.length:=by unfold ln at h; omega
  have ho:=Nat.le_of_ble_eq_true ho
  have hlen:=Cells.len (g:=g) (gt l iv)
  rw [ad_eq] at hx
  generalize ad os 0=off at *
  have hb:0+iv.toNat*s+off+ys.length≤(cat g l).length:=by
    rw [cat_len,hn]
    have:(iv.toNat+1)*s≤l.length*s:=Nat.mul_le_mul_right _ (by omega)
    rw [Nat.add_mul] at this; omega
  have e:splice (cat g l) (0+iv.toNat*s+off) ys=cat g (st l iv a):=by
    unfold st
    rw [List.set_eq_take_append_cons_drop,if_pos hk,cat_app,cat_cons,← ha]
    have hs:=cat_split (g:=g) hk
    have hA:(cat g (l.take iv.toNat)).length=iv.toNat*s:=by rw [cat_len,List.length_take]; congr 1; omega
    unfold gt at hlen ha ⊢
    generalize l.getD iv.toNat default=el at hs hlen ha ⊢
    generalize cat g (l.take iv.toNat)=A at hs hA ⊢
    generalize cat g (l.drop (iv.toNat+1))=B at hs ⊢
    rw [hs]
    unfold splice
    have e1:(A++(g el++B)).take (0+iv.toNat*s+off)=A++(g el).take off:=by
      rw [Nat.zero_add,← hA,List.take_append,List.take_of_length_le (by omega),Nat.add_sub_cancel_left,List.take_append_of_le_length (by omega)]
    have e2:(A++(g el++B)).drop (0+iv.toNat*s+off+ys.length)=(g el).drop (off+n)++B:=by
      rw [show 0+iv.toNat*s+off+ys.length=A.length+(off+n) by omega,← List.drop_drop,List.drop_left,List.drop_append_of_le_length (by omega)]
    rw [e1,e2]; simp
  simp only [E1,hx,hy,if_pos hn,storeAt,hL,if_pos (And.intro hb ho1),Option.map_some,e]
theorem e_app {e b ver by_ n:Nat} {kd:BK} {l':List α} (hk:growable kd e=true) (hx:ev x f=.ref b ver 0 n) (hn:l.length=n) (hL:live L b ver=some ⟨ver,kd,s,cat g l⟩) (h1:slLen L (ev y f)=some l'.length) (h2:slCells L s (ev y f)=some (cat g l')) (h:(l.length+l'.length)*by_≤room):E1 (.app e s by_ x y) f L=some (.ref b (ver+1) 0 (l++l').length,L.set b ⟨ver+1,kd,s,cat g (l++l')⟩):=by
  subst hn
  simp only [E1,h1,h2,Option.bind_some,hx,appendV,hL,hk,cat_len (g:=g),cat_one (g:=g),h,and_self,if_true,cat_app,List.length_append]
theorem slc_ev {v:V} {r:Option (List V)} (hx:ev x f=v) (h:slCells L s v=r):slCells L s (ev x f)=r:=by rw [hx]; exact h
theorem sll_ev {v:V} {r:Option Nat} (hx:ev x f=v) (h:slLen L v=r):slLen L (ev x f)=r:=by rw [hx]; exact h
theorem slc_sl {u:Bool} (l:List α):slCells L s (.sl u l.length (cat g l))=some (cat g l):=by
  simp only [slCells,cat_len (g:=g),Nat.le_refl,if_true]
  rw [List.take_of_length_le (by rw [cat_len (g:=g)]; exact Nat.le_refl _)]
theorem slc_ref {b ver n:Nat} {kd:BK} {q:Nat} (hn:l.length=n) (hL:live L b ver=some ⟨ver,kd,q,cat g l⟩):slCells L s (.ref b ver 0 n)=some (cat g l):=by
  subst hn
  simp only [slCells,hL,cat_len (g:=g),Nat.zero_add,Nat.le_refl,if_true,List.drop_zero]
  rw [List.take_of_length_le (by rw [cat_len (g:=g)]; exact Nat.le_refl _)]
theorem sll_ref {b ver n:Nat} {B:Blk} (hn:l.length=n) (hL:live L b ver=some B):slLen L (.ref b ver 0 n)=some l.length:=by
  subst hn; simp only [slLen,hL,Option.isSome_some,if_true]
theorem e_len_ref {b ver n:Nat} {B:Blk} (hx:ev x f=.ref b ver 0 n) (hn:l.length=n) (hL:live L b ver=some B):E1 (.len x) f L=some (.s (.int .i64 (ln l)),L):=by
  subst hn; simp only [E1,hx,slLen,hL,Option.isSome_some,if_true,Option.map_some,ln]
theorem e_ias_ref {b ver n sz:Nat} {B:Blk} (hx:ev x f=.ref b ver 0 n) (hi:ev i f=.s (.int k iv)) (hn:l.length=n) (hL:live L b ver=some B) (h:0≤iv∧iv < ln l):E1 (.ias sz x i) f L=some (.ptr b ver (0+iv.toNat*sz),L):=by
  subst hn
  exact e_ias (n:=l.length) hx hi (by simp only [slLen,hL,Option.isSome_some,if_true]) rfl h
theorem st_len {a:α}:(st l iv a).length=l.length:=by simp [st]
theorem cut_sn {n:Nat} {iv:Int} (h:0≤iv∧iv≤(n:Int)):iv.toNat≤n∧n≤n:=by omega
theorem cut_ns {n:Nat} {iv:Int} (h:0≤iv∧iv≤(n:Int)):0≤iv.toNat∧iv.toNat≤n:=by omega
/-- A part of a slice. -/
theorem e_slice_sl {lo hi:Option Opd} {u:Bool} {n a b:Nat} (hx:ev x f=.sl u n (cat g l)) (hb:bounds f n lo hi=some (a,b)):E1 (.slice s x lo hi) f L=some (.sl (u&&b == n) (b - a) (cat g (l.drop a)),L):=by
  simp only [E1,hx,slLen,Option.bind_some,hb,slCut,Option.map_some,cat_dropn (g:=g)]
omit [Inhabited α] in
theorem b_sn {n:Nat} (hi:ev i f=.s (.int k iv)) (h:0≤iv∧iv≤(n:Int)):bounds f n (some i) none=some (iv.toNat,n):=by simp [bounds,hi,asI,h]
theorem b_ns {n:Nat} (hi:ev i f=.s (.int k iv)) (h:0≤iv∧iv≤(n:Int)):bounds f n none (some i)=some (0,iv.toNat):=by simp [bounds,hi,asI,h]
variable {t:ByteArray}
end
-- What is handed to a call.
def Wk (a a':V):Prop:=∀ (im:Im) (H:Hp) (w:World) (c:Value),VR im H w a c→VR im H w a' c
def Wks (a a':List V):Prop:=∀ (im:Im) (H:Hp) (w:World) (c:List Value),VRs im H w a c→VRs im H w a' c
theorem Wk.refl {a:V}:Wk a a:=fun _ _ _ _ h=>h
theorem Wks.nil:Wks [] []:=fun _ _ _ _ h=>h
theorem Wks.cons {a a':V} {r r':List V} (h:Wk a a') (k:Wks r r'):Wks (a::r) (a'::r'):=fun im H w c hv=>by
  cases c with
  | nil=>exact hv.elim
  | cons c cs=>exact ⟨h im H w c hv.1,k im H w cs hv.2⟩
theorem Wk.agg {r r':List V} (k:Wks r r'):Wk (.agg r) (.agg r'):=fun im H w c hv=>by
  obtain ⟨vs,h1,h2⟩:=hv
  exact ⟨vs,h1,k im H w _ h2⟩
theorem VRs.firsts {im:Im} {H:Hp} {w:World} {g o:Nat} {cs:List V} {vs:List Value} (n:Nat) (hat:At w g o vs) (h:VRs im H w cs vs):At w g o (vs.take n)∧VRs im H w (cs.take n) (vs.take n) :=
  ⟨fun j v hj=>by rw [List.getElem?_take] at hj; split at hj; exact hat j v hj; simp at hj,VRs.take n h⟩
theorem Wk.sl {u:Bool} {n:Nat} {cs:List V} (k:Nat):Wk (.sl u n cs) (.sl false n (cs.take k)):=fun im H w c hv=>by
  obtain ⟨A,cap,h1,h2,h3,h4,h5⟩:=hv
  refine ⟨A,cap,h1,h2,h3,fun h=>by simp at h,?_⟩
  rcases h5 with h5 | ⟨g,o,vs,k1,k2,k3,k4,k5⟩
  · exact .inl h5
  · have:=VRs.firsts k k4 k5
    exact .inr ⟨g,o,_,k1,k2,k3,this.1,this.2⟩
theorem Wk.slf {u:Bool} {n:Nat} {cs:List V}:Wk (.sl u n cs) (.sl false n cs):=by
  have:=Wk.sl (u:=u) (n:=n) (cs:=cs) cs.length
  rwa [List.take_length] at this
/-- A part of a slice is a slice. -/
theorem Wk.part {α:Type} {g:α→List V} {s:Nat} [Cells g s] {u:Bool} {n:Nat} {l:List α} (h:n≤l.length):Wk (.sl u n (cat g l)) (.sl false (l.take n).length (cat g (l.take n))):=by
  have:=Wk.sl (u:=u) (n:=n) (cs:=cat g l) (n*s)
  rw [cat_taken (g:=g)] at this
  rw [List.length_take,Nat.min_eq_left h]
  exact this
section
variable {n0:Nat} {P:Program} {m:FuncId} {L:Hp} {v:V}
theorem CalL.wk {args args':List V} {L':Hp} (h:CalL n0 P m args' L v L') (hw:Wks args args') (hs:(statics args&&statics args')=true):CalL n0 P m args L v L':=by
  simp only [Bool.and_eq_true] at hs
  refine ⟨h.1,fun ρ G hE => ?_⟩
  intro im w cargs hr ha
  rw [rns_stat _ _ hs.1] at ha
  have:=h.2 ρ G hE im w cargs hr
  rw [rns_stat _ _ hs.2] at this
  exact this (hw _ _ _ _ ha)
theorem CalL.purew {args args':List V} (h:Pure P m args' v) (hw:Wks args args') (hs:(statics args&&statics args')=true) (hv:v.static=true) (hn:Nat.ble n0 L.length=true):CalL n0 P m args L v L:=by
  have:=hs
  simp only [Bool.and_eq_true] at this
  exact (CalL.pure h this.2 hv (Nat.le_of_ble_eq_true hn)).wk hw hs
mutual
/-- It leads to no memory. -/
def V.plain:V→Bool
  | .s _=>true
  | .agg cs | .tup cs | .clo _ cs=>plains cs
  | _=>false
def plains:List V→Bool
  | []=>true
  | v::r=>v.plain&&plains r
end
mutual
theorem plain_any {im im':Im} {H H':Hp} {w w':World}:∀ (v:V) (c:Value),v.plain=true→VR im H w v c→VR im' H' w' v c
  | .s _,_,_,h=>h
  | .agg cs,_,hp,h=>by obtain ⟨vs,h1,h2⟩:=h; exact ⟨vs,h1,plains_any cs _ hp h2⟩
  | .tup cs,_,hp,h=>by obtain ⟨vs,h1,h2⟩:=h; exact ⟨vs,h1,plains_any cs _ hp h2⟩
  | .clo _ cs,_,hp,h=>by obtain ⟨vs,h1,h2⟩:=h; exact ⟨vs,h1,plains_any cs _ hp h2⟩
  | .ptr ..,_,h,_=>by simp [V.plain] at h
  | .ref ..,_,h,_=>by simp [V.plain] at h
  | .sl ..,_,h,_=>by simp [V.plain] at h
  | .ip ..,_,h,_=>by simp [V.plain] at h
  | .ifc ..,_,h,_=>by simp [V.plain] at h
  | .any,_,h,_=>by simp [V.plain] at h
theorem plains_any {im im':Im} {H H':Hp} {w w':World}:∀ (l:List V) (cs:List Value),plains l=true→VRs im H w l cs→VRs im' H' w' l cs
  | [],[],_,_=>trivial
  | v::r,c::cs,hp,h=>by
    simp only [plains,Bool.and_eq_true] at hp
    exact ⟨plain_any v c hp.1 h.1,plains_any r cs hp.2 h.2⟩
  | [],_::_,_,h=>h.elim
  | _::_,[],_,h=>h.elim
end
mutual
theorem plain_static:∀ (v:V),v.plain=true→v.static=true
  | .s _,_=>rfl
  | .agg cs,h=>plains_static cs h
  | .tup cs,h=>plains_static cs h
  | .clo _ cs,h=>plains_static cs h
  | .ptr ..,h=>by simp [V.plain] at h
  | .ref ..,h=>by simp [V.plain] at h
  | .sl ..,h=>by simp [V.plain] at h
  | .ip ..,h=>by simp [V.plain] at h
  | .ifc ..,h=>by simp [V.plain] at h
  | .any,h=>by simp [V.plain] at h
theorem plains_static:∀ (l:List V),plains l=true→statics l=true
  | [],_=>rfl
  | v::r,h=>by
    simp only [plains,statics,Bool.and_eq_true] at h ⊢
    exact ⟨plain_static v h.1,plains_static r h.2⟩
end
/-- What a call may be lent. -/
def Lend (n0:Nat) (L:Hp) (a a':V):Prop:=∀ ρ G,Emb ρ G n0→n0≤L.length→Fz 0 (G L) (a.rn ρ) a'
def Lends (n0:Nat) (L:Hp) (a a':List V):Prop:=∀ ρ G,Emb ρ G n0→n0≤L.length→Fzs 0 (G L) (rns ρ a) a'
theorem Lend.stat {a:V} (h:a.static=true):Lend n0 L a a:=fun ρ G hE hn=>by rw [rn_static _ _ h]; exact Fz.below (static_under _ _ h)
theorem Lend.wk {a a' a'':V} (h:Lend n0 L a a') (hw:Wk a' a''):Lend n0 L a a'':=fun ρ G hE hn im w c hr hv=>hw _ _ _ _ (h ρ G hE hn im w c hr hv)
theorem Lends.nil:Lends n0 L [] []:=fun ρ G hE hn=>Fzs.below rfl
theorem Lends.cons {a a':V} {r r':List V} (h:Lend n0 L a a') (k:Lends n0 L r r'):Lends n0 L (a::r) (a'::r'):=fun ρ G hE hn=>Fzs.cons (h ρ G hE hn) (k ρ G hE hn)
theorem Lend.agg {r r':List V} (k:Lends n0 L r r'):Lend n0 L (.agg r) (.agg r'):=fun ρ G hE hn=>Fz.agg (k ρ G hE hn)
theorem Lend.ref {b ver o k:Nat} {B:Blk} {r':List V} (hB:live L b ver=some B) (hlen:o+k*B.sz≤B.cs.length) (h:(B.cs.drop o).take (k*B.sz)=r') (hs:statics r'=true):Lend n0 L (.ref b ver o k) (.sl false k r'):=fun ρ G hE hn=>by
  refine Fz.ref (B:=B.rn ρ) (Nat.zero_le _) (live_rn hE hn hB) (by simpa [Blk.rn,rns_len] using hlen) ?_
  simp only [Blk.rn]
  rw [rns_drop,rns_take,h,rns_stat _ _ hs]
  exact Fzs.below (statics_unders _ _ hs)
/-- A slice of its own, whole. -/
theorem Lend.whole {α:Type} {g:α→List V} {s:Nat} [Cells g s] {b ver n:Nat} {kd:BK} {l:List α} (hn:l.length=n) (hB:live L b ver=some ⟨ver,kd,s,cat g l⟩):Lend n0 L (.ref b ver 0 n) (.sl false l.length (cat g l)):=by
  subst hn
  exact Lend.ref hB (by simp only [cat_len (g:=g)]; omega) (by simp only [List.drop_zero]; rw [List.take_of_length_le (by simp only [cat_len (g:=g)]; omega)]) (cat_stat l)
end
-- Of printed proofs.
theorem live_grow {L:Hp} {b ver q:Nat} {cs:List V} (h:L[b]? = some ⟨ver,.grow,q,cs⟩):live L b ver=some ⟨ver,.grow,q,cs⟩:=by simp [live,h,BK.live]
theorem as_ok {c:Prop} [Decidable c] {α:Type} {x:Option α} {r:α} (h:(if c then x else none)=some r):c∧x=some r:=by
  split at h
  · rename_i hc; exact ⟨hc,h⟩
  · simp at h
theorem if_t {b:Bool} {α:Type} {x y:α} {z:α} (h:(if b=true then x else y)=z) (hc:b=true):x=z:=by rw [if_pos hc] at h; exact h
theorem if_f {b:Bool} {α:Type} {x y:α} {z:α} (h:(if b=true then x else y)=z) (hc:b=false):y=z:=by rw [if_neg (by rw [hc]; simp)] at h; exact h
inductive Out (R S:Type) where
  | ret (r:R)
  | go (s:S)
def BIG:Nat:=18446744073709551616
theorem FOk_of {f:Fr} {l l':List Fc} (ks:List Nat) (hf:FOk f l) (h:sel ks l=l'):FOk f l':=h ▸ FOk_sel hf
theorem loop_ind {P:Program} {L0:Hp} {C:X→Fr→Hp→Prop} {S:List It} {body:IR} (St:Nat→Fr→Hp→Prop) (zero:∀ f L,¬ St 0 f L)
    (step:∀ n (R:Fr→Hp→Prop),(∀ f L,St n f L→R f L)→∀ f L,St (n+1) f L→dwv P L0 body (kont P L0 C (.l R::S)) f L):∀ (n:Nat) (f:Fr) (L:Hp),St n f L→iter (fun R=>dwv P L0 body (kont P L0 C (.l R::S))) n f L
  | 0,f,L,h=>(zero f L h).elim
  | n+1,f,L,h=>step n _ (fun f' L' h'=>loop_ind St zero step n f' L' h') f L h
theorem FzL.whole {α:Type} {g:α→List V} {s:Nat} [Cells g s] {L:Hp} {b ver n k:Nat} {kd:BK} {l:List α} (hb:Nat.ble k b=true) (hn:l.length=n) (hB:live L b ver=some ⟨ver,kd,s,cat g l⟩):FzL k L (.ref b ver 0 n) (.sl false l.length (cat g l)):=by
  subst hn
  exact FzL.ref (Nat.le_of_ble_eq_true hb) hB (by simp only [cat_len (g:=g)]; omega) (by simp only [List.drop_zero]; rw [List.take_of_length_le (by simp only [cat_len (g:=g)]; omega)]; exact FzsL.stat (cat_stat l))
theorem FzL.slf {α:Type} {g:α→List V} {s:Nat} [Cells g s] {L:Hp} {k:Nat} {u:Bool} {l:List α}:FzL k L (.sl u l.length (cat g l)) (.sl false l.length (cat g l)) :=
  FzL.weak (FzL.stat (cat_stat (g:=g) l)) Wk.slf (cat_stat (g:=g) l) (cat_stat (g:=g) l)
theorem cut_le {α:Type} {a b n:Nat} {l:List α} (h:a≤b∧b≤n) (hn:l.length=n):b - a≤(l.drop a).length:=by rw [List.length_drop]; omega
theorem FzL.part {α:Type} {g:α→List V} {s:Nat} [Cells g s] {L:Hp} {k a b:Nat} {u:Bool} {l:List α} (h:a≤b∧b≤l.length):FzL k L (.sl u (b - a) (cat g (l.drop a))) (.sl false ((l.drop a).take (b - a)).length (cat g ((l.drop a).take (b - a)))) :=
  FzL.weak (FzL.stat (cat_stat (g:=g) _)) (Wk.part (g:=g) (cut_le h rfl)) (cat_stat (g:=g) _) (cat_stat (g:=g) _)
theorem Lend.part {n0:Nat} {L:Hp} {α:Type} {g:α→List V} {s:Nat} [Cells g s] {a b:Nat} {u:Bool} {l:List α} (h:a≤b∧b≤l.length):Lend n0 L (.sl u (b - a) (cat g (l.drop a))) (.sl false ((l.drop a).take (b - a)).length (cat g ((l.drop a).take (b - a)))) :=
  Lend.wk (Lend.stat (by simp [V.static,cat_stat])) (Wk.part (g:=g) (cut_le h rfl))
end Go.Proofs.YtoemlgdlejkliaaK
