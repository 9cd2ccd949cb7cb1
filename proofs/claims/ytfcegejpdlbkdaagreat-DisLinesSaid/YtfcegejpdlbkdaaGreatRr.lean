/- Memory in pages: a struct of 256 pages, each nil or a row of its own. -/
import Derived.Test.YtfcegejpdlbkdaaGreatRq
namespace Go.Proofs.YtfcegejpdlbkdaaGreatK
set_option linter.unusedVariables false
set_option linter.unusedSimpArgs false
open Go.RowKit
structure RamT where
  ix:List (Option Nat)
  bl:List (List Int)
  rom:Int
instance:Inhabited RamT:=⟨⟨[],[],0⟩⟩
def pcell:Option Nat→V
  | none=>.s (.slice none 0 0)
  | some k=>.ref (k+1) 0 0 256
def pip (bl:List (List Int)):Option Nat→V
  | none=>.s (.slice none 0 0)
  | some k=>.sl false 256 (cat (nI .u8) (bl.getD k []))
def RamT.cells (r:RamT):List V:=r.ix.map pcell++[.s (.int .i64 r.rom)]
def row8 (l:List Int):Blk:=⟨0,.grow,1,cat (nI .u8) l⟩
def RamT.H (r:RamT):Hp:=⟨0,.mem,1,r.cells⟩::r.bl.map row8
/-- It, read alone. -/
def RamT.c (r:RamT):List V:=r.ix.map (pip r.bl)++[.s (.int .i64 r.rom)]
def RamT.v (r:RamT):V:=.ip r.c
structure RamT.Ok (r:RamT):Prop where
  n:r.ix.length=256
  k:∀ (i k:Nat),r.ix[i]? = some (some k)→k < r.bl.length
  l:∀ (k:Nat) (l:List Int),r.bl[k]? = some l→l.length=256
def RamT.poke (r:RamT) (a b:Int):RamT:=match r.ix[(a / 256).toNat]? with
  | some (some k)=>⟨r.ix,r.bl.set k (st (r.bl.getD k []) (a % 256) b),r.rom⟩
  | _=>if b=0 then r else ⟨r.ix.set (a / 256).toNat (some r.bl.length),r.bl++[st (rp 256 (0:Int)) (a % 256) b],r.rom⟩
def RamT.get (r:RamT) (a:Int):Int:=match r.ix[(a / 256).toNat]? with
  | some (some k)=>gt (r.bl.getD k []) (a % 256)
  | _=>0
def RamT.load (r:RamT) (a:Int):List Int→RamT
  | []=>r
  | b::bs=>(r.poke a b).load (a+1) bs
def RamT.new (rom:Int):RamT:=⟨List.replicate 256 none,[],rom⟩
theorem st_len8 (l:List Int) (i x:Int):(st l i x).length=l.length:=by simp [st]
theorem rp_len8:(rp 256 (0:Int)).length=256:=by unfold rp; rw [List.length_replicate]; rfl
theorem RamT.Ok.poke {r:RamT} (h:r.Ok) (a b:Int):(r.poke a b).Ok:=by
  unfold RamT.poke
  split
  · rename_i k hk
    have hkl:=h.k _ _ hk
    refine ⟨h.n,fun i j hj=>by simpa using h.k i j hj,fun j l hl => ?_⟩
    by_cases e:k=j
    · subst e
      have hl:(r.bl.set k (st (r.bl.getD k []) (a % 256) b))[k]? = some l:=hl
      rw [List.getElem?_set_self hkl] at hl
      injection hl with hl; subst hl
      rw [st_len8,List.getD_eq_getElem?_getD,List.getElem?_eq_getElem hkl]
      exact h.l k _ (List.getElem?_eq_getElem hkl)
    · have hl:(r.bl.set k (st (r.bl.getD k []) (a % 256) b))[j]? = some l:=hl
      rw [List.getElem?_set_ne e] at hl
      exact h.l j l hl
  · split
    · exact h
    · refine ⟨by simpa using h.n,fun i j hj => ?_,fun j l hl => ?_⟩
      · have hj:(r.ix.set (a / 256).toNat (some r.bl.length))[i]? = some (some j):=hj
        show j < (r.bl++[_]).length
        rw [List.getElem?_set] at hj
        simp only [List.length_append,List.length_cons,List.length_nil]
        split at hj
        · split at hj
          · simp at hj; omega
          · simp at hj
        · have:=h.k i j hj; omega
      · have hl:(r.bl++[st (rp 256 (0:Int)) (a % 256) b])[j]? = some l:=hl
        rw [List.getElem?_append] at hl
        split at hl
        · exact h.l j l hl
        · rename_i hj
          rcases Nat.eq_zero_or_pos (j - r.bl.length) with e | e
          · rw [e] at hl; simp at hl; subst hl
            rw [st_len8,rp_len8]
          · rw [List.getElem?_eq_none (by simp; omega)] at hl; simp at hl
theorem RamT.Ok.new (rom:Int):(RamT.new rom).Ok:=⟨List.length_replicate,fun i k h=>by
  have h:(List.replicate 256 (none:Option Nat))[i]? = some (some k):=h
  rw [List.getElem?_replicate] at h
  split at h <;> simp at h,fun k l h=>by
  have h:([]:List (List Int))[k]? = some l:=h
  simp at h⟩
section
variable {f:Fr} {L:Hp} {x y:Opd}
theorem e_load_raw {b ver o:Nat} {B:Blk} {v:V} (hx:ev x f=.ptr b ver o) (hL:live L b ver=some B) (ho:B.cs[o]? = some v):E1 (.load false 1 x) f L=some (v,L):=by
  have hl:=(List.getElem?_eq_some_iff.1 ho).1
  have:cellsAt L (.ptr b ver o) 1=some [v]:=by
    simp only [cellsAt,hL]
    rw [if_pos (by omega)]
    congr 1
    rw [List.drop_eq_getElem_cons hl]
    have:=(List.getElem?_eq_some_iff.1 ho).2
    simp [this]
  simp only [E1,hx,this,Option.bind_some,one?]
  rfl
theorem e_load_rip {cs:List V} {v:V} (hx:ev x f=.ip cs) (ho:cs[0]? = some v):E1 (.load false 1 x) f L=some (v,L):=by
  cases cs with
  | nil=>simp at ho
  | cons c r =>
    simp at ho; subst ho
    simp only [E1,hx,cellsAt]
    simp [one?]
theorem e_store_raw {b ver o:Nat} {B:Blk} {v:V} (hx:ev x f=.ptr b ver o) (hL:live L b ver=some B) (hy:ev y f=v) (hc:v.cells=[v]) (h1:v.one=true) (ho:o < B.cs.length):E1 (.store 1 x y) f L=some (.s undef,L.set b { B with cs:=B.cs.set o v }):=by
  have hsp:splice B.cs o [v]=B.cs.set o v:=by
    unfold splice
    rw [List.set_eq_take_append_cons_drop,if_pos ho]
    simp
  have:storeAt L (.ptr b ver o) [v]=some (L.set b { B with cs:=B.cs.set o v }):=by
    simp only [storeAt,hL]
    rw [if_pos ⟨by simp; omega,by simpa using h1⟩,hsp]
  simp only [E1,hx,hy,hc,this,List.length_cons,List.length_nil,Option.map_some]
  rfl
theorem e_nil_lit (hx:ev x f=.s (.slice none 0 0)):E1 (.isnil false true x) f L=some (.s (.bool true),L):=by
  unfold E1
  simp [hx,nil?]
theorem e_nil_sl {u:Bool} {n:Nat} {cs:List V} (hx:ev x f=.sl u (n+1) cs):E1 (.isnil false true x) f L=some (.s (.bool false),L):=by
  unfold E1
  simp [hx,nil?]
theorem e_nil_row {b ver o n:Nat} {B:Blk} (hx:ev x f=.ref b ver o (n+1)) (hL:live L b ver=some B):E1 (.isnil false true x) f L=some (.s (.bool false),L):=by
  unfold E1
  simp [hx,nil?,hL]
end
theorem RamT.live0 (r:RamT):live r.H 0 0=some ⟨0,.mem,1,r.cells⟩:=rfl
theorem RamT.liveK {r:RamT} {k:Nat} (h:k < r.bl.length):live r.H (k+1) 0=some (row8 (r.bl.getD k [])):=by
  have:r.H[k+1]? = some (row8 (r.bl.getD k [])):=by
    simp only [RamT.H,List.getElem?_cons_succ,List.getElem?_map]
    rw [List.getD_eq_getElem?_getD,List.getElem?_eq_getElem h]; rfl
  unfold live
  rw [this]; simp [row8]
theorem RamT.cell_at {r:RamT} (h:r.Ok) {i:Nat} (hi:i < 256):∃ p,r.ix[i]? = some p∧r.cells[i]? = some (pcell p):=by
  have hl:i < r.ix.length:=by rw [h.n]; exact hi
  refine ⟨r.ix[i],List.getElem?_eq_getElem hl,?_⟩
  unfold RamT.cells
  rw [List.getElem?_append_left (by simpa using hl),List.getElem?_map,List.getElem?_eq_getElem hl]; rfl
theorem RamT.c_at {r:RamT} (h:r.Ok) {i:Nat} (hi:i < 256):∃ p,r.ix[i]? = some p∧r.c[i]? = some (pip r.bl p):=by
  have hl:i < r.ix.length:=by rw [h.n]; exact hi
  refine ⟨r.ix[i],List.getElem?_eq_getElem hl,?_⟩
  unfold RamT.c
  rw [List.getElem?_append_left (by simpa using hl),List.getElem?_map,List.getElem?_eq_getElem hl]; rfl
theorem RamT.set_row {r:RamT} {k:Nat} {l:List Int}:r.H.set (k+1) (row8 l)=RamT.H ⟨r.ix,r.bl.set k l,r.rom⟩:=by
  simp only [RamT.H,List.set_cons_succ,RamT.cells,List.map_set]
theorem RamT.set_new {r:RamT} (h:r.Ok) {i:Nat} (hi:i < 256) {l:List Int} :
    ((r.H++[row8 l]).set 0 ⟨0,.mem,1,r.cells.set i (.ref (r.bl.length+1) 0 0 256)⟩)=RamT.H ⟨r.ix.set i (some r.bl.length),r.bl++[l],r.rom⟩:=by
  have hl:i < r.ix.length:=by rw [h.n]; exact hi
  simp only [RamT.H,List.cons_append,List.set_cons_zero,RamT.cells,List.map_append,List.map_cons,List.map_nil,List.map_set]
  rw [List.set_append_left _ _ (by simpa using hl)]; rfl
theorem RamT.H_len (r:RamT):r.H.length=r.bl.length+1:=by simp [RamT.H]
theorem statics_pip (bl:List (List Int)):∀ (ix:List (Option Nat)) (r:List V),statics r=true→statics (ix.map (pip bl)++r)=true
  | [],r,h=>h
  | p::ix,r,h=>by
    simp only [List.map_cons,List.cons_append,statics]
    rw [statics_pip bl ix r h,Bool.and_true]
    cases p with
    | none=>rfl
    | some k=>simp [pip,V.static,cat_stat]
theorem RamT.c_stat (r:RamT):statics r.c=true:=statics_pip _ _ _ rfl
theorem RamT.v_stat (r:RamT):r.v.static=true:=r.c_stat
/-- Handed out: what it holds is read alone from here on. -/
theorem FzL.ram {r:RamT} (h:r.Ok):FzL 0 r.H (.ptr 0 0 0) r.v:=fun ρ G n0 hE hn hl=>by
  have hn0:n0≤r.H.length:=by omega
  have hcells:∀ (ix:List (Option Nat)),(∀ k,some k∈ix→k < r.bl.length)→FzsL 0 r.H (ix.map pcell++[.s (.int .i64 r.rom)]) (ix.map (pip r.bl)++[.s (.int .i64 r.rom)]):=by
    intro ix
    induction ix with
    | nil=>intro _; exact FzsL.cons FzL.s FzsL.nil
    | cons p ix ih =>
      intro hk
      refine FzsL.cons ?_ (ih fun k hk'=>hk k (List.mem_cons_of_mem _ hk'))
      cases p with
      | none=>exact FzL.s
      | some k =>
        have hkl:=hk k (List.mem_cons_self ..)
        have hlen:(r.bl.getD k []).length=256:=by
          rw [List.getD_eq_getElem?_getD,List.getElem?_eq_getElem hkl]
          exact h.l k _ (List.getElem?_eq_getElem hkl)
        have:=FzL.whole (g:=nI .u8) (l:=r.bl.getD k []) (k:=0) (b:=k+1) (ver:=0) (n:=256) (kd:=.grow) (L:=r.H) (by rfl) hlen (RamT.liveK hkl)
        rw [hlen] at this
        exact this
  have hz:=hcells r.ix (fun k hk=>by
    obtain ⟨i,hi,e⟩:=List.getElem_of_mem hk
    exact h.k i k (by rw [List.getElem?_eq_getElem hi,e])) ρ G n0 hE hn hl
  have hlv:=live_rn hE hn0 (RamT.live0 r)
  have hle:(G (r.H.take 0)).length≤ρ 0:=by
    have:=hE.len [] (by omega)
    show (G []).length≤ρ 0
    rw [this]; exact Nat.le_refl _
  have:=Fz.ptr (H:=G r.H) hle hlv (r':=rns ρ r.c) (by
    show Fzs _ _ ((rns ρ r.cells).drop 0) _
    rw [List.drop_zero]; exact hz) rfl
  exact this
theorem Emb.idn (n:Nat):Emb id id n where
  get L b B _ h:=Emb.self.get L b B (Nat.zero_le _) h
  set L b B _ h:=Emb.self.set L b B (Nat.zero_le _) h
  snoc L B _:=Emb.self.snoc L B (Nat.zero_le _)
  len L _:=Emb.self.len L (Nat.zero_le _)
  out L b B _ h:=.inl ⟨b,rfl,(List.getElem?_eq_some_iff.1 h).1⟩
/-- A page more. -/
def RamT.page (r:RamT) (a:Int):RamT:=⟨r.ix.set (a / 256).toNat (some r.bl.length),r.bl++[rp 256 (0:Int)],r.rom⟩
theorem RamT.Ok.page {r:RamT} (h:r.Ok) (a:Int):(r.page a).Ok:=by
  refine ⟨by simpa [RamT.page] using h.n,fun i j hj => ?_,fun j l hl => ?_⟩
  · have hj:(r.ix.set (a / 256).toNat (some r.bl.length))[i]? = some (some j):=hj
    show j < (r.bl++[_]).length
    rw [List.getElem?_set] at hj
    simp only [List.length_append,List.length_cons,List.length_nil]
    split at hj
    · split at hj
      · simp at hj; omega
      · simp at hj
    · have:=h.k i j hj; omega
  · have hl:(r.bl++[rp 256 (0:Int)])[j]? = some l:=hl
    rw [List.getElem?_append] at hl
    split at hl
    · exact h.l j l hl
    · rename_i hj
      rcases Nat.eq_zero_or_pos (j - r.bl.length) with e | e
      · rw [e] at hl
        have hl:some (rp 256 (0:Int))=some l:=hl
        injection hl with hl; subst hl; exact rp_len8
      · rw [List.getElem?_eq_none (by simp only [List.length_cons,List.length_nil]; omega)] at hl; simp at hl
theorem RamT.page_at {r:RamT} (h:r.Ok) {a:Int} (ha:0≤a∧a < 65536):(r.page a).ix[(a / 256).toNat]? = some (some r.bl.length):=by
  show (r.ix.set _ _)[_]? = _
  rw [List.getElem?_set_self (by rw [h.n]; omega)]
theorem RamT.page_poke {r:RamT} (h:r.Ok) {a b:Int} (ha:0≤a∧a < 65536) (hn:r.ix[(a / 256).toNat]? = some none) (hb:b ≠ 0):(r.page a).poke a b=r.poke a b:=by
  have e1:=RamT.page_at h ha
  unfold RamT.poke
  rw [e1,hn]
  simp only
  rw [if_neg hb]
  have e2:(r.bl++[rp 256 (0:Int)]).getD r.bl.length []=rp 256 (0:Int):=by
    rw [List.getD_eq_getElem?_getD,List.getElem?_append_right (Nat.le_refl _),Nat.sub_self]; rfl
  show RamT.mk (r.ix.set _ _) ((r.bl++[rp 256 (0:Int)]).set r.bl.length (st ((r.bl++[rp 256 (0:Int)]).getD r.bl.length []) (a % 256) b)) r.rom=_
  rw [e2,List.set_append_right _ _ (Nat.le_refl _),Nat.sub_self]
  rfl
theorem RamT.poke_len (r:RamT) (a b:Int):r.H.length≤(r.poke a b).H.length:=by
  rw [RamT.H_len,RamT.H_len]
  unfold RamT.poke
  split
  · simp
  · split
    · exact Nat.le_refl _
    · simp
theorem RamT.Ok.load:∀ (l:List Int) {r:RamT} (h:r.Ok) (a:Int),(r.load a l).Ok
  | [],_,h,_=>h
  | b::l,_,h,a=>RamT.Ok.load l (h.poke a b) (a+1)
theorem RamT.load_len:∀ (l:List Int) (r:RamT) (a:Int),r.H.length≤(r.load a l).H.length
  | [],_,_=>Nat.le_refl _
  | b::l,r,a=>Nat.le_trans (r.poke_len a b) (RamT.load_len l _ (a+1))
def RamT.okB (r:RamT):Bool:=Nat.beq r.ix.length 256&&(r.ix.all fun p=>match p with | none=>true | some k=>Nat.blt k r.bl.length)&&r.bl.all fun l=>Nat.beq l.length 256
theorem RamT.okB_iff {r:RamT}:r.okB=true↔r.Ok:=by
  unfold RamT.okB
  rw [Bool.and_eq_true,Bool.and_eq_true,List.all_eq_true,List.all_eq_true]
  constructor
  · rintro ⟨⟨h1,h2⟩,h3⟩
    refine ⟨Nat.eq_of_beq_eq_true h1,fun i k hk => ?_,fun k l hl=>Nat.eq_of_beq_eq_true (h3 l (List.mem_of_getElem? hl))⟩
    have:=h2 _ (List.mem_of_getElem? hk)
    simp only at this
    exact Nat.le_of_ble_eq_true this
  · intro h
    refine ⟨⟨by rw [h.n]; rfl,fun p hp => ?_⟩,fun l hl => ?_⟩
    · obtain ⟨i,hi,e⟩:=List.getElem_of_mem hp
      cases p with
      | none=>rfl
      | some k=>exact Nat.ble_eq_true_of_le (h.k i k (by rw [List.getElem?_eq_getElem hi,e]))
    · obtain ⟨i,hi,e⟩:=List.getElem_of_mem hl
      rw [h.l i l (by rw [List.getElem?_eq_getElem hi,e])]; rfl
/-- What the functions of package ram come to. -/
def ram_Read (r:RamT) (a:Int):Option Int:=if r.okB=true∧0≤a∧a < 65536 then some (r.get a) else none
def ram_New (image:List Int) (rom:Int):Option (RamT × Int):=if (0≤rom∧rom≤65536)∧image.length≤65536 then some ((RamT.new rom).load 0 image,0) else none
/-- A method of what an interface holds is called: of what is pointed to, read alone. -/
theorem CalL.inv {n0:Nat} {P:Program} {s:String} {t k:Nat} {g:FuncId} {cs:List V} {args:List V} {L L':Hp} {r:V} (h:CalL n0 P g (.ip cs::args) L r L') (hk:nmId s=some k) (hm:∀ b o w,(method (P.types.size+Made.depth) t (.pointer (some ⟨b,o,none⟩)) s).run P w=.ok (g,.pointer (some ⟨b,o,none⟩)) w) (hc:callable P g=true:=by kernel_rfl) (hb:Nat.blt k 4294967296=false:=by rfl):CalL n0 P k (.ifc t (.ip cs)::args) L r L':=by
  have hlt:Nat.blt g 4294967296=true:=by
    unfold callable at hc; rw [Bool.and_eq_true] at hc; exact hc.1
  refine ⟨h.1,fun ρ G hE => ?_⟩
  intro im w cargs hr ha
  have h2:=h.2 ρ G hE
  match cargs,ha with
  | c::rest,ha =>
    obtain ⟨⟨y,rfl,hy⟩,h3⟩:=ha
    have hy':VR im (G L) w ((V.ip cs).rn ρ) y:=hy
    obtain ⟨b,o,vs,rfl,_⟩:=hy
    have:=h2 im w (.pointer (some ⟨b,o,none⟩)::rest) hr ⟨hy',h3⟩
    rw [CallsD.st hlt] at this
    rw [CallsD.dy hb]
    exact ⟨g,.pointer (some ⟨b,o,none⟩)::rest,hc,.inr ⟨s,t,.pointer (some ⟨b,o,none⟩),rest,.pointer (some ⟨b,o,none⟩),hk,rfl,rfl,hm b o⟩,this⟩
end Go.Proofs.YtfcegejpdlbkdaaGreatK
