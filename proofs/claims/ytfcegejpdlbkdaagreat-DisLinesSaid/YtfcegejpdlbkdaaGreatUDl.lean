/- So many instructions in memory as lines: the law. -/
import Derived.Test.YtfcegejpdlbkdaaGreatUDlr
namespace Go.Proofs.YtfcegejpdlbkdaaGreatK
set_option linter.unusedVariables false
set_option linter.unusedSimpArgs false
set_option maxHeartbeats 1000000
open Go.RowKit
attribute [local irreducible] dwv mops lops lqops lwops kont iter run runK rk okK ex E1 vals val chain chB sel resF
def byI (l:List Int) (a:Int):Int:=l.getD (a % 65536).toNat 0
def b5 (l:List Int) (a:Int):List Int:=(List.range' 0 5).map fun (j:Nat)=>byI l (a+(j:Int))
def memOf (l:List Int):RamT:=(RamT.new 65536).load 0 l
def nxt (l:List Int) (a:Int):Int:=IntKind.wrap .u16 (a+IntKind.wrap .u16 (modI (b5 l a)).Len)
section
variable {l:List Int} (hl:l.length=65536) (hb:∀ a∈l,okI .u8 a)
include hl hb
omit hb in
theorem byI_mem (a:Int):byI l a∈l:=by
  unfold byI
  have h:(a % 65536).toNat < l.length:=by rw [hl]; omega
  rw [List.getD_eq_getElem?_getD,List.getElem?_eq_getElem h]
  exact List.getElem_mem h
theorem b5_ok (a:Int):∀ x∈b5 l a,okI .u8 x:=by
  intro x hx
  unfold b5 at hx
  obtain ⟨j,_,rfl⟩:=List.mem_map.1 hx
  exact hb _ (byI_mem hl _)
omit hl hb in
theorem b5_len (a:Int):(b5 l a).length=5:=by unfold b5; rw [List.length_map,List.length_range']
omit hb in
theorem read_by (a:Int):ram_Read (memOf l) (IntKind.wrap .u16 a)=some (byI l a):=by
  rw [wrap_u16m]
  exact read_is hl (by omega)
omit hb in
theorem dec_loop (a:Int):∀ (d t k:Nat) (acc:List Int),t+d=5→d < k→acc.length≤t→fast_Decode_l0 a (memOf l) k acc (t:Int)=some (acc++(List.range' t d).map fun (j:Nat)=>byI l (a+(j:Int)))
  | d,t,0,_,_,hk,_=>by omega
  | 0,t,k+1,acc,ht,_,_=>by
    rw [fast_Decode_l0,if_neg (fun e=>absurd (of_decide_eq_true e) (by omega))]; simp
  | d+1,t,k+1,acc,ht,hk,ha=>by
    have hw:IntKind.wrap .u16 ((t:Int)+1)=((t+1:Nat):Int):=by rw [wrap_u16 (by omega) (by omega)]; rfl
    rw [fast_Decode_l0,if_pos (decide_eq_true (by omega)),read_by hl,Option.bind_some,if_pos (by simp only [List.length_cons,List.length_nil]; omega),hw,dec_loop a d (t+1) k _ (by omega) (by omega) (by simp; omega)]
    rw [List.range'_succ,List.map_cons,List.append_assoc]; rfl
theorem decode_is (a:Int):fast_Decode a (memOf l)=some (modI (b5 l a)):=by
  have h:=dec_loop hl a 5 0 BIG [] rfl (by unfold BIG; omega) (by simp)
  have h:fast_Decode_l0 a (memOf l) BIG [] 0=some (b5 l a):=h
  have h5:=modI_five (b5_ok hl hb a)
  unfold fast_Decode
  rw [h,Option.bind_some,instOf_is (b5_ok hl hb a) (by rw [b5_len]; decide),Option.bind_some,if_neg (by rw [b5_len]; omega)]
omit hb in
theorem law_bytes (a:Int) (h0:0≤a) (h1:a < 65536) (z:Bool):∀ (d t k:Nat) (acc:List Int),t+d=5→d < k→acc.length≤t→spinetlaw42_DisLines_l5 (l,z) a k acc (t:Int)=some (acc++(List.range' t d).map (fun (j:Nat)=>byI l (a+(j:Int))))
  | d,t,0,_,_,hk,_=>by omega
  | 0,t,k+1,acc,ht,_,_=>by
    rw [spinetlaw42_DisLines_l5,if_neg (fun e=>absurd (of_decide_eq_true e) (by omega))]; simp
  | d+1,t,k+1,acc,ht,hk,ha=>by
    have w1:IntKind.wrap .i64 (IntKind.wrap .i64 a+(t:Int))=a+t:=by rw [wrap_i64 (n:=a) (by omega) (by omega),wrap_i64 (by omega) (by omega)]
    have w2:Int.tmod (a+(t:Int)) 65536=(a+t) % 65536:=Int.tmod_eq_emod_of_nonneg (by omega)
    have hg:gt l ((a+(t:Int)) % 65536)=byI l (a+t):=rfl
    have hq:=law_bytes a h0 h1 z d (t+1) k (acc++[byI l (a+t)]) (by omega) (by omega) (by simp; omega)
    rw [spinetlaw42_DisLines_l5,w1,w2,if_pos (decide_eq_true (by omega)),if_pos ⟨by omega,by show (a+(t:Int)) % 65536 < ln l; unfold ln; rw [hl]; omega⟩]
    simp only
    rw [hg,if_pos (by simp only [List.length_cons,List.length_nil]; omega),wrapS (n:=t) (by omega),hq]
    rw [List.range'_succ,List.map_cons,List.append_assoc]; rfl
/-- What a line is made of. -/
theorem pieces (a:Int) (h0:0≤a) (h1:a < 65536):∃ (H P T:ByteArray) (n:Nat),digit_Hex (IntKind.wrap .u64 a) 4=some H∧spinetref02_Digits (IntKind.wrap .u64 a) 16 4=some H∧H.size=4 ∧
    (modI (b5 l a)).Len=(n:Int)∧1≤n∧n≤5∧inst_Put (modI (b5 l a))=some ((b5 l a).take n,0)∧digit_Pairs ((b5 l a).take n)=some P∧spinetref02_Pairs ((b5 l a).take n)=some P∧P.size=2*n ∧
    dis_Text (modI (b5 l a)) a=some T∧spinetref42_Text (modI (b5 l a)) a ((b5 l a).take n)=some T∧T.size≤200:=by
  have hok:=b5_ok hl hb a
  have hlen:=b5_len (l:=l) a
  have h5:=modI_five hok
  have h1':=modI_len (b5 l a)
  obtain ⟨n,hn⟩:∃ n:Nat,(modI (b5 l a)).Len=n:=⟨(modI (b5 l a)).Len.toNat,by omega⟩
  obtain ⟨H,p1,p2,p3⟩:=hexw h0 h1
  have htk:((b5 l a).take n).length=n:=by rw [List.length_take,hlen]; omega
  obtain ⟨P,q1,q2,q3⟩:=prs_is (l:=(b5 l a).take n) (fun x hx=>okI_u8 (hok x (List.mem_of_mem_take hx))) (by rw [htk]; omega)
  obtain ⟨T,t1,t2,t3⟩:=text_z hok (by rw [hlen]; omega) (by rw [hlen]; omega) a
  have hput:=put_is hok (by rw [hlen]; decide) (by rw [hlen]; omega)
  rw [hn,Int.toNat_natCast] at t2 hput
  rw [htk] at q3
  exact ⟨H,P,T,n,p1,p2,p3,hn,by omega,by omega,hput,q1,q2,q3,t1,t2,t3⟩
theorem line_is (a:Int) {H P T:ByteArray} {n:Nat} (p1:digit_Hex (IntKind.wrap .u64 a) 4=some H) (p3:H.size=4) (hn0:1≤n) (hn5:n≤5) (hput:inst_Put (modI (b5 l a))=some ((b5 l a).take n,0)) (q1:digit_Pairs ((b5 l a).take n)=some P) (q3:P.size=2*n)
    (t1:dis_Text (modI (b5 l a)) a=some T) (t3:T.size≤200):dis_Line a (memOf l)=some ((((H++(⟨#[32]⟩:ByteArray))++P)++sps (11 - 2*n))++T,nxt l a):=by
  have hr:strings_Repeat (⟨#[32]⟩:ByteArray) (IntKind.wrap .i64 (11 - sln P))=some (sps (11 - 2*n)):=by
    have e:IntKind.wrap .i64 (11 - sln P)=((11 - 2*n:Nat):Int):=by unfold sln; rw [q3,wrap_i64 (by omega) (by omega)]; omega
    rw [e]
    exact rep_is (by omega)
  have z1:(H++(⟨#[32]⟩:ByteArray)).size=5:=by rw [sz_app,sz1,p3]
  have z2:((H++(⟨#[32]⟩:ByteArray))++P).size=5+2*n:=by rw [sz_app,z1,q3]
  have z3:(((H++(⟨#[32]⟩:ByteArray))++P)++sps (11 - 2*n)).size=16:=by rw [sz_app,z2,sps_size]; omega
  unfold dis_Line
  rw [decode_is hl hb,Option.bind_some,hput,Option.bind_some]
  simp only
  rw [q1,Option.bind_some,p1,Option.bind_some,if_pos (by rw [p3,sz1]; omega),if_pos (by rw [z1,q3]; omega),hr,Option.bind_some,if_pos (by rw [z2,sps_size]; omega),t1,Option.bind_some,if_pos (by rw [z3]; omega)]
  unfold inst_Next
  rw [Option.bind_some]
  rfl
omit hl hb in
theorem nxt_rng (a:Int):0≤nxt l a∧nxt l a < 65536:=by unfold nxt; rw [wrap_u16m]; omega
def lineW (l:List Int) (a:Int):ByteArray:=match dis_Line a (memOf l) with
  | some x=>x.1
  | none=>⟨#[]⟩
def linesM (l:List Int):Nat→Int→List ByteArray
  | 0,_=>[]
  | n+1,a=>lineW l a::linesM l n (nxt l a)
omit hl hb in
theorem linesM_len:∀ (n:Nat) (a:Int),(linesM l n a).length=n
  | 0,_=>rfl
  | n+1,a=>by rw [linesM,List.length_cons,linesM_len n]
theorem lineW_is (a:Int) (h0:0≤a) (h1:a < 65536):dis_Line a (memOf l)=some (lineW l a,nxt l a):=by
  obtain ⟨H,P,T,n,p1,p2,p3,hn,hn0,hn5,hput,q1,q2,q3,t1,t2,t3⟩:=pieces hl hb a h0 h1
  have h:=line_is hl hb a p1 p3 hn0 hn5 hput q1 q3 t1 t3
  unfold lineW
  rw [h]
theorem lines_loop (many:Int) (hm:many≤30):∀ (d i k:Nat) (acc:List ByteArray) (a:Int),((i:Int)+d=many∨d=0∧many≤i)→d < k→i+d≤30→acc.length≤i→0≤a→a < 65536 →
    dis_Lines_l0 many (memOf l) k acc a (i:Int)=some (acc++linesM l d a)
  | d,i,0,_,_,_,hk,_,_,_,_=>by omega
  | 0,i,k+1,acc,a,hd,_,_,_,_,_=>by
    rw [dis_Lines_l0,if_neg (fun e=>absurd (of_decide_eq_true e) (by omega))]; simp [linesM]
  | d+1,i,k+1,acc,a,hd,hk,hi,ha,h0,h1=>by
    have hn:=nxt_rng (l:=l) a
    rw [dis_Lines_l0,if_pos (decide_eq_true (by omega)),lineW_is hl hb a h0 h1,Option.bind_some]
    simp only
    rw [if_pos (by simp only [List.length_cons,List.length_nil]; omega),wrapS (n:=i) (by omega),lines_loop many hm d (i+1) k _ (nxt l a) (by omega) (by omega) (by omega) (by simp; omega) hn.1 hn.2]
    rw [linesM,List.append_assoc]; rfl
theorem lines_is (many:Int) (hm:many≤30) (a:Int) (h0:0≤a) (h1:a < 65536):dis_Lines a many (memOf l)=some (linesM l many.toNat a):=by
  have h:=lines_loop hl hb many hm many.toNat 0 BIG [] a (by omega) (by
    have:many.toNat≤30:=by omega
    unfold BIG; omega) (by omega) (by simp) h0 h1
  have h:dis_Lines_l0 many (memOf l) BIG [] a 0=some (linesM l many.toNat a):=h
  unfold dis_Lines
  rw [h,Option.bind_some]
theorem law_loop (z:Bool) (e0:Int) (L:List ByteArray) (hL:L.length≤30):∀ (d i k:Nat) (a:Int),L.drop i=linesM l d a→d < k→0≤a→a < 65536 →
    spinetlaw42_DisLines_l4 (l,z) (memOf l,e0) L k a (i:Int)=some (.go ())
  | d,i,0,_,_,hk,_,_=>by omega
  | 0,i,k+1,a,hd,_,_,_=>by
    rw [spinetlaw42_DisLines_l4,if_neg (fun e=>gtNil hd (of_decide_eq_true e))]
  | d+1,i,k+1,a,hd,hk,h0,h1=>by
    obtain ⟨g1,g2,g3⟩:=gtCons hd
    have hi:=(dropAt hd).2.2
    obtain ⟨H,P,T,n,p1,p2,p3,hn,hn0,hn5,hput,q1,q2,q3,t1,t2,t3⟩:=pieces hl hb a h0 h1
    have hline:=line_is hl hb a p1 p3 hn0 hn5 hput q1 q3 t1 t3
    have hW:lineW l a=(((H++(⟨#[32]⟩:ByteArray))++P)++sps (11 - 2*n))++T:=by unfold lineW; rw [hline]
    have hq:=law_bytes hl a h0 h1 z 5 0 BIG [] rfl (by unfold BIG; omega) (by simp)
    have hq:spinetlaw42_DisLines_l5 (l,z) a BIG [] 0=some (b5 l a):=hq
    have hok:=b5_ok hl hb a
    have hlen:=b5_len (l:=l) a
    have h5:=modI_five hok
    have z1:(H++(⟨#[32]⟩:ByteArray)).size=5:=by rw [sz_app,sz1,p3]
    have z2:((H++(⟨#[32]⟩:ByteArray))++P).size=5+2*n:=by rw [sz_app,z1,q3]
    have z3:(((H++(⟨#[32]⟩:ByteArray))++P)++sps (11 - 2*n)).size=16:=by rw [sz_app,z2,sps_size]; omega
    have hy:=pad_loop (11 - 2*n) BIG ((H++(⟨#[32]⟩:ByteArray))++P) (by unfold BIG; omega) (by rw [z2]; omega)
    have hbnd:0≤(modI (b5 l a)).Len∧(modI (b5 l a)).Len≤ln (b5 l a):=⟨by omega,by unfold ln; rw [hlen]; omega⟩
    have hnr:=nxt_rng (l:=l) a
    rw [spinetlaw42_DisLines_l4,if_pos (decide_eq_true g2.2),hq,Option.bind_some]
    rw [ref18_is hok (by rw [hlen]; decide),Option.bind_some,if_neg (by rw [hlen]; omega),p2,Option.bind_some,if_pos (by rw [p3,sz1]; omega)]
    try simp only
    rw [if_pos hbnd,List.drop_zero,Nat.sub_zero,hn,Int.toNat_natCast,q2,Option.bind_some,if_pos (by rw [z1,q3]; omega),hy,Option.bind_some]
    try simp only
    rw [← hn,if_pos hbnd,t2,Option.bind_some,if_pos (by rw [z3]; omega),hline,Option.bind_some,if_pos g2,g1,hW]
    simp only
    rw [if_neg (by unfold nxt; simp),wrapS (n:=i) (by omega)]
    exact law_loop z e0 L hL d (i+1) k (nxt l a) g3 (by omega) hnr.1 hnr.2
end
theorem cpy_mem {l l':List Int} {a m:Nat}:∀ x∈cpyL l a m l',x∈l∨x∈l':=by
  intro x hx
  unfold cpyL at hx
  split at hx
  · rcases List.mem_append.1 hx with hx | hx
    · rcases List.mem_append.1 hx with hx | hx
      · exact .inl (List.mem_of_mem_take hx)
      · exact .inr (List.mem_of_mem_take hx)
    · exact .inl (List.mem_of_mem_drop hx)
  · exact .inl hx
theorem image_is (w:spinetlaw34_World) (hL:∀ a∈w.Low,okI .u8 a) (hH:∀ a∈w.High,okI .u8 a):spinetlaw34_Image w=some ([],false)∨∃ l,spinetlaw34_Image w=some (l,true)∧l.length=65536∧∀ a∈l,okI .u8 a:=by
  unfold spinetlaw34_Image
  by_cases h:((decide (65536 < (ln w.Low)))||(decide (65536 < (ln w.High))))=true
  · rw [if_pos h]; exact .inl rfl
  · rw [if_neg h,if_pos (by decide)]
    have hz:(rp 65536 (0:Int)).length=65536:=by unfold rp; rw [List.length_replicate]; rfl
    have hh:w.High.length≤65536:=by
      simp only [Bool.or_eq_true,decide_eq_true_eq,not_or] at h
      unfold ln at h; omega
    have hw:IntKind.wrap .i64 (65536 - ln w.High)=65536 - (w.High.length:Int):=by unfold ln; exact wrap_i64 (by omega) (by omega)
    have hl1:ln (cpyL (rp 65536 (0:Int)) 0 ((rp 65536 (0:Int)).length - 0) w.Low)=65536:=by unfold ln; rw [cpyL_len,hz]; rfl
    rw [hw,hl1,if_pos ⟨by omega,by omega⟩]
    refine .inr ⟨_,rfl,by rw [cpyL_len,cpyL_len,hz],fun x hx => ?_⟩
    rcases cpy_mem x hx with hx | hx
    · rcases cpy_mem x hx with hx | hx
      · unfold rp at hx
        rw [List.mem_replicate] at hx
        rw [hx.2]; simp [okI,IntKind.min,IntKind.max,IntKind.signed,IntKind.bits]
      · exact hL x hx
    · exact hH x hx
/-- So many instructions in memory, from any address on, as lines. -/
theorem disLines_true (w:spinetlaw34_World) (a many:Int) (hL:∀ x∈w.Low,okI .u8 x) (hH:∀ x∈w.High,okI .u8 x) (h0:0≤a) (h1:a < 65536):spinetlaw42_DisLines w a many=some true:=by
  unfold spinetlaw42_DisLines
  rcases image_is w hL hH with h | ⟨l,h,hl,hb⟩
  · rw [h,Option.bind_some]
    simp only
    rw [if_pos (by rfl)]
  · rw [h,Option.bind_some]
    simp only
    by_cases hm:(30:Int) < many
    · rw [if_pos (by rw [decide_eq_true hm]; rfl)]
    · rw [if_neg (by rw [decide_eq_false hm]; decide)]
      have hN:ram_New l 65536=some (memOf l,0):=by
        unfold ram_New
        rw [if_pos ⟨by decide,by rw [hl]; exact Nat.le_refl _⟩]; rfl
      have hr:many.toNat≤30:=by omega
      have hlaw:=law_loop hl hb true 0 (linesM l many.toNat a) (by rw [linesM_len]; exact hr) many.toNat 0 BIG a rfl (by unfold BIG; omega) h0 h1
      have hlaw:spinetlaw42_DisLines_l4 (l,true) (memOf l,0) (linesM l many.toNat a) BIG a 0=some (.go ()):=hlaw
      rw [hN,Option.bind_some]
      simp only
      rw [if_neg (by decide),lines_is hl hb many (by omega) a h0 h1,Option.bind_some,if_neg (by
        have:ln (linesM l many.toNat a)=if 0 > many then 0 else many:=by
          unfold ln; rw [linesM_len]
          split <;> omega
        rw [this]; simp),hlaw,Option.bind_some]
      simp only
      rw [alive42,Option.bind_some]
end Go.Proofs.YtfcegejpdlbkdaaGreatK
