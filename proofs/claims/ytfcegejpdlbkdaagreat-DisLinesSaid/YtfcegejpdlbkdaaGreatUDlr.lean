/- Memory that is loaded reads as the bytes that it was loaded with; numbers and bytes as digits; blanks. -/
import Derived.Test.YtfcegejpdlbkdaaGreatUDis4
import Derived.Test.YtfcegejpdlbkdaaGreatRr
namespace Go.Proofs.YtfcegejpdlbkdaaGreatK
set_option linter.unusedVariables false
set_option linter.unusedSimpArgs false
set_option maxHeartbeats 1000000
open Go.RowKit
attribute [local irreducible] dwv mops lops lqops lwops kont iter run runK rk okK ex E1 vals val chain chB sel resF
/-! ### Memory -/
def Inj (r:RamT):Prop:=∀ (i j k:Nat),r.ix[i]? = some (some k)→r.ix[j]? = some (some k)→i=j
theorem getD_at {l:List (List Int)} {k:Nat} (h:k < l.length):l.getD k []=l[k]:=by
  rw [List.getD_eq_getElem?_getD,List.getElem?_eq_getElem h]; rfl
theorem gt_st {l:List Int} {i j x:Int} (hi:0≤i∧i < (l.length:Int)) (hj:0≤j∧j < (l.length:Int)):gt (st l i x) j=if j=i then x else gt l j:=by
  unfold gt st
  rw [List.getD_eq_getElem?_getD,List.getD_eq_getElem?_getD,List.getElem?_set]
  by_cases e:j=i
  · subst e; rw [if_pos rfl,if_pos (by omega),if_pos rfl]; rfl
  · rw [if_neg (by omega),if_neg e]
theorem poke_get {r:RamT} (h:r.Ok) (hI:Inj r) {a b c:Int} (ha:0≤a∧a < 65536) (hc:0≤c∧c < 65536):(r.poke a b).get c=if c=a then b else r.get c:=by
  have hil:(a / 256).toNat < r.ix.length:=by rw [h.n]; omega
  have hcl:(c / 256).toNat < r.ix.length:=by rw [h.n]; omega
  cases hp:r.ix[(a / 256).toNat]? with
  | none=>rw [List.getElem?_eq_getElem hil] at hp; simp at hp
  | some p =>
    cases p with
    | some k =>
      have hk:=h.k _ _ hp
      have e:r.poke a b=⟨r.ix,r.bl.set k (st (r.bl.getD k []) (a % 256) b),r.rom⟩:=by unfold RamT.poke; rw [hp]
      rw [e]
      unfold RamT.get
      simp only
      cases hq:r.ix[(c / 256).toNat]? with
      | none=>rw [List.getElem?_eq_getElem hcl] at hq; simp at hq
      | some q =>
        cases q with
        | none =>
          simp only
          rw [if_neg]
          intro e; subst e; rw [hp] at hq; simp at hq
        | some m =>
          have hm:=h.k _ _ hq
          simp only
          by_cases em:k=m
          · subst em
            have hpage:=hI _ _ _ hp hq
            have hlen:(r.bl.getD k []).length=256:=by rw [getD_at hk]; exact h.l k _ (List.getElem?_eq_getElem hk)
            have e2:(r.bl.set k (st (r.bl.getD k []) (a % 256) b)).getD k []=st (r.bl.getD k []) (a % 256) b:=by
              rw [List.getD_eq_getElem?_getD,List.getElem?_set_self hk]; rfl
            rw [e2,gt_st (by rw [hlen]; omega) (by rw [hlen]; omega)]
            by_cases e3:c=a
            · rw [if_pos (by rw [e3]),if_pos e3]
            · rw [if_neg (by omega),if_neg e3]
          · have e2:(r.bl.set k (st (r.bl.getD k []) (a % 256) b)).getD m []=r.bl.getD m []:=by
              rw [List.getD_eq_getElem?_getD,List.getElem?_set_ne em,← List.getD_eq_getElem?_getD]
            rw [e2,if_neg]
            intro e3; subst e3; rw [hp] at hq; simp at hq; exact em hq
    | none =>
      by_cases hb:b=0
      · have e:r.poke a b=r:=by unfold RamT.poke; rw [hp]; simp only; rw [if_pos hb]
        rw [e]
        by_cases e3:c=a
        · rw [if_pos e3,e3,hb]
          unfold RamT.get; rw [hp]
        · rw [if_neg e3]
      · have e:r.poke a b=⟨r.ix.set (a / 256).toNat (some r.bl.length),r.bl++[st (rp 256 (0:Int)) (a % 256) b],r.rom⟩:=by unfold RamT.poke; rw [hp]; simp only; rw [if_neg hb]
        rw [e]
        unfold RamT.get
        simp only
        by_cases hpg:(a / 256).toNat=(c / 256).toNat
        · rw [← hpg,List.getElem?_set_self hil,hp]
          simp only
          have e2:(r.bl++[st (rp 256 (0:Int)) (a % 256) b]).getD r.bl.length []=st (rp 256 (0:Int)) (a % 256) b:=by
            rw [List.getD_eq_getElem?_getD,List.getElem?_append_right (Nat.le_refl _),Nat.sub_self]; rfl
          have h0:gt (rp 256 (0:Int)) (c % 256)=0:=by
            unfold gt rp
            rw [List.getD_eq_getElem?_getD,List.getElem?_replicate]
            split <;> rfl
          rw [e2,gt_st (by rw [rp_len8]; omega) (by rw [rp_len8]; omega),h0]
          by_cases e3:c=a
          · rw [if_pos (by rw [e3]),if_pos e3]
          · rw [if_neg (by omega),if_neg e3]
        · rw [List.getElem?_set_ne hpg,if_neg (fun e=>hpg (by rw [e]))]
          cases hq:r.ix[(c / 256).toNat]? with
          | none=>rfl
          | some q =>
            cases q with
            | none=>rfl
            | some m =>
              have hm:=h.k _ _ hq
              simp only
              rw [List.getD_eq_getElem?_getD,List.getElem?_append_left hm,← List.getD_eq_getElem?_getD]
theorem poke_inj {r:RamT} (h:r.Ok) (hI:Inj r) (a b:Int):Inj (r.poke a b):=by
  unfold RamT.poke
  split
  · exact hI
  · split
    · exact hI
    · intro i j k hi hj
      have hi:(r.ix.set (a / 256).toNat (some r.bl.length))[i]? = some (some k):=hi
      have hj:(r.ix.set (a / 256).toNat (some r.bl.length))[j]? = some (some k):=hj
      have key:∀ i:Nat,(r.ix.set (a / 256).toNat (some r.bl.length))[i]? = some (some k)→i=(a / 256).toNat∧k=r.bl.length∨r.ix[i]? = some (some k):=by
        intro i hi
        by_cases e:(a / 256).toNat=i
        · subst e
          by_cases hl:(a / 256).toNat < r.ix.length
          · rw [List.getElem?_set_self hl] at hi; simp at hi; exact .inl ⟨rfl,hi.symm⟩
          · rw [List.getElem?_eq_none (by simp; omega)] at hi; simp at hi
        · rw [List.getElem?_set_ne e] at hi; exact .inr hi
      rcases key i hi with ⟨e1,e2⟩ | e1 <;> rcases key j hj with ⟨f1,f2⟩ | f1
      · omega
      · have:=h.k _ _ f1; omega
      · have:=h.k _ _ e1; omega
      · exact hI _ _ _ e1 f1
theorem new_inj (rom:Int):Inj (RamT.new rom):=by
  intro i j k hi
  have hi:(List.replicate 256 (none:Option Nat))[i]? = some (some k):=hi
  rw [List.getElem?_replicate] at hi
  split at hi <;> simp at hi
theorem load_get:∀ (l:List Int) (r:RamT) (a c:Int),r.Ok→Inj r→0≤a→a+(l.length:Int)≤65536→0≤c∧c < 65536 →
    (r.load a l).get c=if a≤c∧c < a+(l.length:Int) then l.getD (c - a).toNat 0 else r.get c
  | [],r,a,c,_,_,_,_,_=>by
    rw [if_neg (by simp only [List.length_nil]; omega)]; rfl
  | b::l,r,a,c,h,hI,ha,hl,hc=>by
    simp only [List.length_cons] at hl
    rw [RamT.load,load_get l (r.poke a b) (a+1) c (h.poke a b) (poke_inj h hI a b) (by omega) (by omega) hc,poke_get h hI (by omega) hc]
    simp only [List.length_cons]
    by_cases e:c=a
    · rw [if_neg (by omega),if_pos e,if_pos (by omega),e]
      simp
    · rw [if_neg e]
      by_cases e2:a+1≤c∧c < a+1+(l.length:Int)
      · rw [if_pos e2,if_pos (by omega)]
        rw [show (c - a).toNat=(c - (a+1)).toNat+1 by omega]
        simp
      · rw [if_neg e2,if_neg (by omega)]
theorem read_is {l:List Int} (hl:l.length=65536) {rom c:Int} (hc:0≤c∧c < 65536):ram_Read ((RamT.new rom).load 0 l) c=some (l.getD c.toNat 0):=by
  unfold ram_Read
  rw [if_pos ⟨RamT.okB_iff.2 (RamT.Ok.load l (RamT.Ok.new rom) 0),hc⟩,load_get l _ 0 c (RamT.Ok.new rom) (new_inj rom) (by omega) (by omega) hc,if_pos (by omega)]
  simp
/-! ### Digits -/
theorem sign_some (n:Int):∃ v,digit_sign n=some v:=by
  unfold digit_sign
  split <;> exact ⟨_,rfl⟩
theorem hex4:∀ (d k:Nat) (l:List Int) (n:Int),d≤4→d < k→l.length=16→0≤n→n < 16 ^ d →
    ∃ l',digit_Hex_l0 4 k l n ((12+d:Nat):Int)=some (l',12)∧l'.length=16
  | d,0,_,_,_,hk,_,_,_=>by omega
  | d,k+1,l,n,hd,hk,hl,h0,hp=>by
    have w0:IntKind.wrap .i64 (16 - ((12+d:Nat):Int))=16 - ((12+d:Nat):Int):=wrap_i64 (by omega) (by omega)
    have hwd:(if (16:Int) < (4:Int) then (16:Int) else (4:Int))=4:=by decide
    match d,hd,hk,hp,w0 with
    | 0,_,_,hp,w0 =>
      refine ⟨l,?_,hl⟩
      have hn:n=0:=by simp at hp; omega
      subst hn
      rw [digit_Hex_l0,w0,hwd,if_neg (by decide)]; rfl
    | d+1,hd,hk,hp,w0 =>
      have w1:IntKind.wrap .i64 (((12+(d+1):Nat):Int) - 1)=((12+d:Nat):Int):=by rw [wrap_i64 (by omega) (by omega)]; omega
      have e2:Int.fdiv n (2 ^ 4)=n / 16:=by rw [Int.fdiv_eq_ediv_of_nonneg _ (by decide)]; rfl
      obtain ⟨v,hv⟩:=sign_some (IntKind.wrap .u8 (bits .and .u64 n 15))
      obtain ⟨l',q1,q⟩:=hex4 d k (st l ((12+d:Nat):Int) v) (n / 16) (by omega) (by omega) (by simp [st,hl]) (by omega) (by rw [Int.pow_succ] at hp; omega)
      refine ⟨l',?_,q⟩
      rw [digit_Hex_l0,w0,hwd,if_pos (by
          rw [Bool.or_eq_true]
          exact .inr (decide_eq_true (by omega))),hv,Option.bind_some,w1,if_pos ⟨by omega,by omega⟩,e2,q1]
theorem hexw {n:Int} (h0:0≤n) (h1:n < 65536):∃ S,digit_Hex (IntKind.wrap .u64 n) 4=some S∧spinetref02_Digits (IntKind.wrap .u64 n) 16 4=some S∧S.size=4:=by
  have hw:IntKind.wrap .u64 n=n:=wrap_u64 (by omega) (by omega)
  rw [hw]
  obtain ⟨S,q1,q2,_⟩:=hex_is (n:=n) h0 (by omega) (wd:=4) (by decide) (by decide)
  obtain ⟨l',q3,q4⟩:=hex4 4 BIG [0,0,0,0,0,0,0,0,0,0,0,0,0,0,0,0] n (Nat.le_refl _) (by unfold BIG; omega) rfl h0 (by omega)
  have q3:digit_Hex_l0 4 BIG [0,0,0,0,0,0,0,0,0,0,0,0,0,0,0,0] n 16=some (l',12):=q3
  have e:digit_Hex n 4=some (bs ((l'.drop 12).take 4)):=by
    unfold digit_Hex
    rw [q3,Option.bind_some]
    simp only
    rw [if_pos (by decide)]; rfl
  have q1:digit_Hex n 4=some S:=q1
  rw [e] at q1
  injection q1 with q1
  refine ⟨S,by rw [e,q1],q2,?_⟩
  rw [← q1,bs_size,List.length_take,List.length_drop,q4]; rfl
theorem pr_is {x:Int} (h0:0≤x) (h1:x < 256):∃ u v,digit_sign (Int.fdiv x (2 ^ (4)))=some u∧digit_sign (bits .and .u8 x 15)=some v∧spinetref02_Digits (IntKind.wrap .u64 x) 16 2=some (bs [u,v]):=by
  obtain ⟨u,hu⟩:=sign_some (Int.fdiv x (2 ^ 4))
  obtain ⟨v,hv⟩:=sign_some (bits .and .u8 x 15)
  refine ⟨u,v,hu,hv,?_⟩
  obtain ⟨S,q1,q2,q3⟩:=pair_is h0 h1
  have hw:IntKind.wrap .u64 x=x:=wrap_u64 (by omega) (by omega)
  rw [hw,q2]
  obtain ⟨k,hk⟩:=bigS 1 (by decide)
  have hg:gt [x] 0=x:=rfl
  have hln:ln [x]=1:=rfl
  have e1:IntKind.wrap .i64 (2*ln [x])=2:=by rw [hln]; exact wrap_i64 (by decide) (by decide)
  have e2:IntKind.wrap .i64 (0+1)=1:=wrap_i64 (by decide) (by decide)
  have:digit_Pairs [x]=some (bs [u,v]):=by
    unfold digit_Pairs
    rw [e1,if_pos (by decide),hk,digit_Pairs_l0,hln,if_pos (by decide),if_pos ⟨by decide,by decide⟩,hg,hu,Option.bind_some,hv,Option.bind_some,if_pos (by simp [rp]),e2,digit_Pairs_l0,hln,if_neg (by decide)]
    rfl
  rw [this] at q1; rw [q1]
theorem prs_loop (l:List Int) (hb:∀ a∈l,0≤a∧a < 256) (hl:l.length≤100):∀ (r:List Int) (i k:Nat) (acc:List Int),l.drop i=r→r.length < k→acc.length≤2*i →
    ∃ out,digit_Pairs_l0 l k acc (i:Int)=some out∧spinetref02_Pairs_l0 l k (bs acc) (i:Int)=some (bs out)∧out.length=acc.length+2*r.length
  | _,_,0,_,_,hk,_=>by omega
  | [],i,k+1,acc,hd,_,_=>by
    refine ⟨acc,?_,?_,rfl⟩
    · rw [digit_Pairs_l0,if_neg (fun e=>gtNil hd (of_decide_eq_true e))]
    · rw [spinetref02_Pairs_l0,if_neg (fun e=>gtNil hd (of_decide_eq_true e))]
  | x::r,i,k+1,acc,hd,hk,ha=>by
    obtain ⟨g1,g2,g3⟩:=gtCons hd
    obtain ⟨hx,_,hi⟩:=dropAt hd
    simp only [List.length_cons] at hk
    have hxr:=hb x (List.mem_of_getElem? hx)
    obtain ⟨u,v,p1,p2,p3⟩:=pr_is hxr.1 hxr.2
    obtain ⟨out,q1,q2,q3⟩:=prs_loop l hb hl r (i+1) k (acc++[u,v]) g3 (by omega) (by simp; omega)
    refine ⟨out,?_,?_,?_⟩
    · rw [digit_Pairs_l0,if_pos (decide_eq_true g2.2),if_pos g2,g1,p1,Option.bind_some,p2,Option.bind_some,if_pos (by simp only [List.length_cons,List.length_nil]; omega),wrapS (n:=i) (by omega),q1]
    · rw [spinetref02_Pairs_l0,if_pos (decide_eq_true g2.2),if_pos g2,g1,p3,Option.bind_some,if_pos (by rw [bs_size,bs_size]; simp only [List.length_cons,List.length_nil]; omega),wrapS (n:=i) (by omega),← bs_app,q2]
    · rw [q3]; simp only [List.length_append,List.length_cons,List.length_nil]; omega
theorem prs_is {l:List Int} (hb:∀ a∈l,0≤a∧a < 256) (hl:l.length≤100):∃ S,digit_Pairs l=some S∧spinetref02_Pairs l=some S∧S.size=2*l.length:=by
  obtain ⟨out,q1,q2,q3⟩:=prs_loop l hb hl l 0 BIG [] rfl (by unfold BIG; omega) (by simp)
  have q1:digit_Pairs_l0 l BIG (rp 0 (0:Int)) 0=some out:=q1
  have q2:spinetref02_Pairs_l0 l BIG (⟨#[]⟩:ByteArray) 0=some (bs out):=q2
  have hw:IntKind.wrap .i64 (2*ln l)=2*(l.length:Int):=by unfold ln; exact wrap_i64 (by omega) (by omega)
  refine ⟨bs out,?_,?_,by rw [bs_size,q3]; simp⟩
  · unfold digit_Pairs
    rw [hw,if_pos ⟨by omega,by omega,by omega,by omega⟩,q1,Option.bind_some]
  · unfold spinetref02_Pairs
    rw [q2,Option.bind_some]
/-! ### Blanks -/
def sps (n:Nat):ByteArray:=bs (List.replicate n 32)
theorem sps_succ (n:Nat) (w:ByteArray):(w++(⟨#[32]⟩:ByteArray))++sps n=w++sps (n+1):=by
  apply sbl_inj
  have h:∀ m,sbl (sps m)=List.replicate m 32:=fun m=>sbl_bs fun x hx=>by
    rw [List.mem_replicate] at hx; rw [hx.2]; decide
  rw [sbl_app,sbl_app,sbl_app,h,h,List.append_assoc]; rfl
theorem sps_size (n:Nat):(sps n).size=n:=by unfold sps; rw [bs_size,List.length_replicate]
theorem rep_is {n:Nat} (h:n=1∨n=3∨n=5∨n=7∨n=9):strings_Repeat (⟨#[32]⟩:ByteArray) (n:Int)=some (sps n):=by
  rcases h with rfl | rfl | rfl | rfl | rfl <;> decide +kernel
theorem pad_loop:∀ (n k:Nat) (w:ByteArray),n < k→w.size+n=16→spinetlaw42_DisLines_l6 k w=some (w++sps n)
  | _,0,_,hk,_=>by omega
  | 0,k+1,w,_,hw=>by
    have e:w++sps 0=w:=by apply sbl_inj; rw [sbl_app]; show sbl w++[]=_; rw [List.append_nil]
    rw [spinetlaw42_DisLines_l6,if_neg (fun e=>absurd (of_decide_eq_true e) (by unfold sln; omega)),e]
  | n+1,k+1,w,hk,hw=>by
    have hq:=pad_loop n k (w++(⟨#[32]⟩:ByteArray)) (by omega) (by rw [sz_app,sz1]; omega)
    rw [spinetlaw42_DisLines_l6,if_pos (decide_eq_true (by unfold sln; omega)),if_pos (by rw [sz1]; omega),hq,sps_succ]
/-! ### Any instruction as a text, and how long that is -/
section
variable {b:List Int} (hb:∀ a∈b,okI .u8 a)
include hb
theorem text_z (hl:b.length≤20) (hle:(modI b).Len≤(b.length:Int)) (at_:Int) :
    ∃ T,dis_Text (modI b) at_=some T∧spinetref42_Text (modI b) at_ (b.take (modI b).Len.toNat)=some T∧T.size≤200:=by
  have hp:=modI_post hb
  have hm:=modI_mode b
  have hv:=modI_val hb
  obtain ⟨s,s1,s2,s3⟩:=sure_t (modI b) hp.1 hp.2
  cases s with
  | false =>
    have hb':∀ a∈b.take (modI b).Len.toNat,okI .u8 a:=fun a ha=>hb a (List.mem_of_mem_take ha)
    have hl':(b.take (modI b).Len.toNat).length≤20:=by rw [List.length_take]; omega
    have hbt:=bytes_t (l:=b.take (modI b).Len.toNat) hb' hl' (modI b) at_ s2
    have hz:=w3 hb' hl' (b.take (modI b).Len.toNat).length
    rw [List.take_length] at hz
    refine ⟨_,?_,hbt.2,by rw [sz_app,fcb_sz]; omega⟩
    unfold dis_Text
    rw [s1,Option.bind_some,if_pos (by rfl),put_is hb (by omega) hle,Option.bind_some,hbt.1,Option.bind_some]
  | true =>
    obtain ⟨O,o1,o2,o3⟩:=opd_t (modI b) at_ (b.take (modI b).Len.toNat) hp.1 hp.2 hv.1 hv.2 hm.1 hm.2 (modI_one hb) s2
    obtain ⟨N,n1,n2,n3⟩:=name_t (modI_tab b) (s3 rfl)
    rw [o3]
    unfold dis_Text spinetref42_Text_j2
    rw [s1,n1,n2,o1]
    cases he:(O.toList == (⟨#[]⟩:ByteArray).toList) with
    | true =>
      refine ⟨N,?_,?_,by omega⟩
      · rw [Option.bind_some,if_neg (by simp),Option.bind_some,Option.bind_some,he,if_neg (by simp)]
      · rw [Option.bind_some,if_pos rfl]
    | false =>
      refine ⟨(N++(⟨#[32]⟩:ByteArray))++O,?_,?_,by rw [sz_app,sz_app,sz1]; omega⟩
      · rw [Option.bind_some,if_neg (by simp),Option.bind_some,Option.bind_some,he,if_pos (by rfl),if_pos (by rw [sz1]; omega),if_pos (by rw [sz_app,sz1]; omega)]
      · rw [Option.bind_some,if_neg (by simp),if_pos (by rw [sz1]; omega),if_pos (by rw [sz_app,sz1]; omega)]
end
theorem behM_le {m p:Int} (h0:0≤m) (h1:m < 10) (h2:0≤p) (h3:p < 256):(behM m p).1.toNat≤2:=by
  obtain ⟨_,h,_⟩:=beh_is h0 h1 h2 h3
  rcases h with h | h | h <;> rw [h] <;> decide
theorem modI_five {b:List Int} (hb:∀ a∈b,okI .u8 a):(modI b).Len≤5:=by
  have key:∀ (pg c:Int) (k:Nat),k≤2→(modAt b pg c k).Len≤5:=by
    intro pg c k hk
    have hm:=mode_rng pg c
    unfold modAt
    simp only
    have hpo:0≤(if posM (refOf pg c).Mode=true then byteAt b k else 0)∧(if posM (refOf pg c).Mode=true then byteAt b k else 0) < 256:=by
      split
      · exact byte_range hb k
      · decide
    have:=behM_le hm.1 hm.2 hpo.1 hpo.2
    split <;> rename_i h <;> simp only [h,if_true,if_false,Bool.false_eq_true] at this <;> omega
  unfold modI
  split
  · exact key _ _ _ (by omega)
  · exact key _ _ _ (by omega)
end Go.Proofs.YtfcegejpdlbkdaaGreatK
