/- The law DisTexts. -/
import Derived.Test.YtfcegejpdlbkdaaGreatUDis3
import Derived.Test.YtfcegejpdlbkdaaGreatUJoin
import Derived.Test.YtfcegejpdlbkdaaGreatUPut
namespace Go.Proofs.YtfcegejpdlbkdaaGreatK
set_option linter.unusedVariables false
set_option linter.unusedSimpArgs false
set_option maxHeartbeats 1000000
open Go.RowKit
attribute [local irreducible] dwv mops lops lqops lwops kont iter run runK rk okK ex E1 vals val chain chB sel resF
def byteB (x:Int):ByteArray:=(dis_Byte x).getD ⟨#[]⟩
theorem byteB_is {x:Int} (h0:0≤x) (h1:x < 256):dis_Byte x=some (byteB x)∧spinetref42_Hex x 2=some (byteB x)∧(byteB x).size=3:=by
  obtain ⟨B,q1,q2,q3⟩:=byte_t h0 h1
  have e:byteB x=B:=by unfold byteB; rw [q1]; rfl
  rw [e]; exact ⟨q1,q2,q3⟩
theorem joinT_snoc (sep x:List Int):∀ {L:List (List Int)},L ≠ []→joinT sep (L++[x])=joinT sep L++(sep++x)
  | [],h=>absurd rfl h
  | y::r,_=>by simp [joinT]
theorem joinT_len (sep:List Int) {m:Nat}:∀ {L:List (List Int)},(∀ y∈L,y.length≤m)→(joinT sep L).length≤L.length*(m+sep.length)
  | [],_=>by simp [joinT]
  | [y],h=>by
    have:=h y (by simp)
    simp [joinT]; omega
  | y::z::r,h=>by
    have e:joinT sep (y::z::r)=y++(sep++joinT sep (z::r)):=by simp [joinT]
    have ih:=joinT_len sep (L:=z::r) fun w hw=>h w (by simp [hw])
    have:=h y (by simp)
    rw [e,List.length_append,List.length_append,List.length_cons,Nat.add_mul,Nat.one_mul]
    omega
/-- Texts, with commas between. -/
def jc (W:List ByteArray):ByteArray:=bs (joinT [44] (W.map sbl))
theorem jc_bytes (W:List ByteArray):∀ x∈joinT [44] (W.map sbl),0≤x∧x < 256:=by
  refine joinT_bytes (by simp) fun y hy x hx => ?_
  obtain ⟨z,_,rfl⟩:=List.mem_map.1 hy
  exact sblRange hx
theorem jc_sbl (W:List ByteArray):sbl (jc W)=joinT [44] (W.map sbl):=sbl_bs (jc_bytes W)
theorem jc_size {W:List ByteArray} (h:∀ w∈W,w.size≤3):(jc W).size≤W.length*4:=by
  unfold jc
  rw [bs_size]
  have:=joinT_len [44] (m:=3) (L:=W.map sbl) fun y hy=>by
    obtain ⟨z,hz,rfl⟩:=List.mem_map.1 hy
    rw [sbl_len]; exact h z hz
  simpa using this
theorem jc_snoc {W:List ByteArray} (h:W ≠ []) (w:ByteArray):jc (W++[w])=(jc W++(⟨#[44]⟩:ByteArray))++w:=by
  have e44:sbl (⟨#[44]⟩:ByteArray)=[44]:=rfl
  apply sbl_inj
  rw [sbl_app,sbl_app,jc_sbl,jc_sbl,e44,List.map_append,List.map_cons,List.map_nil,joinT_snoc _ _ (by simpa using h)]
  simp
theorem jc_one (w:ByteArray):jc [w]=w:=by
  unfold jc
  simp [joinT,bs_sbl]
theorem jc_nil (s:ByteArray):s++jc []=s:=by
  apply sbl_inj
  rw [sbl_app,jc_sbl]
  simp [joinT]
theorem ba_assoc (a b c:ByteArray):(a++b)++c=a++(b++c):=by
  apply sbl_inj
  rw [sbl_app,sbl_app,sbl_app,sbl_app,List.append_assoc]
def fcb:ByteArray:=⟨#[70,67,66,32]⟩
theorem fcb_sz:fcb.size=4:=rfl
section
variable {l:List Int} (hb:∀ a∈l,okI .u8 a) (hN:l.length≤20)
include hb hN
theorem d_l0:∀ (r:List Int) (k i:Nat),l.drop i=r→r.length < k→dis_bytes_l0 l k ((l.take i).map byteB) (i:Int)=some (l.map byteB):=by
  intro r
  induction r with
  | nil =>
    intro k i hd hk
    obtain ⟨k,rfl⟩:∃ k',k=k'+1:=⟨k - 1,by simp only [List.length_nil] at hk; omega⟩
    have hi:=drop_nil hd
    unfold dis_bytes_l0
    rw [if_neg (fun h=>absurd (of_decide_eq_true h) (by simp only [ln]; omega)),List.take_of_length_le hi]
  | cons x r ih =>
    intro k i hd hk
    obtain ⟨k,rfl⟩:∃ k',k=k'+1:=⟨k - 1,by simp only [List.length_cons] at hk; omega⟩
    obtain ⟨hx,hd',hi⟩:=drop_cons hd
    have hm:=okI_u8 (hb x (List.mem_of_getElem? hx))
    have hw:IntKind.wrap .i64 ((i:Int)+1)=((i+1:Nat):Int):=wrap64s (by omega)
    have ht:(l.take i).map byteB++[byteB x]=(l.take (i+1)).map byteB:=by
      rw [List.take_add_one,hx]; simp
    unfold dis_bytes_l0
    rw [if_pos (decide_eq_true (by simp only [ln]; omega)),if_pos (by simp only [ln]; omega),gt_at hx,(byteB_is hm.1 hm.2).1,Option.bind_some,
      if_pos (by simp only [List.length_map,List.length_take,List.length_cons,List.length_nil]; omega),ht,hw]
    exact ih k (i+1) hd' (by simp only [List.length_cons] at hk; omega)
theorem w3 (i:Nat):(jc ((l.take i).map byteB)).size≤80:=by
  have:=jc_size (W:=(l.take i).map byteB) fun w hw=>by
    obtain ⟨x,hx,rfl⟩:=List.mem_map.1 hw
    have hm:=okI_u8 (hb x (List.mem_of_mem_take hx))
    have:=(byteB_is hm.1 hm.2).2.2
    omega
  simp only [List.length_map,List.length_take] at this
  omega
theorem r_l0:∀ (r:List Int) (k i:Nat),l.drop i=r→r.length < k→spinetref42_Text_l0 l k (fcb++jc ((l.take i).map byteB)) (i:Int)=some (fcb++jc (l.map byteB)):=by
  intro r
  induction r with
  | nil =>
    intro k i hd hk
    obtain ⟨k,rfl⟩:∃ k',k=k'+1:=⟨k - 1,by simp only [List.length_nil] at hk; omega⟩
    have hi:=drop_nil hd
    unfold spinetref42_Text_l0
    rw [if_neg (fun h=>absurd (of_decide_eq_true h) (by simp only [ln]; omega)),List.take_of_length_le hi]
  | cons x r ih =>
    intro k i hd hk
    obtain ⟨k,rfl⟩:∃ k',k=k'+1:=⟨k - 1,by simp only [List.length_cons] at hk; omega⟩
    obtain ⟨hx,hd',hi⟩:=drop_cons hd
    have hm:=okI_u8 (hb x (List.mem_of_getElem? hx))
    have hw:IntKind.wrap .i64 ((i:Int)+1)=((i+1:Nat):Int):=wrap64s (by omega)
    have ht:(l.take i).map byteB++[byteB x]=(l.take (i+1)).map byteB:=by
      rw [List.take_add_one,hx]; simp
    have hz:=w3 hb hN i
    have hB:=byteB_is hm.1 hm.2
    have wx:IntKind.wrap .i64 x=x:=wrap_i64 (by omega) (by omega)
    have go:∀ s:ByteArray,s.size≤100→s++byteB x=fcb++jc ((l.take (i+1)).map byteB)→spinetref42_Text_j0 (spinetref42_Text_l0 l k) l (i:Int) s=some (fcb++jc (l.map byteB)):=by
      intro s hs he
      unfold spinetref42_Text_j0
      rw [if_pos (by simp only [ln]; omega),gt_at hx,wx,hB.2.1,Option.bind_some,if_pos (by omega),he,hw]
      exact ih k (i+1) hd' (by simp only [List.length_cons] at hk; omega)
    unfold spinetref42_Text_l0
    rw [if_pos (decide_eq_true (by simp only [ln]; omega))]
    by_cases h0:i=0
    · subst h0
      rw [if_neg (by decide)]
      refine go _ (by rw [sz_app,fcb_sz]; omega) ?_
      rw [← ht,List.take_zero,List.map_nil,List.nil_append,jc_one,jc_nil]
    · rw [if_pos (by rw [decide_eq_true_eq]; omega),if_pos (by rw [sz_app,fcb_sz,sz1]; omega)]
      refine go _ (by rw [sz_app,sz_app,fcb_sz,sz1]; omega) ?_
      rw [← ht,jc_snoc (by
        intro e
        have:=congrArg List.length e
        simp only [List.length_map,List.length_take,List.length_nil] at this
        omega),ba_assoc,ba_assoc,ba_assoc]
theorem bytes_t (i:api_Inst) (at_:Int) (hs:spinetref42_Sure i=some false):dis_bytes l=some (fcb++jc (l.map byteB))∧spinetref42_Text i at_ l=some (fcb++jc (l.map byteB)):=by
  have hB:l.length < BIG:=by
    have:(20:Nat) < BIG:=by decide
    omega
  have h1:=d_l0 hb hN l BIG 0 rfl hB
  have h2:=r_l0 hb hN l BIG 0 rfl hB
  have hz:=w3 hb hN l.length
  rw [List.take_length] at hz
  rw [List.take_zero,List.map_nil] at h1 h2
  rw [jc_nil] at h2
  have h3:strings_Join (l.map byteB) (⟨#[44]⟩:ByteArray)=some (jc (l.map byteB)):=by
    refine join_is (by rw [List.length_map]; omega) ?_ (by rw [List.length_map,sz1]; omega) (by rw [sz1]; omega)
    have:∀ q:List Int,(∀ a∈q,okI .u8 a)→tot (q.map byteB)=3*q.length:=by
      intro q
      induction q with
      | nil=>intro _; rfl
      | cons x r ih =>
        intro h
        have hm:=okI_u8 (h x (by simp))
        rw [List.map_cons,tot_cons,ih fun a ha=>h a (by simp [ha]),(byteB_is hm.1 hm.2).2.2,List.length_cons]
        omega
    rw [this l hb]; omega
  refine ⟨?_,?_⟩
  · unfold dis_bytes
    rw [show dis_bytes_l0 l BIG [] 0=some (l.map byteB) from h1,Option.bind_some,h3,Option.bind_some]
    exact if_pos (by
      have:=fcb_sz
      have e:fcb.size=(⟨#[70,67,66,32]⟩:ByteArray).size:=rfl
      rw [← e]; omega)
  · unfold spinetref42_Text
    rw [hs,Option.bind_some,if_pos (by rfl)]
    rw [show spinetref42_Text_l0 l BIG (⟨#[70,67,66,32]⟩:ByteArray) 0=some (fcb++jc (l.map byteB)) from h2,Option.bind_some]
end
theorem modI_mode (b:List Int):0≤(modI b).Entry.Mode∧(modI b).Entry.Mode < 10:=by
  unfold modI
  split <;> exact mode_rng _ _
theorem modI_tab (b:List Int):inTab (modI b).Entry=true:=by
  unfold modI
  split <;> exact refOf_inTab _ _
theorem modI_len (b:List Int):1≤(modI b).Len:=by
  unfold modI
  split
  · have:=modAt_len b (byteAt b 0 - 14) (byteAt b 1) 2; omega
  · have:=modAt_len b 1 (byteAt b 0) 1; omega
section
variable {b:List Int} (hb:∀ a∈b,okI .u8 a)
include hb
theorem modI_post:0≤(modI b).Post∧(modI b).Post < 256:=by
  have h:∀ (pg c:Int) (k:Nat),0≤(modAt b pg c k).Post∧(modAt b pg c k).Post < 256:=by
    intro pg c k
    have:=byte_range hb k
    unfold modAt
    simp only
    split <;> omega
  unfold modI
  split <;> exact h _ _ _
theorem valM_rng (k:Nat) (n:Int) (s:Bool):0≤valM b k n s∧valM b k n s < 65536:=by
  have r0:=byte_range hb k
  have r1:=byte_range hb (k+1)
  unfold valM
  split
  · omega
  · split
    · split
      · split <;> omega
      · omega
    · omega
theorem modI_val:0≤(modI b).Value∧(modI b).Value < 65536:=by
  unfold modI
  split <;> exact valM_rng hb _ _ _
theorem modI_one (h:(modI b).Entry.Mode=1∨(modI b).Entry.Mode=3):(modI b).Value < 256:=by
  have key:∀ (pg c:Int) (k:Nat),(modAt b pg c k).Entry.Mode=1∨(modAt b pg c k).Entry.Mode=3→(modAt b pg c k).Value < 256:=by
    intro pg c k
    unfold modAt
    simp only
    intro hm
    have hn:∀ po,behM (refOf pg c).Mode po=(1,false):=by
      intro po
      rcases hm with e | e <;> rw [e] <;> rfl
    rw [hn]
    unfold valM
    rw [if_neg (by decide),if_pos rfl,if_neg (by simp)]
    exact (byte_range hb _).2
  unfold modI at h ⊢
  by_cases hc:byteAt b 0=16∨byteAt b 0=17
  · rw [if_pos hc] at h ⊢; exact key _ _ _ h
  · rw [if_neg hc] at h ⊢; exact key _ _ _ h
end
end Go.Proofs.YtfcegejpdlbkdaaGreatK
