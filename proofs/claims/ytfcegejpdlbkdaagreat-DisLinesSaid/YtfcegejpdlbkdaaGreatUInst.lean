/- The reader of inst.Of, and its reference, over typed data. -/
import Derived.Test.YtfcegejpdlbkdaaGreatUTab
namespace Go.Proofs.YtfcegejpdlbkdaaGreatK
set_option linter.unusedVariables false
set_option linter.unusedSimpArgs false
set_option maxHeartbeats 4000000
open Go.RowKit
attribute [local irreducible] dwv mops lops lqops lwops kont iter run runK ex E1 vals val chain chB sel resF
/-- The byte at a place; 0 behind the end. -/
def byteAt (b:List Int) (k:Nat):Int:=b.getD k 0
/-- The reader when so many bytes have been asked for. -/
def rdAt (b:List Int) (k:Nat):inst_reader:=⟨b,((min k b.length:Nat):Int),decide (b.length < k)⟩
theorem next_at (b:List Int) (k:Nat) (hb:b.length < 2 ^ 50):inst_reader_next (rdAt b k)=some (byteAt b k,rdAt b (k+1)):=by
  unfold inst_reader_next rdAt byteAt
  by_cases h:b.length≤k
  · have e1:min k b.length=b.length:=Nat.min_eq_right h
    have e2:min (k+1) b.length=b.length:=Nat.min_eq_right (by omega)
    have e3:decide (b.length < k+1)=true:=decide_eq_true (by omega)
    rw [if_pos (by simp [ln,e1]),e1,e2,e3]
    simp [List.getD,List.getElem?_eq_none h]
  · have e1:min k b.length=k:=Nat.min_eq_left (by omega)
    have e2:min (k+1) b.length=k+1:=Nat.min_eq_left (by omega)
    have e3:decide (b.length < k+1)=false:=decide_eq_false (by omega)
    have e4:decide (b.length < k)=false:=decide_eq_false (by omega)
    have w1:IntKind.wrap .i64 ((k:Int)+1)=(k:Int)+1:=wrap_i64 (by omega) (by omega)
    have w2:IntKind.wrap .i64 ((k:Int)+1 - 1)=(k:Int):=by rw [show (k:Int)+1 - 1=k by omega]; exact wrap_i64 (by omega) (by omega)
    rw [if_neg (by simp only [ln,e1]; simp; omega)]
    simp only [e1,e2,e3,e4,w1,w2]
    rw [if_pos ⟨by omega,by simp only [ln]; omega⟩]
    have hx:b[k]? = some b[k]:=List.getElem?_eq_getElem (by omega)
    rw [gt_at hx]
    simp [List.getD,hx]
def behOk (m p:Int):Bool:=match inst_posted m,inst_behind m p,spinetref18_Shape m p,spinetref18_Shape m 0 with
  | some a,some n,some x,some y=>a == x.1&&a == y.1&&n.1 == x.2.1&&(n.1 == 0||n.1 == 1||n.1 == 2)&&(n.1 != 1||n.2 == x.2.2)
  | _,_,_,_=>false
theorem behAll:((List.range 10).all fun m=>(List.range 256).all fun p=>behOk (m:Int) (p:Int))=true:=by decide +kernel
theorem beh_at {m p:Int} (h0:0≤m) (h1:m < 10) (h2:0≤p) (h3:p < 256):behOk m p=true:=by
  obtain ⟨a,rfl⟩:=Int.eq_ofNat_of_zero_le h0
  obtain ⟨c,rfl⟩:=Int.eq_ofNat_of_zero_le h2
  exact List.all_eq_true.1 (List.all_eq_true.1 behAll a (by simp; omega)) c (by simp; omega)
/-- What stands behind: so many bytes, with a sign or without. -/
def valM (b:List Int) (k:Nat) (n:Int) (s:Bool):Int :=
  if n=2 then byteAt b k*256+byteAt b (k+1)
  else if n=1 then (if s=true then (if 127 < byteAt b k then 65280+byteAt b k else byteAt b k) else byteAt b k)
  else 0
theorem byte_range {b:List Int} (hb:∀ a∈b,okI .u8 a) (k:Nat):0≤byteAt b k∧byteAt b k < 256:=by
  unfold byteAt
  cases h:b[k]? with
  | none=>simp [List.getD,h]
  | some x=>simp [List.getD,h]; exact okI_u8 (hb x (List.mem_of_getElem? h))
def wordOk (h l:Nat):Bool:=octet_Word (h:Int) (l:Int) == some ((h:Int)*256+(l:Int))
theorem words_ok:((List.range 256).all fun h=>(List.range 256).all fun l=>wordOk h l)=true:=by decide +kernel
theorem word_is {h l:Int} (h0:0≤h) (h1:h < 256) (l0:0≤l) (l1:l < 256):octet_Word h l=some (h*256+l):=by
  obtain ⟨a,rfl⟩:=Int.eq_ofNat_of_zero_le h0
  obtain ⟨c,rfl⟩:=Int.eq_ofNat_of_zero_le l0
  exact eq_of_beq (List.all_eq_true.1 (List.all_eq_true.1 words_ok a (by simp; omega)) c (by simp; omega))
def signOk (n:Nat):Bool:=octet_Sign (n:Int) == some (if 127 < (n:Int) then 65280+(n:Int) else (n:Int))
theorem sign_is {n:Int} (h0:0≤n) (h1:n < 256):octet_Sign n=some (if 127 < n then 65280+n else n):=by
  obtain ⟨c,rfl⟩:=Int.eq_ofNat_of_zero_le h0
  exact eq_of_beq (List.all_eq_true.1 (show (List.range 256).all signOk=true by decide +kernel) c (by simp; omega))
theorem value_at {b:List Int} (hb:∀ a∈b,okI .u8 a) (hl:b.length < 2 ^ 50) (k:Nat) {n:Int} (s:Bool) (hn:n=0∨n=1∨n=2) :
    inst_reader_value (rdAt b k) n s=some (valM b k n s,rdAt b (k+n.toNat)):=by
  have r0:=byte_range hb k
  have r1:=byte_range hb (k+1)
  unfold inst_reader_value inst_reader_word valM
  rcases hn with rfl | rfl | rfl
  · rfl
  · rw [next_at b k hl]
    cases s with
    | true=>simp [sign_is r0.1 r0.2]
    | false=>simp [wrap_u16 r0.1 (Int.lt_trans r0.2 (by decide))]
  · rw [next_at b k hl]
    simp only [Option.bind_some]
    rw [next_at b (k+1) hl]
    simp [word_is r0.1 r0.2 r1.1 r1.2]
def posM (m:Int):Bool:=((m == 4)||(m == 8))||(m == 9)
def behM (m p:Int):Int × Bool:=(inst_behind m p).getD (0,false)
def zeroI:api_Inst:=⟨0,0,⟨0,0,0⟩,0,0,0⟩
/-- The instruction that begins with such a page and code, its bytes going on at k. -/
def modAt (b:List Int) (page code:Int) (k:Nat):api_Inst :=
  let e:=refOf page code
  let po:=if posM e.Mode=true then byteAt b k else 0
  let k1:=if posM e.Mode=true then k+1 else k
  let n:=behM e.Mode po
  ⟨page,code,e,po,valM b k1 n.1 n.2,((k1+n.1.toNat:Nat):Int)⟩
theorem mode_rng (page code:Int):0≤(refOf page code).Mode∧(refOf page code).Mode < 10:=by
  have:=inTab_all (q:=modeOk) (by decide +kernel) modes (refOf_inTab page code)
  simpa [modeOk] using this
theorem beh_is {m p:Int} (h0:0≤m) (h1:m < 10) (h2:0≤p) (h3:p < 256) :
    inst_behind m p=some (behM m p)∧((behM m p).1=0∨(behM m p).1=1∨(behM m p).1=2) ∧
    ∃ s,spinetref18_Shape m p=some (posM m,(behM m p).1,s)∧((behM m p).1=1→s=(behM m p).2)∧∃ y,spinetref18_Shape m 0=some y∧y.1=posM m:=by
  have h:=beh_at h0 h1 h2 h3
  unfold behOk at h
  split at h
  · rename_i a n x y ha hn hx hy
    simp only [Bool.and_eq_true,Bool.or_eq_true,beq_iff_eq,bne_iff_ne] at h
    obtain ⟨⟨⟨⟨g1,g2⟩,g3⟩,g4⟩,g5⟩:=h
    have ha':posM m=a:=by
      unfold inst_posted at ha; unfold posM; exact Option.some.inj ha
    have hb:behM m p=n:=by unfold behM; rw [hn]; rfl
    obtain ⟨x1,x2,x3⟩:=x
    simp only at g1 g3 g5
    rw [hb,ha']
    refine ⟨hn,by omega,x3,by rw [hx,g1,g3],fun e => ?_,y,hy,g2.symm⟩
    rcases g5 with g5 | g5
    · exact absurd e g5
    · exact g5.symm
  · simp at h
theorem of_j1 {b:List Int} (hb:∀ a∈b,okI .u8 a) (hl:b.length < 2 ^ 50) (k:Nat) {page code:Int} (hc:0≤code) (hc':code < 256) :
    inst_Of_j1 (rdAt b k).b (rdAt b k).n (rdAt b k).short page code=some (if (b.length:Int) < (modAt b page code k).Len then (zeroI,20) else (modAt b page code k,0)):=by
  have hm:=mode_rng page code
  have tail:∀ (po:Int) (k1:Nat),0≤po→po < 256→inst_Of_j0 page code (refOf page code) (rdAt b k1).b (rdAt b k1).n (rdAt b k1).short po =
      some (if (b.length:Int) < ((k1+(behM (refOf page code).Mode po).1.toNat:Nat):Int) then (zeroI,20) else (⟨page,code,refOf page code,po,valM b k1 (behM (refOf page code).Mode po).1 (behM (refOf page code).Mode po).2,((k1+(behM (refOf page code).Mode po).1.toNat:Nat):Int)⟩,0)):=by
    intro po k1 p0 p1
    obtain ⟨e1,e2,_⟩:=beh_is hm.1 hm.2 p0 p1
    unfold inst_Of_j0
    rw [e1]
    simp only [Option.bind_some]
    rw [show inst_reader.mk (rdAt b k1).b (rdAt b k1).n (rdAt b k1).short=rdAt b k1 from rfl,value_at hb hl k1 _ e2]
    simp only [Option.bind_some]
    by_cases h:b.length < k1+(behM (refOf page code).Mode po).1.toNat
    · rw [if_pos (show (rdAt b (k1+(behM (refOf page code).Mode po).1.toNat)).short=true from decide_eq_true h),if_pos (by omega)]
      rfl
    · rw [if_neg (show ¬ (rdAt b (k1+(behM (refOf page code).Mode po).1.toNat)).short=true by simp only [rdAt]; simpa using h),if_neg (by omega)]
      simp only [rdAt,Nat.min_eq_left (Nat.le_of_not_lt h)]
  unfold inst_Of_j1
  rw [page_is page code hc hc']
  simp only [Option.bind_some,show inst_posted (refOf page code).Mode=some (posM (refOf page code).Mode) from rfl]
  cases hp:posM (refOf page code).Mode with
  | true =>
    have r0:=byte_range hb k
    simp only [if_true]
    rw [show inst_reader.mk (rdAt b k).b (rdAt b k).n (rdAt b k).short=rdAt b k from rfl,next_at b k hl]
    simp only [Option.bind_some]
    rw [tail _ (k+1) r0.1 r0.2]
    simp only [modAt,hp,if_true]
  | false =>
    simp only [Bool.false_eq_true,if_false]
    rw [tail 0 k (by decide) (by decide)]
    simp only [modAt,hp,Bool.false_eq_true,if_false]
/-- The instruction with which bytes begin. -/
def modI (b:List Int):api_Inst:=if byteAt b 0=16∨byteAt b 0=17 then modAt b (byteAt b 0 - 14) (byteAt b 1) 2 else modAt b 1 (byteAt b 0) 1
theorem instOf_is {b:List Int} (hb:∀ a∈b,okI .u8 a) (hl:b.length < 2 ^ 50):inst_Of b=some (if (b.length:Int) < (modI b).Len then (zeroI,20) else (modI b,0)):=by
  have r0:=byte_range hb 0
  have r1:=byte_range hb 1
  unfold inst_Of modI
  rw [show inst_reader.mk b 0 false=rdAt b 0 by simp [rdAt],next_at b 0 hl]
  simp only [Option.bind_some]
  by_cases h:byteAt b 0=16
  · simp only [h,show page_Prefix 16=some 2 from rfl,Option.bind_some,true_or,if_true]
    rw [if_pos (by decide),next_at b 1 hl]
    simp only [Option.bind_some]
    rw [of_j1 hb hl 2 r1.1 r1.2]
    rfl
  · by_cases h':byteAt b 0=17
    · simp only [h',show page_Prefix 17=some 3 from rfl,Option.bind_some,or_true,if_true]
      rw [if_pos (by decide),next_at b 1 hl]
      simp only [Option.bind_some]
      rw [of_j1 hb hl 2 r1.1 r1.2]
      rfl
    · have:page_Prefix (byteAt b 0)=some 0:=by simp [page_Prefix,h,h']
      rw [this]
      simp only [Option.bind_some,h,h',or_self,if_false]
      rw [if_neg (by decide),of_j1 hb hl 1 r0.1 r0.2]
end Go.Proofs.YtfcegejpdlbkdaaGreatK
