/- The reference of inst.Of answers by the same model. -/
import Derived.Test.YtfcegejpdlbkdaaGreatUInst
namespace Go.Proofs.YtfcegejpdlbkdaaGreatK
set_option linter.unusedVariables false
set_option linter.unusedSimpArgs false
set_option maxHeartbeats 4000000
open Go.RowKit
attribute [local irreducible] dwv mops lops lqops lwops kont iter run runK ex E1 vals val chain chB sel resF
theorem ln_x {b:List Int}:ln ((([]:List Int)++b)++[0,0,0,0,0])=(b.length:Int)+5:=by simp [ln]
theorem gt_xk (b:List Int) (k:Nat) (hk:k < 5):gt ((([]:List Int)++b)++[0,0,0,0,0]) (k:Int)=byteAt b k:=by
  unfold byteAt
  by_cases h:k < b.length
  · have hx:b[k]? = some b[k]:=List.getElem?_eq_getElem h
    rw [gt_at (x:=b[k]) (by rw [List.nil_append,List.getElem?_append_left h]; exact hx)]
    simp [List.getD,hx]
  · have hx:b[k]? = none:=List.getElem?_eq_none (by omega)
    have hz:([0,0,0,0,0]:List Int)[k - b.length]? = some 0:=by
      have:k - b.length=0∨k - b.length=1∨k - b.length=2∨k - b.length=3∨k - b.length=4:=by omega
      rcases this with e | e | e | e | e <;> rw [e] <;> rfl
    rw [gt_at (x:=0) (by rw [List.nil_append,List.getElem?_append_right (by omega)]; exact hz)]
    simp [List.getD,hx]
theorem rsign_is {n:Int} (h0:0≤n) (h1:n < 256):spinetref18_Sign n=some (if 127 < n then 65280+n else n):=by
  unfold spinetref18_Sign
  rw [wrap_u16 h0 (Int.lt_trans h1 (by decide))]
  by_cases h:127 < n
  · simp only [h,decide_true,if_true]; rw [wrap_u16 (by omega) (by omega)]
  · simp only [h,decide_false,Bool.false_eq_true,if_false]
theorem ref_j0 {b:List Int} (page code po v:Int) (e:api_Entry) (k1:Nat) (hk:k1 < 5) {x:Bool × Int × Bool} (hn:x.2.1=0∨x.2.1=1∨x.2.1=2) :
    spinetref18_Of_j0 b page code e po (k1:Int) x v=some (if (b.length:Int) < ((k1+x.2.1.toNat:Nat):Int) then (zeroI,false) else (⟨page,code,e,po,v,((k1+x.2.1.toNat:Nat):Int)⟩,true)):=by
  have w:IntKind.wrap .i64 ((k1:Int)+x.2.1)=((k1+x.2.1.toNat:Nat):Int):=by
    rw [wrap_i64 (by omega) (by omega)]; omega
  unfold spinetref18_Of_j0
  rw [w,show ln b=(b.length:Int) from rfl]
  by_cases h:(b.length:Int) < ((k1+x.2.1.toNat:Nat):Int)
  · rw [if_pos (decide_eq_true h),if_pos h]; rfl
  · rw [if_neg (fun hh=>h (of_decide_eq_true hh)),if_neg h]
theorem ref_j1 {b:List Int} (hb:∀ a∈b,okI .u8 a) (page code po:Int) (e:api_Entry) (k1:Nat) (hk:k1 < 4) (hm0:0≤e.Mode) (hm1:e.Mode < 10) (p0:0≤po) (p1:po < 256) :
    spinetref18_Of_j1 b page code e po (k1:Int)=some (if (b.length:Int) < ((k1+(behM e.Mode po).1.toNat:Nat):Int) then (zeroI,false) else (⟨page,code,e,po,valM b k1 (behM e.Mode po).1 (behM e.Mode po).2,((k1+(behM e.Mode po).1.toNat:Nat):Int)⟩,true)):=by
  obtain ⟨_,hn,s,hs,hse,_⟩:=beh_is hm0 hm1 p0 p1
  have r0:=byte_range hb k1
  have r1:=byte_range hb (k1+1)
  have c1:0≤(k1:Int)∧(k1:Int) < ln ((([]:List Int)++b)++[0,0,0,0,0]):=by rw [ln_x]; omega
  have wk:IntKind.wrap .i64 ((k1:Int)+1)=((k1+1:Nat):Int):=by rw [wrap_i64 (by omega) (by omega)]; omega
  have c2:0≤((k1+1:Nat):Int)∧((k1+1:Nat):Int) < ln ((([]:List Int)++b)++[0,0,0,0,0]):=by rw [ln_x]; omega
  have J:=fun v=>ref_j0 (b:=b) page code po v e k1 (by omega) (x:=(posM e.Mode,(behM e.Mode po).1,s)) hn
  unfold spinetref18_Of_j1
  rw [hs]
  simp only [Option.bind_some,wk,if_pos c1,if_pos c2,gt_xk b k1 (by omega),gt_xk b (k1+1) (by omega)]
  simp only at J
  rcases hn with h | h | h
  · rw [h] at J ⊢
    simp only [show ((0:Int) == 1)=false by decide,show ((0:Int) == 2)=false by decide,Bool.false_and,Bool.false_eq_true,if_false]
    rw [J]; rfl
  · have hs':=hse h
    rw [h] at J ⊢
    simp only [show ((1:Int) == 1)=true by decide,Bool.true_and,if_true]
    cases hv:s with
    | true =>
      rw [hv] at J hs'
      simp only [if_true,rsign_is r0.1 r0.2,Option.bind_some]
      rw [J,← hs']; rfl
    | false =>
      rw [hv] at J hs'
      simp only [Bool.false_eq_true,if_false,wrap_u16 r0.1 (Int.lt_trans r0.2 (by decide))]
      rw [J,← hs']; rfl
  · rw [h] at J ⊢
    simp only [show ((2:Int) == 1)=false by decide,show ((2:Int) == 2)=true by decide,Bool.false_and,Bool.false_eq_true,if_false,if_true]
    rw [wrap_u16 r0.1 (Int.lt_trans r0.2 (by decide)),wrap_u16 r1.1 (Int.lt_trans r1.2 (by decide))]
    rw [show IntKind.wrap .u16 (byteAt b k1*256)=byteAt b k1*256 from wrap_u16 (by omega) (by omega)]
    rw [show IntKind.wrap .u16 (byteAt b k1*256+byteAt b (k1+1))=byteAt b k1*256+byteAt b (k1+1) from wrap_u16 (by omega) (by omega),J]; rfl
theorem ref_j2 {b:List Int} (hb:∀ a∈b,okI .u8 a) (page:Int) {code:Int} (hc:0≤code) (hc':code < 256) (k:Nat) (hk:k < 3) :
    spinetref18_Of_j2 b page code (k:Int)=some (if (b.length:Int) < (modAt b page code k).Len then (zeroI,false) else (modAt b page code k,true)):=by
  have hm:=mode_rng page code
  obtain ⟨_,_,_,_,_,y,hy,hy1⟩:=beh_is hm.1 hm.2 (p:=0) (by decide) (by decide)
  have r0:=byte_range hb k
  have c1:0≤(k:Int)∧(k:Int) < ln ((([]:List Int)++b)++[0,0,0,0,0]):=by rw [ln_x]; omega
  have wk:IntKind.wrap .i64 ((k:Int)+1)=((k+1:Nat):Int):=by rw [wrap_i64 (by omega) (by omega)]; omega
  unfold spinetref18_Of_j2
  rw [wrap_i64 (by omega) (by omega),of_is]
  simp only [Option.bind_some,hy,hy1,if_pos c1,gt_xk b k (by omega),wk]
  cases hp:posM (refOf page code).Mode with
  | true =>
    simp only [if_true]
    rw [ref_j1 hb page code _ _ (k+1) (by omega) hm.1 hm.2 r0.1 r0.2]
    simp only [modAt,hp,if_true]
  | false =>
    simp only [Bool.false_eq_true,if_false]
    rw [ref_j1 hb page code 0 _ k (by omega) hm.1 hm.2 (by decide) (by decide)]
    simp only [modAt,hp,Bool.false_eq_true,if_false]
theorem ref18_is {b:List Int} (hb:∀ a∈b,okI .u8 a) (hl:b.length < 2 ^ 46):spinetref18_Of b=some (if (b.length:Int) < (modI b).Len then (zeroI,false) else (modI b,true)):=by
  have r0:=byte_range hb 0
  have r1:=byte_range hb 1
  unfold spinetref18_Of modI
  have g0:=gt_xk b 0 (by decide)
  have g1:=gt_xk b 1 (by decide)
  simp only [Int.ofNat_zero,Int.natCast_zero,Int.cast_ofNat_Int] at g0 g1
  rw [if_pos (by simp; omega),if_pos (by simp; omega),if_pos (by rw [ln_x]; omega),if_pos (by rw [ln_x]; omega),if_pos (fun _=>by rw [ln_x]; omega)]
  rw [g0]
  by_cases h:byteAt b 0=16∨byteAt b 0=17
  · rw [if_pos (by simpa using h),if_pos (by rw [ln_x]; omega),if_pos (by rw [ln_x]; omega),if_pos h]
    have w:IntKind.wrap .i64 (IntKind.wrap .i64 (byteAt b 0) - 14)=byteAt b 0 - 14:=by
      rw [wrap_i64 (n:=byteAt b 0) (by omega) (by omega),wrap_i64 (by omega) (by omega)]
    rw [w]
    have:=ref_j2 hb (byteAt b 0 - 14) r1.1 r1.2 2 (by decide)
    rw [← this]
    exact congrArg (fun t=>spinetref18_Of_j2 b (byteAt b 0 - 14) t 2) g1
  · rw [if_neg (by simpa using h),if_neg h]
    exact ref_j2 hb 1 r0.1 r0.2 1 (by decide)
end Go.Proofs.YtfcegejpdlbkdaaGreatK
