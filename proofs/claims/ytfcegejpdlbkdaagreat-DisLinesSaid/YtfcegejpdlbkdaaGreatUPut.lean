/- What inst.Put writes is what inst.Of reads. -/
import Derived.Test.YtfcegejpdlbkdaaGreatUInsr
namespace Go.Proofs.YtfcegejpdlbkdaaGreatK
set_option linter.unusedVariables false
set_option linter.unusedSimpArgs false
set_option maxHeartbeats 4000000
open Go.RowKit
attribute [local irreducible] dwv mops lops lqops lwops kont iter run runK ex E1 vals val chain chB sel resF
theorem byteAt_take {b:List Int} {n j:Nat} (h:j < n):byteAt (b.take n) j=byteAt b j:=by
  unfold byteAt
  simp [List.getD,List.getElem?_take,h]
theorem valM_congr {b b':List Int} {k1:Nat} {n:Int} {s:Bool} (h:∀ j:Nat,(j:Int) < ((k1+n.toNat:Nat):Int)→byteAt b' j=byteAt b j):valM b' k1 n s=valM b k1 n s:=by
  unfold valM
  by_cases h2:n=2
  · subst h2
    rw [h k1 (by show (k1:Int) < ((k1+2:Nat):Int); omega),h (k1+1) (by show ((k1+1:Nat):Int) < ((k1+2:Nat):Int); omega)]
  · by_cases h1:n=1
    · subst h1
      simp only [h2,if_false]
      rw [h k1 (by show (k1:Int) < ((k1+1:Nat):Int); omega)]
    · simp only [h2,h1,if_false]
theorem modAt_len (b:List Int) (page code:Int) (k:Nat):(k:Int)≤(modAt b page code k).Len:=by
  unfold modAt
  simp only
  have:k≤(if posM (refOf page code).Mode=true then k+1 else k):=by split <;> omega
  omega
theorem modAt_congr {b b':List Int} {page code:Int} {k:Nat} (h:∀ j:Nat,(j:Int) < (modAt b page code k).Len→byteAt b' j=byteAt b j):modAt b' page code k=modAt b page code k:=by
  unfold modAt at h ⊢
  cases hp:posM (refOf page code).Mode with
  | true =>
    simp only [hp,if_true] at h ⊢
    have h0:=h k (by omega)
    rw [h0]
    rw [valM_congr h]
  | false =>
    simp only [hp,Bool.false_eq_true,if_false] at h ⊢
    rw [valM_congr h]
theorem modI_congr {b b':List Int} (h:∀ j:Nat,(j:Int) < (modI b).Len→byteAt b' j=byteAt b j):modI b'=modI b:=by
  unfold modI at h ⊢
  by_cases hc:byteAt b 0=16∨byteAt b 0=17
  · simp only [hc,if_true] at h ⊢
    have hl:=modAt_len b (byteAt b 0 - 14) (byteAt b 1) 2
    have h0:=h 0 (by omega)
    have h1:=h 1 (by omega)
    rw [h0,h1,if_pos hc]
    exact modAt_congr h
  · simp only [hc,if_false] at h ⊢
    have hl:=modAt_len b 1 (byteAt b 0) 1
    have h0:=h 0 (by omega)
    rw [h0,if_neg hc]
    exact modAt_congr h
theorem modI_take {b:List Int} {n:Nat} (h:(modI b).Len≤(n:Int)):modI (b.take n)=modI b:=modI_congr fun j hj=>byteAt_take (by omega)
theorem wrap_u8m (n:Int):IntKind.wrap .u8 n=n % 256:=by simp [IntKind.wrap,IntKind.signed,IntKind.bits]
theorem low_is (v:Int):octet_Low v=some (v % 256):=by unfold octet_Low; rw [wrap_u8m]
theorem high_is {v:Int} (h0:0≤v) (h1:v < 65536):octet_High v=some (v / 256):=by
  unfold octet_High
  rw [show (2:Int) ^ 8=256 by decide,Int.fdiv_eq_ediv_of_nonneg v (by decide),wrap_u8 (by omega) (by omega)]
theorem octetBytes_is {v:Int} (h0:0≤v) (h1:v < 65536):octet_Bytes [v]=some [v / 256,v % 256]:=by
  have hB:BIG=(BIG - 2)+1+1:=by decide
  have e0:rp (0:Int) (0:Int)=[]:=rfl
  have w1:IntKind.wrap .i64 (0+1)=1:=by decide +kernel
  have F:∀ k (l:List Int) (t:Int),octet_Bytes_l0 [v] (k+1) l t=if (decide (t < (ln [v])))=true then
      if 0≤(t:Int)∧t < ln [v] then
      (octet_High (gt [v] t)).bind fun r_4 =>
      (octet_Low (gt [v] t)).bind fun r_5 =>
      if (l.length+[r_4,r_5].length)*1≤140737488355328 then
      octet_Bytes_l0 [v] k (l++[r_4,r_5]) (IntKind.wrap .i64 (t+1))
      else none
      else none
    else
      some l:=fun k l t=>rfl
  have g0:gt [v] 0=v:=gt_at (i:=0) rfl
  unfold octet_Bytes
  rw [if_pos (by simp only [ln,List.length_cons,List.length_nil]; decide +kernel),hB,F,e0,if_pos (by simp [ln]),if_pos (by simp [ln]),g0,high_is h0 h1,low_is]
  simp only [Option.bind_some]
  rw [if_pos (by simp),w1,F]
  rfl
theorem take_succ' {b:List Int} {m:Nat} (h:m < b.length):b.take m++[byteAt b m]=b.take (m+1):=by
  have hx:b[m]? = some b[m]:=List.getElem?_eq_getElem h
  have:byteAt b m=b[m]:=by unfold byteAt; simp [List.getD,hx]
  rw [this,List.take_add_one,hx]; rfl
theorem put_j0 {b:List Int} (hb:∀ a∈b,okI .u8 a) (hl:b.length < 2 ^ 46) {L:Nat} (hL:(modI b).Len=(L:Int)) (hle:L≤b.length):inst_Put_j0 (modI b) (b.take L)=some (b.take L,0):=by
  have hlen:(b.take L).length=L:=by rw [List.length_take]; omega
  have:=instOf_is (b:=b.take L) (fun a ha=>hb a (List.mem_of_mem_take ha)) (by omega)
  rw [modI_take (by omega),hlen,hL,if_neg (by omega)] at this
  unfold inst_Put_j0
  rw [this]
  simp
theorem put_j1 {b:List Int} (hb:∀ a∈b,okI .u8 a) (hl:b.length < 2 ^ 46) {k1:Nat} {n:Int × Bool} (hn:inst_behind (modI b).Entry.Mode (modI b).Post=some n) (hn3:n.1=0∨n.1=1∨n.1=2) (hL:(modI b).Len=((k1+n.1.toNat:Nat):Int)) (hv:(modI b).Value=valM b k1 n.1 n.2) (hle:k1+n.1.toNat≤b.length) :
    inst_Put_j1 (modI b) (b.take k1)=some (b.take (k1+n.1.toNat),0):=by
  have r0:=byte_range hb k1
  have r1:=byte_range hb (k1+1)
  have hlk:(b.take k1).length≤b.length:=by rw [List.length_take]; omega
  unfold inst_Put_j1
  rw [hn]
  simp only [Option.bind_some,hv]
  have J:=put_j0 hb hl hL hle
  rcases hn3 with h | h | h
  · rw [h] at J ⊢
    simp only [show ((0:Int) == 1)=false by decide,show ((0:Int) == 2)=false by decide,Bool.false_eq_true,if_false]
    exact J
  · rw [h] at J hle ⊢
    have hle':k1+1≤b.length:=hle
    have e:valM b k1 1 n.2 % 256=byteAt b k1:=by
      unfold valM
      simp only [show ¬ ((1:Int)=2) by decide,if_false,if_true]
      split
      · split <;> omega
      · omega
    simp only [show ((1:Int) == 1)=true by decide,if_true,low_is,Option.bind_some,e]
    rw [if_pos (by simp only [List.length_cons,List.length_nil]; omega),take_succ' (by omega)]
    exact J
  · rw [h] at J hle ⊢
    have hle':k1+2≤b.length:=hle
    have e:valM b k1 2 n.2=byteAt b k1*256+byteAt b (k1+1):=by unfold valM; rw [if_pos rfl]
    simp only [show ((2:Int) == 1)=false by decide,show ((2:Int) == 2)=true by decide,Bool.false_eq_true,if_false,if_true,e]
    rw [octetBytes_is (by omega) (by omega)]
    simp only [Option.bind_some]
    rw [show (byteAt b k1*256+byteAt b (k1+1)) / 256=byteAt b k1 by omega,show (byteAt b k1*256+byteAt b (k1+1)) % 256=byteAt b (k1+1) by omega]
    rw [if_pos (by simp only [List.length_cons,List.length_nil]; omega)]
    rw [show b.take k1++[byteAt b k1,byteAt b (k1+1)]=(b.take k1++[byteAt b k1])++[byteAt b (k1+1)] by simp,take_succ' (by omega),take_succ' (by omega)]
    exact J
theorem put_j2 {b:List Int} (hb:∀ a∈b,okI .u8 a) (hl:b.length < 2 ^ 46) {page code:Int} {m:Nat} (hI:modI b=modAt b page code (m+1)) (hcode:code=byteAt b m) (hle:(modI b).Len≤(b.length:Int)) :
    inst_Put_j2 (modI b) (b.take m)=some (b.take (modI b).Len.toNat,0):=by
  have hm:=mode_rng page code
  have r:=byte_range hb (m+1)
  have hlk:(b.take m).length≤b.length:=by rw [List.length_take]; omega
  have hlk1:(b.take (m+1)).length≤b.length:=by rw [List.length_take]; omega
  have hl0:=modAt_len b page code (m+1)
  rw [← hI] at hl0
  have fE:(modI b).Entry=refOf page code:=by rw [hI]; rfl
  have fC:(modI b).Code=byteAt b m:=by rw [hI,← hcode]; rfl
  have c1:((b.take m).length+[byteAt b m].length)*1≤140737488355328:=by simp only [List.length_cons,List.length_nil]; omega
  unfold inst_Put_j2
  rw [fC,if_pos c1,take_succ' (by omega)]
  cases hp:posM (refOf page code).Mode with
  | true =>
    have fP:(modI b).Post=byteAt b (m+1):=by rw [hI]; simp only [modAt,hp,if_true]
    have fV:(modI b).Value=valM b (m+2) (behM (refOf page code).Mode (byteAt b (m+1))).1 (behM (refOf page code).Mode (byteAt b (m+1))).2:=by rw [hI]; simp only [modAt,hp,if_true]
    have fL:(modI b).Len=((m+2+(behM (refOf page code).Mode (byteAt b (m+1))).1.toNat:Nat):Int):=by rw [hI]; simp only [modAt,hp,if_true]
    obtain ⟨e1,e2,_⟩:=beh_is hm.1 hm.2 r.1 r.2
    have c2:((b.take (m+1)).length+[byteAt b (m+1)].length)*1≤140737488355328:=by simp only [List.length_cons,List.length_nil]; omega
    rw [show inst_posted (modI b).Entry.Mode=some true by rw [fE]; exact congrArg some hp]
    simp only [Option.bind_some,if_true]
    rw [fP,if_pos c2,take_succ' (by omega)]
    have:=put_j1 hb hl (k1:=m+2) (by rw [fE,fP]; exact e1) e2 fL fV (by omega)
    rw [this,fL]; rfl
  | false =>
    have fP:(modI b).Post=0:=by rw [hI]; simp only [modAt,hp,Bool.false_eq_true,if_false]
    have fV:(modI b).Value=valM b (m+1) (behM (refOf page code).Mode 0).1 (behM (refOf page code).Mode 0).2:=by rw [hI]; simp only [modAt,hp,Bool.false_eq_true,if_false]
    have fL:(modI b).Len=((m+1+(behM (refOf page code).Mode 0).1.toNat:Nat):Int):=by rw [hI]; simp only [modAt,hp,Bool.false_eq_true,if_false]
    obtain ⟨e1,e2,_⟩:=beh_is hm.1 hm.2 (p:=0) (by decide) (by decide)
    rw [show inst_posted (modI b).Entry.Mode=some false by rw [fE]; exact congrArg some hp]
    simp only [Option.bind_some,Bool.false_eq_true,if_false]
    have:=put_j1 hb hl (k1:=m+1) (by rw [fE,fP]; exact e1) e2 fL fV (by omega)
    rw [this,fL]; rfl
theorem put_is {b:List Int} (hb:∀ a∈b,okI .u8 a) (hl:b.length < 2 ^ 46) (hle:(modI b).Len≤(b.length:Int)):inst_Put (modI b)=some (b.take (modI b).Len.toNat,0):=by
  unfold inst_Put
  by_cases hc:byteAt b 0=16∨byteAt b 0=17
  · have hI:modI b=modAt b (byteAt b 0 - 14) (byteAt b 1) (1+1):=by unfold modI; rw [if_pos hc]
    have hl0:=modAt_len b (byteAt b 0 - 14) (byteAt b 1) (1+1)
    rw [← hI] at hl0
    have fP:(modI b).Page=byteAt b 0 - 14:=by rw [hI]; rfl
    rw [fP,if_pos (by simp; omega)]
    have w:IntKind.wrap .u8 (IntKind.wrap .i64 (14+(byteAt b 0 - 14)))=byteAt b 0:=by
      rw [wrap_i64 (by omega) (by omega),wrap_u8 (by omega) (by omega)]; omega
    rw [w,if_pos (by simp),show ([]:List Int)++[byteAt b 0]=b.take (0+1) by rw [← take_succ' (b:=b) (m:=0) (by omega)]; rfl]
    exact put_j2 hb hl hI rfl hle
  · have hI:modI b=modAt b 1 (byteAt b 0) (0+1):=by unfold modI; rw [if_neg hc]
    have fP:(modI b).Page=1:=by rw [hI]; rfl
    rw [fP,if_neg (by decide)]
    exact put_j2 hb hl hI rfl hle
end Go.Proofs.YtfcegejpdlbkdaaGreatK
