/- strings.Join: the texts, with another one between. -/
import Derived.Test.YtfcegejpdlbkdaaGreatUB
import Derived.Test.YtfcegejpdlbkdaaGreatF
namespace Go.Proofs.YtfcegejpdlbkdaaGreatK
set_option linter.unusedVariables false
set_option linter.unusedSimpArgs false
set_option maxHeartbeats 4000000
open Go.RowKit
attribute [local irreducible] dwv mops lops lqops lwops kont iter run runK rk okK ex E1 vals val chain chB sel resF
def joinT (sep:List Int):List (List Int)→List Int
  | []=>[]
  | x::r=>x++(r.map fun y=>sep++y).flatten
def tot (L:List ByteArray):Nat:=(L.map fun x=>x.size).sum
theorem tot_cons (x:ByteArray) (r:List ByteArray):tot (x::r)=x.size+tot r:=by simp [tot]
theorem joinT_bytes {sep:List Int} (hs:∀ x∈sep,0≤x∧x < 256):∀ {L:List (List Int)},(∀ y∈L,∀ x∈y,0≤x∧x < 256)→∀ x∈joinT sep L,0≤x∧x < 256
  | [],_,x,hx=>by simp [joinT] at hx
  | y::r,h,x,hx=>by
    simp only [joinT,List.mem_append,List.mem_flatten,List.mem_map] at hx
    rcases hx with hx | ⟨q,⟨z,hz,rfl⟩,hx⟩
    · exact h y (by simp) x hx
    · rcases List.mem_append.1 hx with hx | hx
      · exact hs x hx
      · exact h z (by simp [hz]) x hx
theorem join_l0 {L:List ByteArray} (hN:L.length < 100000):∀ (r:List ByteArray) (k i:Nat) (n:Nat),L.drop i=r→r.length < k→n+tot r < 2 ^ 41→strings_Join_l0 L k (n:Int) (i:Int)=some ((n+tot r:Nat):Int)
  | _,0,_,_,_,hk,_=>by omega
  | [],k+1,i,n,h,_,_=>by
    rw [strings_Join_l0,if_neg (fun e=>gtNil h (of_decide_eq_true e))]; simp [tot]
  | x::r,k+1,i,n,h,hk,ht=>by
    obtain ⟨e1,g1,h1⟩:=gtCons h
    have hi:=(dropAt h).2.2
    rw [tot_cons] at ht
    have w1:IntKind.wrap .i64 (9223372036854775807 - (n:Int))=9223372036854775807 - (n:Int):=wrap_i64 (by omega) (by omega)
    have w2:IntKind.wrap .i64 ((n:Int)+sln x)=((n+x.size:Nat):Int):=by
      unfold sln
      rw [wrap_i64 (by omega) (by omega)]; omega
    rw [strings_Join_l0,if_pos (decide_eq_true g1.2),if_pos g1,e1,w1,if_neg (fun e=>by have:=of_decide_eq_true e; unfold sln at this; omega),w2,wrapS (by omega)]
    rw [join_l0 hN r k (i+1) (n+x.size) h1 (by simp only [List.length_cons] at hk; omega) (by omega),tot_cons,Nat.add_assoc]
theorem join_l1 {L:List ByteArray} {sep:ByteArray} (hN:L.length < 100000):∀ (r:List ByteArray) (k i:Nat) (a:List Int),(L.drop 1).drop i=r→r.length < k→a.length+(tot r+r.length*sep.size) < 2 ^ 41 →
    strings_Join_l1 L sep k a (i:Int)=some (a++(r.map fun y=>sbl sep++sbl y).flatten)
  | _,0,_,_,_,hk,_=>by omega
  | [],k+1,i,a,h,_,_=>by
    have h0:=List.drop_eq_nil_iff.1 h
    rw [List.length_drop] at h0
    have e1:(1:Int).toNat=1:=rfl
    rw [strings_Join_l1,e1,if_neg (fun e=>by have:=of_decide_eq_true e; omega)]; simp
  | x::r,k+1,i,a,h,hk,ht=>by
    obtain ⟨e1,g1,h1⟩:=gtCons h
    have hi:=(dropAt h).2.2
    rw [tot_cons,List.length_cons,Nat.add_mul,Nat.one_mul] at ht
    have hl:((L.length - 1:Nat):Int)=ln (L.drop 1):=by simp [ln]
    have e2:(1:Int).toNat=1:=rfl
    rw [List.length_drop] at hi
    rw [strings_Join_l1,e2,hl,if_pos (decide_eq_true g1.2),if_pos g1,e1,if_pos (by omega),if_pos (by rw [List.length_append,sbl_len]; omega),wrapS (by omega)]
    rw [join_l1 hN r k (i+1) _ h1 (by simp only [List.length_cons] at hk; omega) (by simp only [List.length_append,sbl_len]; omega)]
    simp
theorem join_is {L:List ByteArray} {sep:ByteArray} (hN:L.length < 100000) (ht:tot L < 2 ^ 40) (hs:L.length*sep.size < 2 ^ 40) (hz:sep.size < 1000000):strings_Join L sep=some (bs (joinT (sbl sep) (L.map sbl))):=by
  match L,hN,ht,hs with
  | [],_,_,_=>rfl
  | [x],_,_,_ =>
    have hl1:ln [x]=1:=rfl
    unfold strings_Join
    rw [hl1,if_neg (show ¬ ((1:Int) == 0)=true by decide),if_pos (show ((1:Int) == 1)=true by decide),if_pos (by show 0≤(0:Int)∧(0:Int) < 1; omega)]
    show some x=_
    simp only [joinT,List.map_cons,List.map_nil,List.flatten_nil,List.append_nil,bs_sbl]
  | x::y::r,hN,ht,hs =>
    have hlen:(x::y::r).length=r.length+2:=rfl
    have hln:ln (x::y::r)=((r.length+2:Nat):Int):=rfl
    have hj:∀ m:Nat,m < 2 ^ 40→strings_Join_j0 (x::y::r) sep (m:Int)=some (bs (joinT (sbl sep) ((x::y::r).map sbl))):=by
      intro m hm
      unfold strings_Join_j0
      have h0:=join_l0 hN (x::y::r) BIG 0 m rfl (by rw [hlen] at hN ⊢; unfold BIG; omega) (by omega)
      have hx:x.size≤tot (x::y::r):=by rw [tot_cons]; omega
      have h1:=join_l1 (L:=x::y::r) (sep:=sep) hN (y::r) BIG 0 ([]++sbl x) rfl (by rw [hlen] at hN; simp only [List.length_cons]; unfold BIG; omega) (by
        rw [List.nil_append,sbl_len]
        rw [tot_cons] at ht
        rw [hlen,Nat.add_mul] at hs
        simp only [List.length_cons,Nat.add_mul]
        omega)
      rw [show (((0:Nat):Int))=0 from rfl] at h0 h1
      have hg:gt (x::y::r) (0:Int)=x:=rfl
      rw [h0,Option.bind_some,if_pos (by omega),if_pos (by rw [hln]; omega),hg,if_pos (by simp only [List.length_nil]; omega),if_pos (by rw [hln]; omega),h1,Option.bind_some]
      have he:([]++sbl x)++((y::r).map fun q=>sbl sep++sbl q).flatten=joinT (sbl sep) ((x::y::r).map sbl):=by
        simp [joinT,List.map_map]; rfl
      rw [he,if_pos]
      rw [bytesB_iff]
      refine joinT_bytes (fun z hz=>sblRange hz) fun q hq z hz => ?_
      obtain ⟨w,_,rfl⟩:=List.mem_map.1 hq
      exact sblRange hz
    have g0:¬ ((ln (x::y::r)) == 0)=true:=by rw [hln]; simp; omega
    have g1:¬ ((ln (x::y::r)) == 1)=true:=by rw [hln]; simp; omega
    unfold strings_Join
    rw [if_neg g0,if_neg g1]
    by_cases hp:0 < sln sep
    · have w1:IntKind.wrap .i64 (ln (x::y::r) - 1)=((r.length+1:Nat):Int):=by
        rw [hln,wrap_i64 (by omega) (by omega)]; omega
      rw [hlen] at hs hN
      have hq1:(9223372036854775807:Int).tdiv ((r.length+1:Nat):Int)=9223372036854775807 / ((r.length+1:Nat):Int):=Int.tdiv_eq_ediv_of_nonneg (by omega)
      have hq2:(92233720368547:Int)≤9223372036854775807 / ((r.length+1:Nat):Int):=Int.le_ediv_of_mul_le (by omega) (by omega)
      have hq3:9223372036854775807 / ((r.length+1:Nat):Int)≤9223372036854775807:=Int.ediv_le_self _ (by omega)
      have w2:IntKind.wrap .i64 ((9223372036854775807:Int).tdiv ((r.length+1:Nat):Int))=9223372036854775807 / ((r.length+1:Nat):Int):=by
        rw [hq1,wrap_i64 (by omega) (by omega)]
      have hm:sep.size*(r.length+1)≤(r.length+2)*sep.size:=by rw [Nat.mul_comm]; exact Nat.mul_le_mul_right _ (by omega)
      have w3:IntKind.wrap .i64 (sln sep*((r.length+1:Nat):Int))=((sep.size*(r.length+1):Nat):Int):=by
        unfold sln
        rw [← Int.natCast_mul,wrap_i64 (by omega) (by omega)]
      have w4:IntKind.wrap .i64 (0+((sep.size*(r.length+1):Nat):Int))=((sep.size*(r.length+1):Nat):Int):=by
        rw [Int.zero_add,wrap_i64 (by omega) (by omega)]
      rw [if_pos (decide_eq_true hp),w1,if_pos (by omega),w2,if_neg (fun e=>by have:=of_decide_eq_true e; unfold sln at this; omega),w3,w4]
      exact hj _ (by omega)
    · rw [if_neg (fun e=>hp (of_decide_eq_true e))]
      exact hj 0 (by omega)
end Go.Proofs.YtfcegejpdlbkdaaGreatK
