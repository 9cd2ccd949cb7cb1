/- Lists and strings, as the printed functions read them. No program in sight. -/
import Derived.Test.YtfcegejpdlbkdaaGreatRh
import Derived.Laws.BitsLemmas
import Derived.Laws.Strings
namespace Go.Proofs.YtfcegejpdlbkdaaGreatK
set_option linter.unusedVariables false
set_option linter.unusedSimpArgs false
open Go.RowKit
theorem gtAt {α:Type} [Inhabited α] {l:List α} {i:Nat} {x:α} (h:l[i]? = some x):gt l (i:Int)=x:=by
  simp [gt,List.getD,h]
theorem dropAt {α:Type} {l r:List α} {i:Nat} {x:α} (h:l.drop i=x::r):l[i]? = some x∧l.drop (i+1)=r∧i < l.length:=by
  have hi:i < l.length:=by
    rcases Nat.lt_or_ge i l.length with h' | h'
    · exact h'
    · rw [List.drop_eq_nil_of_le h'] at h; cases h
  rw [List.drop_eq_getElem_cons hi] at h
  injection h with h1 h2
  exact ⟨by rw [List.getElem?_eq_getElem hi,h1],h2,hi⟩
theorem gtCons {α:Type} [Inhabited α] {l r:List α} {i:Nat} {x:α} (h:l.drop i=x::r):gt l (i:Int)=x∧(0≤(i:Int)∧(i:Int) < ln l)∧l.drop (i+1)=r:=by
  obtain ⟨h1,h2,h3⟩:=dropAt h
  exact ⟨gtAt h1,⟨by omega,by unfold ln; omega⟩,h2⟩
theorem gtNil {α:Type} {l:List α} {i:Nat} (h:l.drop i=[]):¬ (i:Int) < ln l:=by
  rw [List.drop_eq_nil_iff] at h; unfold ln; omega
theorem sblRange {s:ByteArray} {x:Int} (h:x∈sbl s):0≤x∧x < 256:=by
  unfold sbl at h
  obtain ⟨b,_,rfl⟩:=List.mem_map.1 h
  have:=b.toNat_lt
  omega
theorem sbl_inj {a b:ByteArray} (h:sbl a=sbl b):a=b:=by
  obtain ⟨⟨x⟩⟩:=a
  obtain ⟨⟨y⟩⟩:=b
  simp only [sbl] at h
  have:x=y:=by
    have h2:=congrArg (List.map fun n:Int=>UInt8.ofNat n.toNat) h
    simpa [Function.comp_def] using h2
  rw [this]
theorem sbl_bs {l:List Int} (h:∀ x∈l,0≤x∧x < 256):sbl (bs l)=l:=by
  unfold sbl bs
  simp only [List.map_map]
  have e:∀ x∈l,((fun b:UInt8=>(b.toNat:Int)) ∘ fun b:Int=>UInt8.ofNat b.toNat) x=x:=by
    intro x hx
    have:=h x hx
    simp [UInt8.toNat_ofNat]
    omega
  exact (List.map_congr_left e).trans (List.map_id l)
theorem bs_sbl (s:ByteArray):bs (sbl s)=s:=sbl_inj (sbl_bs fun x hx=>sblRange hx)
theorem bs_app (a b:List Int):bs (a++b)=bs a++bs b:=by
  unfold bs
  apply ByteArray.ext
  simp [ByteArray.data_append]
theorem sbl_app (a b:ByteArray):sbl (a++b)=sbl a++sbl b:=by
  unfold sbl
  simp [ByteArray.data_append]
theorem bs_size (l:List Int):(bs l).size=l.length:=by simp [bs,ByteArray.size]
theorem toList_is (s:ByteArray):s.toList=s.data.toList:=ByteArray.toList_eq s
theorem teq (a b:ByteArray):(a.toList == b.toList)=(sbl a == sbl b):=by
  rw [toList_is,toList_is,Bool.eq_iff_iff,beq_iff_eq,beq_iff_eq]
  constructor
  · intro h; unfold sbl; rw [h]
  · intro h; rw [sbl_inj h]
theorem wrapS {n:Nat} (h:n < 2 ^ 62):IntKind.wrap .i64 ((n:Int)+1)=((n+1:Nat):Int):=by rw [wrap_i64 (by omega) (by omega)]; rfl
theorem bigS (n:Nat) (h:n < 1000000):∃ k,BIG=k+n+1:=⟨BIG - n - 1,by unfold BIG; omega⟩
end Go.Proofs.YtfcegejpdlbkdaaGreatK
