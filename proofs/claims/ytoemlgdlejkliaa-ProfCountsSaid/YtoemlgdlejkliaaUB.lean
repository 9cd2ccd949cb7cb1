/- Lists and strings, as the printed functions read them. No program in sight. -/
import Derived.Test.YtoemlgdlejkliaaRh
import Derived.Laws.BitsLemmas
import Derived.Laws.Strings
namespace Go.Proofs.YtoemlgdlejkliaaK
set_option linter.unusedVariables false
set_option linter.unusedSimpArgs false
open Go.RowKit
theorem gtAt {α:Type} [Inhabited α] {l:List α} {i:Nat} {x:α} (h:l[i]? = some x):gt l (i:Int)=x:=by
  simp [gt,List.getD,h]
theorem dropAt {α:Type} {l r:List α} {i:Nat} {x:α} (h:l.drop i=x::r):l[i]? = some x∧l.drop (i+1)=r∧i < l.length:=by
  have hi:i < l.length:=by
    rcases Nat.lt_or_ge i l.length with h' | h'
    · exact h'
    · rw [List.drop_eq_nil_of_le h'] at h; cases h
  rw [List.drop_eq_getElem_cons hi] at h
  injection h with h1 h2
  exact ⟨by rw [List.getElem?_eq_getElem hi,h1],h2,hi⟩
theorem gtCons {α:Type} [Inhabited α] {l r:List α} {i:Nat} {x:α} (h:l.drop i=x::r):gt l (i:Int)=x∧(0≤(i:Int)∧(i:Int) < ln l)∧l.drop (i+1)=r:=by
  obtain ⟨h1,h2,h3⟩:=dropAt h
  exact ⟨gtAt h1,⟨by omega,by unfold ln; omega⟩,h2⟩
theorem gtNil {α:Type} {l:List α} {i:Nat} (h:l.drop i=[]):¬ (i:Int) < ln l:=by
  rw [List.drop_eq_nil_iff] at h; unfold ln; omega
theorem wrapS {n:Nat} (h:n < 2 ^ 62):IntKind.wrap .i64 ((n:Int)+1)=((n+1:Nat):Int):=by rw [wrap_i64 (by omega) (by omega)]; rfl
theorem bigS (n:Nat) (h:n < 1000000):∃ k,BIG=k+n+1:=⟨BIG - n - 1,by unfold BIG; omega⟩
end Go.Proofs.YtoemlgdlejkliaaK
