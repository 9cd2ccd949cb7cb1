/- A law's arguments, decoded into typed data. -/
import Derived.Test.YtoemlgdlejkliaaRg
import Derived.Test.YtoemlgdlejkliaaKp
namespace Go.Proofs.YtoemlgdlejkliaaK
set_option linter.unusedVariables false
set_option linter.unusedSimpArgs false
open Go.RowKit
def okI (k:IntKind) (n:Int):Prop:=k.min≤n∧n≤k.max
theorem okI_u16 {n:Int} (h:okI .u16 n):0≤n∧n < 65536:=by simp [okI,IntKind.min,IntKind.max,IntKind.signed,IntKind.bits] at h; omega
theorem con_pure {P:Program} {m:FuncId} {args:List V} {v:V} (h:Pure P m args v):Con P m args [] v []:=by
  have:=h.2 id id Emb.self
  rw [rns_id,rn_id] at this
  exact this
theorem fit_st {fs:List Sh} {xs:List V}:Fit (.st fs) xs=FitL fs xs:=by simp only [Fit]
theorem fitL_cons {s:Sh} {r:List Sh} {xs:List V}:FitL (s::r) xs=∃ a b,xs=a++b∧Fit s a∧FitL r b:=by simp only [FitL]
theorem fitL_nil {xs:List V}:FitL [] xs=(xs=[]):=by simp only [FitL]
theorem dec_int {k:IntKind} {xs:List V} (h:Fit (.int k) xs):∃ n,xs=[.s (.int k n)]∧okI k n:=by
  simp only [Fit] at h
  obtain ⟨n,rfl,hn⟩:=h
  exact ⟨n,rfl,by simpa [Lit.wf,okI] using hn⟩
theorem dec_bool {xs:List V} (h:Fit .bool xs):∃ b,xs=[.s (.bool b)]∧True:=by
  simp only [Fit] at h
  obtain ⟨b,rfl⟩:=h
  exact ⟨b,rfl,trivial⟩
theorem dec_list {α:Type} {g:α→List V} {ok:α→Prop} {e:Sh} (D:∀ xs,Fit e xs→∃ a,xs=g a∧ok a):∀ (ls:List (List V)),(∀ l∈ls,Fit e l)→∃ l:List α,ls=l.map g∧∀ a∈l,ok a
  | [],_=>⟨[],rfl,by simp⟩
  | x::t,h=>by
    obtain ⟨a,rfl,ha⟩:=D x (h x (by simp))
    obtain ⟨l,rfl,hl⟩:=dec_list D t fun y hy=>h y (by simp [hy])
    exact ⟨a::l,rfl,fun b hb=>by
      rcases List.mem_cons.1 hb with rfl | hb
      · exact ha
      · exact hl b hb⟩
theorem dec_sl {α:Type} {g:α→List V} {ok:α→Prop} {e:Sh} {b:Nat} (D:∀ xs,Fit e xs→∃ a,xs=g a∧ok a) {xs:List V} (h:Fit (.sl b e) xs):∃ l:List α,xs=[.sl false l.length (cat g l)]∧(∀ a∈l,ok a)∧l.length≤maxLen∧l.length*b≤reachBytes:=by
  simp only [Fit] at h
  obtain ⟨ls,rfl,h1,h2,h3⟩:=h
  obtain ⟨l,rfl,hl⟩:=dec_list D ls h1
  exact ⟨l,by rw [List.length_map]; rfl,hl,by simpa using h2,by simpa using h3⟩
theorem arg_int {k:IntKind} {x:V} (h:FitV (.int k) x):∃ n,x=.s (.int k n)∧okI k n:=by
  obtain ⟨n,e,hn⟩:=dec_int (xs:=[x]) (by simpa only [FitV] using h)
  exact ⟨n,by simpa using e,hn⟩
theorem arg_sl {α:Type} {g:α→List V} {ok:α→Prop} {e:Sh} {b:Nat} (D:∀ xs,Fit e xs→∃ a,xs=g a∧ok a) {x:V} (h:FitV (.sl b e) x):∃ l:List α,x=.sl false l.length (cat g l)∧(∀ a∈l,ok a)∧l.length≤maxLen∧l.length*b≤reachBytes:=by
  obtain ⟨n,e,hn⟩:=dec_sl D (xs:=[x]) (by simpa only [FitV] using h)
  exact ⟨n,by simpa using e,hn⟩
end Go.Proofs.YtoemlgdlejkliaaK
