/- Names come and go: the table has what the row has. No program in sight. -/
import Derived.Test.YtaoomioogojfhaaUSymb
namespace Go.Proofs.YtaoomioogojfhaaK
set_option linter.unusedVariables false
set_option linter.unusedSimpArgs false
open Go.RowKit
def Fine (m:List PR):Prop:=∀ p∈m,p.Name.size≤100∧0≤p.At∧p.At < 65536
theorem Inv.length {T m} (h:Inv T m):T.length=m.length:=by rw [h.perm.length_eq,List.length_map]
theorem j1_is {rec:SymT→List PR→Int→Option (Out Bool (SymT × List PR))} {l:List PR} {T:SymT} {i:Nat} {m:List PR} {want:Int} {p:PR} (hp:gt l (i:Int)=p) (hi:0≤(i:Int)∧(i:Int) < ln l) (hi6:i≤100) (hn:p.Name.size≤100) (hT:T.length≤100) (ha:0≤p.At∧p.At < 65536)
    (hw:(symSet T p.Name p.At (rightB p.Name)).1=want):spinetlaw41_SymbolsPlays_j1 rec l T i m want=rec (symSet T p.Name p.At (rightB p.Name)).2 m ((i+1:Nat):Int):=by
  unfold spinetlaw41_SymbolsPlays_j1
  rw [if_pos hi,hp,right_is _ (by omega),Option.bind_some,if_pos ⟨⟨by unfold symSz; omega,by unfold symSz; omega⟩,ha⟩,hw,if_neg (by simp),wrapS (by omega)]
theorem play_l (l:List PR) (hl:l.length≤60) (hA:∀ p∈l,0≤p.At∧p.At < 65536):∀ (r:List PR) (i k:Nat) (T:SymT) (m:List PR),l.drop i=r→i≤60→Inv T m→m.length≤i→Fine m →
    spinetlaw41_SymbolsPlays_l0 l (k+r.length+1) T m i=some (.ret true)∨∃ T' m',spinetlaw41_SymbolsPlays_l0 l (k+r.length+1) T m i=some (.go (T',m'))∧Inv T' m'∧m'.length≤60∧Fine m'
  | [],i,k,T,m,h,hi,hI,hm,hF=>.inr ⟨T,m,by unfold spinetlaw41_SymbolsPlays_l0; rw [if_neg (fun e=>gtNil h (of_decide_eq_true e))],hI,by omega,hF⟩
  | p::r,i,k,T,m,h,hi,hI,hm,hF=>by
    obtain ⟨h1,h2,h3⟩:=gtCons h
    have hil:i < 60:=by have:=(dropAt h).2.2; omega
    have hpl:p∈l:=List.mem_of_getElem? (dropAt h).1
    have hpa:=hA p hpl
    have hTl:=hI.length
    rw [show k+(p::r).length+1=(k+r.length+1)+1 by simp; omega]
    have ih:=fun T' m' hI' hm' hF'=>play_l l hl hA r (i+1) k T' m' h3 (by omega) hI' hm' hF'
    generalize hrec:spinetlaw41_SymbolsPlays_l0 l (k+r.length+1)=rec at ih
    unfold spinetlaw41_SymbolsPlays_l0
    rw [hrec,if_pos (decide_eq_true h2.2),if_pos h2,h1]
    by_cases hn:p.Name.size≤100
    case neg=>rw [if_pos (by unfold sln; exact decide_eq_true (by omega))]; exact .inl rfl
    rw [if_neg (by unfold sln; intro e; have:=of_decide_eq_true e; omega),right_is _ (by omega),Option.bind_some,rightR_is _ (by omega),Option.bind_some,if_neg (by simp)]
    obtain ⟨x,hx,hxr⟩:=find_is m p.Name (by omega)
    rw [hx,Option.bind_some,if_pos h2]
    by_cases hd:p.Drop=true
    · rw [if_pos hd,if_pos (by unfold symSz; omega)]
      rcases hxr with ⟨rfl,hno⟩ | ⟨j,q,rfl,hq,hk⟩
      · rw [hI.getN hno,if_neg (by decide),if_neg (by decide)]
        unfold spinetlaw41_SymbolsPlays_j0
        rw [wrapS (by omega),h1]
        exact ih _ _ (hI.delNone hno) (by omega) hF
      · have hj:=(List.getElem?_eq_some_iff.1 hq).1
        have hj0:decide (0≤(j:Int))=true:=decide_eq_true (by omega)
        rw [hI.getS (List.mem_of_getElem? hq) hk,hj0,if_neg (by simp),if_pos rfl]
        have hln:ln m=(m.length:Int):=rfl
        rw [if_pos ⟨by omega,by omega⟩,wrapS (by omega),Int.toNat_natCast,Int.toNat_natCast]
        rw [if_pos (by simp; omega),if_pos ⟨by omega,by omega⟩,if_pos (by simp; omega)]
        unfold spinetlaw41_SymbolsPlays_j0
        rw [wrapS (by omega),h1,List.nil_append,List.drop_zero,Nat.sub_zero,List.take_of_length_le (l:=m.drop (j+1)) (by rw [List.length_drop]; omega)]
        have hI':=hI.del hq hk
        exact ih _ _ hI' (by simp; omega) fun q' hq'=>hF q' (by
          rcases List.mem_append.1 hq' with e | e
          · exact List.mem_of_mem_take e
          · exact List.mem_of_mem_drop e)
    · rw [if_neg hd,Option.bind_some]
      cases hr:rightB p.Name with
      | false =>
        rw [if_pos (by rfl),j1_is h1 h2 (by omega) hn (by omega) hpa (by rw [hr]; rfl),hr]
        exact ih _ _ hI (by omega) hF
      | true =>
        rw [if_neg (by decide)]
        rcases hxr with ⟨rfl,hno⟩ | ⟨j,q,rfl,hq,hk⟩
        · rw [if_pos (fun e=>by simp at e),if_pos (fun e=>by simp at e),if_neg (by simp),if_pos (by decide),if_pos h2,if_pos (by simp; omega)]
          have hs:symSet T p.Name p.At (rightB p.Name)=(0,symPut T p.Name p.At):=by unfold symSet; rw [hr,hI.getN hno]; rfl
          rw [j1_is h1 h2 (by omega) hn (by omega) hpa (by rw [hs]),hs]
          refine ih _ _ (hI.put hno) (by simp; omega) fun q' hq' => ?_
          rcases List.mem_append.1 hq' with e | e
          · exact hF q' e
          · have:q'=p:=by simpa using e
            exact this ▸ ⟨hn,hpa⟩
        · have hj:=(List.getElem?_eq_some_iff.1 hq).1
          have hj0:decide (0≤(j:Int))=true:=decide_eq_true (by omega)
          have hln:ln m=(m.length:Int):=rfl
          have hg:gt m (j:Int)=q:=gtAt hq
          have hS:=hI.getS (List.mem_of_getElem? hq) hk
          rw [if_pos (fun _=>⟨by omega,by omega⟩),if_pos (fun _=>h2),hj0,Bool.true_and,hg]
          by_cases ha:q.At=p.At
          · rw [if_neg (by simp [ha]),if_neg (fun e=>by have:=of_decide_eq_true e; omega)]
            have hs:symSet T p.Name p.At (rightB p.Name)=(0,symPut T p.Name p.At):=by unfold symSet; rw [hr,hS]; simp [ha]
            rw [j1_is h1 h2 (by omega) hn (by omega) hpa (by rw [hs]),hs]
            exact ih _ _ (hI.again hq hk ha) (by omega) hF
          · rw [if_pos (by simpa using ha)]
            have hs:symSet T p.Name p.At (rightB p.Name)=(41,T):=by unfold symSet; rw [hr,hS]; simp [ha]
            rw [j1_is h1 h2 (by omega) hn (by omega) hpa (by rw [hs]),hs]
            exact ih _ _ hI (by omega) hF
end Go.Proofs.YtaoomioogojfhaaK
