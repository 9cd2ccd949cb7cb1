/- Numbers as digits: the program's are the reference's. -/
import Derived.Test.YtfcegejpdlbkdaaGreatUB
import Derived.Test.YtfcegejpdlbkdaaGreatF
namespace Go.Proofs.YtfcegejpdlbkdaaGreatK
set_option linter.unusedVariables false
set_option linter.unusedSimpArgs false
set_option maxHeartbeats 400000
open Go.RowKit
attribute [local irreducible] dwv mops lops lqops lwops kont iter run runK rk okK ex E1 vals val chain chB sel resF
/-- A digit's sign. -/
def dsg (n:Int):Int:=if n < 10 then 48+n else 55+n
theorem dsg_range {n:Int} (h0:0≤n) (h1:n < 16):0≤dsg n∧dsg n < 256:=by unfold dsg; split <;> omega
theorem dsign_is {n:Int} (h0:0≤n) (h1:n < 16):digit_sign n=some (dsg n):=by
  unfold digit_sign dsg
  by_cases h:n < 10
  · rw [if_pos (decide_eq_true h),if_pos h,wrap_u8 (by omega) (by omega)]
  · rw [if_neg (fun e=>h (of_decide_eq_true e)),if_neg h,wrap_u8 (n:=65+n) (by omega) (by omega),wrap_u8 (by omega) (by omega)]
    congr 1; omega
def hexS:ByteArray:=⟨#[48,49,50,51,52,53,54,55,56,57,65,66,67,68,69,70]⟩
theorem hex_all:((List.range 16).all fun d=>decide (hexS.extract d (d+1)=bs [dsg (d:Int)]))=true:=by decide +kernel
theorem hex_at {d:Nat} (h:d < 16):hexS.extract d (d+1)=bs [dsg (d:Int)]:=by simpa using List.all_eq_true.1 hex_all d (List.mem_range.2 h)
theorem dg_step {base:Int} (hb:base=10∨base=16) {n:Int} (h0:0≤n) (h1:n < 9223372036854775807) {s:ByteArray} (hs:s.size < 1000) {wd:Int} {k:Nat} (hc:(((decide (0 < n))||(decide ((sln s) < wd)))||(s.toList == (⟨#[]⟩:ByteArray).toList))=true) :
    spinetref02_Digits_l0 base wd (k+1) n s=spinetref02_Digits_l0 base wd k (n / base) (bs [dsg (n % base)]++s):=by
  have hb0:0 < base:=by omega
  have e1:Int.tmod n base=n % base:=Int.tmod_eq_emod_of_nonneg h0
  have e2:Int.tdiv n base=n / base:=Int.tdiv_eq_ediv_of_nonneg h0
  have m0:0≤n % base:=Int.emod_nonneg _ (by omega)
  have m1:n % base < 16:=by have:=Int.emod_lt_of_pos n hb0; omega
  have d0:0≤n / base:=Int.ediv_nonneg h0 (by omega)
  have d1:n / base≤n:=Int.ediv_le_self _ h0
  have w1:IntKind.wrap .i64 (n % base)=n % base:=wrap_i64 (by omega) (by omega)
  have w2:IntKind.wrap .i64 (n % base+1)=n % base+1:=wrap_i64 (by omega) (by omega)
  have w3:IntKind.wrap .u64 (n / base)=n / base:=wrap_u64 (by omega) (by omega)
  obtain ⟨d,hd⟩:∃ d:Nat,n % base=d:=⟨(n % base).toNat,by omega⟩
  have hd16:d < 16:=by omega
  have hz:sln (⟨#[48,49,50,51,52,53,54,55,56,57,65,66,67,68,69,70]⟩:ByteArray)=16:=rfl
  have hx:(⟨#[48,49,50,51,52,53,54,55,56,57,65,66,67,68,69,70]⟩:ByteArray).extract ((d:Int).toNat) (((d:Int)+1).toNat)=bs [dsg (d:Int)]:=by
    rw [Int.toNat_natCast,show ((d:Int)+1).toNat=d+1 by omega]
    exact hex_at hd16
  rw [spinetref02_Digits_l0,if_pos hc,if_pos (by omega),e1,w1,w2,e2,w3,hd,hz,if_pos ⟨by omega,by omega,by omega⟩,hx,if_pos (by rw [bs_size]; simp only [List.length_cons,List.length_nil]; omega),if_pos (by omega)]
theorem dg_stop {base:Int} {n:Int} {s:ByteArray} {wd:Int} {k:Nat} (hc:¬ (((decide (0 < n))||(decide ((sln s) < wd)))||(s.toList == (⟨#[]⟩:ByteArray).toList))=true):spinetref02_Digits_l0 base wd (k+1) n s=some s:=by
  rw [spinetref02_Digits_l0,if_neg hc]
theorem empty_is (s:ByteArray):(s.toList == (⟨#[]⟩:ByteArray).toList)=decide (s.size=0):=by
  rw [teq,← sbl_len]
  have e0:sbl (⟨#[]⟩:ByteArray)=[]:=rfl
  rw [e0]
  cases sbl s <;> simp
theorem set_drop {l:List Int} {j:Nat} (hj:j < l.length) (x:Int):(l.set j x).drop j=x::l.drop (j+1):=by
  have:=List.drop_eq_getElem_cons (l:=l.set j x) (i:=j) (by simpa using hj)
  rw [this,List.getElem_set_self,List.drop_set_of_lt (by omega)]
/-- What is written from the end on is what is put ahead. -/
theorem dec_both:∀ (i k:Nat) (l:List Int) (n:Int) (s:ByteArray),i≤20→i < k→l.length=20→s.size=20 - i→sbl s=l.drop i→0≤n→n < 9223372036854775807→n < 10 ^ i →
    ∃ l' i' S,digit_Dec_l0 k l n (i:Int)=some (l',i')∧spinetref02_Digits_l0 10 1 k n s=some S∧0≤i'∧i'≤20∧bs ((l'.drop i'.toNat).take (20 - i'.toNat))=S∧S.size≤20∧0 < S.size
  | i,0,_,_,_,_,hk,_,_,_,_,_,_=>by omega
  | i,k+1,l,n,s,hi,hk,hl,hs,hd,h0,h1,hp=>by
    by_cases hc:0 < n∨i=20
    · match i,hi,hk,hs,hd,hp,hc with
      | 0,_,_,_,_,hp,hc=>simp at hp; omega
      | j+1,hi,hk,hs,hd,hp,hc =>
        have w1:IntKind.wrap .i64 (((j+1:Nat):Int) - 1)=(j:Int):=by rw [wrap_i64 (by omega) (by omega)]; omega
        have e1:Int.tmod n 10=n % 10:=Int.tmod_eq_emod_of_nonneg h0
        have e2:Int.tdiv n 10=n / 10:=Int.tdiv_eq_ediv_of_nonneg h0
        have w2:IntKind.wrap .u8 (n % 10)=n % 10:=wrap_u8 (by omega) (by omega)
        have w3:IntKind.wrap .u64 (n / 10)=n / 10:=wrap_u64 (by omega) (by omega)
        have hc1:(((decide (0 < n))||(decide ((sln s) < 1)))||(s.toList == (⟨#[]⟩:ByteArray).toList))=true:=by
          rcases hc with hc | hc
          · simp [hc]
          · have:s.size=0:=by omega
            rw [empty_is]; simp [this]
        have hsz:(bs [dsg (n % 10)]++s).size=20 - j:=by
          rw [← sbl_len,sbl_app,List.length_append,sbl_len,sbl_len,bs_size]; simp only [List.length_cons,List.length_nil]; omega
        have hd2:sbl (bs [dsg (n % 10)]++s)=(st l (j:Int) (dsg (n % 10))).drop j:=by
          rw [sbl_app,sbl_bs (by intro y hy; simp at hy; subst hy; exact dsg_range (by omega) (by omega)),hd]
          unfold st
          rw [Int.toNat_natCast,set_drop (by omega)]
          rfl
        obtain ⟨l',i',S,q1,q2,q⟩:=dec_both j k (st l (j:Int) (dsg (n % 10))) (n / 10) (bs [dsg (n % 10)]++s) (by omega) (by omega) (by simp [st,hl]) hsz hd2 (by omega) (by omega) (by rw [Int.pow_succ] at hp; omega)
        refine ⟨l',i',S,?_,?_,q⟩
        · rw [digit_Dec_l0,if_pos (by
            rcases hc with hc | hc
            · simp [hc]
            · simp [hc]),e1,w2,dsign_is (by omega) (by omega),Option.bind_some,w1,if_pos ⟨by omega,by omega⟩,e2,w3,q1]
        · rw [dg_step (.inl rfl) h0 h1 (by omega) hc1,q2]
    · have hn:n=0:=by omega
      have hi2:i < 20:=by omega
      subst hn
      refine ⟨l,(i:Int),s,?_,?_,by omega,by omega,?_,by omega,by omega⟩
      · rw [digit_Dec_l0,if_neg (fun e=>by
          rw [Bool.or_eq_true] at e
          rcases e with e | e
          · have:=of_decide_eq_true e; omega
          · have:=eq_of_beq e; omega)]
      · refine dg_stop ?_
        rw [empty_is]
        unfold sln
        intro e
        rw [Bool.or_eq_true,Bool.or_eq_true] at e
        rcases e with (e | e) | e
        · have:=of_decide_eq_true e; omega
        · have:=of_decide_eq_true e; omega
        · have:=of_decide_eq_true e; omega
      · rw [Int.toNat_natCast,List.take_of_length_le (by rw [List.length_drop]; omega),← hd,bs_sbl]
theorem dec_is {n:Int} (h0:0≤n) (h1:n < 9223372036854775807):∃ S,digit_Dec n=some S∧spinetref02_Digits n 10 1=some S∧S.size≤20∧0 < S.size:=by
  obtain ⟨l',i',S,q1,q2,a,b,c,d,e⟩:=dec_both 20 BIG [0,0,0,0,0,0,0,0,0,0,0,0,0,0,0,0,0,0,0,0] n ⟨#[]⟩ (Nat.le_refl _) (by unfold BIG; omega) rfl rfl rfl h0 h1 (by omega)
  refine ⟨S,?_,?_,d,e⟩
  · unfold digit_Dec
    rw [show (20:Int)=((20:Nat):Int) from rfl,q1,Option.bind_some]
    simp only
    rw [if_pos ⟨a,b⟩,c]
  · unfold spinetref02_Digits
    rw [q2]; rfl
theorem and15 {n:Int} (h0:0≤n) (h1:n < 18446744073709551616):bits .and .u64 n 15=n % 16:=by
  have:=bits_mask .u64 64 (by decide) (fun n h h'=>wrap_u64 h h') 4 (by decide) n h0 h1
  exact this
theorem hex_both {wd:Nat} (hw:wd≤16) (hw1:1≤wd):∀ (i k:Nat) (l:List Int) (n:Int) (s:ByteArray),i≤16→i < k→l.length=16→s.size=16 - i→sbl s=l.drop i→0≤n→n < 9223372036854775807→n < 16 ^ i →
    ∃ l' i' S,digit_Hex_l0 (wd:Int) k l n (i:Int)=some (l',i')∧spinetref02_Digits_l0 16 (wd:Int) k n s=some S∧0≤i'∧i'≤16∧bs ((l'.drop i'.toNat).take (16 - i'.toNat))=S∧S.size≤16∧0 < S.size
  | i,0,_,_,_,_,hk,_,_,_,_,_,_=>by omega
  | i,k+1,l,n,s,hi,hk,hl,hs,hd,h0,h1,hp=>by
    have hwd:(if (16:Int) < (wd:Int) then (16:Int) else (wd:Int))=(wd:Int):=by rw [if_neg (by omega)]
    have w0:IntKind.wrap .i64 (16 - (i:Int))=16 - (i:Int):=wrap_i64 (by omega) (by omega)
    by_cases hc:0 < n∨16 - i < wd
    · match i,hi,hk,hs,hd,hp,hc,w0 with
      | 0,_,_,_,_,hp,hc,_=>simp at hp; omega
      | j+1,hi,hk,hs,hd,hp,hc,w0 =>
        have w1:IntKind.wrap .i64 (((j+1:Nat):Int) - 1)=(j:Int):=by rw [wrap_i64 (by omega) (by omega)]; omega
        have w2:IntKind.wrap .u8 (n % 16)=n % 16:=wrap_u8 (by omega) (by omega)
        have e2:Int.fdiv n (2 ^ 4)=n / 16:=by rw [Int.fdiv_eq_ediv_of_nonneg _ (by decide)]; rfl
        have hc1:(((decide (0 < n))||(decide ((sln s) < (wd:Int))))||(s.toList == (⟨#[]⟩:ByteArray).toList))=true:=by
          rcases hc with hc | hc
          · simp [hc]
          · have:sln s < (wd:Int):=by unfold sln; omega
            simp [this]
        have hsz:(bs [dsg (n % 16)]++s).size=16 - j:=by
          rw [← sbl_len,sbl_app,List.length_append,sbl_len,sbl_len,bs_size]; simp only [List.length_cons,List.length_nil]; omega
        have hd2:sbl (bs [dsg (n % 16)]++s)=(st l (j:Int) (dsg (n % 16))).drop j:=by
          rw [sbl_app,sbl_bs (by intro y hy; simp at hy; subst hy; exact dsg_range (by omega) (by omega)),hd]
          unfold st
          rw [Int.toNat_natCast,set_drop (by omega)]
          rfl
        obtain ⟨l',i',S,q1,q2,q⟩:=hex_both hw hw1 j k (st l (j:Int) (dsg (n % 16))) (n / 16) (bs [dsg (n % 16)]++s) (by omega) (by omega) (by simp [st,hl]) hsz hd2 (by omega) (by omega) (by rw [Int.pow_succ] at hp; omega)
        refine ⟨l',i',S,?_,?_,q⟩
        · rw [digit_Hex_l0,w0,hwd,if_pos (by
            rcases hc with hc | hc
            · simp [hc]
            · rw [Bool.or_eq_true]
              exact .inr (decide_eq_true (by omega))),and15 h0 (by omega),w2,dsign_is (by omega) (by omega),Option.bind_some,w1,if_pos ⟨by omega,by omega⟩,e2,q1]
        · rw [dg_step (.inr rfl) h0 h1 (by omega) hc1,q2]
    · have hn:n=0:=by omega
      have hi2:i < 16:=by omega
      subst hn
      refine ⟨l,(i:Int),s,?_,?_,by omega,by omega,?_,by omega,by omega⟩
      · rw [digit_Hex_l0,w0,hwd,if_neg (fun e=>by
          rw [Bool.or_eq_true,Bool.or_eq_true] at e
          rcases e with (e | e) | e
          · have:=of_decide_eq_true e; omega
          · have:=eq_of_beq e; omega
          · have:=of_decide_eq_true e; omega)]
      · refine dg_stop ?_
        rw [empty_is]
        unfold sln
        intro e
        rw [Bool.or_eq_true,Bool.or_eq_true] at e
        rcases e with (e | e) | e
        · have:=of_decide_eq_true e; omega
        · have:=of_decide_eq_true e; omega
        · have:=of_decide_eq_true e; omega
      · rw [Int.toNat_natCast,List.take_of_length_le (by rw [List.length_drop]; omega),← hd,bs_sbl]
theorem hex_is {n:Int} (h0:0≤n) (h1:n < 9223372036854775807) {wd:Nat} (hw:wd≤16) (hw1:1≤wd):∃ S,digit_Hex n (wd:Int)=some S∧spinetref02_Digits n 16 (wd:Int)=some S∧S.size≤16∧0 < S.size:=by
  obtain ⟨l',i',S,q1,q2,a,b,c,d,e⟩:=hex_both hw hw1 16 BIG [0,0,0,0,0,0,0,0,0,0,0,0,0,0,0,0] n ⟨#[]⟩ (Nat.le_refl _) (by unfold BIG; omega) rfl rfl rfl h0 h1 (by omega)
  refine ⟨S,?_,?_,d,e⟩
  · unfold digit_Hex
    rw [show (16:Int)=((16:Nat):Int) from rfl,q1,Option.bind_some]
    simp only
    rw [if_pos ⟨a,b⟩,c]
  · unfold spinetref02_Digits
    rw [q2]; rfl
theorem pair_all:((List.range 256).all fun c=>match digit_Pairs [(c:Int)],spinetref02_Digits (c:Int) 16 2 with | some a,some b=>decide (a=b)&&decide (a.size=2) | _,_=>false)=true:=by decide +kernel
theorem pair_is {x:Int} (h0:0≤x) (h1:x < 256):∃ S,digit_Pairs [x]=some S∧spinetref02_Digits x 16 2=some S∧S.size=2:=by
  obtain ⟨c,rfl⟩:=Int.eq_ofNat_of_zero_le h0
  have:=List.all_eq_true.1 pair_all c (by simp; omega)
  revert this
  cases h2:digit_Pairs [(c:Int)] with
  | none=>simp
  | some a =>
    cases h3:spinetref02_Digits (c:Int) 16 2 with
    | none=>simp
    | some b =>
      intro h
      simp at h
      exact ⟨a,rfl,by rw [h.1],h.2⟩
end Go.Proofs.YtfcegejpdlbkdaaGreatK
