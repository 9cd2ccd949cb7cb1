/- May a name be: both say the same. The table and the row, name by name. No program in sight. -/
import Derived.Test.YtaoomioogojfhaaUSyma
namespace Go.Proofs.YtaoomioogojfhaaK
set_option linter.unusedVariables false
set_option linter.unusedSimpArgs false
open Go.RowKit
def letB (c:Int):Bool:=((((decide (65≤c))&&(decide (c≤90)))||((decide (97≤c))&&(decide (c≤122))))||(c == 95))||(c == 46)
def okc (c:Int):Bool:=letB c||!(decide (c < 48)||decide (57 < c))
theorem letter_is (c:Int):spinetref41_Letter c=some (letB c):=by
  unfold spinetref41_Letter letB
  congr 1
  cases (((decide (65≤c))&&(decide (c≤90)))||((decide (97≤c))&&(decide (c≤122)))) <;> cases (c == 46) <;> cases (c == 95) <;> rfl
theorem rl_is (s:ByteArray):∀ (r:List Int) (i k:Nat),(sbl s).drop i=r→1≤i→i+r.length≤1000→symbols_Right_l0 s (k+r.length+1) i=some (if r.all okc=true then .go () else .ret false)
  | [],i,k,h,hi,hm=>by
    unfold symbols_Right_l0
    rw [if_neg (fun e=>btNil h (of_decide_eq_true e))]; rfl
  | c::r,i,k,h,hi,hm=>by
    obtain ⟨h1,h2,_,h3⟩:=btCons h
    have e:k+(c::r).length+1=(k+r.length+1)+1:=by simp; omega
    rw [e]
    unfold symbols_Right_l0
    rw [if_pos (decide_eq_true h2.2),if_pos h2,h1]
    have e0:(((i:Nat):Int) == 0)=false:=by simp; omega
    rw [e0]
    have e1:((!((((decide (65≤c))&&(decide (c≤90)))||((decide (97≤c))&&(decide (c≤122))))||(c == 95)||(c == 46)))&&((false||(decide (c < 48)))||(decide (57 < c))))=!(okc c):=by
      unfold okc letB
      cases ((((decide (65≤c))&&(decide (c≤90)))||((decide (97≤c))&&(decide (c≤122))))||(c == 95)||(c == 46)) <;> cases decide (c < 48) <;> cases decide (57 < c) <;> rfl
    rw [e1,List.all_cons]
    simp only [List.length_cons] at hm
    cases hk:okc c with
    | false=>rw [if_pos (by rfl),if_neg (by simp)]
    | true=>rw [if_neg (by simp),wrapS (by omega),rl_is s r (i+1) k h3 (by omega) (by omega)]; rfl
theorem rr_is (s:ByteArray):∀ (r:List Int) (i k:Nat),(sbl s).drop i=r→i+r.length≤1000→spinetref41_Right_l0 s (k+r.length+1) i=some (if r.all okc=true then .go () else .ret false)
  | [],i,k,h,hm=>by
    unfold spinetref41_Right_l0
    rw [if_neg (fun e=>btNil h (of_decide_eq_true e))]; rfl
  | c::r,i,k,h,hm=>by
    obtain ⟨h1,h2,_,h3⟩:=btCons h
    have e:k+(c::r).length+1=(k+r.length+1)+1:=by simp; omega
    rw [e]
    unfold spinetref41_Right_l0
    rw [if_pos (decide_eq_true h2.2),if_pos h2,h1,letter_is,Option.bind_some,if_pos (fun _=>h2),if_pos (fun _=>h2)]
    have e1:((!(letB c))&&((decide (c < 48))||(decide (57 < c))))=!(okc c):=by
      unfold okc
      cases letB c <;> cases decide (c < 48) <;> cases decide (57 < c) <;> rfl
    rw [e1,List.all_cons]
    simp only [List.length_cons] at hm
    cases hk:okc c with
    | false=>rw [if_pos (by rfl),if_neg (by simp)]
    | true=>rw [if_neg (by simp),wrapS (by omega),rr_is s r (i+1) k h3 (by omega)]; rfl
def rightB (s:ByteArray):Bool:=match sbl s with
  | []=>false
  | c::r=>(letB c&&r.all okc)&&decide ((c::r).length≤16)
theorem right_is (s:ByteArray) (hs:s.size≤900):symbols_Right s=some (rightB s):=by
  have hl:=sbl_len s
  have hsl:=sblLen s
  obtain ⟨k,hk⟩:=bigS (sbl s).length (by omega)
  unfold symbols_Right rightB
  rw [hk]
  cases hb:sbl s with
  | nil =>
    have h:(sbl s).drop 0=[]:=by rw [hb]; rfl
    rw [hb] at hsl
    have e:symbols_Right_l0 s (k+([]:List Int).length+1) 0=some (.go ()):=by
      unfold symbols_Right_l0
      have hn:¬ (0:Int) < sln s:=btNil h
      rw [if_neg (fun e=>hn (of_decide_eq_true e))]
    rw [e,Option.bind_some,← hsl]
    rfl
  | cons c r =>
    have h:(sbl s).drop 0=c::r:=by rw [hb]; rfl
    obtain ⟨h1,h2,_,h3⟩:=btCons h
    rw [hb] at hsl hl
    simp only [List.length_cons] at hl hsl
    show _=some ((letB c&&r.all okc)&&decide ((c::r).length≤16))
    have e:symbols_Right_l0 s (k+(c::r).length+1) 0=some (if (letB c&&r.all okc)=true then .go () else .ret false):=by
      rw [show k+(c::r).length+1=(k+r.length+1)+1 by simp; omega]
      unfold symbols_Right_l0
      have h1:bt s 0=c:=h1
      have h2:0≤(0:Int)∧(0:Int) < sln s:=h2
      rw [if_pos (decide_eq_true h2.2),if_pos h2,h1]
      have e1:((!((((decide (65≤c))&&(decide (c≤90)))||((decide (97≤c))&&(decide (c≤122))))||(c == 95)||(c == 46)))&&((((0:Int) == 0)||(decide (c < 48)))||(decide (57 < c))))=!(letB c):=by
        rw [show ((0:Int) == 0)=true from rfl]; unfold letB; simp
      rw [e1]
      cases hk:letB c with
      | false=>rw [if_pos (by rfl),if_neg (by simp)]
      | true=>rw [if_neg (by simp),show IntKind.wrap .i64 (0+1)=((1:Nat):Int) by decide +kernel,rl_is s r 1 k h3 (by omega) (by omega)]; rfl
    rw [e]
    cases hg:(letB c&&r.all okc) with
    | false=>rw [Bool.false_and]; rfl
    | true =>
      rw [if_pos rfl,Option.bind_some,← hsl]
      simp only [List.length_cons,Bool.true_and]
      congr 1
      rw [Bool.eq_iff_iff]
      simp only [Bool.and_eq_true,decide_eq_true_eq]
      omega
theorem rightR_is (s:ByteArray) (hs:s.size≤900):spinetref41_Right s=some (rightB s):=by
  have hl:=sbl_len s
  have hsl:=sblLen s
  unfold spinetref41_Right rightB
  cases hb:sbl s with
  | nil =>
    rw [hb] at hsl
    have e:sln s=0:=hsl.symm
    rw [e]
    rfl
  | cons c r =>
    have h:(sbl s).drop 0=c::r:=by rw [hb]; rfl
    obtain ⟨h1,h2,_,h3⟩:=btCons h
    have h1:bt s 0=c:=h1
    have h2:0≤(0:Int)∧(0:Int) < sln s:=h2
    rw [hb] at hsl hl
    simp only [List.length_cons] at hl hsl
    rw [if_pos (fun _=>h2),h1,letter_is]
    show _=some ((letB c&&r.all okc)&&decide ((c::r).length≤16))
    have h16:(decide (sln s < 1)||decide (16 < sln s))=!(decide ((c::r).length≤16)):=by
      rw [Bool.eq_iff_iff]
      simp
      omega
    rw [h16]
    cases hd:decide ((c::r).length≤16) with
    | false=>rw [Bool.and_false]; rfl
    | true =>
      simp only [Bool.not_true,Bool.not_false,if_true,Option.bind_some,Bool.false_or,Bool.and_true]
      cases hL:letB c with
      | false=>rfl
      | true =>
        rw [if_neg (by simp)]
        obtain ⟨k,hk⟩:=bigS r.length (by omega)
        rw [hk,show (1:Int)=((1:Nat):Int) from rfl,rr_is s r 1 k h3 (by omega)]
        cases r.all okc <;> rfl
end Go.Proofs.YtaoomioogojfhaaK
