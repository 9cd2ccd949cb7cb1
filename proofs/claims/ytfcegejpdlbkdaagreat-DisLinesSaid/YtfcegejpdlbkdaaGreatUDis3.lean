/- The law DisTexts: texts. -/
import Derived.Test.YtfcegejpdlbkdaaGreatUDis2
namespace Go.Proofs.YtfcegejpdlbkdaaGreatK
set_option linter.unusedVariables false
set_option linter.unusedSimpArgs false
set_option maxHeartbeats 1000000
open Go.RowKit
attribute [local irreducible] dwv mops lops lqops lwops kont iter run runK rk okK ex E1 vals val chain chB sel resF
theorem post_f {p:Int} (h0:0≤p) (h1:p < 256):∃ P Q R,post_Of p=some P∧spinetref15_Of p=some Q∧ops_Reg P.Reg=some R∧spinetref13_Reg Q.Reg=some R∧R.size≤3∧P.Kind=Q.Kind∧0≤P.Kind∧P.Kind < 14∧P.Off=IntKind.wrap .u16 Q.Off∧0≤P.Off∧P.Off < 65536∧P.Indirect=Q.Indirect∧(P.Kind=11∨P.Kind=12→R=(⟨#[80,67]⟩:ByteArray)):=by
  obtain ⟨c,rfl,hc⟩:=upto pchk_all h0 h1
  unfold pchk at hc
  split at hc
  · rename_i P Q e1 e2
    split at hc
    · rename_i R R' e3 e4
      simp only [Bool.and_eq_true,decide_eq_true_eq,beq_iff_eq,Bool.or_eq_true,Bool.not_eq_true',Bool.or_eq_false_iff,beq_eq_false_iff_ne] at hc
      obtain ⟨⟨⟨⟨⟨⟨⟨⟨⟨a1,a2⟩,a3⟩,a4⟩,a5⟩,a6⟩,a7⟩,a8⟩,a9⟩,a10⟩:=hc
      refine ⟨P,Q,R,e1,e2,e3,by rw [a1]; exact e4,a2,a3,a4,a5,a6,a7,a8,a9,fun h => ?_⟩
      rcases a10 with ⟨b1,b2⟩ | b
      · omega
      · exact b
    · cases hc
  · cases hc
theorem idx_t {p v:Int} (h0:0≤p) (h1:p < 256) (v0:0≤v) (v1:v < 65536):∃ P X,post_Of p=some P∧dis_indexed P v=some X∧X.size≤60∧0 < X.size∧spinetref42_indexed p v=some (if P.Indirect=true then ((⟨#[91]⟩:ByteArray)++X)++(⟨#[93]⟩:ByteArray) else X):=by
  obtain ⟨P,Q,R,e1,e2,e3,e4,a2,a3,a4,a5,a6,a7,a8,a9,a10⟩:=post_f h0 h1
  obtain ⟨S0,s1,s2,s3,_⟩:=signed_t a7 a8
  obtain ⟨S,t1,t2,t3,_⟩:=signed_t v0 v1
  obtain ⟨W,u1,u2,u3,u4⟩:=word_t v0 v1
  have g:=gt_idx a2 s3 t3 u3 u4 a4 a5
  refine ⟨P,gt (idxT R S0 S W) P.Kind,e1,idx_dis a4 a5 e3 a2 s1 s3 t1 t3 u1 u3 a10,g.1,g.2,?_⟩
  rw [idx_ref v0 v1 e2 (by omega) (by omega) e4 a2 (by rw [← a6]; exact s2) s3 t2 t3 u2 u3 u4,a9,a3]
theorem regs_t {p:Int} (h0:0≤p) (h1:p < 256):∃ A C,dis_Reg (IntKind.wrap .i64 (Int.fdiv p (2 ^ (4))))=some A∧spinetref42_Reg (IntKind.wrap .i64 (IntKind.wrap .u8 (Int.tdiv p 16)))=some A∧dis_Reg (IntKind.wrap .i64 (bits .and .u8 p 15))=some C∧spinetref42_Reg (IntKind.wrap .i64 (Int.tmod p 16))=some C∧A.size≤20∧C.size≤20:=by
  obtain ⟨c,rfl,hc⟩:=upto rchk_all h0 h1
  unfold rchk at hc
  split at hc
  · rename_i a b c d e1 e2 e3 e4
    simp only [Bool.and_eq_true,decide_eq_true_eq] at hc
    obtain ⟨⟨⟨a1,a2⟩,a3⟩,a4⟩:=hc
    exact ⟨a,c,e1,by rw [a1]; exact e2,e3,by rw [a2]; exact e4,a3,a4⟩
  · cases hc
theorem dregs_is {s:Int} (h:s ≠ 3):lists_regs s=lists_regs 0:=by
  unfold lists_regs
  rw [if_neg (by simpa using h),if_neg (by decide)]
theorem list_t {p:Int} (h0:0≤p) (h1:p < 256) (st:Int):∃ A,lists_Text p st=some A∧spinetref42_list p (st == 3)=some A∧A.size≤40:=by
  have key:∀ s:Int,((List.range 256).all (lchk s))=true→∃ A,lists_Text p s=some A∧spinetref42_list p (s == 3)=some A∧A.size≤40:=by
    intro s hs
    obtain ⟨c,rfl,hc⟩:=upto hs h0 h1
    unfold lchk at hc
    split at hc
    · rename_i a b e1 e2
      simp only [Bool.and_eq_true,decide_eq_true_eq] at hc
      exact ⟨a,e1,by rw [hc.1]; exact e2,hc.2⟩
    · cases hc
  by_cases h:st=3
  · subst h; exact key 3 lchk_all3
  · obtain ⟨A,q1,q2,q3⟩:=key 0 lchk_all0
    have e:(st == 3)=((0:Int) == 3):=by
      rw [show ((0:Int) == 3)=false from rfl]; simpa using h
    refine ⟨A,?_,by rw [e]; exact q2,q3⟩
    unfold lists_Text at q1 ⊢
    rw [dregs_is h]
    exact q1
theorem name_t {e:api_Entry} (he:inTab e=true) (h0:e.Op ≠ 0):∃ N,ops_Name e.Op e.Reg=some N∧spinetref13_Name e.Op e.Reg=some N∧N.size≤40:=by
  have h:=nchk_all
  split at h
  · rename_i R hR
    have hq:=inTab_all (q:=nchk R) rfl h he
    unfold nchk at hq
    rw [Bool.or_eq_true] at hq
    rcases hq with hq | hq
    · exact absurd (eq_of_beq hq) h0
    · split at hq
      · rename_i a b e1 e2
        simp only [Bool.and_eq_true,decide_eq_true_eq] at hq
        refine ⟨a,e1,?_,hq.2⟩
        unfold spinetref13_Name
        rw [hR,Option.bind_some,e2,Option.bind_some,hq.1]
      · cases hq
  · cases h
theorem sure_t (i:api_Inst) (h0:0≤i.Post) (h1:i.Post < 256):∃ s,dis_Sure i=some s∧spinetref42_Sure i=some s∧(s=true→i.Entry.Op ≠ 0):=by
  by_cases ho:i.Entry.Op=0
  · refine ⟨false,?_,?_,by simp⟩
    · unfold dis_Sure
      rw [if_pos (by rw [ho]; rfl)]
    · unfold spinetref42_Sure
      rw [if_pos (by rw [ho]; rfl)]
  by_cases hm:i.Entry.Mode=4
  · obtain ⟨c,hc0,hc⟩:=upto schk_all h0 h1
    unfold schk at hc
    split at hc
    · rename_i P e1
      split at hc
      · rename_i cc e2
        have hc:=eq_of_beq hc
        refine ⟨(cc.2&&(cc.1 == i.Post)),?_,?_,fun _=>ho⟩
        · unfold dis_Sure
          rw [if_neg (by simpa using ho),if_neg (by rw [hm]; decide),hc0,e1,Option.bind_some,e2,Option.bind_some]
        · unfold spinetref42_Sure
          rw [if_neg (by simpa using ho),hc0,hc]
          by_cases hp:c < 128
          · rw [if_pos hp,if_pos (by rw [hm]; simp; omega)]
          · rw [if_neg hp,if_neg (by rw [hm]; simp; omega)]
            split <;> rfl
      · cases hc
    · cases hc
  · refine ⟨true,?_,?_,fun _=>ho⟩
    · unfold dis_Sure
      rw [if_neg (by simpa using ho),if_pos (by simpa using hm)]
    · unfold spinetref42_Sure
      rw [if_neg (by simpa using ho),if_pos (by rw [Bool.or_eq_true]; exact .inl (by simpa using hm))]
section
variable (i:api_Inst) (at_:Int) (b:List Int)
theorem opd_t (p0:0≤i.Post) (p1:i.Post < 256) (v0:0≤i.Value) (v1:i.Value < 65536) (m0:0≤i.Entry.Mode) (m1:i.Entry.Mode < 10) (h13:i.Entry.Mode=1∨i.Entry.Mode=3→i.Value < 256) (hs:spinetref42_Sure i=some true) :
    ∃ O,dis_operand i at_=some O∧O.size≤100∧spinetref42_Text i at_ b=spinetref42_Text_j2 i O:=by
  have wv:IntKind.wrap .i64 i.Value=i.Value:=wrap_i64 (by omega) (by omega)
  obtain ⟨W,w1,w2,w3,w4⟩:=word_t v0 v1
  have hm:i.Entry.Mode=0∨i.Entry.Mode=1∨i.Entry.Mode=2∨i.Entry.Mode=3∨i.Entry.Mode=4∨i.Entry.Mode=5∨(i.Entry.Mode=6∨i.Entry.Mode=7)∨i.Entry.Mode=8∨i.Entry.Mode=9:=by omega
  rcases hm with h | h | h | h | h | h | h | h | h
  · refine ⟨⟨#[]⟩,?_,by decide,?_⟩
    · unfold dis_operand dis_operand_j0
      repeat first
        | rw [if_neg (by rw [h]; decide)]
        | rw [if_pos (by rw [h]; decide)]
    · unfold spinetref42_Text spinetref42_Text_j1
      rw [hs,Option.bind_some,if_neg (show ¬ ((!true)=true) by simp)]
      repeat first
        | rw [if_neg (by rw [h]; decide)]
        | rw [if_pos (by rw [h]; decide)]
  · obtain ⟨B,q1,q2,q3⟩:=byte_t v0 (h13 (.inl h))
    have wl:octet_Low i.Value=some i.Value:=by unfold octet_Low; rw [wrap_u8 v0 (h13 (.inl h))]
    refine ⟨(⟨#[35]⟩:ByteArray)++B,?_,by simp only [sz_app,sz1]; omega,?_⟩
    · unfold dis_operand dis_operand_j0
      repeat first
        | rw [if_neg (by rw [h]; decide)]
        | rw [if_pos (by rw [h]; decide)]
      rw [wl,Option.bind_some,q1,Option.bind_some,if_pos (by simp only [sz1]; omega)]
    · unfold spinetref42_Text spinetref42_Text_j1
      rw [hs,Option.bind_some,if_neg (show ¬ ((!true)=true) by simp)]
      repeat first
        | rw [if_neg (by rw [h]; decide)]
        | rw [if_pos (by rw [h]; decide)]
      rw [wv,q2,Option.bind_some,if_pos (by simp only [sz1]; omega)]
  · refine ⟨(⟨#[35]⟩:ByteArray)++W,?_,by simp only [sz_app,sz1]; omega,?_⟩
    · unfold dis_operand dis_operand_j0
      repeat first
        | rw [if_neg (by rw [h]; decide)]
        | rw [if_pos (by rw [h]; decide)]
      rw [w1,Option.bind_some,if_pos (by simp only [sz1]; omega)]
    · unfold spinetref42_Text spinetref42_Text_j1
      rw [hs,Option.bind_some,if_neg (show ¬ ((!true)=true) by simp)]
      repeat first
        | rw [if_neg (by rw [h]; decide)]
        | rw [if_pos (by rw [h]; decide)]
      rw [wv,w2,Option.bind_some,if_pos (by simp only [sz1]; omega)]
  · obtain ⟨B,q1,q2,q3⟩:=byte_t v0 (h13 (.inr h))
    have wl:octet_Low i.Value=some i.Value:=by unfold octet_Low; rw [wrap_u8 v0 (h13 (.inr h))]
    refine ⟨(⟨#[60]⟩:ByteArray)++B,?_,by simp only [sz_app,sz1]; omega,?_⟩
    · unfold dis_operand dis_operand_j0
      repeat first
        | rw [if_neg (by rw [h]; decide)]
        | rw [if_pos (by rw [h]; decide)]
      rw [wl,Option.bind_some,q1,Option.bind_some,if_pos (by simp only [sz1]; omega)]
    · unfold spinetref42_Text spinetref42_Text_j1
      rw [hs,Option.bind_some,if_neg (show ¬ ((!true)=true) by simp)]
      repeat first
        | rw [if_neg (by rw [h]; decide)]
        | rw [if_pos (by rw [h]; decide)]
      rw [wv,q2,Option.bind_some,if_pos (by simp only [sz1]; omega)]
  · obtain ⟨P,X,e1,e2,e3,e4,e5⟩:=idx_t p0 p1 v0 v1
    refine ⟨(if P.Indirect=true then ((⟨#[91]⟩:ByteArray)++X)++(⟨#[93]⟩:ByteArray) else X),?_,by
      cases P.Indirect with
      | true=>rw [if_pos (show true=true from rfl)]; simp only [sz_app,sz1]; omega
      | false=>rw [if_neg (show ¬ (false=true) by simp)]; omega,?_⟩
    · unfold dis_operand dis_operand_j0
      repeat first
        | rw [if_neg (by rw [h]; decide)]
        | rw [if_pos (by rw [h]; decide)]
      rw [e1,Option.bind_some,e2,Option.bind_some]
      cases P.Indirect with
      | true=>rw [if_neg (show ¬ ((!true)=true) by simp),Option.bind_some,if_pos (by simp only [sz1]; omega),if_pos (by simp only [sz_app,sz1]; omega),if_pos (show true=true from rfl)]
      | false=>rw [if_pos (show (!false)=true by rfl),if_neg (show ¬ (false=true) by simp)]
    · unfold spinetref42_Text spinetref42_Text_j1
      rw [hs,Option.bind_some,if_neg (show ¬ ((!true)=true) by simp)]
      repeat first
        | rw [if_neg (by rw [h]; decide)]
        | rw [if_pos (by rw [h]; decide)]
      rw [e5,Option.bind_some]
  · refine ⟨(⟨#[62]⟩:ByteArray)++W,?_,by simp only [sz_app,sz1]; omega,?_⟩
    · unfold dis_operand dis_operand_j0
      repeat first
        | rw [if_neg (by rw [h]; decide)]
        | rw [if_pos (by rw [h]; decide)]
      rw [w1,Option.bind_some,if_pos (by simp only [sz1]; omega)]
    · unfold spinetref42_Text spinetref42_Text_j1
      rw [hs,Option.bind_some,if_neg (show ¬ ((!true)=true) by simp)]
      repeat first
        | rw [if_neg (by rw [h]; decide)]
        | rw [if_pos (by rw [h]; decide)]
      rw [wv,w2,Option.bind_some,if_pos (by simp only [sz1]; omega)]
  · have hx0:0≤IntKind.wrap .u16 ((IntKind.wrap .u16 (at_+(IntKind.wrap .u16 i.Len)))+i.Value)∧IntKind.wrap .u16 ((IntKind.wrap .u16 (at_+(IntKind.wrap .u16 i.Len)))+i.Value) < 65536:=by rw [wrap_u16m]; omega
    obtain ⟨T,t1,t2,t3,t4⟩:=word_t hx0.1 hx0.2
    have wx:IntKind.wrap .i64 (IntKind.wrap .u16 ((IntKind.wrap .u16 (at_+(IntKind.wrap .u16 i.Len)))+i.Value))=IntKind.wrap .u16 ((IntKind.wrap .u16 (at_+(IntKind.wrap .u16 i.Len)))+i.Value):=wrap_i64 (by omega) (by omega)
    have hg:inst_Target i at_=some (IntKind.wrap .u16 ((IntKind.wrap .u16 (at_+(IntKind.wrap .u16 i.Len)))+i.Value),true):=by
      unfold inst_Target inst_Next
      rw [if_neg (by rcases h with h | h <;> rw [h] <;> decide),Option.bind_some]
    refine ⟨T,?_,by omega,?_⟩
    · rcases h with h | h
      all_goals
        unfold dis_operand dis_operand_j0
        repeat first
          | rw [if_neg (by rw [h]; decide)]
          | rw [if_pos (by rw [h]; decide)]
        rw [hg,Option.bind_some,t1,Option.bind_some]
    · rcases h with h | h
      all_goals
        unfold spinetref42_Text spinetref42_Text_j1
        rw [hs,Option.bind_some,if_neg (show ¬ ((!true)=true) by simp)]
        repeat first
          | rw [if_neg (by rw [h]; decide)]
          | rw [if_pos (by rw [h]; decide)]
        rw [wx,t2,Option.bind_some]
  · obtain ⟨A,C,r1,r2,r3,r4,r5,r6⟩:=regs_t p0 p1
    refine ⟨((A++(⟨#[44]⟩:ByteArray))++C),?_,by simp only [sz_app,sz1]; omega,?_⟩
    · unfold dis_operand dis_operand_j0
      repeat first
        | rw [if_neg (by rw [h]; decide)]
        | rw [if_pos (by rw [h]; decide)]
      rw [r1,Option.bind_some,if_pos (by simp only [sz1]; omega),r3,Option.bind_some,if_pos (by simp only [sz_app,sz1]; omega)]
    · unfold spinetref42_Text spinetref42_Text_j1
      rw [hs,Option.bind_some,if_neg (show ¬ ((!true)=true) by simp)]
      repeat first
        | rw [if_neg (by rw [h]; decide)]
        | rw [if_pos (by rw [h]; decide)]
      rw [r2,Option.bind_some,if_pos (by simp only [sz1]; omega),r4,Option.bind_some,if_pos (by simp only [sz_app,sz1]; omega)]
  · obtain ⟨A,r1,r2,r3⟩:=list_t p0 p1 i.Entry.Reg
    refine ⟨A,?_,by omega,?_⟩
    · unfold dis_operand dis_operand_j0
      repeat first
        | rw [if_neg (by rw [h]; decide)]
        | rw [if_pos (by rw [h]; decide)]
      rw [r1,Option.bind_some]
    · unfold spinetref42_Text spinetref42_Text_j1
      rw [hs,Option.bind_some,if_neg (show ¬ ((!true)=true) by simp)]
      repeat first
        | rw [if_neg (by rw [h]; decide)]
        | rw [if_pos (by rw [h]; decide)]
      rw [r2,Option.bind_some]
end
end Go.Proofs.YtfcegejpdlbkdaaGreatK
