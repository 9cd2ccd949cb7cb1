/- The law DisSure, joined. -/
import Derived.Test.YtfcegejpdlbkdaaUDsc
namespace Go.Proofs.YtfcegejpdlbkdaaK
set_option linter.unusedVariables false
set_option linter.unusedSimpArgs false
set_option maxHeartbeats 1000000
open Go.RowKit
attribute [local irreducible] dwv mops lops lqops lwops kont iter run runK rk okK ex E1 vals val chain chB sel resF

/-- The text of an instruction that is sure. -/
theorem text_f {b : List Int} (hb : ∀ a ∈ b, okI .u8 a) (hl : b.length ≤ 20) (at_ : Int) (hs : dis_Sure (modI b) = some true) :
    ∃ N O T, ops_Name (modI b).Entry.Op (modI b).Entry.Reg = some N ∧ dis_operand (modI b) at_ = some O ∧ dis_Text (modI b) at_ = some T ∧ (modI b).Entry.Op ≠ 0 ∧ sbl T = if sbl O = [] then sbl N else sbl N ++ 32 :: sbl O := by
  have hp := modI_post hb
  have hm := modI_mode b
  have hv := modI_val hb
  obtain ⟨s, s1, s2, s3⟩ := sure_t (modI b) hp.1 hp.2
  rw [hs] at s1; cases s1
  obtain ⟨O, o1, o2, o3⟩ := opd_t (modI b) at_ (b.take (modI b).Len.toNat) hp.1 hp.2 hv.1 hv.2 hm.1 hm.2 (modI_one hb) s2
  obtain ⟨N, n1, n2, n3⟩ := name_t (modI_tab b) (s3 rfl)
  have e0 : sbl (⟨#[]⟩ : ByteArray) = [] := rfl
  have e32 : sbl (⟨#[32]⟩ : ByteArray) = [32] := rfl
  by_cases he : sbl O = []
  · have he' : (O.toList == (⟨#[]⟩ : ByteArray).toList) = true := by rw [teq, he, e0]; rfl
    refine ⟨N, O, N, n1, o1, ?_, s3 rfl, by rw [if_pos he]⟩
    unfold dis_Text
    rw [hs, n1, o1, Option.bind_some, if_neg (by simp), Option.bind_some, Option.bind_some, he', if_neg (by simp)]
  · have he' : (O.toList == (⟨#[]⟩ : ByteArray).toList) = false := by rw [teq, e0]; simpa using he
    refine ⟨N, O, (N ++ (⟨#[32]⟩ : ByteArray)) ++ O, n1, o1, ?_, s3 rfl, by rw [if_neg he, sbl_app, sbl_app, e32, List.append_assoc]; rfl⟩
    unfold dis_Text
    rw [hs, n1, o1, Option.bind_some, if_neg (by simp), Option.bind_some, Option.bind_some, he', if_pos (by rfl), if_pos (by rw [sz1]; omega), if_pos (by rw [sz_app, sz1]; omega)]

theorem sure4 {i : api_Inst} (hs : dis_Sure i = some true) (hm : i.Entry.Mode = 4) : ∃ P c, post_Of i.Post = some P ∧ post_Post_Code P = some c ∧ c.1 = i.Post := by
  unfold dis_Sure at hs
  split at hs
  · cases hs
  · rw [if_neg (by rw [hm]; decide)] at hs
    obtain ⟨P, h1, hs⟩ := Option.bind_eq_some_iff.1 hs
    obtain ⟨c, h2, hs⟩ := Option.bind_eq_some_iff.1 hs
    have hs := Option.some.inj hs
    simp only [Bool.and_eq_true, beq_iff_eq] at hs
    exact ⟨P, c, h1, h2, hs.2⟩

theorem sure_one {a b : List Int} (ha : ∀ x ∈ a, okI .u8 x) (hb : ∀ x ∈ b, okI .u8 x) (la : a.length ≤ 20) (lb : b.length ≤ 20) (at_ : Int) (sa : dis_Sure (modI a) = some true) (sb : dis_Sure (modI b) = some true) {T T' : ByteArray} (h : dis_Text (modI a) at_ = some T) (h' : dis_Text (modI b) at_ = some T') (e : sbl T = sbl T') : modI a = modI b := by
  obtain ⟨N, O, T1, n1, o1, t1, p1, q1⟩ := text_f ha la at_ sa
  obtain ⟨N', O', T1', n1', o1', t1', p1', q1'⟩ := text_f hb lb at_ sb
  rw [h] at t1; cases t1
  rw [h'] at t1'; cases t1'
  have nn := name_no (modI_tab a) n1
  have nn' := name_no (modI_tab b) n1'
  have hi := modI_ok ha
  have hk := modI_ok hb
  rw [q1, q1'] at e
  have hNO : sbl N = sbl N' ∧ sbl O = sbl O' := by
    by_cases z : sbl O = [] <;> by_cases z' : sbl O' = []
    · rw [if_pos z, if_pos z'] at e
      exact ⟨e, by rw [z, z']⟩
    · rw [if_pos z, if_neg z'] at e
      exact absurd (by rw [e]; simp) nn
    · rw [if_neg z, if_pos z'] at e
      exact absurd (by rw [← e]; simp) nn'
    · rw [if_neg z, if_neg z'] at e
      exact cut_inj nn nn' e
  obtain ⟨hN, hO⟩ := hNO
  have hN := sbl_inj hN
  subst hN
  rw [hi.ent] at n1 p1
  rw [hk.ent] at n1' p1'
  obtain ⟨g1, g2, g3, g4⟩ := names_i p1 p1' n1 n1'
  rw [← hi.ent, ← hk.ent] at g3 g4
  by_cases hm : (modI a).Entry.Mode = (modI b).Entry.Mode
  · obtain ⟨hp, hc⟩ := g3 hm
    obtain ⟨hpo, hva⟩ := opd_i hi hk hp hc o1 o1' hO (sure4 sa) (sure4 sb)
    exact inst_eq hi hk hp hc hpo hva
  · obtain ⟨r1, r2, r3, r4⟩ := g4 hm
    rcases Int.lt_or_gt_of_ne hm with hlt | hlt
    · exact absurd hO (opd_ne hi hk o1 o1' r1 r2 hlt r3)
    · exact absurd hO.symm (opd_ne hk hi o1' o1 r2 r1 hlt (fun q => r4 ⟨q.2, q.1⟩))

theorem disSure_true (a b : List Int) (at_ : Int) (ha : ∀ x ∈ a, okI .u8 x) (hla : a.length ≤ reachBytes) (hb : ∀ x ∈ b, okI .u8 x) (hlb : b.length ≤ reachBytes) : spinetlaw42_DisSure a b at_ = some true := by
  have sure_any : ∀ i : api_Inst, ∀ c : Bool, c = false → (if c = true then dis_Sure i else some default) = some default := fun i c hc => by rw [hc, if_neg (by simp)]
  unfold spinetlaw42_DisSure
  rw [ref18_big ha hla, ref18_big hb hlb, Option.bind_some, Option.bind_some]
  by_cases l1 : (20 : Int) < ln a
  · rw [decide_eq_true l1]
    simp only [Bool.true_or, Bool.not_true, Bool.false_eq_true, if_false, if_true, Option.bind_some]
  by_cases l2 : (20 : Int) < ln b
  · rw [decide_eq_true l2]
    simp only [Bool.or_true, Bool.true_or, Bool.not_true, Bool.false_eq_true, if_false, if_true, Option.bind_some]
  have d1 : decide ((20 : Int) < ln a) = false := decide_eq_false l1
  have d2 : decide ((20 : Int) < ln b) = false := decide_eq_false l2
  rw [d1, d2]
  by_cases s1 : (a.length : Int) < (modI a).Len
  · rw [if_pos s1]
    simp only [Bool.false_or, Bool.true_or, Bool.or_true, Bool.not_true, Bool.not_false, Bool.false_eq_true, if_false, if_true, Option.bind_some, alive42, Bool.or_self]
  by_cases s2 : (b.length : Int) < (modI b).Len
  · rw [if_pos s2]
    simp only [Bool.false_or, Bool.true_or, Bool.or_true, Bool.not_true, Bool.not_false, Bool.false_eq_true, if_false, if_true, Option.bind_some, alive42, Bool.or_self]
  rw [if_neg s1, if_neg s2]
  have la : a.length ≤ 20 := by simp only [ln] at l1; omega
  have lb : b.length ≤ 20 := by simp only [ln] at l2; omega
  obtain ⟨sa, T, a1, a2, a3, a4⟩ := text_t ha la (by omega) at_
  obtain ⟨sb, T', b1, b2, b3, b4⟩ := text_t hb lb (by omega) at_
  simp only [Bool.false_or, Bool.not_true, Bool.not_false, if_true, a1, Option.bind_some]
  cases sa with
  | false =>
    simp only [Bool.false_or, Bool.true_or, Bool.or_true, Bool.not_true, Bool.not_false, Bool.false_eq_true, if_false, if_true, Option.bind_some, alive42, Bool.or_self]
  | true =>
  simp only [Bool.false_or, Bool.not_true, Bool.not_false, if_true, b1, Option.bind_some]
  cases sb with
  | false =>
    simp only [Bool.false_or, Bool.true_or, Bool.or_true, Bool.not_true, Bool.not_false, Bool.false_eq_true, if_false, if_true, Option.bind_some, alive42, Bool.or_self]
  | true =>
  simp only [Bool.not_true, Bool.false_eq_true, if_false, a3, b3, Option.bind_some]
  have key : ((T.toList == T'.toList) == (((modI a).Page == (modI b).Page) && (((modI a).Code == (modI b).Code) && (((modI a).Entry.Op == (modI b).Entry.Op) && (((modI a).Entry.Mode == (modI b).Entry.Mode) && (((modI a).Entry.Reg == (modI b).Entry.Reg) && (((modI a).Post == (modI b).Post) && (((modI a).Value == (modI b).Value) && (((modI a).Len == (modI b).Len) && true))))))))) = true := by
    rw [teq]
    by_cases hi : modI a = modI b
    · rw [hi, b3] at a3
      cases a3
      rw [hi]
      simp
    · have ht : (sbl T == sbl T') = false := by
        rw [beq_eq_false_iff_ne]
        exact fun e => hi (sure_one ha hb la lb at_ a1 b1 a3 b3 e)
      rw [ht]
      cases hq : (((modI a).Page == (modI b).Page) && (((modI a).Code == (modI b).Code) && (((modI a).Entry.Op == (modI b).Entry.Op) && (((modI a).Entry.Mode == (modI b).Entry.Mode) && (((modI a).Entry.Reg == (modI b).Entry.Reg) && (((modI a).Post == (modI b).Post) && (((modI a).Value == (modI b).Value) && (((modI a).Len == (modI b).Len) && true)))))))) with
      | false => rfl
      | true =>
        simp only [Bool.and_eq_true, beq_iff_eq] at hq
        exact absurd (inst_eq (modI_ok ha) (modI_ok hb) hq.1 hq.2.1 hq.2.2.2.2.2.1 hq.2.2.2.2.2.2.1) hi
  rw [key, if_pos rfl, alive42, Option.bind_some, Bool.and_self]
end Go.Proofs.YtfcegejpdlbkdaaK
