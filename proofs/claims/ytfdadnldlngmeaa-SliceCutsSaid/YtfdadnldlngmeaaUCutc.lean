/- Any trace, cut into parts: the law. -/
import Derived.Test.YtfdadnldlngmeaaUCutb
namespace Go.Proofs.YtfdadnldlngmeaaK
set_option linter.unusedVariables false
set_option linter.unusedSimpArgs false
set_option maxHeartbeats 400000
open Go.RowKit
attribute [local irreducible] dwv mops lops lqops lwops kont iter run runK rk okK ex E1 vals val chain chB sel resF

def ends (x : api_Rec) : Bool := x.Mine && x.LIC
def cutR : List slice_Part → List api_Rec → List api_Rec → List slice_Part × List api_Rec
  | out, now, [] => (out, now)
  | out, now, x :: r => if ends x then cutR (out ++ [⟨now ++ [x], true⟩]) [] r else cutR out (now ++ [x]) r

theorem cut_loop (l : List api_Rec) (hl : l.length ≤ 1000) : ∀ (r : List api_Rec) (i k : Nat) (out : List slice_Part) (now : List api_Rec), l.drop i = r → r.length < k → out.length ≤ i → now.length ≤ i →
    slice_Cut_l0 l k out now (i : Int) = some (cutR out now r)
  | _, _, 0, _, _, _, hk, _, _ => by omega
  | [], i, k + 1, out, now, hd, _, _, _ => by rw [slice_Cut_l0, if_neg (fun e => gtNil hd (of_decide_eq_true e))]; rfl
  | x :: r, i, k + 1, out, now, hd, hk, ho, hn => by
    obtain ⟨g1, g2, g3⟩ := gtCons hd
    have hi := (dropAt hd).2.2
    simp only [List.length_cons] at hk
    rw [slice_Cut_l0, if_pos (decide_eq_true g2.2), if_pos g2, g1, wrapS (n := i) (by omega), if_pos (by simp only [List.length_cons, List.length_nil]; omega)]
    by_cases h : (x.Mine && x.LIC) = true
    · rw [if_pos h, if_pos (by simp only [List.length_cons, List.length_nil]; omega), cut_loop l hl r (i + 1) k _ _ g3 (by omega) (by simp; omega) (by simp)]
      rw [cutR, if_pos (show ends x = true from h)]
    · rw [if_neg h, cut_loop l hl r (i + 1) k _ _ g3 (by omega) (by omega) (by simp; omega)]
      rw [cutR, if_neg (show ¬ ends x = true from h)]

structure PartOk (p : slice_Part) : Prop where
  some_ : p.Recs ≠ []
  ends_ : ∀ (k : Nat) (x : api_Rec), p.Recs[k]? = some x → ends x = (p.Ended && decide (k + 1 = p.Recs.length))
def recsOf (ps : List slice_Part) : List api_Rec := (ps.map fun p => p.Recs).flatten

theorem cut_inv : ∀ (r : List api_Rec) (out : List slice_Part) (now done : List api_Rec), (∀ p ∈ out, PartOk p ∧ p.Ended = true) → (∀ x ∈ now, ends x = false) → recsOf out ++ now = done →
    (∀ p ∈ (cutR out now r).1, PartOk p ∧ p.Ended = true) ∧ (∀ x ∈ (cutR out now r).2, ends x = false) ∧ recsOf (cutR out now r).1 ++ (cutR out now r).2 = done ++ r
  | [], out, now, done, h1, h2, h3 => ⟨h1, h2, by rw [List.append_nil]; exact h3⟩
  | x :: r, out, now, done, h1, h2, h3 => by
    have hdone : done ++ x :: r = (done ++ [x]) ++ r := by simp
    rw [cutR, hdone]
    by_cases h : ends x = true
    · rw [if_pos h]
      refine cut_inv r _ _ _ (fun p hp => ?_) (by simp) (by rw [← h3]; simp [recsOf])
      rcases List.mem_append.1 hp with hp | hp
      · exact h1 p hp
      · simp only [List.mem_singleton] at hp; subst hp
        refine ⟨⟨by simp, fun k y hy => ?_⟩, rfl⟩
        show ends y = (true && decide (k + 1 = (now ++ [x]).length))
        have hy : (now ++ [x])[k]? = some y := hy
        simp only [Bool.true_and, List.length_append, List.length_cons, List.length_nil, Nat.zero_add]
        by_cases hk : k < now.length
        · rw [List.getElem?_append_left hk] at hy
          rw [h2 y (List.mem_of_getElem? hy), eq_comm, decide_eq_false_iff_not]; omega
        · rw [List.getElem?_append_right (by omega)] at hy
          have hk0 : k - now.length = 0 := by
            rcases Nat.eq_zero_or_pos (k - now.length) with e | e
            · exact e
            · rw [List.getElem?_eq_none (by simp; omega)] at hy; simp at hy
          rw [hk0] at hy; simp at hy; subst hy
          rw [h, eq_comm, decide_eq_true_eq]; omega
    · rw [if_neg h]
      refine cut_inv r _ _ _ h1 (fun y hy => ?_) (by rw [← h3]; simp)
      rcases List.mem_append.1 hy with hy | hy
      · exact h2 y hy
      · simp only [List.mem_singleton] at hy; subst hy; simpa using h

/-- What Cut answers. -/
theorem cut_is (l : List api_Rec) (hl : l.length ≤ 1000) : ∃ ps, slice_Cut l = some ps ∧ (∀ (i : Nat) (p : slice_Part), ps[i]? = some p → PartOk p ∧ (p.Ended = false → i + 1 = ps.length)) ∧ recsOf ps = l ∧ ps.length ≤ 1001 := by
  obtain ⟨h1, h2, h3⟩ := cut_inv l [] [] [] (by simp) (by simp) rfl
  rw [List.nil_append] at h3
  have hlo : ∀ ps : List slice_Part, (∀ p ∈ ps, PartOk p) → ps.length ≤ (recsOf ps).length := by
    intro ps
    induction ps with
    | nil => intro _; exact Nat.le_refl _
    | cons p r ih =>
      intro h
      have := ih fun q hq => h q (List.mem_cons_of_mem _ hq)
      have hp := (h p (List.mem_cons_self ..)).some_
      have : 0 < p.Recs.length := List.length_pos_iff.2 hp
      simp only [recsOf, List.map_cons, List.flatten_cons, List.length_append, List.length_cons] at *
      omega
  generalize hc : cutR [] [] l = c at h1 h2 h3
  obtain ⟨out, now⟩ := c
  simp only at h1 h2 h3
  have hol := hlo out fun p hp => (h1 p hp).1
  have hfl : (recsOf out).length + now.length = l.length := by rw [← h3, List.length_append]
  have hC : slice_Cut_l0 l BIG [] [] 0 = some (out, now) := by
    rw [← hc]; exact cut_loop l hl l 0 BIG [] [] rfl (by unfold BIG; omega) (by simp) (by simp)
  by_cases hn : now = []
  · refine ⟨out, ?_, fun i p hp => ⟨(h1 p (List.mem_of_getElem? hp)).1, fun e => by rw [(h1 p (List.mem_of_getElem? hp)).2] at e; simp at e⟩, by rw [← h3, hn, List.append_nil], by omega⟩
    unfold slice_Cut
    rw [hC, Option.bind_some]
    simp only
    rw [if_neg (by rw [hn]; decide)]
  · have hpos : 0 < now.length := List.length_pos_iff.2 hn
    refine ⟨out ++ [⟨now, false⟩], ?_, fun i p hp => ?_, by rw [← h3]; simp [recsOf], by simp; omega⟩
    · unfold slice_Cut
      rw [hC, Option.bind_some]
      simp only
      rw [if_pos (decide_eq_true (by unfold ln; omega)), if_pos (by simp only [List.length_cons, List.length_nil]; omega)]
    · by_cases hi : i < out.length
      · rw [List.getElem?_append_left hi] at hp
        have := h1 p (List.mem_of_getElem? hp)
        exact ⟨this.1, fun e => by rw [this.2] at e; simp at e⟩
      · rw [List.getElem?_append_right (by omega)] at hp
        have hk0 : i - out.length = 0 := by
          rcases Nat.eq_zero_or_pos (i - out.length) with e | e
          · exact e
          · rw [List.getElem?_eq_none (by simp; omega)] at hp; simp at hp
        rw [hk0] at hp; simp at hp; subst hp
        refine ⟨⟨hn, fun k x hx => ?_⟩, fun _ => by simp; omega⟩
        show ends x = (false && _)
        rw [h2 x (List.mem_of_getElem? hx), Bool.false_and]

theorem law_inner (ps : List slice_Part) (i : Int) (p : slice_Part) (hp : gt ps i = p) (hok : PartOk p) (hl : p.Recs.length ≤ 1000) : ∀ (r : List api_Rec) (j k : Nat), p.Recs.drop j = r → r.length < k →
    ∃ q, spinetlaw48_SliceCuts_l3 ps i k (j : Int) = some (.go q)
  | _, _, 0, _, hk => by omega
  | [], j, k + 1, hd, _ => by
    refine ⟨((j : Int), (j : Int), decide ((j : Int) < ln p.Recs)), ?_⟩
    rw [spinetlaw48_SliceCuts_l3, hp, if_neg (fun e => gtNil hd (of_decide_eq_true e))]
  | x :: r, j, k + 1, hd, hk => by
    obtain ⟨g1, g2, g3⟩ := gtCons hd
    obtain ⟨hx, _, hj⟩ := dropAt hd
    simp only [List.length_cons] at hk
    obtain ⟨q, hq⟩ := law_inner ps i p hp hok hl r (j + 1) k g3 (by omega)
    refine ⟨q, ?_⟩
    have he := hok.ends_ j x hx
    have hb : ((((j + 1 : Nat) : Int)) == ln p.Recs) = decide (j + 1 = p.Recs.length) := by
      rw [Bool.eq_iff_iff, beq_iff_eq, decide_eq_true_eq]
      unfold ln; omega
    unfold ends at he
    rw [spinetlaw48_SliceCuts_l3, hp, if_pos (decide_eq_true g2.2), if_pos g2, g1, if_pos (fun _ => g2), wrapS (n := j) (by omega), hb, he, if_neg (by simp), hq]

theorem law_outer (ps : List slice_Part) (hok : ∀ (i : Nat) (p : slice_Part), ps[i]? = some p → PartOk p ∧ (p.Ended = false → i + 1 = ps.length)) (hf : (recsOf ps).length ≤ 1000) (hl : ps.length ≤ 1001) : ∀ (r : List slice_Part) (i k : Nat) (acc : List api_Rec), ps.drop i = r → r.length < k → acc ++ recsOf r = recsOf ps →
    spinetlaw48_SliceCuts_l2 ps k acc (i : Int) = some (.go (recsOf ps))
  | _, _, 0, _, _, hk, _ => by omega
  | [], i, k + 1, acc, hd, _, ha => by
    rw [spinetlaw48_SliceCuts_l2, if_neg (fun e => gtNil hd (of_decide_eq_true e)), ← ha]; simp [recsOf]
  | p :: r, i, k + 1, acc, hd, hk, ha => by
    obtain ⟨g1, g2, g3⟩ := gtCons hd
    obtain ⟨hx, _, hj⟩ := dropAt hd
    obtain ⟨h1, h2⟩ := hok i p hx
    simp only [List.length_cons] at hk
    have hfl : recsOf (p :: r) = p.Recs ++ recsOf r := by simp [recsOf]
    have hlen : acc.length + p.Recs.length ≤ 1000 := by
      rw [← ha, hfl, List.length_append, List.length_append] at hf; omega
    have hpos : 0 < p.Recs.length := List.length_pos_iff.2 h1.some_
    have hz : (ln p.Recs == 0) = false := by
      rw [beq_eq_false_iff_ne]; unfold ln; omega
    have he : ((!p.Ended) && decide ((((i + 1 : Nat) : Int)) < ln ps)) = false := by
      cases hE : p.Ended with
      | true => rfl
      | false =>
        have := h2 hE
        simp only [Bool.not_false, Bool.true_and, decide_eq_false_iff_not]
        unfold ln; omega
    obtain ⟨q, hq⟩ := law_inner ps (i : Int) p g1 h1 (by omega) p.Recs 0 BIG rfl (by unfold BIG; omega)
    have hq : spinetlaw48_SliceCuts_l3 ps (i : Int) BIG 0 = some (.go q) := hq
    rw [spinetlaw48_SliceCuts_l2, if_pos (decide_eq_true g2.2), if_pos g2, g1, wrapS (n := i) (by omega), hz, he, if_pos (by decide), told_true p (by omega), Option.bind_some, if_neg (by decide), hq, Option.bind_some]
    obtain ⟨q1, q2, q3⟩ := q
    simp only
    rw [if_pos (by omega), law_outer ps hok hf hl r (i + 1) k (acc ++ p.Recs) g3 (by omega) (by rw [← ha, hfl, List.append_assoc])]

theorem alive_true : spinetlaw48_alive = some true := by decide +kernel

/-- Any trace, cut into parts: together they are the trace; each that is at its end has one record that ends it, the last; what is told of each is what its records say. -/
theorem sliceCuts_true (l : List api_Rec) : spinetlaw48_SliceCuts l = some true := by
  unfold spinetlaw48_SliceCuts
  by_cases h : (200 : Int) < ln l
  · rw [if_pos (decide_eq_true h)]
  · rw [if_neg (fun e => h (of_decide_eq_true e))]
    have hl : l.length ≤ 1000 := by unfold ln at h; omega
    obtain ⟨ps, q1, q2, q3, q4⟩ := cut_is l hl
    rw [q1, Option.bind_some, show (0 : Int) = ((0 : Nat) : Int) from rfl, law_outer ps q2 (by rw [q3]; exact hl) q4 ps 0 BIG [] rfl (by unfold BIG; omega) (List.nil_append _), Option.bind_some]
    simp only
    rw [q3, equal_self l hl, Option.bind_some, if_pos rfl, alive_true, Option.bind_some]
    rfl
end Go.Proofs.YtfdadnldlngmeaaK
