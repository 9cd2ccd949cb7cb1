/- Points, call by call: the law. -/
import Derived.Test.YtfdadnldlngmeaaUB
import Derived.Test.YtfdadnldlngmeaaF
namespace Go.Proofs.YtfdadnldlngmeaaK
set_option linter.unusedVariables false
set_option linter.unusedSimpArgs false
set_option maxHeartbeats 400000
open Go.RowKit
attribute [local irreducible] dwv mops lops lqops lwops kont iter run runK rk okK ex E1 vals val chain chB sel resF

def keeps (id : Int) (l : List watch_Point) : List watch_Point := l.filter fun p => p.Id != id

theorem ix_loop (s : List watch_Point) (id : Int) (hl : s.length ≤ 1000) : ∀ (r : List watch_Point) (i k : Nat), s.drop i = r → r.length < k →
    (keeps id r = r ∧ slices_IndexFunc_sl_watch_Point_watch_Point_l0 s id k (i : Int) = some (.go ())) ∨ ∃ a x b, r = a ++ x :: b ∧ keeps id a = a ∧ x.Id = id ∧ slices_IndexFunc_sl_watch_Point_watch_Point_l0 s id k (i : Int) = some (.ret ((i + a.length : Nat) : Int))
  | _, _, 0, _, hk => by omega
  | [], i, k + 1, hd, _ => .inl ⟨rfl, by rw [slices_IndexFunc_sl_watch_Point_watch_Point_l0, if_neg (fun e => gtNil hd (of_decide_eq_true e))]⟩
  | x :: r, i, k + 1, hd, hk => by
    obtain ⟨g1, g2, g3⟩ := gtCons hd
    have hi := (dropAt hd).2.2
    simp only [List.length_cons] at hk
    have step : slices_IndexFunc_sl_watch_Point_watch_Point_l0 s id (k + 1) (i : Int) = if (x.Id == id) = true then some (.ret (i : Int)) else slices_IndexFunc_sl_watch_Point_watch_Point_l0 s id k ((i + 1 : Nat) : Int) := by
      rw [slices_IndexFunc_sl_watch_Point_watch_Point_l0, if_pos (decide_eq_true g2.2), if_pos g2, g1, wrapS (n := i) (by omega)]
      unfold watch_Watch_Drop_1
      rw [Option.bind_some]
    by_cases h : (x.Id == id) = true
    · refine .inr ⟨[], x, r, rfl, rfl, eq_of_beq h, ?_⟩
      rw [step, if_pos h]; rfl
    · rcases ix_loop s id hl r (i + 1) k g3 (by omega) with ⟨h1, h2⟩ | ⟨a, y, b, h1, h2, h3, h4⟩
      · refine .inl ⟨?_, by rw [step, if_neg h, h2]⟩
        unfold keeps at h1 ⊢
        rw [List.filter_cons, if_pos (by simpa [bne] using h), h1]
      · refine .inr ⟨x :: a, y, b, by rw [h1]; rfl, ?_, h3, ?_⟩
        · unfold keeps at h2 ⊢
          rw [List.filter_cons, if_pos (by simpa [bne] using h), h2]
        · rw [step, if_neg h, h4]
          simp only [List.length_cons]
          rw [show i + 1 + a.length = i + (a.length + 1) by omega]

theorem del_loop (id : Int) : ∀ (r l : List watch_Point) (i j k : Nat), l.drop j = r → r.length < k → l.length ≤ 1000 → i ≤ j → j ≤ l.length →
    ∃ (l' : List watch_Point) (i' : Nat), slices_DeleteFunc_sl_watch_Point_watch_Point_l0 id k l (i : Int) (j : Int) = some (l', (i' : Int)) ∧ i' ≤ l'.length ∧ l'.take i' = l.take i ++ keeps id r
  | _, _, _, _, 0, _, hk, _, _, _ => by omega
  | [], l, i, j, k + 1, hd, _, hl, hij, hj => by
    refine ⟨l, i, ?_, by omega, by simp [keeps]⟩
    rw [slices_DeleteFunc_sl_watch_Point_watch_Point_l0, if_neg (fun e => gtNil hd (of_decide_eq_true e))]
  | x :: r, l, i, j, k + 1, hd, hk, hl, hij, hj => by
    obtain ⟨g1, g2, g3⟩ := gtCons hd
    have hjl := (dropAt hd).2.2
    simp only [List.length_cons] at hk
    rw [slices_DeleteFunc_sl_watch_Point_watch_Point_l0, if_pos (decide_eq_true g2.2), if_pos g2, g1]
    unfold watch_Watch_Drop_1
    rw [Option.bind_some, wrapS (n := j) (by omega), wrapS (n := i) (by omega)]
    by_cases h : (x.Id == id) = true
    · rw [if_neg (by rw [h]; decide)]
      obtain ⟨l', i', h1, h2, h3⟩ := del_loop id r l i (j + 1) k g3 (by omega) hl (by omega) (by omega)
      refine ⟨l', i', h1, h2, ?_⟩
      rw [h3]
      simp only [keeps]
      rw [List.filter_cons, if_neg (by simpa [bne] using h)]
    · rw [if_pos (by simpa using h), if_pos ⟨by omega, by unfold ln; omega⟩]
      have hst : st l (i : Int) x = l.set i x := by unfold st; rw [Int.toNat_natCast]
      rw [hst]
      obtain ⟨l', i', h1, h2, h3⟩ := del_loop id r (l.set i x) (i + 1) (j + 1) k (by rw [List.drop_set_of_lt (by omega)]; exact g3) (by omega) (by simpa using hl) (by omega) (by simp; omega)
      refine ⟨l', i', h1, h2, ?_⟩
      rw [h3]
      have e1 : (l.set i x).take (i + 1) = l.take i ++ [x] := by
        rw [List.take_succ_eq_append_getElem (by simp; omega), List.getElem_set_self, List.take_set_of_le (by omega)]
      rw [e1]
      simp only [keeps]
      rw [List.filter_cons, if_pos (by simpa [bne] using h), List.append_assoc]; rfl

theorem del_is (s : List watch_Point) (id : Int) (hl : s.length ≤ 1000) : slices_DeleteFunc_sl_watch_Point_watch_Point s id = some (keeps id s) := by
  unfold slices_DeleteFunc_sl_watch_Point_watch_Point slices_IndexFunc_sl_watch_Point_watch_Point
  rcases ix_loop s id hl s 0 BIG rfl (by unfold BIG; omega) with ⟨h1, h2⟩ | ⟨a, x, b, h1, h2, h3, h4⟩
  · have h2 : slices_IndexFunc_sl_watch_Point_watch_Point_l0 s id BIG 0 = some (.go ()) := h2
    rw [h2, Option.bind_some, Option.bind_some, if_pos (by decide), h1]
  · have h4 : slices_IndexFunc_sl_watch_Point_watch_Point_l0 s id BIG 0 = some (.ret ((a.length : Nat) : Int)) := by
      have := h4; rw [Nat.zero_add] at this; exact this
    rw [h4, Option.bind_some]
    simp only [Option.bind_some]
    have hal : a.length < s.length := by rw [h1]; simp
    rw [if_neg (by rw [beq_iff_eq]; omega), wrapS (n := a.length) (by omega)]
    obtain ⟨l', i', q1, q2, q3⟩ := del_loop id b s a.length (a.length + 1) BIG (by rw [h1, List.drop_append]; simp) (by have : b.length < s.length := by { rw [h1]; simp; omega }; unfold BIG; omega) hl (by omega) (by omega)
    rw [q1, Option.bind_some]
    simp only
    rw [if_pos ⟨by omega, by unfold ln; omega⟩, if_pos ⟨by omega, by unfold ln; omega⟩, Int.toNat_natCast, q3]
    have e1 : s.take a.length = a := by rw [h1]; simp
    have e2 : keeps id s = a ++ keeps id b := by
      rw [h1]
      unfold keeps at h2 ⊢
      rw [List.filter_append, h2, List.filter_cons, if_neg (by rw [h3]; simp)]
    rw [e1, e2]

theorem drop_is (l : List watch_Point) (m id : Int) (hl : l.length ≤ 1000) : watch_Watch_Drop ⟨l, m⟩ id = some (decide (ln (keeps id l) < ln l), ⟨keeps id l, m⟩) := by
  unfold watch_Watch_Drop
  rw [del_is l id hl, Option.bind_some]

theorem rest_loop (calls : List spinetlaw49_Op) (l : List watch_Point) (c : Int) (hl : l.length ≤ 1000) : ∀ (r : List watch_Point) (i k : Nat) (acc : List watch_Point), l.drop i = r → r.length < k → acc.length ≤ i →
    ∃ q, spinetlaw49_made_l3 calls l c k acc (i : Int) = some (acc ++ keeps ((gt calls c).P).Id r, q)
  | _, _, 0, _, _, hk, _ => by omega
  | [], i, k + 1, acc, hd, _, _ => by
    refine ⟨((i : Int), (i : Int), decide ((i : Int) < ln l)), ?_⟩
    rw [spinetlaw49_made_l3, if_neg (fun e => gtNil hd (of_decide_eq_true e))]; simp [keeps]
  | x :: r, i, k + 1, acc, hd, hk, ha => by
    obtain ⟨g1, g2, g3⟩ := gtCons hd
    have hi := (dropAt hd).2.2
    simp only [List.length_cons] at hk
    rw [spinetlaw49_made_l3, if_pos (decide_eq_true g2.2), if_pos g2, g1, wrapS (n := i) (by omega)]
    by_cases h : (x.Id != ((gt calls c).P).Id) = true
    · rw [if_pos h, if_pos g2, if_pos (by simp only [List.length_cons, List.length_nil]; omega)]
      obtain ⟨q, hq⟩ := rest_loop calls l c hl r (i + 1) k (acc ++ [x]) g3 (by omega) (by simp; omega)
      refine ⟨q, ?_⟩
      rw [hq]
      simp only [keeps]
      rw [List.filter_cons, if_pos h, List.append_assoc]; rfl
    · rw [if_neg h]
      obtain ⟨q, hq⟩ := rest_loop calls l c hl r (i + 1) k acc g3 (by omega) (by omega)
      refine ⟨q, ?_⟩
      rw [hq]
      simp only [keeps]
      rw [List.filter_cons, if_neg h]

theorem peq_loop (l : List watch_Point) (hl : l.length ≤ 1000) : ∀ (r : List watch_Point) (i k : Nat), l.drop i = r → r.length < k → slices_Equal_sl_watch_Point_watch_Point_l0 l l k (i : Int) = some (.go ())
  | _, _, 0, _, hk => by omega
  | [], i, k + 1, hd, _ => by rw [slices_Equal_sl_watch_Point_watch_Point_l0, if_neg (fun e => gtNil hd (of_decide_eq_true e))]
  | x :: r, i, k + 1, hd, hk => by
    obtain ⟨g1, g2, g3⟩ := gtCons hd
    have hi := (dropAt hd).2.2
    simp only [List.length_cons] at hk
    rw [slices_Equal_sl_watch_Point_watch_Point_l0, if_pos (decide_eq_true g2.2), if_pos g2, if_pos g2, g1, wrapS (n := i) (by omega), if_neg (by simp), peq_loop l hl r (i + 1) k g3 (by omega)]
theorem peq_self (l : List watch_Point) (hl : l.length ≤ 1000) : slices_Equal_sl_watch_Point_watch_Point l l = some true := by
  unfold slices_Equal_sl_watch_Point_watch_Point
  rw [if_neg (by simp), show (0 : Int) = ((0 : Nat) : Int) from rfl, peq_loop l hl l 0 BIG rfl (by unfold BIG; omega), Option.bind_some]
theorem ieq_loop (l : List Int) (hl : l.length ≤ 1000) : ∀ (r : List Int) (i k : Nat), l.drop i = r → r.length < k → slices_Equal_sl_int_int_l0 l l k (i : Int) = some (.go ())
  | _, _, 0, _, hk => by omega
  | [], i, k + 1, hd, _ => by rw [slices_Equal_sl_int_int_l0, if_neg (fun e => gtNil hd (of_decide_eq_true e))]
  | x :: r, i, k + 1, hd, hk => by
    obtain ⟨g1, g2, g3⟩ := gtCons hd
    have hi := (dropAt hd).2.2
    simp only [List.length_cons] at hk
    rw [slices_Equal_sl_int_int_l0, if_pos (decide_eq_true g2.2), if_pos g2, if_pos g2, wrapS (n := i) (by omega), if_neg (by simp), ieq_loop l hl r (i + 1) k g3 (by omega)]
theorem ieq_self (l : List Int) (hl : l.length ≤ 1000) : slices_Equal_sl_int_int l l = some true := by
  unfold slices_Equal_sl_int_int
  rw [if_neg (by simp), show (0 : Int) = ((0 : Nat) : Int) from rfl, ieq_loop l hl l 0 BIG rfl (by unfold BIG; omega), Option.bind_some]

theorem all_is (l : List watch_Point) (m : Int) (hl : l.length ≤ 1000) : watch_Watch_All ⟨l, m⟩ = some l := by
  unfold watch_Watch_All sl_clone
  rw [if_pos (by show l.length * 1024 ≤ _; omega), Option.bind_some]

def hitsM (l : List watch_Point) (kind a : Int) : List Int := (l.filter fun p => ((p.Kind == kind) && decide (p.From ≤ a)) && decide (a ≤ p.To)).map fun p => p.Id
theorem hits_loop (l : List watch_Point) (kind a : Int) (hl : l.length ≤ 1000) : ∀ (r : List watch_Point) (i k : Nat) (acc : List Int), l.drop i = r → r.length < k → acc.length ≤ i →
    spinetlaw49_hits_l0 l kind a k acc (i : Int) = some (acc ++ hitsM r kind a)
  | _, _, 0, _, _, hk, _ => by omega
  | [], i, k + 1, acc, hd, _, _ => by rw [spinetlaw49_hits_l0, if_neg (fun e => gtNil hd (of_decide_eq_true e))]; simp [hitsM]
  | x :: r, i, k + 1, acc, hd, hk, ha => by
    obtain ⟨g1, g2, g3⟩ := gtCons hd
    have hi := (dropAt hd).2.2
    simp only [List.length_cons] at hk
    rw [spinetlaw49_hits_l0, if_pos (decide_eq_true g2.2), if_pos g2, if_pos (fun _ => g2), if_pos (fun _ => g2), g1, wrapS (n := i) (by omega)]
    by_cases h : (((x.Kind == kind) && decide (x.From ≤ a)) && decide (a ≤ x.To)) = true
    · rw [if_pos h, if_pos g2, if_pos (by simp only [List.length_cons, List.length_nil]; omega), hits_loop l kind a hl r (i + 1) k _ g3 (by omega) (by simp; omega)]
      simp only [hitsM]
      rw [List.filter_cons, if_pos h, List.map_cons, List.append_assoc]; rfl
    · rw [if_neg h, hits_loop l kind a hl r (i + 1) k _ g3 (by omega) (by omega)]
      simp only [hitsM]
      rw [List.filter_cons, if_neg h]
theorem hits_is (l : List watch_Point) (kind a : Int) (hl : l.length ≤ 1000) : spinetlaw49_hits l kind a = some (hitsM l kind a) := by
  unfold spinetlaw49_hits
  rw [show (0 : Int) = ((0 : Nat) : Int) from rfl, hits_loop l kind a hl l 0 BIG [] rfl (by unfold BIG; omega) (by simp), Option.bind_some, List.nil_append]
theorem whits_loop (l : List watch_Point) (m kind a : Int) (hl : l.length ≤ 1000) : ∀ (r : List watch_Point) (i k : Nat) (acc : List Int), l.drop i = r → r.length < k → acc.length ≤ i →
    watch_Watch_hits_l0 ⟨l, m⟩ kind a k acc (i : Int) = some (acc ++ hitsM r kind a)
  | _, _, 0, _, _, hk, _ => by omega
  | [], i, k + 1, acc, hd, _, _ => by rw [watch_Watch_hits_l0, if_neg (fun e => gtNil hd (of_decide_eq_true e))]; simp [hitsM]
  | x :: r, i, k + 1, acc, hd, hk, ha => by
    obtain ⟨g1, g2, g3⟩ := gtCons hd
    have hi := (dropAt hd).2.2
    simp only [List.length_cons] at hk
    rw [watch_Watch_hits_l0, if_pos (decide_eq_true g2.2), if_pos g2, g1, wrapS (n := i) (by omega)]
    by_cases h : (((x.Kind == kind) && decide (x.From ≤ a)) && decide (a ≤ x.To)) = true
    · rw [if_pos h, if_pos (by simp only [List.length_cons, List.length_nil]; omega), whits_loop l m kind a hl r (i + 1) k _ g3 (by omega) (by simp; omega)]
      simp only [hitsM]
      rw [List.filter_cons, if_pos h, List.map_cons, List.append_assoc]; rfl
    · rw [if_neg h, whits_loop l m kind a hl r (i + 1) k _ g3 (by omega) (by omega)]
      simp only [hitsM]
      rw [List.filter_cons, if_neg h]
theorem whits_is (l : List watch_Point) (m kind a : Int) (hl : l.length ≤ 1000) : watch_Watch_hits ⟨l, m⟩ kind a = some (hitsM l kind a) := by
  unfold watch_Watch_hits
  rw [show (0 : Int) = ((0 : Nat) : Int) from rfl, whits_loop l m kind a hl l 0 BIG [] rfl (by unfold BIG; omega) (by simp), Option.bind_some, List.nil_append]
theorem hitsM_len (l : List watch_Point) (kind a : Int) : (hitsM l kind a).length ≤ l.length := by
  unfold hitsM
  rw [List.length_map]; exact List.length_filter_le _ _
theorem keeps_len (id : Int) (l : List watch_Point) : (keeps id l).length ≤ l.length := List.length_filter_le _ _

/-- One round's end. -/
theorem j3_is (rec : List watch_Point → Int → List watch_Point → Int → Int → Option (Out (List watch_Point × Bool × watch_Watch) (List watch_Point × Int × List watch_Point))) (i : Nat) (hi : i ≤ 1000) (l : List watch_Point) (m n : Int) (hl : l.length ≤ 1000) :
    spinetlaw49_made_j3 rec (i : Int) l m l n = rec l m l n ((i + 1 : Nat) : Int) := by
  unfold spinetlaw49_made_j3
  rw [all_is l m hl, Option.bind_some, peq_self l hl, Option.bind_some, if_neg (by decide), wrapS (n := i) (by omega)]

theorem made_loop (calls : List spinetlaw49_Op) (hc : calls.length ≤ 40) : ∀ (r : List spinetlaw49_Op) (i k m : Nat) (l : List watch_Point), calls.drop i = r → r.length < k → l.length ≤ i → m ≤ i → i ≤ calls.length →
    ∃ l' m', spinetlaw49_made_l2 calls k l (m : Int) l (m : Int) (i : Int) = some (.go (l', m', l')) ∧ l'.length ≤ 40
  | _, _, 0, _, _, _, hk, _, _, _ => by omega
  | [], i, k + 1, m, l, hd, _, hl, hm, hic => by
    refine ⟨l, (m : Int), ?_, by omega⟩
    rw [spinetlaw49_made_l2, if_neg (fun e => gtNil hd (of_decide_eq_true e))]
  | x :: r, i, k + 1, m, l, hd, hk, hl, hm, hic => by
    obtain ⟨g1, g2, g3⟩ := gtCons hd
    have hi := (dropAt hd).2.2
    simp only [List.length_cons] at hk
    rw [spinetlaw49_made_l2, if_pos (decide_eq_true g2.2), if_pos g2, if_pos g2]
    by_cases hD : (gt calls (i : Int)).Drop = true
    · rw [if_pos hD]
      obtain ⟨q, hq⟩ := rest_loop calls l (i : Int) (by omega) l 0 BIG [] rfl (by unfold BIG; omega) (by simp)
      have hq : spinetlaw49_made_l3 calls l (i : Int) BIG [] 0 = some (keeps ((gt calls (i : Int)).P).Id l, q) := hq
      obtain ⟨q1, q2, q3⟩ := q
      rw [hq, Option.bind_some]
      simp only
      rw [drop_is l (m : Int) _ (by omega), Option.bind_some]
      simp only
      rw [if_neg (by simp)]
      have hkl := keeps_len ((gt calls (i : Int)).P).Id l
      rw [j3_is _ i (by omega) _ _ _ (by omega)]
      exact made_loop calls hc r (i + 1) k m _ g3 (by omega) (by omega) (by omega) (by omega)
    · rw [if_neg hD]
      generalize hP : (gt calls (i : Int)).P = p
      have hw : IntKind.wrap .i64 ((m : Int) + 1) = ((m + 1 : Nat) : Int) := wrapS (by omega)
      have ih0 := made_loop calls hc r (i + 1) k m l g3 (by omega) (by omega) (by omega) (by omega)
      have ih1 := made_loop calls hc r (i + 1) k (m + 1) (l ++ [⟨((m + 1 : Nat) : Int), p.Kind, p.From, p.To⟩]) g3 (by omega) (by simp; omega) (by omega) (by omega)
      have bad : ∀ want : Int, want ≠ 0 → spinetlaw49_made_j1 (spinetlaw49_made_l2 calls k) calls l (m : Int) (i : Int) (0, want, ⟨l, (m : Int)⟩) want = spinetlaw49_made_l2 calls k l (m : Int) l (m : Int) ((i + 1 : Nat) : Int) := by
        intro want hw0
        unfold spinetlaw49_made_j1 spinetlaw49_made_j0
        rw [if_neg (by simpa using hw0)]
        simp only
        rw [if_neg (by simp [hw0]), j3_is _ i (by omega) _ _ _ (by omega)]
      by_cases h1 : ((decide (p.Kind < 0)) || (decide (2 < p.Kind))) = true
      · have ha : watch_Watch_Add ⟨l, (m : Int)⟩ p.Kind p.From p.To = some (0, 10, ⟨l, (m : Int)⟩) := by
          unfold watch_Watch_Add
          rw [if_pos h1]
        rw [ha, Option.bind_some]
        have j2 : ∀ w, spinetlaw49_made_j2 (spinetlaw49_made_l2 calls k) calls l (m : Int) (i : Int) (0, 10, ⟨l, (m : Int)⟩) w = spinetlaw49_made_l2 calls k l (m : Int) l (m : Int) ((i + 1 : Nat) : Int) := by
          intro w
          unfold spinetlaw49_made_j2
          rw [hP, if_pos h1]
          exact bad 10 (by decide)
        rw [j2, j2]
        split <;> exact ih0
      · by_cases h2 : (decide (p.To < p.From)) = true
        · have ha : watch_Watch_Add ⟨l, (m : Int)⟩ p.Kind p.From p.To = some (0, 11, ⟨l, (m : Int)⟩) := by
            unfold watch_Watch_Add
            rw [if_neg h1, if_pos h2]
          rw [ha, Option.bind_some, if_pos h2]
          unfold spinetlaw49_made_j2
          rw [hP, if_neg h1, bad 11 (by decide)]
          exact ih0
        · have ha : watch_Watch_Add ⟨l, (m : Int)⟩ p.Kind p.From p.To = some (((m + 1 : Nat) : Int), 0, ⟨l ++ [⟨((m + 1 : Nat) : Int), p.Kind, p.From, p.To⟩], ((m + 1 : Nat) : Int)⟩) := by
            unfold watch_Watch_Add
            rw [if_neg h1, if_neg h2, if_pos (by simp only [List.length_cons, List.length_nil]; omega)]
            simp only [hw]
          rw [ha, Option.bind_some, if_neg h2]
          unfold spinetlaw49_made_j2
          rw [hP, if_neg h1]
          unfold spinetlaw49_made_j1
          rw [hP, if_pos (by decide), if_pos (by simp only [List.length_cons, List.length_nil]; omega), hw]
          unfold spinetlaw49_made_j0
          simp only
          rw [if_neg (by simp), j3_is _ i (by omega) _ _ _ (by simp; omega)]
          exact ih1

theorem made_is (calls : List spinetlaw49_Op) (hc : calls.length ≤ 40) : ∃ l m, spinetlaw49_made ⟨[], 0⟩ calls = some (l, true, ⟨l, m⟩) ∧ l.length ≤ 40 := by
  obtain ⟨l', m', h1, h2⟩ := made_loop calls hc calls 0 BIG 0 [] rfl (by unfold BIG; omega) (by simp) (Nat.le_refl _) (Nat.zero_le _)
  refine ⟨l', m', ?_, h2⟩
  have h1 : spinetlaw49_made_l2 calls BIG [] 0 [] 0 0 = some (.go (l', m', l')) := h1
  unfold spinetlaw49_made
  rw [h1, Option.bind_some]

theorem alive_true : spinetlaw49_alive = some true := by decide +kernel

/-- Points, call by call, and which of them any cycle meets. -/
theorem watchPoints_true (calls : List spinetlaw49_Op) (r : api_Rec) : spinetlaw49_WatchPoints calls r = some true := by
  unfold spinetlaw49_WatchPoints
  by_cases h : (40 : Int) < ln calls
  · rw [if_pos (decide_eq_true h)]
  · rw [if_neg (fun e => h (of_decide_eq_true e))]
    obtain ⟨l, m, h1, h2⟩ := made_is calls (by unfold ln at h; omega)
    have hl : l.length ≤ 1000 := by omega
    rw [h1, Option.bind_some]
    simp only [Bool.not_true, Bool.false_eq_true, if_false]
    have hh := fun kind a => hits_is l kind a hl
    have hw := fun kind a => whits_is l m kind a hl
    have he : ∀ kind a, slices_Equal_sl_int_int (hitsM l kind a) (hitsM l kind a) = some true := fun kind a => ieq_self _ (by have := hitsM_len l kind a; omega)
    have fin : ∀ want, watch_Watch_Cycle ⟨l, m⟩ r = some want → slices_Equal_sl_int_int want want = some true → spinetlaw49_WatchPoints_j0 r (l, true, ⟨l, m⟩) want = some true := by
      intro want q1 q2
      unfold spinetlaw49_WatchPoints_j0
      simp only
      rw [q1, Option.bind_some, q2, Option.bind_some, if_pos rfl]
      unfold watch_Watch_Boundary
      rw [hw, Option.bind_some, Option.bind_some, if_pos rfl, hh, Option.bind_some, if_pos rfl, he, Option.bind_some, if_pos (by rfl), alive_true, Option.bind_some]
      rfl
    have e0 : slices_Equal_sl_int_int [] [] = some true := ieq_self [] (by simp)
    unfold spinetlaw49_WatchPoints_j1
    simp only [hh, Option.bind_some]
    unfold watch_Watch_Cycle at fin
    cases hM : r.Mine <;> cases hR : r.Read <;> simp only [hM, hR, hw, Option.bind_some, Bool.not_true, Bool.not_false, Bool.true_and, Bool.false_and, Bool.and_true, Bool.and_false, Bool.false_eq_true, if_true, if_false, reduceIte] at fin ⊢
    · exact fin _ rfl e0
    · exact fin _ rfl e0
    · exact fin _ rfl (he _ _)
    · exact fin _ rfl (he _ _)
end Go.Proofs.YtfdadnldlngmeaaK
