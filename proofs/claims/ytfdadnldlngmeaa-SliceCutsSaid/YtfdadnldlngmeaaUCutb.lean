/- What is told of a part is what its records say. -/
import Derived.Test.YtfdadnldlngmeaaUCuta
namespace Go.Proofs.YtfdadnldlngmeaaK
set_option linter.unusedVariables false
set_option linter.unusedSimpArgs false
set_option maxHeartbeats 400000
open Go.RowKit
attribute [local irreducible] dwv mops lops lqops lwops kont iter run runK rk okK ex E1 vals val chain chB sel resF

/-- Which records are its own. -/
def ownM (l : List api_Rec) : List api_Rec := l.filter fun r => r.Mine
def firstOf (l : List api_Rec) : Int × Bool := match l with
  | [] => (0, false)
  | r :: _ => (r.Addr, true)
def startM (l : List api_Rec) : Int × Bool := firstOf (l.filter fun r => r.Mine)
def vecM (l : List api_Rec) : Int × Bool := firstOf (l.filter fun r => (r.Mine && r.BS) && !r.BA)
def writesM (l : List api_Rec) : List api_Rec := l.filter fun r => r.Mine && !r.Read

theorem own_loop (p : slice_Part) (hl : p.Recs.length ≤ 1000) : ∀ (r : List api_Rec) (i n k : Nat), p.Recs.drop i = r → r.length < k → n ≤ i → slice_Part_Own_l0 p k (n : Int) (i : Int) = some ((n + (ownM r).length : Nat) : Int)
  | _, _, _, 0, _, hk, _ => by omega
  | [], i, n, k + 1, hd, _, _ => by rw [slice_Part_Own_l0, if_neg (fun e => gtNil hd (of_decide_eq_true e))]; rfl
  | x :: r, i, n, k + 1, hd, hk, hn => by
    obtain ⟨g1, g2, g3⟩ := gtCons hd
    have hi := (dropAt hd).2.2
    simp only [List.length_cons] at hk
    rw [slice_Part_Own_l0, if_pos (decide_eq_true g2.2), if_pos g2, g1, wrapS (n := i) (by omega), wrapS (n := n) (by omega)]
    by_cases h : x.Mine = true
    · rw [if_pos h, own_loop p hl r (i + 1) (n + 1) k g3 (by omega) (by omega)]
      simp only [ownM, List.filter_cons, h, if_true, List.length_cons]
      congr 2; omega
    · rw [if_neg h, own_loop p hl r (i + 1) n k g3 (by omega) (by omega)]
      simp only [ownM, List.filter_cons, if_neg h]
theorem own_is (p : slice_Part) (hl : p.Recs.length ≤ 1000) : slice_Part_Own p = some (((ownM p.Recs).length : Nat) : Int) := by
  unfold slice_Part_Own
  rw [show (0 : Int) = ((0 : Nat) : Int) from rfl, own_loop p hl p.Recs 0 0 BIG rfl (by unfold BIG; omega) (Nat.le_refl _), Option.bind_some, Nat.zero_add]

theorem start_loop (p : slice_Part) (hl : p.Recs.length ≤ 1000) : ∀ (r : List api_Rec) (i k : Nat), p.Recs.drop i = r → r.length < k →
    slice_Part_Start_l0 p k (i : Int) = some (match r.filter (fun r => r.Mine) with | [] => .go () | x :: _ => .ret (x.Addr, true))
  | _, _, 0, _, hk => by omega
  | [], i, k + 1, hd, _ => by rw [slice_Part_Start_l0, if_neg (fun e => gtNil hd (of_decide_eq_true e))]; rfl
  | x :: r, i, k + 1, hd, hk => by
    obtain ⟨g1, g2, g3⟩ := gtCons hd
    have hi := (dropAt hd).2.2
    simp only [List.length_cons] at hk
    rw [slice_Part_Start_l0, if_pos (decide_eq_true g2.2), if_pos g2, g1, wrapS (n := i) (by omega)]
    by_cases h : x.Mine = true
    · rw [if_pos h]; simp only [List.filter_cons, h, if_true]
    · rw [if_neg h, start_loop p hl r (i + 1) k g3 (by omega)]; simp only [List.filter_cons, if_neg h]
theorem start_is (p : slice_Part) (hl : p.Recs.length ≤ 1000) : slice_Part_Start p = some (startM p.Recs) := by
  unfold slice_Part_Start
  rw [show (0 : Int) = ((0 : Nat) : Int) from rfl, start_loop p hl p.Recs 0 BIG rfl (by unfold BIG; omega), Option.bind_some]
  unfold startM firstOf
  cases p.Recs.filter (fun r => r.Mine) <;> rfl

theorem vec_loop (p : slice_Part) (hl : p.Recs.length ≤ 1000) : ∀ (r : List api_Rec) (i k : Nat), p.Recs.drop i = r → r.length < k →
    slice_Part_Vector_l0 p k (i : Int) = some (match r.filter (fun r => (r.Mine && r.BS) && !r.BA) with | [] => .go () | x :: _ => .ret (x.Addr, true))
  | _, _, 0, _, hk => by omega
  | [], i, k + 1, hd, _ => by rw [slice_Part_Vector_l0, if_neg (fun e => gtNil hd (of_decide_eq_true e))]; rfl
  | x :: r, i, k + 1, hd, hk => by
    obtain ⟨g1, g2, g3⟩ := gtCons hd
    have hi := (dropAt hd).2.2
    simp only [List.length_cons] at hk
    rw [slice_Part_Vector_l0, if_pos (decide_eq_true g2.2), if_pos g2, g1, wrapS (n := i) (by omega)]
    by_cases h : ((x.Mine && x.BS) && !x.BA) = true
    · rw [if_pos h]; simp only [List.filter_cons, h, if_true]
    · rw [if_neg h, vec_loop p hl r (i + 1) k g3 (by omega)]; simp only [List.filter_cons, if_neg h]
theorem vec_is (p : slice_Part) (hl : p.Recs.length ≤ 1000) : slice_Part_Vector p = some (vecM p.Recs) := by
  unfold slice_Part_Vector
  rw [show (0 : Int) = ((0 : Nat) : Int) from rfl, vec_loop p hl p.Recs 0 BIG rfl (by unfold BIG; omega), Option.bind_some]
  unfold vecM firstOf
  cases p.Recs.filter (fun r => (r.Mine && r.BS) && !r.BA) <;> rfl

theorem writes_loop (p : slice_Part) (hl : p.Recs.length ≤ 1000) : ∀ (r : List api_Rec) (i k : Nat) (acc : List api_Rec), p.Recs.drop i = r → r.length < k → acc.length ≤ i →
    slice_Part_Writes_l0 p k acc (i : Int) = some (acc ++ writesM r)
  | _, _, 0, _, _, hk, _ => by omega
  | [], i, k + 1, acc, hd, _, _ => by rw [slice_Part_Writes_l0, if_neg (fun e => gtNil hd (of_decide_eq_true e))]; simp [writesM]
  | x :: r, i, k + 1, acc, hd, hk, ha => by
    obtain ⟨g1, g2, g3⟩ := gtCons hd
    have hi := (dropAt hd).2.2
    simp only [List.length_cons] at hk
    rw [slice_Part_Writes_l0, if_pos (decide_eq_true g2.2), if_pos g2, g1, wrapS (n := i) (by omega)]
    by_cases h : (x.Mine && !x.Read) = true
    · rw [if_pos h, if_pos (by simp only [List.length_cons, List.length_nil]; omega), writes_loop p hl r (i + 1) k (acc ++ [x]) g3 (by omega) (by simp; omega)]
      simp only [writesM, List.filter_cons, h, if_true, List.append_assoc, List.singleton_append]
    · rw [if_neg h, writes_loop p hl r (i + 1) k acc g3 (by omega) (by omega)]; simp only [writesM, List.filter_cons, if_neg h]
theorem writes_is (p : slice_Part) (hl : p.Recs.length ≤ 1000) : slice_Part_Writes p = some (writesM p.Recs) := by
  unfold slice_Part_Writes
  rw [show (0 : Int) = ((0 : Nat) : Int) from rfl, writes_loop p hl p.Recs 0 BIG [] rfl (by unfold BIG; omega) (by simp), Option.bind_some, List.nil_append]

/-- The law's own reckoning, all at once. -/
def stepT (s : List api_Rec × Int × Int × Int × Bool × Bool) (r : api_Rec) : List api_Rec × Int × Int × Int × Bool × Bool :=
  if r.Mine then
    (if !r.Read then s.1 ++ [r] else s.1, s.2.1 + 1, if !s.2.2.2.2.1 then r.Addr else s.2.2.1, if (r.BS && !r.BA) && !s.2.2.2.2.2 then r.Addr else s.2.2.2.1, true, if (r.BS && !r.BA) && !s.2.2.2.2.2 then true else s.2.2.2.2.2)
  else s
theorem told_loop (p : slice_Part) (hl : p.Recs.length ≤ 1000) : ∀ (r : List api_Rec) (i k : Nat) (ws : List api_Rec) (n : Nat) (st vc : Int) (sm rd : Bool), p.Recs.drop i = r → r.length < k → ws.length ≤ i → n ≤ i →
    spinetlaw48_told_l0 p k ws (n : Int) st vc sm rd (i : Int) = some (r.foldl stepT (ws, (n : Int), st, vc, sm, rd))
  | _, _, 0, _, _, _, _, _, _, _, hk, _, _ => by omega
  | [], i, k + 1, ws, n, st, vc, sm, rd, hd, _, _, _ => by rw [spinetlaw48_told_l0, if_neg (fun e => gtNil hd (of_decide_eq_true e))]; rfl
  | x :: r, i, k + 1, ws, n, st, vc, sm, rd, hd, hk, hw, hn => by
    obtain ⟨g1, g2, g3⟩ := gtCons hd
    have hi := (dropAt hd).2.2
    simp only [List.length_cons] at hk
    have ih := fun (ws : List api_Rec) (n : Nat) (st vc : Int) (sm rd : Bool) (hw : ws.length ≤ i + 1) (hn : n ≤ i + 1) => told_loop p hl r (i + 1) k ws n st vc sm rd g3 (by omega) hw hn
    have j0 : ∀ (st vc : Int) (sm rd : Bool), spinetlaw48_told_j0 (spinetlaw48_told_l0 p k) p ws (n : Int) (i : Int) st sm vc rd = some (r.foldl stepT (if !x.Read then ws ++ [x] else ws, ((n + 1 : Nat) : Int), st, vc, sm, rd)) := by
      intro st vc sm rd
      unfold spinetlaw48_told_j0
      rw [g1, wrapS (n := i) (by omega), wrapS (n := n) (by omega)]
      by_cases h : (!x.Read) = true
      · rw [if_pos h, if_pos (by simp only [List.length_cons, List.length_nil]; omega), ih _ _ _ _ _ _ (by simp; omega) (by omega), if_pos h]
      · rw [if_neg h, ih _ _ _ _ _ _ (by omega) (by omega), if_neg h]
    have j1 : ∀ (st : Int) (sm : Bool), spinetlaw48_told_j1 (spinetlaw48_told_l0 p k) p ws (n : Int) vc rd (i : Int) st sm = some (r.foldl stepT (if !x.Read then ws ++ [x] else ws, ((n + 1 : Nat) : Int), st, if (x.BS && !x.BA) && !rd then x.Addr else vc, sm, if (x.BS && !x.BA) && !rd then true else rd)) := by
      intro st sm
      unfold spinetlaw48_told_j1
      rw [g1]
      by_cases h : ((x.BS && !x.BA) && !rd) = true
      · rw [if_pos h, j0, if_pos h, if_pos h]
      · rw [if_neg h, j0, if_neg h, if_neg h]
    rw [spinetlaw48_told_l0, if_pos (decide_eq_true g2.2), if_pos g2, g1, wrapS (n := i) (by omega)]
    rw [List.foldl_cons]
    by_cases hm : x.Mine = true
    · rw [if_neg (by rw [hm]; decide)]
      have hst : stepT (ws, (n : Int), st, vc, sm, rd) x = (if !x.Read then ws ++ [x] else ws, ((n + 1 : Nat) : Int), if !sm then x.Addr else st, if (x.BS && !x.BA) && !rd then x.Addr else vc, true, if (x.BS && !x.BA) && !rd then true else rd) := by
        simp only [stepT, hm, if_true]; rfl
      rw [hst]
      by_cases hs : (!sm) = true
      · rw [if_pos hs, j1, if_pos hs]
      · rw [if_neg hs, j1, if_neg hs]
        have : sm = true := by simpa using hs
        rw [this]
    · rw [if_pos (by simpa using hm), ih _ _ _ _ _ _ (by omega) (by omega)]
      simp only [stepT, if_neg hm]

theorem fold_is : ∀ (r : List api_Rec) (ws : List api_Rec) (n : Int) (st vc : Int) (sm rd : Bool),
    r.foldl stepT (ws, n, st, vc, sm, rd) = (ws ++ writesM r, n + ((ownM r).length : Int), if sm then st else if (startM r).2 then (startM r).1 else st, if rd then vc else if (vecM r).2 then (vecM r).1 else vc, sm || (startM r).2, rd || (vecM r).2)
  | [], ws, n, st, vc, sm, rd => by simp [writesM, ownM, startM, vecM, firstOf]
  | x :: r, ws, n, st, vc, sm, rd => by
    rw [List.foldl_cons]
    by_cases hm : x.Mine = true
    · have hst : stepT (ws, n, st, vc, sm, rd) x = (if !x.Read then ws ++ [x] else ws, n + 1, if !sm then x.Addr else st, if (x.BS && !x.BA) && !rd then x.Addr else vc, true, if (x.BS && !x.BA) && !rd then true else rd) := by
        simp only [stepT, hm, if_true]
      rw [hst, fold_is r]
      have e1 : startM (x :: r) = (x.Addr, true) := by simp [startM, firstOf, List.filter_cons, hm]
      have e2 : vecM (x :: r) = if (x.BS && !x.BA) then (x.Addr, true) else vecM r := by
        unfold vecM
        rw [List.filter_cons, hm, Bool.true_and]
        split <;> rfl
      have e3 : writesM (x :: r) = if !x.Read then x :: writesM r else writesM r := by
        unfold writesM
        rw [List.filter_cons, hm, Bool.true_and]
      have e4 : (ownM (x :: r)).length = (ownM r).length + 1 := by simp [ownM, List.filter_cons, hm]
      rw [e1, e2, e3, e4]
      refine Prod.ext ?_ (Prod.ext ?_ (Prod.ext ?_ (Prod.ext ?_ (Prod.ext ?_ ?_))))
      · show (if (!x.Read) = true then ws ++ [x] else ws) ++ writesM r = _
        cases x.Read <;> simp
      · show n + 1 + ((ownM r).length : Int) = n + (((ownM r).length + 1 : Nat) : Int)
        omega
      · cases sm <;> simp
      · cases rd <;> cases x.BS <;> cases x.BA <;> simp
      · cases sm <;> simp
      · cases rd <;> cases x.BS <;> cases x.BA <;> simp
    · have hst : stepT (ws, n, st, vc, sm, rd) x = (ws, n, st, vc, sm, rd) := by simp only [stepT, if_neg hm]
      rw [hst, fold_is r]
      have hm' : x.Mine = false := by simpa using hm
      have e1 : startM (x :: r) = startM r := by simp [startM, List.filter_cons, hm']
      have e2 : vecM (x :: r) = vecM r := by simp [vecM, List.filter_cons, hm']
      have e3 : writesM (x :: r) = writesM r := by simp [writesM, List.filter_cons, hm']
      have e4 : ownM (x :: r) = ownM r := by simp [ownM, List.filter_cons, hm']
      rw [e1, e2, e3, e4]

theorem rec_eq_refl (x : api_Rec) : (!((x.Addr == x.Addr) && ((x.Data == x.Data) && ((x.Read == x.Read) && ((x.BA == x.BA) && ((x.BS == x.BS) && ((x.LIC == x.LIC) && ((x.AVMA == x.AVMA) && ((x.BUSY == x.BUSY) && ((x.Mine == x.Mine) && true)))))))))) = false := by
  simp
theorem eq_loop (l : List api_Rec) (hl : l.length ≤ 1000) : ∀ (r : List api_Rec) (i k : Nat), l.drop i = r → r.length < k → slices_Equal_sl_api_Rec_api_Rec_l0 l l k (i : Int) = some (.go ())
  | _, _, 0, _, hk => by omega
  | [], i, k + 1, hd, _ => by rw [slices_Equal_sl_api_Rec_api_Rec_l0, if_neg (fun e => gtNil hd (of_decide_eq_true e))]
  | x :: r, i, k + 1, hd, hk => by
    obtain ⟨g1, g2, g3⟩ := gtCons hd
    have hi := (dropAt hd).2.2
    simp only [List.length_cons] at hk
    rw [slices_Equal_sl_api_Rec_api_Rec_l0, if_pos (decide_eq_true g2.2), if_pos g2, if_pos g2, g1, wrapS (n := i) (by omega), if_neg (by rw [rec_eq_refl]; decide), eq_loop l hl r (i + 1) k g3 (by omega)]
theorem equal_self (l : List api_Rec) (hl : l.length ≤ 1000) : slices_Equal_sl_api_Rec_api_Rec l l = some true := by
  unfold slices_Equal_sl_api_Rec_api_Rec
  rw [if_neg (by simp), show (0 : Int) = ((0 : Nat) : Int) from rfl, eq_loop l hl l 0 BIG rfl (by unfold BIG; omega), Option.bind_some]

theorem own_le (l : List api_Rec) : (ownM l).length ≤ l.length := List.length_filter_le _ _
theorem firstOf_dflt (l : List api_Rec) : (if (firstOf l).2 then (firstOf l).1 else 0) = (firstOf l).1 := by cases l <;> rfl

theorem toList_refl (s : ByteArray) : (s.toList == s.toList) = true := by simp

theorem told_true (p : slice_Part) (hl : p.Recs.length ≤ 1000) : spinetlaw48_told p = some true := by
  obtain ⟨S, hS, hs⟩ := lines_some hl
  have hown := own_le p.Recs
  have hlost : slice_Part_Lost p = some (((p.Recs.length - (ownM p.Recs).length : Nat) : Int)) := by
    unfold slice_Part_Lost
    rw [own_is p hl, Option.bind_some, show ln p.Recs = ((p.Recs.length : Nat) : Int) from rfl, wrap_i64 (by omega) (by omega)]
    congr 1; omega
  have hwr : IntKind.wrap .i64 (ln p.Recs - (((ownM p.Recs).length : Nat) : Int)) = (((p.Recs.length - (ownM p.Recs).length : Nat) : Int)) := by
    rw [show ln p.Recs = ((p.Recs.length : Nat) : Int) from rfl, wrap_i64 (by omega) (by omega)]; omega
  have hwl : (writesM p.Recs).length ≤ 1000 := Nat.le_trans (List.length_filter_le _ _) hl
  have s1 : (⟨#[45, 10]⟩ : ByteArray).size = 2 := rfl
  have j2 : ∀ W, slice_Part_Text p = some W → spinetlaw48_told_j2 p (writesM p.Recs) (((ownM p.Recs).length : Nat) : Int) (startM p.Recs).1 (vecM p.Recs).1 (startM p.Recs).2 (vecM p.Recs).2 (startM p.Recs) (vecM p.Recs) W = some true := by
    intro W hW
    unfold spinetlaw48_told_j2
    rw [own_is p hl, Option.bind_some]
    simp only [hwr, beq_self_eq_true, Bool.true_and, Bool.and_true, if_true, hlost, Option.bind_some, writes_is p hl, equal_self _ hwl, hW]
  unfold spinetlaw48_told
  rw [show (0 : Int) = ((0 : Nat) : Int) from rfl, told_loop p hl p.Recs 0 BIG [] 0 _ _ _ _ rfl (by unfold BIG; omega) (by simp) (Nat.le_refl _), fold_is, Option.bind_some]
  simp only [List.nil_append, Bool.false_eq_true, if_false, Bool.false_or]
  have f1 : (if (startM p.Recs).2 = true then (startM p.Recs).1 else ((0 : Nat) : Int)) = (startM p.Recs).1 := firstOf_dflt _
  have f2 : (if (vecM p.Recs).2 = true then (vecM p.Recs).1 else ((0 : Nat) : Int)) = (vecM p.Recs).1 := firstOf_dflt _
  have f3 : ((0 : Nat) : Int) + (((ownM p.Recs).length : Nat) : Int) = (((ownM p.Recs).length : Nat) : Int) := by omega
  rw [f1, f2, f3, start_is p hl, Option.bind_some, vec_is p hl, Option.bind_some, hS, Option.bind_some]
  by_cases he : p.Ended = true
  · rw [if_pos he, if_pos (by rw [s1]; omega)]
    refine j2 _ ?_
    unfold slice_Part_Text
    rw [hS, Option.bind_some, if_pos he, if_pos (by rw [s1]; omega)]
  · rw [if_neg he]
    refine j2 _ ?_
    unfold slice_Part_Text
    rw [hS, Option.bind_some, if_neg he]
end Go.Proofs.YtfdadnldlngmeaaK
