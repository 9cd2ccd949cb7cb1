/- The law WaveDraws: what is read, and what is counted. -/
import Derived.Test.YtnilppmpfklpbaaDoorUWav2
namespace Go.Proofs.YtnilppmpfklpbaaDoorK
set_option linter.unusedVariables false
set_option linter.unusedSimpArgs false
set_option maxHeartbeats 400000
open Go.RowKit
attribute [local irreducible] dwv mops lops lqops lwops kont iter run runK rk okK ex E1 vals val chain chB sel resF

def bare (x : api_Rec) : api_Rec := api_Rec.mk 0 0 x.Read x.BA x.BS x.LIC x.AVMA x.BUSY x.Mine
theorem bare_lvl (x : api_Rec) (j : Nat) : lvl (bare x) j = lvl x j := rfl
theorem bare_mark (x : api_Rec) (j : Nat) : mark (bare x) j = mark x j := rfl
theorem bare_text (L : List api_Rec) : textM (L.map bare) = textM L := by
  unfold textM rowM
  simp only [List.map_map]
  rfl
def rowI (L : List api_Rec) (j : Nat) : List Int := sbl (gt heads (j : Int)) ++ L.map fun x => mark x j
theorem rowM_I (L : List api_Rec) (j : Nat) : rowM L j = rowI L j ++ [10] := rfl
theorem heads_all : ((List.range 7).all fun j => decide ((sbl (gt heads (j : Int))).length = 5) && (sbl (gt heads (j : Int))).all fun x => x != 10) = true := by decide +kernel
theorem heads_is {j : Nat} (hj : j < 7) : (sbl (gt heads (j : Int))).length = 5 ∧ ∀ x ∈ sbl (gt heads (j : Int)), x ≠ 10 := by
  have := List.all_eq_true.1 heads_all j (List.mem_range.2 hj)
  simp only [Bool.and_eq_true, decide_eq_true_eq] at this
  exact ⟨this.1, fun x hx => by simpa using List.all_eq_true.1 this.2 x hx⟩
theorem rowI_no (L : List api_Rec) {j : Nat} (hj : j < 7) : (10 : Int) ∉ rowI L j := fun h => by
  unfold rowI at h
  rcases List.mem_append.1 h with h | h
  · exact (heads_is hj).2 _ h rfl
  · obtain ⟨x, _, hx⟩ := List.mem_map.1 h
    unfold mark at hx
    split at hx <;> omega
theorem rowI_bytes (L : List api_Rec) (j : Nat) : ∀ x ∈ rowI L j, 0 ≤ x ∧ x < 256 := fun x hx => rowM_bytes L j x (by rw [rowM_I]; simp [hx])
theorem rowI_len (L : List api_Rec) {j : Nat} (hj : j < 7) : (rowI L j).length = 5 + L.length := by
  unfold rowI
  rw [List.length_append, (heads_is hj).1, List.length_map]
theorem text_cut (L : List api_Rec) : cutAt 10 (textM L) = (List.range 7).map (rowI L) ++ [[]] := by
  have e : textM L = rowI L 0 ++ 10 :: (rowI L 1 ++ 10 :: (rowI L 2 ++ 10 :: (rowI L 3 ++ 10 :: (rowI L 4 ++ 10 :: (rowI L 5 ++ 10 :: (rowI L 6 ++ 10 :: [])))))) := by
    unfold textM
    simp only [rowM_I, List.append_assoc, List.cons_append, List.nil_append]
  rw [e, cutAt_app _ (rowI_no L (by omega)), cutAt_app _ (rowI_no L (by omega)), cutAt_app _ (rowI_no L (by omega)), cutAt_app _ (rowI_no L (by omega)), cutAt_app _ (rowI_no L (by omega)), cutAt_app _ (rowI_no L (by omega)), cutAt_app _ (rowI_no L (by omega))]
  rfl
def rowsR (L : List api_Rec) : List ByteArray := ((List.range 7).map (rowI L) ++ [[]]).map bs
theorem rowsR_len (L : List api_Rec) : ln (rowsR L) = 8 := by simp [rowsR, ln]
theorem rowsR_at (L : List api_Rec) {j : Nat} (hj : j < 7) : gt (rowsR L) (j : Int) = bs (rowI L j) := by
  refine gtAt ?_
  unfold rowsR
  rw [List.getElem?_map, List.getElem?_append_left (by simpa using hj), List.getElem?_map, List.getElem?_range hj]
  rfl
section
variable {L : List api_Rec} (hN : L.length ≤ 200)
include hN
theorem rd3p {t : Nat} {x : api_Rec} (hx : L[t]? = some x) : ∀ (d k j : Nat) (l : List Bool), j + d = 7 → d < k → l.length = 7 → (∀ q, q < j → l[q]? = some (lvl x q)) → ∃ l' a b, wave_Read_l3 (rowsR L) (t : Int) k l (j : Int) = some (l', a, b) ∧ l'.length = 7 ∧ ∀ q, q < 7 → l'[q]? = some (lvl x q)
  | _, 0, _, _, _, hk, _, _ => by omega
  | 0, k + 1, j, l, h, _, hl, hq => by
    rw [wave_Read_l3, if_neg (fun e => by have := of_decide_eq_true e; omega)]
    exact ⟨_, _, _, rfl, hl, fun q hq' => hq q (by omega)⟩
  | d + 1, k + 1, j, l, h, hk, hl, hq => by
    have ht := (List.getElem?_eq_some_iff.1 hx).1
    have hj : j < 7 := by omega
    have hR := rowsR_len L
    have g : 0 ≤ (j : Int) ∧ (j : Int) < ln (rowsR L) := by omega
    have hw : IntKind.wrap .i64 ((t : Int) + 5) = ((t + 5 : Nat) : Int) := by rw [wrap_i64 (by omega) (by omega)]; rfl
    have hs : sln (bs (rowI L j)) = ((5 + L.length : Nat) : Int) := by unfold sln; rw [bs_size, rowI_len L hj]
    have hb : bt (bs (rowI L j)) ((t + 5 : Nat) : Int) = mark x j := by
      refine btAt ?_
      rw [sbl_bs (rowI_bytes L j)]
      unfold rowI
      rw [List.getElem?_append_right (by rw [(heads_is hj).1]; omega), (heads_is hj).1, Nat.add_sub_cancel, List.getElem?_map, hx]; rfl
    have hlt : ((t + 5 : Nat) : Int) < ((5 + L.length : Nat) : Int) := by omega
    have hv : ((decide (((t + 5 : Nat) : Int) < ((5 + L.length : Nat) : Int))) && (mark x j == 35)) = lvl x j := by
      rw [decide_eq_true hlt, Bool.true_and]
      unfold mark
      cases lvl x j <;> rfl
    rw [wave_Read_l3, if_pos (decide_eq_true (by omega)), if_pos g, hw, rowsR_at L hj, hs, hb, hv, if_pos (fun _ => g), if_pos (fun _ => ⟨by omega, hlt⟩), if_pos (by omega), wrapS (by omega)]
    exact rd3p hx d k (j + 1) _ (by omega) (by omega) (by simp [st, hl]) (fun q hq' => by
      unfold st
      rw [Int.toNat_natCast, List.getElem?_set]
      by_cases e : j = q
      · subst e; rw [if_pos rfl, if_pos (by omega)]
      · rw [if_neg e]; exact hq q (by omega))
theorem rd2p : ∀ (r : List api_Rec) (k t : Nat) (acc : List api_Rec), L.drop t = r → r.length < k → acc.length = t → wave_Read_l2 (rowsR L) k acc (t : Int) = some (acc ++ r.map bare)
  | _, 0, _, _, _, hk, _ => by omega
  | r, k + 1, t, acc, h, hk, ha => by
    have hs : sln (gt (rowsR L) 0) = ((5 + L.length : Nat) : Int) := by
      rw [show (0 : Int) = ((0 : Nat) : Int) from rfl, rowsR_at L (by omega)]
      unfold sln; rw [bs_size, rowI_len L (by omega)]
    have hw : IntKind.wrap .i64 (sln (gt (rowsR L) 0) - 5) = (L.length : Int) := by
      rw [hs, wrap_i64 (by omega) (by omega)]; omega
    rw [wave_Read_l2, hw]
    match r, h, hk with
    | [], h, _ =>
      have := gtNil h
      unfold ln at this
      rw [if_neg (fun e => this (of_decide_eq_true e))]
      simp
    | x :: r, h, hk =>
      obtain ⟨hx, h1, ht⟩ := dropAt h
      obtain ⟨l', a, b, h3, hl, hq⟩ := rd3p hN hx 7 BIG 0 [false, false, false, false, false, false, false] rfl (by unfold BIG; omega) rfl (fun q hq => by omega)
      rw [show (((0 : Nat) : Int)) = 0 from rfl] at h3
      have q0 : gt l' 0 = lvl x 0 := gtAt (hq 0 (by omega))
      have q1 : gt l' 1 = lvl x 1 := gtAt (hq 1 (by omega))
      have q2 : gt l' 2 = lvl x 2 := gtAt (hq 2 (by omega))
      have q3 : gt l' 3 = lvl x 3 := gtAt (hq 3 (by omega))
      have q4 : gt l' 4 = lvl x 4 := gtAt (hq 4 (by omega))
      have q5 : gt l' 5 = lvl x 5 := gtAt (hq 5 (by omega))
      have q6 : gt l' 6 = lvl x 6 := gtAt (hq 6 (by omega))
      have hb : api_Rec.mk 0 0 (gt l' 0) (gt l' 1) (gt l' 2) (gt l' 3) (gt l' 4) (gt l' 5) (gt l' 6) = bare x := by
        rw [q0, q1, q2, q3, q4, q5, q6]; rfl
      rw [if_pos (decide_eq_true (by omega)), h3, Option.bind_some]
      simp only
      rw [if_pos (by decide), if_pos (by decide), if_pos (by decide), if_pos (by decide), if_pos (by decide), if_pos (by decide), if_pos (by decide), if_pos (by simp only [List.length_cons, List.length_nil]; omega), wrapS (by omega), hb]
      rw [rd2p r k (t + 1) (acc ++ [bare x]) h1 (by simp only [List.length_cons] at hk; omega) (by simp [ha])]
      simp
theorem textM_len : (textM L).length ≤ 7 * 211 := by
  have r0 := rowM_len L (j := 0) (by omega)
  have r1 := rowM_len L (j := 1) (by omega)
  have r2 := rowM_len L (j := 2) (by omega)
  have r3 := rowM_len L (j := 3) (by omega)
  have r4 := rowM_len L (j := 4) (by omega)
  have r5 := rowM_len L (j := 5) (by omega)
  have r6 := rowM_len L (j := 6) (by omega)
  unfold textM
  simp only [List.length_append]; omega
omit hN in
theorem textM_bytes : ∀ x ∈ textM L, 0 ≤ x ∧ x < 256 := fun x hx => by
  unfold textM at hx
  simp only [List.mem_append] at hx
  rcases hx with (((((hx | hx) | hx) | hx) | hx) | hx) | hx
  all_goals exact rowM_bytes _ _ x hx
theorem read_text : wave_Read (bs (textM L)) = some (L.map bare, 0) := by
  have h10 : (((10 : UInt8).toNat : Nat) : Int) = 10 := rfl
  have hl := textM_len hN
  have hR := rowsR_len L
  have g0 : 0 ≤ (0 : Int) ∧ 0 < ln (rowsR L) := by omega
  have hs : sln (gt (rowsR L) 0) = ((5 + L.length : Nat) : Int) := by
    rw [show (0 : Int) = ((0 : Nat) : Int) from rfl, rowsR_at L (by omega)]
    unfold sln; rw [bs_size, rowI_len L (by omega)]
  have h2 := rd2p hN L BIG 0 [] rfl (by unfold BIG; omega) rfl
  rw [show (((0 : Nat) : Int)) = 0 from rfl, List.nil_append] at h2
  have hrr : (((List.range 7).map (rowI L) ++ [[]]).map bs) = rowsR L := rfl
  unfold wave_Read
  rw [show (⟨#[10]⟩ : ByteArray) = s1 10 from rfl, split_is _ 10 (by rw [bs_size]; omega), Option.bind_some]
  unfold pieces
  rw [h10, sbl_bs textM_bytes, text_cut, hrr, if_pos (fun _ => g0), if_neg (by rw [hR, hs]; simp; omega), if_pos g0, h2, Option.bind_some, text_is (by rw [List.length_map]; omega), Option.bind_some, bare_text, if_neg (by simp)]
end

/-- How often a line becomes high. -/
def riseN : Bool → List Bool → Nat
  | _, [] => 0
  | p, b :: r => (if b && !p then 1 else 0) + riseN b r
def headP (x : UInt8) : List UInt8 → Nat
  | [] => 0
  | y :: _ => if x = 95 ∧ y = 35 then 1 else 0
def pairsU : List UInt8 → Nat
  | [] => 0
  | x :: r => headP x r + pairsU r
theorem count_pairs : ∀ (n : Nat) (l : List UInt8), l.length ≤ n → Lib.count l [95, 35] = pairsU l
  | _, [], _ => Lib.count_miss rfl
  | 0, x :: r, h => by simp at h
  | n + 1, x :: r, h => by
    simp only [List.length_cons] at h
    by_cases hp : List.isPrefixOf [95, 35] (x :: r) = true
    · have hi : Lib.index (x :: r) [95, 35] = ((0 : Nat) : Int) := by unfold Lib.index; rw [if_pos hp]; rfl
      rw [Lib.count_hit (by simp) hi]
      match r, hp, h with
      | [], hp, _ => simp [List.isPrefixOf] at hp
      | y :: q, hp, h =>
        simp only [List.isPrefixOf, Bool.and_true, Bool.and_eq_true, beq_iff_eq] at hp
        obtain ⟨rfl, rfl⟩ := hp
        simp only [List.length_cons] at h
        have e : List.drop (0 + [(95 : UInt8), 35].length) (95 :: 35 :: q) = q := rfl
        rw [e, count_pairs n q (by omega)]
        have e2 : pairsU (35 :: q) = pairsU q := by
          rw [pairsU]
          cases q <;> simp [headP]
        rw [pairsU, e2]
        simp [headP]
    · have hc : Lib.count (x :: r) [95, 35] = Lib.count r [95, 35] := by
        have hge := Lib.index_ge r [95, 35]
        by_cases hm : Lib.index r [95, 35] = -1
        · have : Lib.index (x :: r) [95, 35] = -1 := by unfold Lib.index; rw [if_neg hp, if_pos (by simpa using hm)]
          rw [Lib.count_miss this, Lib.count_miss hm]
        · obtain ⟨i, hi⟩ : ∃ i : Nat, Lib.index r [95, 35] = i := ⟨(Lib.index r [95, 35]).toNat, by omega⟩
          have : Lib.index (x :: r) [95, 35] = ((i + 1 : Nat) : Int) := by unfold Lib.index; rw [if_neg hp, if_neg (by simpa using hm), hi]; rfl
          rw [Lib.count_hit (by simp) this, Lib.count_hit (by simp) hi]
          rw [show i + 1 + [(95 : UInt8), 35].length = (i + [(95 : UInt8), 35].length) + 1 by omega, List.drop_succ_cons]
      rw [hc, count_pairs n r (by omega), pairsU]
      match r, hp with
      | [], _ => simp [headP]
      | y :: q, hp =>
        have : ¬ (x = 95 ∧ y = 35) := fun e => hp (by obtain ⟨rfl, rfl⟩ := e; simp [List.isPrefixOf])
        simp [headP, this]
def uB (b : Bool) : UInt8 := if b then 35 else 95
theorem pairs_rise : ∀ (l : List Bool) (p : Bool), pairsU (uB p :: l.map uB) = riseN p l
  | [], p => by simp [pairsU, headP, riseN]
  | b :: r, p => by
    rw [List.map_cons, pairsU, pairs_rise r b, riseN]
    congr 1
    cases p <;> cases b <;> rfl
theorem data_bs (l : List Int) : (bs l).data.toList = l.map fun b => UInt8.ofNat b.toNat := by simp [bs]
theorem mark_u (x : api_Rec) (j : Nat) : UInt8.ofNat (mark x j).toNat = uB (lvl x j) := by
  unfold mark uB
  cases lvl x j <;> rfl
theorem marks_u (L : List api_Rec) (j : Nat) : (L.map fun x => mark x j).map (fun b => UInt8.ofNat b.toNat) = (L.map fun x => lvl x j).map uB := by
  rw [List.map_map, List.map_map]
  exact List.map_congr_left fun x _ => mark_u x j
theorem rises_is {L : List api_Rec} (hN : L.length ≤ 200) {j : Nat} (hj : j < 7) : wave_Rises (j : Int) L = some ((riseN false (L.map fun x => lvl x j) : Nat) : Int) := by
  have e : (⟨#[95]⟩ : ByteArray) ++ bs (L.map fun x => mark x j) = bs (95 :: L.map fun x => mark x j) := by
    rw [show (⟨#[95]⟩ : ByteArray) = bs [95] from rfl, ← bs_app]; rfl
  have e95 : (⟨#[95]⟩ : ByteArray).size = 1 := rfl
  have hc : Lib.countB (bs (95 :: L.map fun x => mark x j)) (⟨#[95, 35]⟩ : ByteArray) = riseN false (L.map fun x => lvl x j) := by
    show Lib.count (bs (95 :: L.map fun x => mark x j)).data.toList [95, 35] = _
    rw [count_pairs _ _ (Nat.le_refl _), data_bs, List.map_cons, marks_u]
    exact pairs_rise _ false
  unfold wave_Rises
  rw [wline_is (by omega) hj, Option.bind_some, if_pos (by rw [bs_size, List.length_map, e95]; omega), e]
  have h2 : strings_Count (bs (95 :: L.map fun x => mark x j)) (⟨#[95, 35]⟩ : ByteArray) = some ((Lib.countB (bs (95 :: L.map fun x => mark x j)) (⟨#[95, 35]⟩ : ByteArray) : Nat) : Int) := by
    unfold strings_Count
    simp only
    rw [if_pos ⟨by decide, by rw [bs_size, List.length_cons, List.length_map]; omega⟩]
  rw [h2, Option.bind_some, hc]
theorem high_is {L : List api_Rec} (hN : L.length ≤ 200) {j : Nat} (hj : j < 7) : wave_High (j : Int) L = some (((L.map fun x => lvl x j).count true : Nat) : Int) := by
  unfold wave_High
  rw [wline_is (by omega) hj, Option.bind_some, show (⟨#[35]⟩ : ByteArray) = s1 35 from rfl, count_is, Option.bind_some, data_bs, marks_u]
  congr 2
  induction (L.map fun x => lvl x j) with
  | nil => rfl
  | cons b r ih =>
    rw [List.map_cons, List.count_cons, List.count_cons, ih]
    cases b <;> rfl
end Go.Proofs.YtnilppmpfklpbaaDoorK
