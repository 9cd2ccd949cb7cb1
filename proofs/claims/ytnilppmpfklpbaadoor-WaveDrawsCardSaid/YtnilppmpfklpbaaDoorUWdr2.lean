/- The law WaveDraws, joined. -/
import Derived.Test.YtnilppmpfklpbaaDoorUWdr
namespace Go.Proofs.YtnilppmpfklpbaaDoorK
set_option linter.unusedVariables false
set_option linter.unusedSimpArgs false
set_option maxHeartbeats 400000
open Go.RowKit
attribute [local irreducible] dwv mops lops lqops lwops kont iter run runK rk okK ex E1 vals val chain chB sel resF

/-- Is a line on in a record? -/
def onL (r : api_Rec) (line : Int) : Bool := ((decide (0 ≤ line)) && (decide (line < 7))) && (gt [r.Read, r.BA, r.BS, r.LIC, r.AVMA, r.BUSY, r.Mine] line)
theorem on_is (r : api_Rec) (line : Int) : spinetlaw50_on r line = some (onL r line) := by
  unfold spinetlaw50_on
  rw [if_pos (fun e => by simpa using e)]
  rfl
theorem onL_lvl (r : api_Rec) {j : Nat} (hj : j < 7) : onL r (j : Int) = lvl r j := by
  unfold onL lvl
  rw [decide_eq_true (by omega), decide_eq_true (by omega)]
  rfl
theorem onL_out (r : api_Rec) {line : Int} (h : ¬ (0 ≤ line ∧ line < 7)) : onL r line = false := by
  unfold onL
  have : ((decide (0 ≤ line)) && (decide (line < 7))) = false := by
    cases hc : ((decide (0 ≤ line)) && (decide (line < 7))) with
    | false => rfl
    | true => exact absurd (by simpa using hc) h
  rw [this]; rfl
theorem mark_on (r : api_Rec) {j : Nat} (hj : j < 7) : mark r j = if onL r (j : Int) = true then 35 else 95 := by
  rw [onL_lvl r hj]
  unfold mark
  cases lvl r j <;> rfl

section
variable {L : List api_Rec} (hN : L.length ≤ 200)
include hN
theorem d_l4 {j : Nat} (hj : j < 7) : ∀ (r : List api_Rec) (k i : Nat) (W : List Int), L.drop i = r → r.length < k → W.length = i → ∃ a b c, spinetlaw50_WaveDraws_l4 L (j : Int) k (bs W) (i : Int) = some (bs (W ++ r.map fun x => mark x j), a, b, c)
  | _, 0, _, _, _, hk, _ => by omega
  | [], k + 1, i, W, h, _, _ => by
    rw [spinetlaw50_WaveDraws_l4, if_neg (fun e => gtNil h (of_decide_eq_true e)), List.map_nil, List.append_nil]
    exact ⟨_, _, _, rfl⟩
  | x :: r, k + 1, i, W, h, hk, hW => by
    obtain ⟨e1, g1, h1⟩ := gtCons h
    have hi := (dropAt h).2.2
    obtain ⟨a, b, c, ih⟩ := d_l4 hj r k (i + 1) (W ++ [mark x j]) h1 (by simp only [List.length_cons] at hk; omega) (by simp [hW])
    have e35 : (⟨#[35]⟩ : ByteArray) = bs [35] := rfl
    have e95 : (⟨#[95]⟩ : ByteArray) = bs [95] := rfl
    refine ⟨a, b, c, ?_⟩
    rw [spinetlaw50_WaveDraws_l4, if_pos (decide_eq_true g1.2), if_pos g1, e1, on_is, Option.bind_some, wrapS (by omega), e35, e95]
    have hm := mark_on x hj
    cases ho : onL x (j : Int) with
    | true =>
      rw [ho, if_pos rfl] at hm
      rw [hm] at ih
      rw [if_pos rfl, if_pos (by rw [bs_size, bs_size]; simp only [List.length_cons, List.length_nil]; omega), ← bs_app, ih, List.map_cons, hm, List.append_assoc]
      rfl
    | false =>
      rw [ho, if_neg (by simp)] at hm
      rw [hm] at ih
      rw [if_neg (by simp), if_pos (by rw [bs_size, bs_size]; simp only [List.length_cons, List.length_nil]; omega), ← bs_app, ih, List.map_cons, hm, List.append_assoc]
      rfl
theorem d_step {j : Nat} (hj : j < 7) (k : Nat) (W : List Int) (hW : W.length ≤ 5000) : spinetlaw50_WaveDraws_l3 L (k + 1) (bs W) (j : Int) = spinetlaw50_WaveDraws_l3 L k (bs (W ++ rowM L j)) ((j + 1 : Nat) : Int) := by
  obtain ⟨a, b, c, h4⟩ := d_l4 hN hj L BIG 0 [] rfl (by unfold BIG; omega) rfl
  rw [show (((0 : Nat) : Int)) = 0 from rfl, List.nil_append] at h4
  have hh : gt [(⟨#[82, 69, 65, 68, 32]⟩ : ByteArray), (⟨#[66, 65, 32, 32, 32]⟩ : ByteArray), (⟨#[66, 83, 32, 32, 32]⟩ : ByteArray), (⟨#[76, 73, 67, 32, 32]⟩ : ByteArray), (⟨#[65, 86, 77, 65, 32]⟩ : ByteArray), (⟨#[66, 85, 83, 89, 32]⟩ : ByteArray), (⟨#[77, 73, 78, 69, 32]⟩ : ByteArray)] (j : Int) = gt heads (j : Int) := rfl
  have hz : (gt heads (j : Int)).size = 5 := by rw [← sbl_len]; exact (heads_is hj).1
  have e10 : (⟨#[10]⟩ : ByteArray).size = 1 := rfl
  have hm : sbl (bs (L.map fun x => mark x j)) = L.map fun x => mark x j := sbl_bs fun y hy => by
    obtain ⟨x, _, rfl⟩ := List.mem_map.1 hy
    exact mark_byte x j
  have hs1 : (gt heads (j : Int) ++ bs (L.map fun x => mark x j)).size = 5 + L.length := by
    rw [← sbl_len, sbl_app, List.length_append, sbl_len, hz, hm, List.length_map]
  have hrow : (gt heads (j : Int) ++ bs (L.map fun x => mark x j)) ++ (⟨#[10]⟩ : ByteArray) = bs (rowM L j) := by
    apply sbl_inj
    rw [sbl_app, sbl_app, hm, sbl_bs (rowM_bytes L j)]
    rfl
  have hrl : (rowM L j).length = 6 + L.length := by rw [rowM_I, List.length_append, rowI_len L hj]; simp only [List.length_cons, List.length_nil]; omega
  rw [spinetlaw50_WaveDraws_l3, if_pos (decide_eq_true (by omega)), show (⟨#[]⟩ : ByteArray) = bs [] from rfl, h4, Option.bind_some]
  simp only
  rw [wline_is (by omega) hj, Option.bind_some, if_neg (by simp), if_pos (by omega), hh, if_pos (by rw [hz, bs_size, List.length_map]; omega), if_pos (by rw [hs1, e10]; omega), hrow, if_pos (by rw [bs_size, bs_size, hrl]; omega), wrapS (by omega), ← bs_app]
theorem d_l3 : spinetlaw50_WaveDraws_l3 L BIG ⟨#[]⟩ 0 = some (.go (bs (textM L))) := by
  obtain ⟨k, hk⟩ := bigS 7 (by omega)
  have r0 := rowM_len L (j := 0) (by omega)
  have r1 := rowM_len L (j := 1) (by omega)
  have r2 := rowM_len L (j := 2) (by omega)
  have r3 := rowM_len L (j := 3) (by omega)
  have r4 := rowM_len L (j := 4) (by omega)
  have r5 := rowM_len L (j := 5) (by omega)
  rw [hk, show (0 : Int) = ((0 : Nat) : Int) from rfl, show (⟨#[]⟩ : ByteArray) = bs [] from rfl]
  rw [d_step hN (by omega) _ _ (by simp), d_step hN (by omega) _ _ (by simp only [List.length_append, List.length_nil, Nat.zero_add, Nat.reduceAdd]; omega), d_step hN (by omega) _ _ (by simp only [List.length_append, List.length_nil, Nat.zero_add, Nat.reduceAdd]; omega), d_step hN (by omega) _ _ (by simp only [List.length_append, List.length_nil, Nat.zero_add, Nat.reduceAdd]; omega), d_step hN (by omega) _ _ (by simp only [List.length_append, List.length_nil, Nat.zero_add, Nat.reduceAdd]; omega), d_step hN (by omega) _ _ (by simp only [List.length_append, List.length_nil, Nat.zero_add, Nat.reduceAdd]; omega), d_step hN (by omega) _ _ (by simp only [List.length_append, List.length_nil, Nat.zero_add, Nat.reduceAdd]; omega)]
  rw [spinetlaw50_WaveDraws_l3, if_neg (by decide)]
  rfl
theorem d_l5 (line : Int) : ∀ (r : List api_Rec) (k i : Nat) (acc : List api_Rec) (p : Bool) (u v : Nat), L.drop i = r → r.length < k → acc.length = i → u ≤ i → v ≤ i → ((i = 0 ∧ p = false) ∨ (0 < i ∧ onL (gt L ((i : Int) - 1)) line = p)) →
    spinetlaw50_WaveDraws_l5 L line k acc (u : Int) (v : Int) (i : Int) = some (acc ++ r.map bare, ((u + riseN p (r.map fun x => onL x line) : Nat) : Int), ((v + (r.map fun x => onL x line).count true : Nat) : Int))
  | _, 0, _, _, _, _, _, _, hk, _, _, _, _ => by omega
  | [], k + 1, i, acc, p, u, v, h, _, _, _, _, _ => by
    rw [spinetlaw50_WaveDraws_l5, if_neg (fun e => gtNil h (of_decide_eq_true e))]
    simp [riseN]
  | x :: r, k + 1, i, acc, p, u, v, h, hk, ha, hu, hv, hp => by
    obtain ⟨e1, g1, h1⟩ := gtCons h
    have hi := (dropAt h).2.2
    have hb : api_Rec.mk 0 0 x.Read x.BA x.BS x.LIC x.AVMA x.BUSY x.Mine = bare x := rfl
    have hnext : onL (gt L (((i + 1 : Nat) : Int) - 1)) line = onL x line := by
      rw [show ((i + 1 : Nat) : Int) - 1 = (i : Int) by omega, e1]
    have ih := fun u' v' hu' hv' => d_l5 line r k (i + 1) (acc ++ [bare x]) (onL x line) u' v' h1 (by simp only [List.length_cons] at hk; omega) (by simp [ha]) hu' hv' (.inr ⟨by omega, hnext⟩)
    have hwi : IntKind.wrap .i64 ((i : Int) + 1) = ((i + 1 : Nat) : Int) := wrapS (by omega)
    have hwu : IntKind.wrap .i64 ((u : Int) + 1) = ((u + 1 : Nat) : Int) := wrapS (by omega)
    have hwv : IntKind.wrap .i64 ((v : Int) + 1) = ((v + 1 : Nat) : Int) := wrapS (by omega)
    rw [spinetlaw50_WaveDraws_l5, if_pos (decide_eq_true g1.2), if_pos g1, e1, hb, if_pos (by simp only [List.length_cons, List.length_nil]; omega), if_pos g1, on_is, Option.bind_some, hwi]
    cases ho : onL x line with
    | false =>
      rw [if_neg (by simp)]
      have := ih u v (by omega) (by omega)
      rw [ho] at this
      rw [this, List.map_cons, List.map_cons, ho, riseN, List.count_cons]
      simp
    | true =>
      rw [if_pos rfl]
      have hw : ¬ (i = 0) → IntKind.wrap .i64 ((i : Int) - 1) = (i : Int) - 1 := fun h0 => wrap_i64 (by omega) (by omega)
      rw [if_pos (fun e => by
        have h0 : ¬ i = 0 := fun e' => by subst e'; simp at e
        rw [hw h0]; unfold ln; omega)]
      rw [hwv]
      rcases hp with ⟨h0, rfl⟩ | ⟨h0, hp⟩
      · subst h0
        rw [if_neg (by simp), Option.bind_some, if_pos (by simp), hwu]
        have := ih (u + 1) (v + 1) (by omega) (by omega)
        rw [ho] at this
        rw [this, List.map_cons, List.map_cons, ho, riseN, List.count_cons]
        simp; omega
      · have hz : ((i : Int) == 0) = false := by simp; omega
        rw [hz, if_pos (by simp), hw (by omega), on_is, hp, Option.bind_some]
        cases p with
        | true =>
          rw [if_neg (by simp)]
          have := ih u (v + 1) (by omega) (by omega)
          rw [ho] at this
          rw [this, List.map_cons, List.map_cons, ho, riseN, List.count_cons]
          simp; omega
        | false =>
          rw [if_pos (by simp), hwu]
          have := ih (u + 1) (v + 1) (by omega) (by omega)
          rw [ho] at this
          rw [this, List.map_cons, List.map_cons, ho, riseN, List.count_cons]
          simp; omega
end
theorem rise_out : ∀ (l : List api_Rec) (f : api_Rec → Bool), (∀ x, f x = false) → riseN false (l.map f) = 0 ∧ (l.map f).count true = 0
  | [], _, _ => ⟨rfl, rfl⟩
  | x :: r, f, h => by
    obtain ⟨h1, h2⟩ := rise_out r f h
    rw [List.map_cons, h x, riseN, List.count_cons, h1, h2]
    simp
theorem line_out {line : Int} (L : List api_Rec) (h : ¬ (0 ≤ line ∧ line < 7)) : wave_Line line L = some ⟨#[]⟩ := by
  unfold wave_Line
  rw [if_pos (by simp; omega)]
theorem counts_is {L : List api_Rec} (hN : L.length ≤ 200) (line : Int) : wave_Rises line L = some ((riseN false (L.map fun x => onL x line) : Nat) : Int) ∧ wave_High line L = some (((L.map fun x => onL x line).count true : Nat) : Int) := by
  by_cases h : 0 ≤ line ∧ line < 7
  · obtain ⟨j, rfl⟩ : ∃ j : Nat, line = j := ⟨line.toNat, by omega⟩
    have hj : j < 7 := by omega
    have e : (L.map fun x => onL x (j : Int)) = L.map fun x => lvl x j := List.map_congr_left fun x _ => onL_lvl x hj
    rw [e]
    exact ⟨rises_is hN hj, high_is hN hj⟩
  · obtain ⟨h1, h2⟩ := rise_out L (fun x => onL x line) fun x => onL_out x h
    rw [h1, h2]
    unfold wave_Rises wave_High
    rw [line_out L h]
    exact ⟨by decide +kernel, by decide +kernel⟩
theorem eq_l0 (l : List api_Rec) (hl : l.length < 2 ^ 40) : ∀ (r : List api_Rec) (k i : Nat), l.drop i = r → r.length < k → slices_Equal_sl_api_Rec_api_Rec_l0 l l k (i : Int) = some (.go ())
  | _, 0, _, _, hk => by omega
  | [], k + 1, i, h, _ => by
    rw [slices_Equal_sl_api_Rec_api_Rec_l0, if_neg (fun e => gtNil h (of_decide_eq_true e))]
  | x :: r, k + 1, i, h, hk => by
    obtain ⟨e1, g1, h1⟩ := gtCons h
    have hi := (dropAt h).2.2
    rw [slices_Equal_sl_api_Rec_api_Rec_l0, if_pos (decide_eq_true g1.2), if_pos g1, if_pos g1, if_neg (by simp), wrapS (by omega), eq_l0 l hl r k (i + 1) h1 (by simp only [List.length_cons] at hk; omega)]
theorem eq_refl (l : List api_Rec) (hl : l.length < 2 ^ 40) : slices_Equal_sl_api_Rec_api_Rec l l = some true := by
  unfold slices_Equal_sl_api_Rec_api_Rec
  rw [if_neg (by simp)]
  have := eq_l0 l hl l BIG 0 rfl (by unfold BIG; omega)
  rw [show (((0 : Nat) : Int)) = 0 from rfl] at this
  rw [this]; rfl

theorem waveDraws_true (L : List api_Rec) (line : Int) : spinetlaw50_WaveDraws L line = some true := by
  unfold spinetlaw50_WaveDraws
  by_cases h6 : 200 < ln L
  · rw [if_pos (decide_eq_true h6)]
  rw [if_neg (fun h => h6 (of_decide_eq_true h))]
  have hN : L.length ≤ 200 := by unfold ln at h6; omega
  have h5 := d_l5 hN line L BIG 0 [] false 0 0 rfl (by unfold BIG; omega) rfl (Nat.le_refl _) (Nat.le_refl _) (.inl ⟨rfl, rfl⟩)
  rw [show (((0 : Nat) : Int)) = 0 from rfl, List.nil_append, Nat.zero_add, Nat.zero_add] at h5
  obtain ⟨hr, hh⟩ := counts_is hN line
  rw [d_l3 hN, Option.bind_some]
  simp only
  rw [h5, Option.bind_some]
  simp only
  have hgo : ∀ w : ByteArray, (if ((decide (line < 0)) || (decide (6 < line))) = true then wave_Line line L else some default) = some w → (((decide (line < 0)) || (decide (6 < line))) && (!(w.toList == (⟨#[]⟩ : ByteArray).toList))) = false := by
    intro w hw
    by_cases h : 0 ≤ line ∧ line < 7
    · have : ((decide (line < 0)) || (decide (6 < line))) = false := by simp; omega
      rw [this]; rfl
    · rw [if_pos (by simp; omega), line_out L h] at hw
      obtain rfl := Option.some.inj hw
      simp
  obtain ⟨w, hw⟩ : ∃ w, (if ((decide (line < 0)) || (decide (6 < line))) = true then wave_Line line L else some default) = some w := by
    by_cases h : 0 ≤ line ∧ line < 7
    · exact ⟨default, by rw [if_neg (by simp; omega)]⟩
    · exact ⟨_, by rw [if_pos (by simp; omega), line_out L h]⟩
  rw [hw, Option.bind_some, hgo w hw, if_neg (by simp), read_text hN, Option.bind_some, text_is (by omega), Option.bind_some]
  simp only [beq_self_eq_true, if_true, Bool.true_and]
  rw [hr, Option.bind_some]
  simp only [beq_self_eq_true, if_true, Bool.true_and]
  rw [hh, Option.bind_some]
  simp only [beq_self_eq_true, if_true, Bool.true_and]
  rw [eq_refl _ (by rw [List.length_map]; omega), Option.bind_some]
  simp only [beq_self_eq_true, if_true, Bool.true_and]
  rw [show spinetlaw50_alive = some true by decide +kernel]
  rfl
end Go.Proofs.YtnilppmpfklpbaaDoorK
