/- The law WaveReads: texts of records (begun). -/
import Derived.Test.YtnilppmpfklpbaaDoorUSpl
namespace Go.Proofs.YtnilppmpfklpbaaDoorK
set_option linter.unusedVariables false
set_option linter.unusedSimpArgs false
set_option maxHeartbeats 4000000
open Go.RowKit
attribute [local irreducible] dwv mops lops lqops lwops kont iter run runK rk okK ex E1 vals val chain chB sel resF

theorem alive50 : spinetlaw50_alive = some true := by decide +kernel
def lvl (r : api_Rec) (j : Nat) : Bool := gt [r.Read, r.BA, r.BS, r.LIC, r.AVMA, r.BUSY, r.Mine] (j : Int)
def mark (r : api_Rec) (j : Nat) : Int := if lvl r j then 35 else 95
theorem level_is (r : api_Rec) {j : Nat} (hj : j < 7) : wave_level r (j : Int) = some (lvl r j) := by
  unfold wave_level lvl
  rw [if_pos (by omega)]
theorem wline_l0 {L : List api_Rec} (hN : L.length < 10000) {j : Nat} (hj : j < 7) : ∀ (r : List api_Rec) (k i : Nat) (a : List Int), L.drop i = r → r.length < k → a.length = i → wave_Line_l0 (j : Int) L k a (i : Int) = some (a ++ r.map fun x => mark x j)
  | _, 0, _, _, _, hk, _ => by omega
  | [], k + 1, i, a, h, _, _ => by
    rw [wave_Line_l0, if_neg (fun e => gtNil h (of_decide_eq_true e))]; simp
  | x :: r, k + 1, i, a, h, hk, ha => by
    obtain ⟨e1, g1, h1⟩ := gtCons h
    have hi := (dropAt h).2.2
    have ih := fun y => wline_l0 hN hj r k (i + 1) (a ++ [y]) h1 (by simp only [List.length_cons] at hk; omega) (by simp [ha])
    rw [wave_Line_l0, if_pos (decide_eq_true g1.2), if_pos g1, e1, level_is x hj, Option.bind_some]
    have hw : IntKind.wrap .i64 ((i : Int) + 1) = ((i + 1 : Nat) : Int) := wrapS (by omega)
    cases hl : lvl x j with
    | true =>
      rw [if_pos rfl, if_pos (by simp only [List.length_cons, List.length_nil]; omega), hw, ih 35]
      simp [mark, hl]
    | false =>
      rw [if_neg (by simp), if_pos (by simp only [List.length_cons, List.length_nil]; omega), hw, ih 95]
      simp [mark, hl]
theorem mark_byte (r : api_Rec) (j : Nat) : 0 ≤ mark r j ∧ mark r j < 256 := by
  unfold mark
  split <;> decide
theorem wline_is {L : List api_Rec} (hN : L.length < 10000) {j : Nat} (hj : j < 7) : wave_Line (j : Int) L = some (bs (L.map fun x => mark x j)) := by
  have h := wline_l0 hN hj L BIG 0 [] rfl (by unfold BIG; omega) rfl
  rw [show (((0 : Nat) : Int)) = 0 from rfl] at h
  have hb : bytesB (L.map fun x => mark x j) = true := by
    unfold bytesB
    rw [List.all_eq_true]
    intro y hy
    obtain ⟨x, _, rfl⟩ := List.mem_map.1 hy
    have := mark_byte x j
    simp; omega
  unfold wave_Line
  rw [if_neg (by simp; omega), h, Option.bind_some, List.nil_append, if_pos hb]
def wnames : List ByteArray := [⟨#[82, 69, 65, 68]⟩, ⟨#[66, 65]⟩, ⟨#[66, 83]⟩, ⟨#[76, 73, 67]⟩, ⟨#[65, 86, 77, 65]⟩, ⟨#[66, 85, 83, 89]⟩, ⟨#[77, 73, 78, 69]⟩]
def heads : List ByteArray := [⟨#[82, 69, 65, 68, 32]⟩, ⟨#[66, 65, 32, 32, 32]⟩, ⟨#[66, 83, 32, 32, 32]⟩, ⟨#[76, 73, 67, 32, 32]⟩, ⟨#[65, 86, 77, 65, 32]⟩, ⟨#[66, 85, 83, 89, 32]⟩, ⟨#[77, 73, 78, 69, 32]⟩]
theorem names_split : strings_Split (⟨#[82, 69, 65, 68, 32, 66, 65, 32, 66, 83, 32, 76, 73, 67, 32, 65, 86, 77, 65, 32, 66, 85, 83, 89, 32, 77, 73, 78, 69]⟩ : ByteArray) (⟨#[32]⟩ : ByteArray) = some wnames := by decide +kernel
theorem pad_is : ∀ j : Nat, j < 7 → ∃ r, strings_Repeat (⟨#[32]⟩ : ByteArray) (IntKind.wrap .i64 (5 - (sln (gt wnames (j : Int))))) = some r ∧ (gt wnames (j : Int)) ++ r = gt heads (j : Int) ∧ r.size ≤ 5 ∧ (gt wnames (j : Int)).size ≤ 5 := by
  intro j hj
  match j, hj with
  | 0, _ => exact ⟨⟨#[32]⟩, by decide +kernel, by decide +kernel, by decide, by decide⟩
  | 1, _ => exact ⟨⟨#[32, 32, 32]⟩, by decide +kernel, by decide +kernel, by decide, by decide⟩
  | 2, _ => exact ⟨⟨#[32, 32, 32]⟩, by decide +kernel, by decide +kernel, by decide, by decide⟩
  | 3, _ => exact ⟨⟨#[32, 32]⟩, by decide +kernel, by decide +kernel, by decide, by decide⟩
  | 4, _ => exact ⟨⟨#[32]⟩, by decide +kernel, by decide +kernel, by decide, by decide⟩
  | 5, _ => exact ⟨⟨#[32]⟩, by decide +kernel, by decide +kernel, by decide, by decide⟩
  | 6, _ => exact ⟨⟨#[32]⟩, by decide +kernel, by decide +kernel, by decide, by decide⟩
def rowM (L : List api_Rec) (j : Nat) : List Int := sbl (gt heads (j : Int)) ++ (L.map fun x => mark x j) ++ [10]
theorem text_step {L : List api_Rec} (hN : L.length < 10000) {j : Nat} (hj : j < 7) (k : Nat) (a : List Int) (ha : a.length < 100000) : wave_Text_l0 L wnames (k + 1) a (j : Int) = wave_Text_l0 L wnames k (a ++ rowM L j) ((j + 1 : Nat) : Int) := by
  obtain ⟨r, h1, h2, h3, h4⟩ := pad_is j hj
  have g : 0 ≤ (j : Int) ∧ (j : Int) < ln wnames := by
    have : ln wnames = 7 := rfl
    omega
  have hs : ((bs (L.map fun x => mark x j)).size) = L.length := by rw [bs_size, List.length_map]
  have hh : (gt heads (j : Int)).size ≤ 10 := by rw [← h2, ← sbl_len, sbl_app, List.length_append, sbl_len, sbl_len]; omega
  have hm : sbl (bs (L.map fun x => mark x j)) = L.map fun x => mark x j := sbl_bs fun y hy => by
    obtain ⟨x, _, rfl⟩ := List.mem_map.1 hy
    exact mark_byte x j
  have hsz : (gt heads (j : Int) ++ bs (L.map fun x => mark x j)).size = (gt heads (j : Int)).size + L.length := by
    rw [← sbl_len, sbl_app, List.length_append, sbl_len, sbl_len, hs]
  have e10 : sbl (⟨#[10]⟩ : ByteArray) = [10] := rfl
  have hrow : sbl ((gt heads (j : Int) ++ bs (L.map fun x => mark x j)) ++ (⟨#[10]⟩ : ByteArray)) = rowM L j := by
    rw [sbl_app, sbl_app, hm, e10]; rfl
  have hrs : ((gt heads (j : Int) ++ bs (L.map fun x => mark x j)) ++ (⟨#[10]⟩ : ByteArray)).size = (gt heads (j : Int)).size + L.length + 1 := by
    rw [← sbl_len, sbl_app, List.length_append, sbl_len, hsz]; rfl
  rw [wave_Text_l0, if_pos (decide_eq_true g.2), if_pos g, h1, Option.bind_some, if_pos (by omega), wline_is hN hj, Option.bind_some, h2, if_pos (by rw [hs]; omega), if_pos (by rw [hsz]; show (((gt heads (j : Int)).size + L.length + 1 : Nat) : Int) ≤ _; omega), if_pos (by rw [hrs]; omega), hrow, wrapS (by omega)]
end Go.Proofs.YtnilppmpfklpbaaDoorK
