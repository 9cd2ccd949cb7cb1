/- The law PinsTexts, joined. -/
import Derived.Test.YthhjooegpjgicaaDoorUPtx
namespace Go.Proofs.YthhjooegpjgicaaDoorK
set_option linter.unusedVariables false
set_option linter.unusedSimpArgs false
set_option maxHeartbeats 4000000
open Go.RowKit
attribute [local irreducible] dwv mops lops lqops lwops kont iter run runK rk okK ex E1 vals val chain chB sel resF

theorem joinT_snoc (sep x : List Int) : ∀ {L : List (List Int)}, L ≠ [] → joinT sep (L ++ [x]) = joinT sep L ++ (sep ++ x)
  | [], h => absurd rfl h
  | y :: r, _ => by simp [joinT]
theorem joinT_ne (sep : List Int) : ∀ {L : List (List Int)}, L ≠ [] → (∀ y ∈ L, y ≠ []) → joinT sep L ≠ []
  | [], h, _ => absurd rfl h
  | y :: r, _, h => by
    have := h y (by simp)
    simp [joinT, this]
theorem joinT_cut (c : Int) : ∀ {L : List (List Int)}, L ≠ [] → (∀ y ∈ L, c ∉ y) → cutAt c (joinT [c] L) = L
  | [], h, _ => absurd rfl h
  | [y], _, h => by
    simp only [joinT, List.map_nil, List.flatten_nil, List.append_nil]
    exact cutAt_none (h y (by simp))
  | y :: z :: r, _, h => by
    have e : joinT [c] (y :: z :: r) = y ++ c :: joinT [c] (z :: r) := by simp [joinT]
    rw [e, cutAt_app _ (h y (by simp)), joinT_cut c (by simp) fun w hw => h w (by simp [hw])]
theorem joinT_len (sep : List Int) {m : Nat} : ∀ {L : List (List Int)}, (∀ y ∈ L, y.length ≤ m) → (joinT sep L).length ≤ L.length * (m + sep.length)
  | [], _ => by simp [joinT]
  | [y], h => by
    have := h y (by simp)
    simp [joinT]; omega
  | y :: z :: r, h => by
    have e : joinT sep (y :: z :: r) = y ++ (sep ++ joinT sep (z :: r)) := by simp [joinT]
    have ih := joinT_len sep (L := z :: r) fun w hw => h w (by simp [hw])
    have := h y (by simp)
    rw [e, List.length_append, List.length_append, List.length_cons, Nat.add_mul, Nat.one_mul]
    omega
/-- Words, with blanks between. -/
def jn (W : List ByteArray) : ByteArray := bs (joinT [32] (W.map sbl))
theorem jn_bytes (W : List ByteArray) : ∀ x ∈ joinT [32] (W.map sbl), 0 ≤ x ∧ x < 256 := by
  refine joinT_bytes (by simp) fun y hy x hx => ?_
  obtain ⟨z, _, rfl⟩ := List.mem_map.1 hy
  exact sblRange hx
theorem jn_sbl (W : List ByteArray) : sbl (jn W) = joinT [32] (W.map sbl) := sbl_bs (jn_bytes W)
theorem jn_size {W : List ByteArray} (h : ∀ w ∈ W, w.size < 30) : (jn W).size ≤ W.length * 31 := by
  unfold jn
  rw [bs_size]
  have := joinT_len [32] (m := 30) (L := W.map sbl) fun y hy => by
    obtain ⟨z, hz, rfl⟩ := List.mem_map.1 hy
    rw [sbl_len]; have := h z hz; omega
  simpa using this
theorem jn_snoc {W : List ByteArray} (h : W ≠ []) (w : ByteArray) : jn (W ++ [w]) = (jn W ++ (⟨#[32]⟩ : ByteArray)) ++ w := by
  have e32 : sbl (⟨#[32]⟩ : ByteArray) = [32] := rfl
  apply sbl_inj
  rw [sbl_app, sbl_app, jn_sbl, jn_sbl, e32, List.map_append, List.map_cons, List.map_nil, joinT_snoc _ _ (by simpa using h)]
  simp
theorem jn_one (w : ByteArray) : jn [w] = w := by
  unfold jn
  simp [joinT, bs_sbl]
theorem jn_empty {W : List ByteArray} (h : ∀ w ∈ W, 0 < w.size) : ((jn W).toList == (⟨#[]⟩ : ByteArray).toList) = W.isEmpty := by
  rw [teq, jn_sbl]
  have e0 : sbl (⟨#[]⟩ : ByteArray) = [] := rfl
  rw [e0]
  cases W with
  | nil => rfl
  | cons w r =>
    have := joinT_ne [32] (L := (w :: r).map sbl) (by simp) fun y hy => by
      obtain ⟨z, hz, rfl⟩ := List.mem_map.1 hy
      intro e
      have h1 := h z hz
      rw [← sbl_len, e] at h1
      simp at h1
    simpa using this

section
variable {l : List api_Pins} (hN : l.length ≤ 300)
include hN
theorem r_l2 : ∀ (f : Nat) (q : List api_Pins) (k i : Nat) (acc : List ByteArray), l.drop i = q → q.length ≤ f → f < k → acc.length ≤ i → (∀ w ∈ acc, 0 < w.size ∧ w.size < 30) → spinetref31_Text_l2 l k (jn acc) (i : Int) = some (jn (acc ++ (runs f q).map wordB))
  | _, _, 0, _, _, _, _, hk, _, _ => by omega
  | f, [], k + 1, i, acc, h, _, _, _, _ => by
    rw [spinetref31_Text_l2, if_neg (fun e => gtNil h (of_decide_eq_true e))]
    cases f <;> simp [runs]
  | 0, x :: r, k + 1, i, acc, h, hf, _, _, _ => by simp at hf
  | f + 1, x :: r, k + 1, i, acc, h, hf, hk, ha, hacc => by
    obtain ⟨e1, g1, h1⟩ := gtCons h
    have hi := (dropAt h).2.2
    have hl := runLen_le x r
    have hr : r.length + i + 1 = l.length := by rw [← h1, List.length_drop]; omega
    have hn : 1 + runLen x r < 301 := by omega
    obtain ⟨a, b, c, d, e, h3⟩ := t_l3 hN e1 hi r BIG 1 h1 (by unfold BIG; omega) (by omega)
    rw [← t_l3_same] at h3
    have hw := wordB_size (x, 1 + runLen x r) hn
    have h4 := r_l2 f (r.drop (runLen x r)) k (i + (1 + runLen x r)) (acc ++ [wordB (x, 1 + runLen x r)]) (by rw [← h1, List.drop_drop]; congr 1; omega) (by simp only [List.length_cons, List.length_drop] at hf ⊢; omega) (by omega) (by simp; omega) (by
      intro w hw'
      rcases List.mem_append.1 hw' with hw' | hw'
      · exact hacc w hw'
      · simp only [List.mem_cons, List.not_mem_nil, or_false] at hw'; subst hw'; exact hw)
    have w : IntKind.wrap .i64 ((i : Int) + ((1 + runLen x r : Nat) : Int)) = ((i + (1 + runLen x r) : Nat) : Int) := by rw [wrap_i64 (by omega) (by omega)]; rfl
    have hsz := jn_size fun w hw' => (hacc w hw').2
    have hp := (pw_is x).2
    have e42 : (⟨#[42]⟩ : ByteArray).size = 1 := rfl
    have e32 : (⟨#[32]⟩ : ByteArray).size = 1 := rfl
    have hj : ∀ S : ByteArray, S ++ wordB (x, 1 + runLen x r) = jn (acc ++ [wordB (x, 1 + runLen x r)]) → S.size < 100000 → spinetref31_Text_j0 (spinetref31_Text_l2 l k) l (i : Int) ((1 + runLen x r : Nat) : Int) S = some (jn (acc ++ (runs (f + 1) (x :: r)).map wordB)) := by
      intro S hS hS2
      unfold spinetref31_Text_j0
      rw [if_pos g1, e1, pword_ref, Option.bind_some, if_pos (by omega)]
      by_cases h2 : 1 < 1 + runLen x r
      · have wu : IntKind.wrap .u64 ((1 + runLen x r : Nat) : Int) = ((1 + runLen x r : Nat) : Int) := by rw [wrap_u64 (by omega) (by omega)]
        have hd := dec_is hn
        have hW : wordB (x, 1 + runLen x r) = pword x ++ ((⟨#[42]⟩ : ByteArray) ++ decB (1 + runLen x r)) := by
          unfold wordB
          rw [if_pos h2]
        have hss : (S ++ pword x) ++ ((⟨#[42]⟩ : ByteArray) ++ decB (1 + runLen x r)) = jn (acc ++ [wordB (x, 1 + runLen x r)]) := by
          rw [← hS, hW]
          apply sbl_inj
          simp only [sbl_app, List.append_assoc]
        rw [if_pos (decide_eq_true (by omega)), wu, hd.2.1, Option.bind_some, if_pos (by rw [e42]; omega), if_pos (by rw [← sbl_len (S ++ _), ← sbl_len (_ ++ decB _), sbl_app, sbl_app, List.length_append, List.length_append, sbl_len, sbl_len, sbl_len, sbl_len, e42]; omega)]
        rw [hss, w, h4, runs, List.map_cons, List.append_assoc]
        rfl
      · have hW : wordB (x, 1 + runLen x r) = pword x := by
          unfold wordB
          rw [if_neg h2]
        rw [if_neg (fun e => h2 (by have := of_decide_eq_true e; omega)), ← hW, hS, w, h4, runs, List.map_cons, List.append_assoc]
        rfl
    rw [spinetref31_Text_l2, if_pos (decide_eq_true g1.2), show (1 : Int) = ((1 : Nat) : Int) from rfl, h3, Option.bind_some]
    simp only
    rw [jn_empty fun w hw' => (hacc w hw').1]
    cases acc with
    | nil =>
      rw [if_neg (by simp)]
      refine hj _ ?_ (by show (jn []).size < _; decide)
      rw [List.nil_append, jn_one]
      apply sbl_inj
      rw [sbl_app, jn_sbl]; rfl
    | cons y acc =>
      rw [if_pos (by simp), if_pos (by rw [e32]; omega)]
      exact hj _ (jn_snoc (by simp) _).symm (by rw [← sbl_len, sbl_app, List.length_append, sbl_len, sbl_len, e32]; omega)

theorem law_l0 : ∀ (r : List api_Pins) (k i : Nat), l.drop i = r → r.length < k → spinetlaw31_PinsTexts_l0 l k (i : Int) = some (.go ())
  | _, 0, _, _, hk => by omega
  | [], k + 1, i, h, _ => by
    rw [spinetlaw31_PinsTexts_l0, if_neg (fun e => gtNil h (of_decide_eq_true e))]
  | x :: r, k + 1, i, h, hk => by
    obtain ⟨e1, g1, h1⟩ := gtCons h
    have hi := (dropAt h).2.2
    rw [spinetlaw31_PinsTexts_l0, if_pos (decide_eq_true g1.2), if_pos g1, e1, pword_is, Option.bind_some, one_is, oneM_word, Option.bind_some, if_pos g1, Option.bind_some, if_pos g1, pword_ref, Option.bind_some, if_pos (fun _ => g1), if_neg (by simp), wrapS (by omega)]
    exact law_l0 r k (i + 1) h1 (by simp only [List.length_cons] at hk; omega)
end

theorem foP_words : ∀ (L : List (api_Pins × Nat)) (l : List api_Pins), (∀ q ∈ L, 0 < q.2 ∧ q.2 < 301) → l.length + (expand L).length ≤ 4096 → foP l (L.map wordB) = .go (l ++ expand L)
  | [], l, _, _ => by simp [foP, expand]
  | q :: L, l, h, hl => by
    have hq := h q (by simp)
    have he : expand (q :: L) = List.replicate q.2 q.1 ++ expand L := by simp [expand]
    rw [he, List.length_append, List.length_replicate] at hl
    have hne : ¬ ((wordB q).toList == (⟨#[]⟩ : ByteArray).toList) = true := by
      have := (wordB_size q hq.2).1
      intro e
      rw [toList_eq e] at this
      exact absurd this (by decide)
    have hs : stW q.1 true (q.2 : Int) l = .go (l ++ List.replicate q.2 q.1) := by
      unfold stW
      rw [if_neg (by simp), if_neg (by omega), if_neg (by omega)]
      rfl
    rw [List.map_cons, foP, if_neg hne, stP_is (piece_word q hq.1 hq.2), hs]
    simp only
    rw [foP_words L _ (fun z hz => h z (by simp [hz])) (by simp only [List.length_append, List.length_replicate]; omega), he, List.append_assoc]

theorem text_parse {l : List api_Pins} (hN : l.length ≤ 300) : pins_Text l = some (jn ((runs 300 l).map wordB)) ∧ spinetref31_Text l = some (jn ((runs 300 l).map wordB)) ∧ pins_Parse (jn ((runs 300 l).map wordB)) = some (l, 0) := by
  have hq : ∀ q ∈ runs 300 l, 0 < q.2 ∧ q.2 < 301 := fun q hq => by
    have := runs_small 300 l q hq
    omega
  have hlen := runs_len 300 l
  have hW : ∀ w ∈ (runs 300 l).map wordB, 0 < w.size ∧ w.size < 30 := fun w hw => by
    obtain ⟨q, h1, rfl⟩ := List.mem_map.1 hw
    exact wordB_size q (hq q h1).2
  have hex : expand (runs 300 l) = l := runs_expand 300 l hN
  refine ⟨?_, ?_, ?_⟩
  · have h := t_l2 hN 300 l BIG 0 [] rfl hN (by unfold BIG; omega) (by simp)
    rw [show (((0 : Nat) : Int)) = 0 from rfl, List.nil_append] at h
    have ht : ∀ (W : List ByteArray), (∀ w ∈ W, w.size < 30) → tot W ≤ W.length * 30 := by
      intro W
      induction W with
      | nil => intro _; simp [tot]
      | cons w r ih =>
        intro hw
        have := ih fun z hz => hw z (by simp [hz])
        have := hw w (by simp)
        rw [tot_cons, List.length_cons, Nat.add_mul]
        omega
    have h1 := ht _ fun w hw => (hW w hw).2
    rw [List.length_map] at h1
    have e32 : (⟨#[32]⟩ : ByteArray).size = 1 := rfl
    unfold pins_Text
    rw [h, Option.bind_some, join_is (by rw [List.length_map]; omega) (by omega) (by rw [List.length_map, e32]; omega) (by rw [e32]; omega), Option.bind_some]
    rfl
  · have h := r_l2 hN 300 l BIG 0 [] rfl hN (by unfold BIG; omega) (by simp) (by simp)
    rw [show (((0 : Nat) : Int)) = 0 from rfl, List.nil_append] at h
    unfold spinetref31_Text
    rw [show (⟨#[]⟩ : ByteArray) = jn [] from rfl, h, Option.bind_some]
  · have hsz := jn_size fun w hw => (hW w hw).2
    rw [List.length_map] at hsz
    unfold pins_Parse
    rw [show (⟨#[32]⟩ : ByteArray) = s1 32 from rfl, split_is _ 32 (by omega), Option.bind_some]
    unfold pieces
    have h32 : (((32 : UInt8).toNat : Nat) : Int) = 32 := rfl
    rw [h32, jn_sbl]
    cases hR : runs 300 l with
    | nil =>
      rw [hR] at hex
      have : l = [] := hex.symm
      subst this
      have h2 := p_l2 (L := [bs []]) (fun x hx => by simp at hx; subst hx; decide) (by simp) [bs []] BIG 0 [] rfl (by unfold BIG; simp) (by simp)
      rw [show (((0 : Nat) : Int)) = 0 from rfl] at h2
      have he : (cutAt 32 (joinT [32] (([] : List (api_Pins × Nat)).map wordB |>.map sbl))).map bs = [bs []] := rfl
      have hf : foP [] [bs []] = .go [] := by rw [foP, if_pos (by rw [teq]; rfl), foP]
      rw [he, h2, hf]
      rfl
    | cons q0 r0 =>
      rw [← hR]
      have hne : (runs 300 l).map wordB ≠ [] := by rw [hR]; simp
      rw [joinT_cut 32 (by simpa using hne) (by
        intro y hy
        obtain ⟨w, hw, rfl⟩ := List.mem_map.1 hy
        obtain ⟨q, h1, rfl⟩ := List.mem_map.1 hw
        exact wordB_sp q (hq q h1).2)]
      have hb : (((runs 300 l).map wordB).map sbl).map bs = (runs 300 l).map wordB := by
        rw [List.map_map]
        refine (List.map_congr_left fun w _ => ?_).trans (List.map_id _)
        exact bs_sbl w
      rw [hb]
      have h2 := p_l2 (L := (runs 300 l).map wordB) (fun w hw => by have := (hW w hw).2; omega) (by rw [List.length_map]; omega) ((runs 300 l).map wordB) BIG 0 [] rfl (by rw [List.length_map]; unfold BIG; omega) (by simp)
      rw [show (((0 : Nat) : Int)) = 0 from rfl] at h2
      rw [h2, foP_words _ _ hq (by rw [hex]; simp; omega), hex]
      rfl

theorem pinsTexts_true (l : List api_Pins) : spinetlaw31_PinsTexts l = some true := by
  unfold spinetlaw31_PinsTexts
  by_cases h6 : 300 < ln l
  · rw [if_pos (decide_eq_true h6)]
  rw [if_neg (fun h => h6 (of_decide_eq_true h))]
  have hN : l.length ≤ 300 := by unfold ln at h6; omega
  have h0 := law_l0 hN l BIG 0 rfl (by unfold BIG; omega)
  rw [show (((0 : Nat) : Int)) = 0 from rfl] at h0
  obtain ⟨h1, h2, h3⟩ := text_parse hN
  rw [h0, Option.bind_some]
  simp only
  rw [h1, h2, Option.bind_some, h3]
  simp only [Option.bind_some]
  rw [eqP_refl l (by omega)]
  simp only [Option.bind_some, beq_self_eq_true, Bool.and_self, if_true, alive31]
end Go.Proofs.YthhjooegpjgicaaDoorK
