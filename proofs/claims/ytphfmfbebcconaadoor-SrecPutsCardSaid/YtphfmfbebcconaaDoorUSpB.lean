/- The law SrecPuts: the lines of pieces, and memory. -/
import Derived.Test.YtphfmfbebcconaaDoorUSpA
import Derived.Test.YtphfmfbebcconaaDoorUSpl
namespace Go.Proofs.YtphfmfbebcconaaDoorK
set_option linter.unusedVariables false
set_option linter.unusedSimpArgs false
set_option maxHeartbeats 400000
open Go.RowKit
attribute [local irreducible] dwv mops lops lqops lwops kont iter run runK rk okK ex E1 vals val chain chB sel resF

/-- The lines of bytes at an address. -/
def lns : Nat → Int → List Int → List srec_Line
  | 0, _, _ => []
  | _ + 1, _, [] => []
  | f + 1, a, x :: r => ⟨1, a, (x :: r).take 32⟩ :: lns f (a + 32) ((x :: r).drop 32)
theorem lns_nil (f : Nat) (a : Int) : lns f a [] = [] := by cases f <;> rfl
structure okP (p : srec_Piece) : Prop where
  at0 : 0 ≤ p.At
  at1 : p.At < 65536
  len : p.B.length ≤ 200
  fit : p.At + (p.B.length : Int) ≤ 65536
  bytes : ∀ x ∈ p.B, 0 ≤ x ∧ x < 256
structure okN (L : srec_Line) : Prop where
  ok : okL L
  one : L.Kind = 1
  pos : 0 < L.B.length
  len : L.B.length ≤ 32
  fit : L.At + (L.B.length : Int) ≤ 65536
theorem lns_ok : ∀ (f : Nat) (a : Int) (B : List Int), 0 ≤ a → a + (B.length : Int) ≤ 65536 → (∀ x ∈ B, 0 ≤ x ∧ x < 256) → ∀ L ∈ lns f a B, okN L
  | 0, _, _, _, _, _, L, h => by simp [lns] at h
  | _ + 1, _, [], _, _, _, L, h => by simp [lns] at h
  | f + 1, a, x :: r, h0, h1, hB, L, h => by
    rw [lns] at h
    simp only [List.length_cons] at h1
    have ht : ((x :: r).take 32).length = min 32 (r.length + 1) := by rw [List.length_take, List.length_cons]
    rcases List.mem_cons.1 h with rfl | h
    · refine ⟨⟨.inr (.inl rfl), h0, by show a < 65536; omega, by show ((x :: r).take 32).length ≤ 252; omega, fun e => by have e : (1 : Int) = 9 := e; omega, fun y hy => hB y (List.mem_of_mem_take hy)⟩, rfl, ?_, ?_, ?_⟩
      · show 0 < ((x :: r).take 32).length; omega
      · show ((x :: r).take 32).length ≤ 32; omega
      · show a + (((x :: r).take 32).length : Int) ≤ 65536; omega
    · by_cases hd : (x :: r).drop 32 = []
      · rw [hd] at h
        cases f <;> simp [lns] at h
      · have hl : 32 < r.length + 1 := by
          rcases Nat.lt_or_ge 32 (r.length + 1) with h' | h'
          · exact h'
          · exact absurd (List.drop_eq_nil_iff.2 (by simpa using h')) hd
        exact lns_ok f (a + 32) _ (by omega) (by rw [List.length_drop, List.length_cons]; omega) (fun y hy => hB y (List.mem_of_mem_drop hy)) L h
theorem lns_len : ∀ (f : Nat) (a : Int) (B : List Int), (lns f a B).length ≤ f
  | 0, _, _ => by simp [lns]
  | _ + 1, _, [] => by simp [lns]
  | f + 1, a, x :: r => by rw [lns, List.length_cons]; have := lns_len f (a + 32) ((x :: r).drop 32); omega
def lineB (L : srec_Line) : List Int := textL L ++ [10]
def linesB (Ls : List srec_Line) : List Int := Ls.flatMap lineB
theorem textL_len (L : srec_Line) : (textL L).length = 2 * L.B.length + 10 := by
  unfold textL
  simp only [List.length_cons, prs_len]
  unfold T4
  rw [List.length_append, T3_len]
  simp only [List.length_cons, List.length_nil]; omega
theorem lineB_len (L : srec_Line) : (lineB L).length = 2 * L.B.length + 11 := by unfold lineB; rw [List.length_append, textL_len]; rfl
theorem lineB_bytes {L : srec_Line} (h : okL L) : ∀ x ∈ lineB L, 0 ≤ x ∧ x < 256 := fun x hx => by
  unfold lineB at hx
  rcases List.mem_append.1 hx with hx | hx
  · exact textL_bytes h x hx
  · simp at hx; subst hx; decide
theorem linesB_len : ∀ {Ls : List srec_Line}, (∀ L ∈ Ls, okN L) → (linesB Ls).length ≤ Ls.length * 75
  | [], _ => by simp [linesB]
  | L :: r, h => by
    have h1 := (h L (by simp)).len
    have h2 := linesB_len (Ls := r) fun y hy => h y (by simp [hy])
    have h3 : linesB (L :: r) = lineB L ++ linesB r := by simp [linesB]
    rw [h3, List.length_append, lineB_len, List.length_cons]; omega
theorem linesB_bytes {Ls : List srec_Line} (h : ∀ L ∈ Ls, okN L) : ∀ x ∈ linesB Ls, 0 ≤ x ∧ x < 256 := fun x hx => by
  unfold linesB at hx
  obtain ⟨L, h1, h2⟩ := List.mem_flatMap.1 hx
  exact lineB_bytes (h L h1).ok x h2
theorem linesB_cons (L : srec_Line) (r : List srec_Line) : linesB (L :: r) = lineB L ++ linesB r := by simp [linesB]
theorem linesB_app (a b : List srec_Line) : linesB (a ++ b) = linesB a ++ linesB b := by simp [linesB]
theorem lineB_bs {L : srec_Line} (h : okL L) : bs (textL L) ++ (⟨#[10]⟩ : ByteArray) = bs (lineB L) := by
  unfold lineB
  rw [bs_app]; rfl
theorem cut32 {B : List Int} {i : Nat} {x : Int} {r : List Int} (hB : B.length ≤ 200) (h : B.drop i = x :: r) :
    (0 ≤ (i : Int) ∧ (i : Int) ≤ ((if (ln B) < (IntKind.wrap .i64 ((i : Int) + 32)) then (ln B) else (IntKind.wrap .i64 ((i : Int) + 32))) : Int) ∧ (if (ln B) < (IntKind.wrap .i64 ((i : Int) + 32)) then (ln B) else (IntKind.wrap .i64 ((i : Int) + 32))) ≤ (ln B)) ∧
    (B.drop (i : Int).toNat).take (((if (ln B) < (IntKind.wrap .i64 ((i : Int) + 32)) then (ln B) else (IntKind.wrap .i64 ((i : Int) + 32))) : Int).toNat - (i : Int).toNat) = (x :: r).take 32 ∧ i < B.length ∧ (x :: r).length = B.length - i := by
  have hi := (dropAt h).2.2
  have hl : (x :: r).length = B.length - i := by rw [← h, List.length_drop]
  have w : IntKind.wrap .i64 ((i : Int) + 32) = (i : Int) + 32 := wrap_i64 (by omega) (by omega)
  rw [w, Int.toNat_natCast, h]
  have hln : ln B = (B.length : Int) := rfl
  refine ⟨?_, ?_, hi, hl⟩
  · split <;> omega
  · split
    · rw [List.take_of_length_le (by omega), List.take_of_length_le (by omega)]
    · rw [show (((i : Int) + 32).toNat - i) = 32 by omega]

theorem rtext1 {k a : Int} {B : List Int} (h : okL ⟨k, a, B⟩) : spinetref40_Text (spinetref40_Line.mk k a B) = some (bs (textL ⟨k, a, B⟩)) := rtext_is (l := ⟨k, a, B⟩) h
theorem put_l3 {l : List srec_Piece} {t : Int} {p : srec_Piece} (hp : gt l t = p) (ok : okP p) : ∀ (f : Nat) (r : List Int) (k i : Nat) (acc : List Int), p.B.drop i = r → r.length ≤ f → r.length < k → acc.length + r.length * 100 < 10000000 →
    ∃ a b c, srec_Put_l3 l t k acc (i : Int) = some (acc ++ linesB (lns f (p.At + (i : Int)) r), a, b, c)
  | _, _, 0, _, _, _, _, hk, _ => by omega
  | f, [], k + 1, i, acc, h, _, _, _ => by
    rw [srec_Put_l3, hp, if_neg (fun e => gtNil h (of_decide_eq_true e))]
    rw [lns_nil, show linesB [] = [] from rfl, List.append_nil]
    exact ⟨_, _, _, rfl⟩
  | 0, x :: r, k + 1, i, acc, h, hf, _, _ => by simp at hf
  | f + 1, x :: r, k + 1, i, acc, h, hf, hk, ha => by
    obtain ⟨c1, c2, hi, hl⟩ := cut32 ok.len h
    have h0 := ok.at0
    have h1 := ok.fit
    have hlen := ok.len
    have w1 : IntKind.wrap .u16 (i : Int) = (i : Int) := wrap_u16 (by omega) (by omega)
    have w2 : IntKind.wrap .u16 (p.At + (i : Int)) = p.At + (i : Int) := wrap_u16 (by omega) (by omega)
    have w3 : IntKind.wrap .i64 ((i : Int) + 32) = ((i + 32 : Nat) : Int) := by rw [wrap_i64 (by omega) (by omega)]; omega
    have hok : ∀ L ∈ lns (f + 1) (p.At + (i : Int)) (x :: r), okN L := lns_ok _ _ _ (by omega) (by omega) fun y hy => ok.bytes y (List.mem_of_mem_drop (by rw [h]; exact hy))
    rw [lns] at hok
    have hL := hok ⟨1, p.At + (i : Int), (x :: r).take 32⟩ (by simp)
    have hll := lineB_len ⟨1, p.At + (i : Int), (x :: r).take 32⟩
    have htl := hL.len
    simp only at hll htl
    simp only [List.length_cons] at ha hf hk hl
    have hs : (bs (textL ⟨1, p.At + (i : Int), (x :: r).take 32⟩)).size ≤ 100 := by rw [bs_size, textL_len]; show 2 * ((x :: r).take 32).length + 10 ≤ 100; omega
    have e10 : (⟨#[10]⟩ : ByteArray).size = 1 := rfl
    obtain ⟨a, b, c, ih⟩ := put_l3 hp ok f ((x :: r).drop 32) k (i + 32) (acc ++ lineB ⟨1, p.At + (i : Int), (x :: r).take 32⟩) (by rw [← h, List.drop_drop]) (by rw [List.length_drop, List.length_cons]; omega) (by rw [List.length_drop, List.length_cons]; omega) (by rw [List.length_append, List.length_drop, List.length_cons]; omega)
    refine ⟨a, b, c, ?_⟩
    rw [srec_Put_l3, hp, if_pos (decide_eq_true (by unfold ln; omega)), if_pos c1, c2, w1, w2, stext_is hL.ok, Option.bind_some, if_pos (by rw [e10]; omega), lineB_bs hL.ok, sbl_bs (lineB_bytes hL.ok), if_pos (by rw [bs_size]; omega), w3, ih, lns, linesB_cons, List.append_assoc]
    rw [show p.At + ((i + 32 : Nat) : Int) = p.At + (i : Int) + 32 by omega]

theorem law_l3 {l : List srec_Piece} {t : Int} {p : srec_Piece} (hg : 0 ≤ t ∧ t < ln l) (hp : gt l t = p) (ok : okP p) (m : List Int) : ∀ (f : Nat) (r : List Int) (k i : Nat) (W : List Int), p.B.drop i = r → r.length ≤ f → r.length < k → W.length + r.length * 100 < 10000000 →
    ∃ a b c, spinetlaw40_SrecPuts_l3 l m t k (bs W) (i : Int) = some (cpyL m p.At.toNat (m.length - p.At.toNat) p.B, bs (W ++ linesB (lns f (p.At + (i : Int)) r)), a, b, c)
  | _, _, 0, _, _, _, _, hk, _ => by omega
  | f, [], k + 1, i, W, h, _, _, _ => by
    rw [spinetlaw40_SrecPuts_l3, hp, if_neg (fun e => gtNil h (of_decide_eq_true e))]
    rw [lns_nil, show linesB [] = [] from rfl, List.append_nil]
    exact ⟨_, _, _, rfl⟩
  | 0, x :: r, k + 1, i, W, h, hf, _, _ => by simp at hf
  | f + 1, x :: r, k + 1, i, W, h, hf, hk, ha => by
    obtain ⟨c1, c2, hi, hl⟩ := cut32 ok.len h
    have h0 := ok.at0
    have h1 := ok.fit
    have hlen := ok.len
    have w1 : IntKind.wrap .u16 (i : Int) = (i : Int) := wrap_u16 (by omega) (by omega)
    have w2 : IntKind.wrap .u16 (p.At + (i : Int)) = p.At + (i : Int) := wrap_u16 (by omega) (by omega)
    have w3 : IntKind.wrap .i64 ((i : Int) + 32) = ((i + 32 : Nat) : Int) := by rw [wrap_i64 (by omega) (by omega)]; omega
    have hok : ∀ L ∈ lns (f + 1) (p.At + (i : Int)) (x :: r), okN L := lns_ok _ _ _ (by omega) (by omega) fun y hy => ok.bytes y (List.mem_of_mem_drop (by rw [h]; exact hy))
    rw [lns] at hok
    have hL := hok ⟨1, p.At + (i : Int), (x :: r).take 32⟩ (by simp)
    have hll := lineB_len ⟨1, p.At + (i : Int), (x :: r).take 32⟩
    have htl := hL.len
    simp only at hll htl
    simp only [List.length_cons] at ha hf hk hl
    have hs : (bs (textL ⟨1, p.At + (i : Int), (x :: r).take 32⟩)).size ≤ 100 := by rw [bs_size, textL_len]; show 2 * ((x :: r).take 32).length + 10 ≤ 100; omega
    have e10 : (⟨#[10]⟩ : ByteArray).size = 1 := rfl
    have hrt := rtext1 hL.ok
    obtain ⟨a, b, c, ih⟩ := law_l3 hg hp ok m f ((x :: r).drop 32) k (i + 32) (W ++ lineB ⟨1, p.At + (i : Int), (x :: r).take 32⟩) (by rw [← h, List.drop_drop]) (by rw [List.length_drop, List.length_cons]; omega) (by rw [List.length_drop, List.length_cons]; omega) (by rw [List.length_append, List.length_drop, List.length_cons]; omega)
    refine ⟨a, b, c, ?_⟩
    rw [spinetlaw40_SrecPuts_l3, hp, if_pos (decide_eq_true (by unfold ln; omega)), if_pos hg, if_pos c1, c2, w1, w2, hrt, Option.bind_some, if_pos (by rw [e10]; omega), lineB_bs hL.ok, if_pos (by rw [bs_size, bs_size]; omega), w3, ← bs_app, ih, lns, linesB_cons, List.append_assoc]
    rw [show p.At + ((i + 32 : Nat) : Int) = p.At + (i : Int) + 32 by omega]

def layM (m : List Int) (p : srec_Piece) : List Int := cpyL m p.At.toNat (m.length - p.At.toNat) p.B
theorem layM_len (m : List Int) (p : srec_Piece) : (layM m p).length = m.length := cpyL_len
def allL (l : List srec_Piece) : List srec_Line := l.flatMap fun p => lns 200 p.At p.B
theorem allL_ok {l : List srec_Piece} (h : ∀ p ∈ l, okP p) : ∀ L ∈ allL l, okN L := fun L hL => by
  unfold allL at hL
  obtain ⟨p, h1, h2⟩ := List.mem_flatMap.1 hL
  have := h p h1
  exact lns_ok _ _ _ this.at0 this.fit this.bytes L h2
theorem allL_cons (p : srec_Piece) (r : List srec_Piece) : allL (p :: r) = lns 200 p.At p.B ++ allL r := by simp [allL]
theorem allL_len : ∀ (l : List srec_Piece), (allL l).length ≤ l.length * 200
  | [] => by simp [allL]
  | p :: r => by rw [allL_cons, List.length_append, List.length_cons]; have := lns_len 200 p.At p.B; have := allL_len r; omega

section
variable {l : List srec_Piece} (hN : l.length ≤ 10) (ok : ∀ p ∈ l, okP p)
include hN ok
theorem put_l2 : ∀ (r : List srec_Piece) (k i : Nat) (acc : List Int), l.drop i = r → r.length < k → acc.length ≤ i * 15000 → srec_Put_l2 l k acc (i : Int) = some (acc ++ linesB (allL r))
  | _, 0, _, _, _, hk, _ => by omega
  | [], k + 1, i, acc, h, _, _ => by
    rw [srec_Put_l2, if_neg (fun e => gtNil h (of_decide_eq_true e))]; simp [allL, linesB]
  | p :: r, k + 1, i, acc, h, hk, ha => by
    obtain ⟨e1, g1, h1⟩ := gtCons h
    have hi := (dropAt h).2.2
    have hp := ok p (List.mem_of_mem_drop (i := i) (by rw [h]; simp))
    have hpl := hp.len
    obtain ⟨a, b, c, h3⟩ := put_l3 e1 hp 200 p.B BIG 0 acc rfl hpl (by unfold BIG; omega) (by omega)
    rw [show (((0 : Nat) : Int)) = 0 from rfl, Int.add_zero] at h3
    have hls := linesB_len (lns_ok 200 p.At p.B hp.at0 hp.fit hp.bytes)
    have hll := lns_len 200 p.At p.B
    rw [srec_Put_l2, if_pos (decide_eq_true g1.2), if_pos g1, h3, Option.bind_some]
    simp only
    rw [wrapS (by omega), put_l2 r k (i + 1) _ h1 (by simp only [List.length_cons] at hk; omega) (by rw [List.length_append]; omega), allL_cons, linesB_app, List.append_assoc]
theorem law_l2 : ∀ (r : List srec_Piece) (k i : Nat) (m W : List Int), l.drop i = r → r.length < k → W.length ≤ i * 15000 → m.length = 65536 → spinetlaw40_SrecPuts_l2 l k m (bs W) (i : Int) = some (r.foldl layM m, bs (W ++ linesB (allL r)))
  | _, 0, _, _, _, _, hk, _, _ => by omega
  | [], k + 1, i, m, W, h, _, _, _ => by
    rw [spinetlaw40_SrecPuts_l2, if_neg (fun e => gtNil h (of_decide_eq_true e))]; simp [allL, linesB]
  | p :: r, k + 1, i, m, W, h, hk, ha, hm => by
    obtain ⟨e1, g1, h1⟩ := gtCons h
    have hi := (dropAt h).2.2
    have hp := ok p (List.mem_of_mem_drop (i := i) (by rw [h]; simp))
    have hpl := hp.len
    have h0 := hp.at0
    have h01 := hp.at1
    obtain ⟨a, b, c, h3⟩ := law_l3 g1 e1 hp m 200 p.B BIG 0 W rfl hpl (by unfold BIG; omega) (by omega)
    rw [show (((0 : Nat) : Int)) = 0 from rfl, Int.add_zero] at h3
    have hls := linesB_len (lns_ok 200 p.At p.B hp.at0 hp.fit hp.bytes)
    have hll := lns_len 200 p.At p.B
    rw [spinetlaw40_SrecPuts_l2, if_pos (decide_eq_true g1.2), if_pos g1, if_pos g1, e1, if_pos (by unfold ln; omega), h3, Option.bind_some]
    simp only
    rw [wrapS (by omega), law_l2 r k (i + 1) _ _ h1 (by simp only [List.length_cons] at hk; omega) (by rw [List.length_append]; omega) (cpyL_len.trans hm), allL_cons, linesB_app, List.append_assoc]
    rfl
end
end Go.Proofs.YtphfmfbebcconaaDoorK
