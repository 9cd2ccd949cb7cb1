/- The law InstPuts over typed data. -/
import Derived.Test.YtmabdijipkmmkaaUReads
namespace Go.Proofs.YtmabdijipkmmkaaK
set_option linter.unusedVariables false
set_option linter.unusedSimpArgs false
set_option maxHeartbeats 4000000
open Go.RowKit
attribute [local irreducible] dwv mops lops lqops lwops kont iter run runK ex E1 vals val chain chB sel resF

def eqB (x i : api_Inst) : Bool := ((x.Page == i.Page) && ((x.Code == i.Code) && ((x.Entry.Op == i.Entry.Op) && ((x.Entry.Mode == i.Entry.Mode) && ((x.Entry.Reg == i.Entry.Reg) && ((x.Post == i.Post) && ((x.Value == i.Value) && ((x.Len == i.Len) && true))))))))

theorem eqB_iff {x i : api_Inst} : eqB x i = true ↔ x = i := by
  obtain ⟨a, b, ⟨c, d, e⟩, f, g, h⟩ := x
  obtain ⟨a', b', ⟨c', d', e'⟩, f', g', h'⟩ := i
  simp [eqB, and_assoc]

theorem okI_of_u8 {n : Int} (h0 : 0 ≤ n) (h1 : n < 256) : okI .u8 n := by simp [okI, IntKind.min, IntKind.max, IntKind.signed, IntKind.bits]; omega

/-- What Put answers at the end. -/
def ends (i : api_Inst) (l : List Int) : Option (List Int × Int) := some (if (modI l).Len ≤ (l.length : Int) ∧ eqB (modI l) i = true then (l, 0) else ([], 10))

theorem j0_is (i : api_Inst) {l : List Int} (hb : ∀ a ∈ l, okI .u8 a) (hl : l.length < 2 ^ 46) : inst_Put_j0 i l = ends i l := by
  unfold inst_Put_j0 ends
  rw [instOf_is hb (by omega)]
  by_cases h1 : (l.length : Int) < (modI l).Len
  · rw [if_pos h1]
    show some (([] : List Int), (10 : Int)) = _
    rw [if_neg (by omega)]
  · rw [if_neg h1]
    show (if (((0 : Int) != 0) || !(eqB (modI l) i)) = true then some (([] : List Int), (10 : Int)) else some (l, 0)) = _
    cases h2 : eqB (modI l) i with
    | true =>
      rw [if_neg (by decide), if_pos ⟨by omega, rfl⟩]
    | false =>
      rw [if_pos (by decide), if_neg (fun h => by simp at h)]

theorem post_all : ((List.range 256).all fun b => match post_Of (b : Int) with | some r => (post_Post_Bytes r).isSome | none => false) = true := by decide +kernel
theorem post_tot {p : Int} (h0 : 0 ≤ p) (h1 : p < 256) : ∃ r s, post_Of p = some r ∧ post_Post_Bytes r = some s := by
  obtain ⟨c, rfl⟩ := Int.eq_ofNat_of_zero_le h0
  have := List.all_eq_true.1 post_all c (by simp; omega)
  split at this
  · rename_i r hr
    obtain ⟨s, hs⟩ := Option.isSome_iff_exists.1 this
    exact ⟨r, s, hr, hs⟩
  · simp at this

theorem behind_tot (m : Int) {p : Int} (h0 : 0 ≤ p) (h1 : p < 256) : ∃ n, inst_behind m p = some n := by
  obtain ⟨r, s, e1, e2⟩ := post_tot h0 h1
  have J : ∀ t, ∃ n, inst_behind_j0 m p t = some n := by
    intro t
    unfold inst_behind_j0
    rw [e1]
    simp only [Option.bind_some, e2]
    split
    · exact ⟨_, rfl⟩
    · split
      · exact ⟨_, rfl⟩
      · split <;> exact ⟨_, rfl⟩
  have J1 : ∀ t, ∃ n, inst_behind_j1 m p t = some n := by
    intro t
    unfold inst_behind_j1
    split
    · exact ⟨_, rfl⟩
    · split
      · exact J _
      · split <;> exact J _
  unfold inst_behind
  split <;> exact J1 _

theorem j1_tot (i : api_Inst) {l : List Int} (hb : ∀ a ∈ l, okI .u8 a) (hl : l.length < 10) (p0 : 0 ≤ i.Post) (p1 : i.Post < 256) (v0 : 0 ≤ i.Value) (v1 : i.Value < 65536) : ∃ l2, (∀ a ∈ l2, okI .u8 a) ∧ l2.length < 20 ∧ inst_Put_j1 i l = ends i l2 := by
  obtain ⟨n, hn⟩ := behind_tot i.Entry.Mode p0 p1
  unfold inst_Put_j1
  rw [hn]
  simp only [Option.bind_some]
  split
  · rw [low_is]
    simp only [Option.bind_some]
    rw [if_pos (by simp only [List.length_cons, List.length_nil]; omega)]
    have hb' : ∀ a ∈ l ++ [i.Value % 256], okI .u8 a := by
      intro a ha
      rcases List.mem_append.1 ha with ha | ha
      · exact hb a ha
      · simp at ha; subst ha; exact okI_of_u8 (by omega) (by omega)
    have hl' : (l ++ [i.Value % 256]).length < 20 := by simp; omega
    exact ⟨_, hb', hl', j0_is i hb' (by omega)⟩
  · split
    · rw [octetBytes_is v0 v1]
      simp only [Option.bind_some]
      rw [if_pos (by simp only [List.length_cons, List.length_nil]; omega)]
      have hb' : ∀ a ∈ l ++ [i.Value / 256, i.Value % 256], okI .u8 a := by
        intro a ha
        rcases List.mem_append.1 ha with ha | ha
        · exact hb a ha
        · simp at ha
          rcases ha with rfl | rfl
          · exact okI_of_u8 (by omega) (by omega)
          · exact okI_of_u8 (by omega) (by omega)
      have hl' : (l ++ [i.Value / 256, i.Value % 256]).length < 20 := by simp; omega
      exact ⟨_, hb', hl', j0_is i hb' (by omega)⟩
    · exact ⟨l, hb, by omega, j0_is i hb (by omega)⟩

theorem mem_snoc {l : List Int} {x : Int} (hb : ∀ a ∈ l, okI .u8 a) (hx : okI .u8 x) : ∀ a ∈ l ++ [x], okI .u8 a := by
  intro a ha
  rcases List.mem_append.1 ha with ha | ha
  · exact hb a ha
  · simp at ha; subst ha; exact hx

theorem j2_tot (i : api_Inst) {l : List Int} (hb : ∀ a ∈ l, okI .u8 a) (hl : l.length < 5) (hc : okI .u8 i.Code) (hp : okI .u8 i.Post) (v0 : 0 ≤ i.Value) (v1 : i.Value < 65536) : ∃ l2, (∀ a ∈ l2, okI .u8 a) ∧ l2.length < 20 ∧ inst_Put_j2 i l = ends i l2 := by
  have hp' := okI_u8 hp
  unfold inst_Put_j2
  rw [if_pos (by simp only [List.length_cons, List.length_nil]; omega)]
  have e : inst_posted i.Entry.Mode = some (posM i.Entry.Mode) := rfl
  rw [e]
  simp only [Option.bind_some]
  split
  · rw [if_pos (by simp only [List.length_append, List.length_cons, List.length_nil]; omega)]
    exact j1_tot i (mem_snoc (mem_snoc hb hc) hp) (by simp; omega) hp'.1 hp'.2 v0 v1
  · exact j1_tot i (mem_snoc hb hc) (by simp; omega) hp'.1 hp'.2 v0 v1

theorem put_tot (i : api_Inst) (hc : okI .u8 i.Code) (hp : okI .u8 i.Post) (hv : okI .u16 i.Value) : ∃ l2, (∀ a ∈ l2, okI .u8 a) ∧ l2.length < 20 ∧ inst_Put i = ends i l2 := by
  have hv' := okI_u16 hv
  unfold inst_Put
  split
  · rw [if_pos (by simp)]
    refine j2_tot i (mem_snoc (by simp) ?_) (by simp) hc hp hv'.1 hv'.2
    rw [wrap_u8m]; exact okI_of_u8 (by omega) (by omega)
  · exact j2_tot i (by simp) (by simp) hc hp hv'.1 hv'.2

theorem hasPrefix_is (b l : List Int) : bytes_HasPrefix b l = if (decide ((ln l) ≤ (ln b))) = true → 0 ≤ ((ln l) : Int) ∧ (ln l) ≤ (ln b) then
  ((if (decide ((ln l) ≤ (ln b))) = true then bytes_Equal ((b.drop 0).take (((ln l) : Int).toNat - 0)) l else some default)).bind fun r_ =>
  some ((decide ((ln l) ≤ (ln b))) && r_)
  else none := rfl

theorem instPuts_true (i : api_Inst) (b : List Int) (hc : okI .u8 i.Code) (hp : okI .u8 i.Post) (hv : okI .u16 i.Value) (hb : ∀ a ∈ b, okI .u8 a) : spinetlaw18_InstPuts i b = some true := by
  unfold spinetlaw18_InstPuts
  by_cases h20 : (20 : Int) < ln b
  · rw [if_pos (decide_eq_true h20)]
  rw [if_neg (fun h => h20 (of_decide_eq_true h))]
  have hl20 : b.length ≤ 20 := by simp only [ln] at h20; omega
  obtain ⟨g, hg, hgl, hput⟩ := put_tot i hc hp hv
  unfold ends at hput
  have hsame : inst_Same i b = ((inst_Put i)).bind fun r_ =>
      ((if (r_.2 == 0) = true then bytes_HasPrefix b r_.1 else some default)).bind fun r_1 =>
      some ((r_.2 == 0) && r_1) := rfl
  rw [hsame, hput]
  by_cases hok' : (modI g).Len ≤ (g.length : Int) ∧ eqB (modI g) i = true
  · have hok : (modI g).Len ≤ (g.length : Int) ∧ modI g = i := ⟨hok'.1, eqB_iff.1 hok'.2⟩
    rw [if_pos hok']
    have hput' := hput
    rw [if_pos hok', ← hok.2, put_is hg (by omega) hok.1] at hput'
    have hgt : g.take (modI g).Len.toNat = g := by simpa using hput'
    have hlen : ((modI g).Len.toNat : Nat) = g.length := by
      have := congrArg List.length hgt
      rw [List.length_take] at this
      omega
    have hL0 : (modI g).Len = ln g := by
      have : 0 ≤ (modI g).Len := by
        unfold modI
        split
        · have := modAt_len g (byteAt g 0 - 14) (byteAt g 1) 2; omega
        · have := modAt_len g 1 (byteAt g 0) 1; omega
      unfold ln; omega
    have hor : spinetref18_Of g = some (modI g, true) := by rw [ref18_is hg (by omega), if_neg (by omega)]
    have hcond : (decide ((ln g) ≤ (ln b))) = true → 0 ≤ ((ln g) : Int) ∧ (ln g) ≤ (ln b) := fun h => ⟨by unfold ln; omega, of_decide_eq_true h⟩
    simp only [Option.bind_some, beq_self_eq_true, if_true, bne_self_eq_false, Bool.false_eq_true, if_false, hor]
    rw [hasPrefix_is, if_pos hcond, hok.2]
    have hE : eqB i i = true := eqB_iff.2 rfl
    unfold eqB at hE
    have hl2 : (i.Len == ln g) = true := by rw [← hok.2, hL0]; simp
    have hEq : ∃ e, (if (decide ((ln g) ≤ (ln b))) = true then bytes_Equal ((b.drop 0).take (((ln g) : Int).toNat - 0)) g else some default) = some e := by
      split
      · exact ⟨_, rfl⟩
      · exact ⟨_, rfl⟩
    obtain ⟨e, he⟩ := hEq
    simp only [he, Option.bind_some, Bool.true_and, beq_self_eq_true, hE, hl2, Bool.and_self, if_true, alive18]
    exact if_pos hcond
  · rw [if_neg hok']
    rw [ref18_is hb (by omega)]
    have hx : ((if (b.length : Int) < (modI b).Len then (zeroI, false) else (modI b, true)).2 && eqB (if (b.length : Int) < (modI b).Len then (zeroI, false) else (modI b, true)).1 i) = false := by
      by_cases hs : (b.length : Int) < (modI b).Len
      · rw [if_pos hs]; rfl
      · rw [if_neg hs]
        cases h : eqB (modI b) i with
        | false => rfl
        | true =>
          have hi := eqB_iff.1 h
          have h1 := put_is hb (by omega) (show (modI b).Len ≤ (b.length : Int) by omega)
          rw [hi, hput, if_neg hok'] at h1
          have h2 := congrArg (fun o => Option.map Prod.snd o) h1
          simp at h2
    generalize (if (b.length : Int) < (modI b).Len then (zeroI, false) else (modI b, true)) = r at hx ⊢
    show ((if (((((ln ([] : List Int)) == 0) && ((10 : Int) == 10)) && (!((10 : Int) == 0 && default))) && (!(r.2 && eqB r.1 i))) = true then spinetlaw18_alive else some default)).bind (fun r_3 =>
      some ((((((ln ([] : List Int)) == 0) && ((10 : Int) == 10)) && (!((10 : Int) == 0 && default))) && (!(r.2 && eqB r.1 i))) && r_3)) = some true
    rw [hx, alive18]
    rfl
end Go.Proofs.YtmabdijipkmmkaaK
