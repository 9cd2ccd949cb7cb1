/- The law FlowNext over typed data: flow.Next and its reference answer alike. -/
import Derived.Test.YtbgdkaahcfmaeaaURef
import Derived.Test.YtbgdkaahcfmaeaaRh
namespace Go.Proofs.YtbgdkaahcfmaeaaK
set_option linter.unusedVariables false
set_option linter.unusedSimpArgs false
set_option maxRecDepth 100000
set_option maxHeartbeats 4000000
open Go.RowKit
attribute [local irreducible] dwv mops lops lqops lwops kont iter run runK ex E1 vals val chain chB sel resF

def inTab (e : api_Entry) : Bool := same e ⟨0, 0, 0⟩ || refTab.any fun k => same k.Entry e

theorem refOf_inTab (p c : Int) : inTab (refOf p c) = true := by
  unfold refOf
  cases h : refTab.find? (fun x => x.Page == p && x.Code == c) with
  | none => rfl
  | some x =>
    simp only [inTab, Bool.or_eq_true, List.any_eq_true]
    exact .inr ⟨x, List.mem_of_find?_eq_some h, same_self _⟩

/-- What holds of each entry of the table holds of each that is in it. -/
theorem inTab_all {q : api_Entry → Bool} (h0 : q ⟨0, 0, 0⟩ = true) (h : (refTab.all fun k => q k.Entry) = true) {e : api_Entry} (he : inTab e = true) : q e = true := by
  simp only [inTab, Bool.or_eq_true, List.any_eq_true] at he
  rcases he with he | ⟨k, hk, hs⟩
  · rw [same_eq he]; exact h0
  · rw [← same_eq hs]; exact List.all_eq_true.1 h k hk

def modeOk (e : api_Entry) : Bool := decide (0 ≤ e.Mode) && decide (e.Mode < 10)
theorem modes : (refTab.all fun k => modeOk k.Entry) = true := by decide +kernel

theorem upto256 {q : Nat → Bool} (h : (List.range 256).all q = true) {n : Int} (h0 : 0 ≤ n) (h1 : n < 256) : ∃ c : Nat, n = c ∧ q c = true := by
  obtain ⟨c, rfl⟩ := Int.eq_ofNat_of_zero_le h0
  exact ⟨c, rfl, List.all_eq_true.1 h c (by simp; omega)⟩

theorem ref15_total {b : Int} (h0 : 0 ≤ b) (h1 : b < 256) : ∃ x, spinetref15_Of b = some x := by
  obtain ⟨c, rfl, h⟩ := upto256 (q := fun c => (spinetref15_Of (c : Int)).isSome) (by decide +kernel) h0 h1
  exact Option.isSome_iff_exists.1 h

theorem shape_total {e : api_Entry} {post : Int} (he : inTab e = true) (h0 : 0 ≤ post) (h1 : post < 256) : ∃ x, spinetref18_Shape e.Mode post = some x := by
  have hm := inTab_all (q := modeOk) (by decide +kernel) modes he
  simp only [modeOk, Bool.and_eq_true, decide_eq_true_eq] at hm
  unfold spinetref18_Shape
  split
  · obtain ⟨x, hx⟩ := ref15_total h0 h1
    rw [hx]; exact ⟨_, rfl⟩
  · first | exact ⟨_, rfl⟩ | (rw [if_pos hm]; exact ⟨_, rfl⟩)

def Good (o : Option (api_Inst × Bool)) : Prop := ∃ i ok, o = some (i, ok) ∧ inTab i.Entry = true ∧ 0 ≤ i.Post ∧ i.Post < 256

section
variable {b : List Int} {p c v m k : Int} {e : api_Entry} {sh : Bool × Int × Bool}
theorem good_j0 (he : inTab e = true) (h0 : 0 ≤ p) (h1 : p < 256) : Good (spinetref18_Of_j0 b m c e p v sh k) := by
  unfold spinetref18_Of_j0
  split
  · exact ⟨_, _, rfl, by decide +kernel, by decide, by decide⟩
  · exact ⟨_, _, rfl, he, h0, h1⟩

theorem ln_x : ln ((([] : List Int) ++ b) ++ [0, 0, 0, 0, 0]) = (b.length : Int) + 5 := by simp [ln]
theorem gt_x (hb : ∀ a ∈ b, okI .u8 a) (j : Int) : 0 ≤ gt ((([] : List Int) ++ b) ++ [0, 0, 0, 0, 0]) j ∧ gt ((([] : List Int) ++ b) ++ [0, 0, 0, 0, 0]) j < 256 := by
  have key : ∀ x ∈ ((([] : List Int) ++ b) ++ [0, 0, 0, 0, 0]), 0 ≤ x ∧ x < 256 := fun x hx => by
    simp only [List.nil_append, List.mem_append] at hx
    rcases hx with hx | hx
    · exact okI_u8 (hb x hx)
    · simp at hx; subst hx; decide
  generalize (([] : List Int) ++ b) ++ [0, 0, 0, 0, 0] = l at key
  unfold gt
  cases h : l[j.toNat]? with
  | none => simp [h]
  | some x => simp [h]; exact key x (List.mem_of_getElem? h)

theorem good_j1 (hb : ∀ a ∈ b, okI .u8 a) (he : inTab e = true) (h0 : 0 ≤ p) (h1 : p < 256) (hm : m = 1 ∨ m = 2 ∨ m = 3) : Good (spinetref18_Of_j1 b k c e p m) := by
  obtain ⟨x, hx⟩ := shape_total he h0 h1
  have c1 : 0 ≤ m ∧ m < ln ((([] : List Int) ++ b) ++ [0, 0, 0, 0, 0]) := by rw [ln_x]; omega
  have c2 : 0 ≤ IntKind.wrap .i64 (m + 1) ∧ IntKind.wrap .i64 (m + 1) < ln ((([] : List Int) ++ b) ++ [0, 0, 0, 0, 0]) := by
    rw [ln_x, wrap_i64 (by omega) (by omega)]; omega
  unfold spinetref18_Of_j1
  rw [hx]
  simp only [Option.bind_some, if_pos c1, if_pos c2]
  split
  · unfold spinetref18_Sign
    split <;> exact good_j0 he h0 h1
  · split
    · exact good_j0 he h0 h1
    · split
      · exact good_j0 he h0 h1
      · exact good_j0 he h0 h1

theorem good_j2 (hb : ∀ a ∈ b, okI .u8 a) (hm : m = 1 ∨ m = 2) : Good (spinetref18_Of_j2 b k c m) := by
  have he := refOf_inTab k (IntKind.wrap .i64 c)
  obtain ⟨x, hx⟩ := shape_total he (post := 0) (by decide) (by decide)
  have c1 : 0 ≤ m ∧ m < ln ((([] : List Int) ++ b) ++ [0, 0, 0, 0, 0]) := by rw [ln_x]; omega
  unfold spinetref18_Of_j2
  rw [of_is]
  simp only [Option.bind_some, hx, if_pos c1]
  split
  · exact good_j1 hb he (gt_x hb m).1 (gt_x hb m).2 (by rw [wrap_i64 (by omega) (by omega)]; omega)
  · exact good_j1 hb he (by decide) (by decide) (by omega)

theorem ref18_good (hb : ∀ a ∈ b, okI .u8 a) (hl : b.length ≤ reachBytes) : Good (spinetref18_Of b) := by
  have hr : b.length + 5 ≤ 140737488355328 := by unfold reachBytes at hl; omega
  unfold spinetref18_Of
  rw [if_pos (by simp; omega), if_pos (by simp; omega), if_pos (by rw [ln_x]; omega), if_pos (by rw [ln_x]; omega), if_pos (fun _ => by rw [ln_x]; omega)]
  split
  · rw [if_pos (by rw [ln_x]; omega), if_pos (by rw [ln_x]; omega)]
    exact good_j2 hb (.inr rfl)
  · exact good_j2 hb (.inl rfl)
end

/-- Which answer is given: the shapes of the answers. -/
def out (c : Nat) (i : api_Inst) (at_ : Int) : List Int × Bool :=
  let nx := IntKind.wrap .u16 (at_ + (IntKind.wrap .u16 i.Len))
  let tg := IntKind.wrap .u16 (nx + i.Value)
  match c with
  | 0 => ([tg], true)
  | 1 => ([nx], true)
  | 2 => ([tg, nx], true)
  | 3 => ([i.Value], true)
  | 4 => ([i.Value, nx], true)
  | 5 => ([nx], false)
  | 6 => ([], false)
  | 7 => if (i.Post % 16 == 5) = true then ([], false) else ([nx], true)
  | 8 => if (i.Post % 16 == 5 || i.Post / 16 == 5) = true then ([], false) else ([nx], true)
  | 9 => if 127 < i.Post then ([], false) else ([nx], true)
  | _ => ([0], true)

def clsA (e : api_Entry) : Nat :=
  let jump := !((e.Mode != 6) && (e.Mode != 7))
  if ((e.Op == 36) || ((e.Op == 34) && (e.Reg == 0))) = true then (if jump = true then 0 else 10)
  else if (((e.Op == 34) || (e.Op == 35)) && (e.Reg == 1)) = true then 1
  else if jump = true then 2
  else if ((e.Op == 32) && (e.Mode == 5)) = true then 3
  else if ((e.Op == 33) && (e.Mode == 5)) = true then 4
  else if ((e.Op == 33) || (e.Op == 51)) = true then 5
  else if (e.Op == 32 || e.Op == 48 || e.Op == 49) = true then 6
  else if (e.Op == 47) = true then 7
  else if (e.Op == 46) = true then 8
  else if (e.Op == 31) = true then 9
  else 1

def clsB (e : api_Entry) : Nat :=
  if (e.Op == 34 || e.Op == 35) = true then (if (e.Reg == 0) = true then 0 else if (e.Reg == 1) = true then 1 else 2)
  else if (e.Op == 36) = true then 0
  else if (e.Op == 37 || e.Op == 38) = true then 2
  else if (e.Op == 32) = true then (if (e.Mode == 5) = true then 3 else 6)
  else if (e.Op == 33) = true then (if (e.Mode == 5) = true then 4 else 5)
  else if (e.Op == 51) = true then 5
  else if (e.Op == 48 || e.Op == 49) = true then 6
  else if (e.Op == 47) = true then 7
  else if (e.Op == 46) = true then 8
  else if (e.Op == 31) = true then 9
  else 1

theorem and15 {n : Int} (h0 : 0 ≤ n) (h1 : n < 256) : bits .and .u8 n 15 = n % 16 := by
  obtain ⟨c, rfl, h⟩ := upto256 (q := fun c => bits .and .u8 (c : Int) 15 == (c : Int) % 16) (by decide +kernel) h0 h1
  exact eq_of_beq h
theorem and128 {n : Int} (h0 : 0 ≤ n) (h1 : n < 256) : (bits .and .u8 n 128 != 0) = decide (127 < n) := by
  obtain ⟨c, rfl, h⟩ := upto256 (q := fun c => (bits .and .u8 (c : Int) 128 != 0) == decide (127 < (c : Int))) (by decide +kernel) h0 h1
  exact eq_of_beq h
theorem shr4 {n : Int} (h0 : 0 ≤ n) (h1 : n < 256) : Int.fdiv n (2 ^ 4) = n / 16 := by
  rw [show (2 : Int) ^ 4 = 16 by decide, Int.fdiv_eq_ediv_of_nonneg n (by decide)]
theorem tmod16 {n : Int} (h0 : 0 ≤ n) : Int.tmod n 16 = n % 16 := Int.tmod_eq_emod_of_nonneg h0
theorem tdiv16 {n : Int} (h0 : 0 ≤ n) (h1 : n < 256) : IntKind.wrap .u8 (Int.tdiv n 16) = n / 16 := by
  rw [Int.tdiv_eq_ediv_of_nonneg h0]
  exact wrap_u8 (by omega) (by omega)

theorem nextB_is (i : api_Inst) (at_ : Int) (h0 : 0 ≤ i.Post) (h1 : i.Post < 256) : spinetref54_Next i at_ = some (out (clsB i.Entry) i at_) := by
  unfold spinetref54_Next spinetref54_Next_j2 spinetref54_Next_j1 spinetref54_Next_j0 clsB
  simp only [tmod16 h0, tdiv16 h0 h1]
  generalize i.Entry.Op = o
  generalize i.Entry.Reg = r
  generalize i.Entry.Mode = md
  by_cases a34 : o = 34
  · subst a34; simp; by_cases r0 : r = 0 <;> by_cases r1 : r = 1 <;> simp [r0, r1, out] <;> split <;> simp_all [out]
  by_cases a35 : o = 35
  · subst a35; simp; by_cases r0 : r = 0 <;> by_cases r1 : r = 1 <;> simp [r0, r1, out] <;> split <;> simp_all [out]
  by_cases a36 : o = 36
  · subst a36; simp [out]
  by_cases a37 : o = 37
  · subst a37; simp [out]
  by_cases a38 : o = 38
  · subst a38; simp [out]
  by_cases a32 : o = 32
  · subst a32; simp; split <;> simp [out]
  by_cases a33 : o = 33
  · subst a33; simp; split <;> simp [out]
  by_cases a51 : o = 51
  · subst a51; simp [out]
  by_cases a48 : o = 48
  · subst a48; simp [out]
  by_cases a49 : o = 49
  · subst a49; simp [out]
  by_cases a47 : o = 47
  · subst a47; simp [out]; split <;> rfl
  by_cases a46 : o = 46
  · subst a46; simp [out]; split <;> rfl
  by_cases a31 : o = 31
  · subst a31; simp [out]; split <;> rfl
  simp [a34, a35, a36, a37, a38, a32, a33, a51, a48, a49, a47, a46, a31, out]

theorem nextA_is (i : api_Inst) (at_ : Int) (h0 : 0 ≤ i.Post) (h1 : i.Post < 256) : flow_Next i at_ = some (out (clsA i.Entry) i at_) := by
  unfold flow_Next inst_Target inst_Next flow_leaves flow_leaves_j0 clsA
  simp only [and15 h0 h1, and128 h0 h1, shr4 h0 h1, Option.bind_some]
  generalize i.Entry.Op = o
  generalize i.Entry.Reg = r
  generalize i.Entry.Mode = md
  cases hj : ((md != 6) && (md != 7)) with
  | false =>
    simp only [Bool.false_eq_true, if_false, Option.bind_some, Bool.not_false, if_true]
    by_cases c1 : ((o == 36) || ((o == 34) && (r == 0))) = true
    · simp only [c1, if_true]; rfl
    · simp only [c1, if_false]
      by_cases c2 : (((o == 34) || (o == 35)) && (r == 1)) = true
      · simp only [c2, if_true]; rfl
      · simp only [c2, if_false]; rfl
  | true =>
    simp only [if_true, Option.bind_some, Bool.not_true, Bool.false_eq_true, if_false]
    by_cases c1 : ((o == 36) || ((o == 34) && (r == 0))) = true
    · simp only [c1, if_true]; rfl
    · simp only [c1, if_false]
      by_cases c2 : (((o == 34) || (o == 35)) && (r == 1)) = true
      · simp only [c2, if_true]; rfl
      · simp only [c2, if_false]
        by_cases c3 : ((o == 32) && (md == 5)) = true
        · simp only [c3, if_true]; rfl
        · simp only [c3, if_false]
          by_cases c4 : ((o == 33) && (md == 5)) = true
          · simp only [c4, if_true]; rfl
          · simp only [c4, if_false]
            by_cases c5 : ((o == 33) || (o == 51)) = true
            · simp only [c5, if_true]; rfl
            · simp only [c5, if_false]
              by_cases a32 : o = 32
              · subst a32; simp [out]
              by_cases a48 : o = 48
              · subst a48; simp [out]
              by_cases a49 : o = 49
              · subst a49; simp [out]
              by_cases a47 : o = 47
              · subst a47; simp [out]; split <;> rfl
              by_cases a46 : o = 46
              · subst a46; simp [out]; split <;> rfl
              by_cases a31 : o = 31
              · subst a31; simp [out]; split <;> rfl
              simp [a32, a48, a49, a47, a46, a31, out]

def clsSame (e : api_Entry) : Bool := clsA e == clsB e
theorem classes : (refTab.all fun k => clsSame k.Entry) = true := by decide +kernel

theorem same_next {i : api_Inst} {at_ : Int} (he : inTab i.Entry = true) (h0 : 0 ≤ i.Post) (h1 : i.Post < 256) : ∃ x, flow_Next i at_ = some x ∧ spinetref54_Next i at_ = some x ∧ x.1.length < 3 := by
  have hc := inTab_all (q := clsSame) (by decide +kernel) classes he
  refine ⟨_, nextA_is i at_ h0 h1, ?_, ?_⟩
  · rw [nextB_is i at_ h0 h1, ← eq_of_beq hc]
  · generalize clsA i.Entry = c
    unfold out
    split <;> (try split) <;> simp

theorem equal_scan (l : List Int) (hl : l.length < 2 ^ 40) : ∀ (r : List Int) (i k : Nat), l.drop i = r → r.length < k → slices_Equal_sl_uint16_uint16_l0 l l k i = some (.go ())
  | r, i, 0, hr, hk => by omega
  | [], i, k + 1, hr, hk => by
    have : ¬ (i : Int) < ln l := by have := drop_nil hr; simp only [ln]; omega
    simp only [slices_Equal_sl_uint16_uint16_l0, decide_eq_false this]
    rfl
  | x :: r, i, k + 1, hr, hk => by
    obtain ⟨hx, hr', hlt⟩ := drop_cons hr
    have h1 : (i : Int) < ln l := by simp only [ln]; omega
    have h2 : 0 ≤ (i : Int) ∧ (i : Int) < ln l := ⟨by omega, h1⟩
    simp only [slices_Equal_sl_uint16_uint16_l0, decide_eq_true h1, if_true, if_pos h2, bne_self_eq_false, Bool.false_eq_true, if_false, wrap64s (show i < 2 ^ 62 by omega)]
    exact equal_scan l hl r (i + 1) k hr' (by simp at hk; omega)

theorem equal_self {l : List Int} (hl : l.length < 2 ^ 40) : slices_Equal_sl_uint16_uint16 l l = some true := by
  unfold slices_Equal_sl_uint16_uint16
  have := equal_scan l hl l 0 BIG rfl (Nat.lt_of_lt_of_le hl (by decide))
  simp only [bne_self_eq_false, Bool.false_eq_true, if_false]
  rw [show (0 : Int) = ((0 : Nat) : Int) from rfl, this]
  rfl

theorem alive54 : spinetlaw54_alive = some true := by decide +kernel

theorem flowNext_true (b : List Int) (at_ : Int) (hb : ∀ a ∈ b, okI .u8 a) (hl : b.length ≤ reachBytes) : spinetlaw54_FlowNext b at_ = some true := by
  obtain ⟨i, ok, hi, he, h0, h1⟩ := ref18_good hb hl
  obtain ⟨x, hA, hB, hx⟩ := same_next (at_ := at_) he h0 h1
  unfold spinetlaw54_FlowNext
  rw [hi]
  simp only [Option.bind_some, hA, hB, equal_self (show x.1.length < 2 ^ 40 by omega), beq_self_eq_true, Bool.and_self, if_true, alive54]
  split <;> rfl
end Go.Proofs.YtbgdkaahcfmaeaaK
