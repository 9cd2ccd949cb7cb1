/- The law ListsParts over typed data. -/
import Derived.Test.YtiedenhkailolaaDoorF
import Derived.Test.YtiedenhkailolaaDoorUB
namespace Go.Proofs.YtiedenhkailolaaDoorK
set_option linter.unusedVariables false
set_option linter.unusedSimpArgs false
set_option maxHeartbeats 4000000
open Go.RowKit
attribute [local irreducible] dwv mops lops lqops lwops kont iter run runK rk okK ex E1 vals val chain chB sel resF

theorem alive17' : spinetlaw17_alive = some true := by decide +kernel
theorem pw16 (n : Int) : IntKind.wrap .u16 n = n % 65536 := by simp [IntKind.wrap, IntKind.signed, IntKind.bits]
theorem pw8 (n : Int) : IntKind.wrap .u8 n = n % 256 := by simp [IntKind.wrap, IntKind.signed, IntKind.bits]

structure okR (r : api_Regs) : Prop where
  a : 0 ≤ r.A ∧ r.A < 256
  b : 0 ≤ r.B ∧ r.B < 256
  cc : 0 ≤ r.CC ∧ r.CC < 256
  dp : 0 ≤ r.DP ∧ r.DP < 256
  x : 0 ≤ r.X ∧ r.X < 65536
  y : 0 ≤ r.Y ∧ r.Y < 65536
  u : 0 ≤ r.U ∧ r.U < 65536
  s : 0 ≤ r.S ∧ r.S < 65536
  pc : 0 ≤ r.PC ∧ r.PC < 65536

/-- A register, by its code. -/
def getR (r : api_Regs) (c : Int) : Int :=
  if c = 0 then r.A * 256 + r.B else if c = 1 then r.X else if c = 2 then r.Y else if c = 3 then r.U else if c = 4 then r.S else if c = 5 then r.PC
  else if c = 8 then 65280 + r.A else if c = 9 then 65280 + r.B else if c = 10 then 65280 + r.CC else if c = 11 then 65280 + r.DP else 65535
theorem getR_range {r : api_Regs} (h : okR r) (c : Int) : 0 ≤ getR r c ∧ getR r c < 65536 := by
  obtain ⟨h1, h2, h3, h4, h5, h6, h7, h8, h9⟩ := h
  unfold getR
  repeat' split
  all_goals omega
theorem word16 {h l : Int} (h0 : 0 ≤ h ∧ h < 256) (l0 : 0 ≤ l ∧ l < 256) : octet_Word h l = some (h * 256 + l) := by
  unfold octet_Word
  rw [wrap_u16 (n := h) (by omega) (by omega), wrap_u16 (n := h * 2 ^ 8) (by omega) (by omega), wrap_u16 (n := l) (by omega) (by omega), or_u16 8 h0.1 l0.1 (by omega) (by omega)]
  rfl
theorem eqi {c n : Int} : ((c == n) = true) = (c = n) := by simp
theorem get_is {r : api_Regs} (h : okR r) (c : Int) : file_File_Get ⟨r⟩ c = some (getR r c) := by
  have w1 := word16 h.a h.b
  have w2 := word16 (h := 255) (by omega) h.a
  have w3 := word16 (h := 255) (by omega) h.b
  have w4 := word16 (h := 255) (by omega) h.cc
  have w5 := word16 (h := 255) (by omega) h.dp
  unfold file_File_Get getR
  simp only [eqi, w1, w2, w3, w4, w5, Option.bind_some]
  repeat' split
  all_goals rfl
theorem rget_is {r : api_Regs} (h : okR r) (c : Int) : spinetref16_Get r c = some (getR r c) := by
  obtain ⟨h1, h2, h3, h4, h5, h6, h7, h8, h9⟩ := h
  unfold spinetref16_Get
  by_cases hc : c < 0 ∨ 11 < c
  · rw [if_pos (by simpa using hc)]
    unfold getR
    repeat' split
    all_goals first | omega | rfl
  · rw [if_neg (by simpa using hc), if_pos (by omega)]
    simp only [pw16]
    have hn : c = 0 ∨ c = 1 ∨ c = 2 ∨ c = 3 ∨ c = 4 ∨ c = 5 ∨ c = 6 ∨ c = 7 ∨ c = 8 ∨ c = 9 ∨ c = 10 ∨ c = 11 := by omega
    rcases hn with rfl | rfl | rfl | rfl | rfl | rfl | rfl | rfl | rfl | rfl | rfl | rfl
    · exact congrArg some (show (r.A % 65536 * 256 % 65536 + r.B % 65536) % 65536 = r.A * 256 + r.B by omega)
    · rfl
    · rfl
    · rfl
    · rfl
    · rfl
    · rfl
    · rfl
    · exact congrArg some (show (65280 + r.A % 65536) % 65536 = 65280 + r.A by omega)
    · exact congrArg some (show (65280 + r.B % 65536) % 65536 = 65280 + r.B by omega)
    · exact congrArg some (show (65280 + r.CC % 65536) % 65536 = 65280 + r.CC by omega)
    · exact congrArg some (show (65280 + r.DP % 65536) % 65536 = 65280 + r.DP by omega)

/-- Registers, one of them another one. -/
def setR (r : api_Regs) (c w : Int) : api_Regs :=
  if c = 0 then { r with A := w / 256, B := w % 256 } else if c = 1 then { r with X := w } else if c = 2 then { r with Y := w } else if c = 3 then { r with U := w } else if c = 4 then { r with S := w } else if c = 5 then { r with PC := w }
  else if c = 8 then { r with A := w % 256 } else if c = 9 then { r with B := w % 256 } else if c = 10 then { r with CC := w % 256 } else if c = 11 then { r with DP := w % 256 } else r
theorem high_is {w : Int} (h : 0 ≤ w ∧ w < 65536) : octet_High w = some (w / 256) := by
  unfold octet_High
  rw [show (2 : Int) ^ 8 = 256 by decide, Int.fdiv_eq_ediv_of_nonneg w (by decide), wrap_u8 (by omega) (by omega)]
theorem low_is (w : Int) : octet_Low w = some (w % 256) := by unfold octet_Low; rw [pw8]
theorem set_is {r : api_Regs} (c : Int) {w : Int} (h : 0 ≤ w ∧ w < 65536) : ∃ b, file_File_Set ⟨r⟩ c w = some (b, ⟨setR r c w⟩) := by
  have e : (file_File_Set ⟨r⟩ c w).map Prod.snd = some ⟨setR r c w⟩ := by
    unfold file_File_Set setR
    simp only [eqi, high_is h, low_is, Option.bind_some]
    by_cases h0 : c = 0
    · simp only [h0, if_true]; rfl
    simp only [h0, if_false]
    by_cases h1 : c = 1
    · simp only [h1, if_true]; rfl
    simp only [h1, if_false]
    by_cases h2 : c = 2
    · simp only [h2, if_true]; rfl
    simp only [h2, if_false]
    by_cases h3 : c = 3
    · simp only [h3, if_true]; rfl
    simp only [h3, if_false]
    by_cases h4 : c = 4
    · simp only [h4, if_true]; rfl
    simp only [h4, if_false]
    by_cases h5 : c = 5
    · simp only [h5, if_true]; rfl
    simp only [h5, if_false]
    by_cases h8 : c = 8
    · simp only [h8, if_true]; rfl
    simp only [h8, if_false]
    by_cases h9 : c = 9
    · simp only [h9, if_true]; rfl
    simp only [h9, if_false]
    by_cases h10 : c = 10
    · simp only [h10, if_true]; rfl
    simp only [h10, if_false]
    by_cases h11 : c = 11
    · simp only [h11, if_true]; rfl
    simp only [h11, if_false]; rfl
  obtain ⟨⟨b, f⟩, h1, h2⟩ := Option.map_eq_some_iff.1 e
  simp only at h2
  subst h2
  exact ⟨b, h1⟩
theorem rset_is {r : api_Regs} (c : Int) {w : Int} (h : 0 ≤ w ∧ w < 65536) : spinetref16_Set r c w = some (setR r c w) := by
  unfold spinetref16_Set setR
  rw [Int.tdiv_eq_ediv_of_nonneg h.1, Int.tmod_eq_emod_of_nonneg h.1, wrap_u16 (n := w / 256) (by omega) (by omega), wrap_u8 (n := w / 256) (by omega) (by omega), wrap_u8 (n := w % 256) (by omega) (by omega)]
  simp only [eqi]
  repeat' split
  all_goals rfl

theorem listsParts_true (r : api_Regs) (p : lists_Part) (b : Int) (h : okR r) (hb : 0 ≤ b ∧ b < 256) : spinetlaw17_ListsParts r p b = some true := by
  have hg := getR_range h p.Reg
  have e1 : lists_Byte r p = some (if p.High = true then getR r p.Reg / 256 else getR r p.Reg % 256) := by
    unfold lists_Byte
    rw [get_is h]
    simp only [Option.bind_some, high_is hg, low_is]
    split <;> rfl
  have e2 : spinetref17_Byte r ⟨p.Reg, p.High⟩ = some (if p.High = true then getR r p.Reg / 256 else getR r p.Reg % 256) := by
    unfold spinetref17_Byte
    rw [rget_is h]
    simp only [Option.bind_some]
    rw [Int.tdiv_eq_ediv_of_nonneg hg.1, Int.tmod_eq_emod_of_nonneg hg.1, wrap_u16 (n := getR r p.Reg / 256) (by omega) (by omega), wrap_u8 (n := getR r p.Reg / 256) (by omega) (by omega), wrap_u8 (n := getR r p.Reg % 256) (by omega) (by omega)]
    split <;> rfl
  have e3 : lists_With r p b = some (if p.High = true then setR r p.Reg (b * 256 + getR r p.Reg % 256) else setR r p.Reg (getR r p.Reg / 256 * 256 + b)) := by
    unfold lists_With
    rw [get_is h]
    simp only [Option.bind_some, high_is hg, low_is]
    by_cases hh : p.High = true
    · rw [if_pos hh, if_pos hh, word16 hb (by omega)]
      simp only [Option.bind_some]
      obtain ⟨k, hk⟩ := set_is (r := r) p.Reg (w := b * 256 + getR r p.Reg % 256) (by omega)
      rw [hk]; rfl
    · rw [if_neg hh, if_neg hh, word16 (by omega) hb]
      simp only [Option.bind_some]
      obtain ⟨k, hk⟩ := set_is (r := r) p.Reg (w := getR r p.Reg / 256 * 256 + b) (by omega)
      rw [hk]; rfl
  have e4 : spinetref17_With r ⟨p.Reg, p.High⟩ b = some (if p.High = true then setR r p.Reg (b * 256 + getR r p.Reg % 256) else setR r p.Reg (getR r p.Reg / 256 * 256 + b)) := by
    unfold spinetref17_With
    rw [rget_is h]
    simp only [Option.bind_some]
    rw [Int.tdiv_eq_ediv_of_nonneg hg.1, Int.tmod_eq_emod_of_nonneg hg.1]
    rw [wrap_u16 (n := b) (by omega) (by omega), wrap_u16 (n := b * 256) (by omega) (by omega), wrap_u16 (n := getR r p.Reg / 256) (by omega) (by omega), wrap_u16 (n := getR r p.Reg / 256 * 256) (by omega) (by omega), wrap_u16 (n := b * 256 + getR r p.Reg % 256) (by omega) (by omega), wrap_u16 (n := getR r p.Reg / 256 * 256 + b) (by omega) (by omega)]
    rw [rset_is _ (by omega), rset_is _ (by omega)]
    split <;> rfl
  unfold spinetlaw17_ListsParts
  rw [e1, e2, e3, e4]
  simp only [Option.bind_some, beq_self_eq_true, if_true, Bool.and_self, alive17']
end Go.Proofs.YtiedenhkailolaaDoorK
