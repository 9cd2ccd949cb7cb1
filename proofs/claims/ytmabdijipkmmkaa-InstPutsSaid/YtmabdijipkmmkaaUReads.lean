/- The law InstReads over typed data. -/
import Derived.Test.YtmabdijipkmmkaaUPut
namespace Go.Proofs.YtmabdijipkmmkaaK
set_option linter.unusedVariables false
set_option linter.unusedSimpArgs false
set_option maxHeartbeats 4000000
open Go.RowKit
attribute [local irreducible] dwv mops lops lqops lwops kont iter run runK ex E1 vals val chain chB sel resF

theorem alive18 : spinetlaw18_alive = some true := by decide +kernel
theorem equal_bs (l : List Int) : bytes_Equal l l = some true := by simp [bytes_Equal]
theorem wrap_u16m (n : Int) : IntKind.wrap .u16 n = n % 65536 := by simp [IntKind.wrap, IntKind.signed, IntKind.bits]

theorem prefix_take (b : List Int) (L : Nat) (h : L ≤ b.length) : bytes_HasPrefix b (b.take L) = some true := by
  have hlen : ln (b.take L) = (L : Int) := by simp only [ln, List.length_take]; omega
  have hb : ln b = (b.length : Int) := rfl
  unfold bytes_HasPrefix
  rw [hlen, hb]
  have hd : decide ((L : Int) ≤ (b.length : Int)) = true := decide_eq_true (by omega)
  rw [hd, if_pos (fun _ => by omega)]
  simp only [if_true, Int.toNat_natCast, Nat.sub_zero, List.drop_zero, equal_bs, Option.bind_some]
  rfl

theorem valM_range {b : List Int} (hb : ∀ a ∈ b, okI .u8 a) (k : Nat) (n : Int) (s : Bool) : 0 ≤ valM b k n s ∧ valM b k n s < 65536 := by
  have r0 := byte_range hb k
  have r1 := byte_range hb (k + 1)
  unfold valM
  split
  · omega
  · split
    · split
      · split <;> omega
      · omega
    · omega

theorem modI_value {b : List Int} (hb : ∀ a ∈ b, okI .u8 a) : 0 ≤ (modI b).Value ∧ (modI b).Value < 65536 := by
  unfold modI
  split <;> exact valM_range hb _ _ _

theorem same_is {b : List Int} (hb : ∀ a ∈ b, okI .u8 a) (hl : b.length < 2 ^ 46) (hle : (modI b).Len ≤ (b.length : Int)) : inst_Same (modI b) b = some true := by
  unfold inst_Same
  rw [put_is hb hl hle]
  simp only [Option.bind_some, beq_self_eq_true, if_true, prefix_take b _ (show (modI b).Len.toNat ≤ b.length by omega)]
  rfl

theorem instReads_true (b : List Int) (at_ : Int) (hb : ∀ a ∈ b, okI .u8 a) (h0 : 0 ≤ at_) (h1 : at_ < 65536) : spinetlaw18_InstReads b at_ = some true := by
  unfold spinetlaw18_InstReads
  by_cases h20 : (20 : Int) < ln b
  · rw [if_pos (decide_eq_true h20)]
  rw [if_neg (fun h => h20 (of_decide_eq_true h))]
  have hl20 : b.length ≤ 20 := by simp only [ln] at h20; omega
  have hl : b.length < 2 ^ 46 := by omega
  rw [instOf_is hb (by omega), ref18_is hb hl]
  simp only [Option.bind_some]
  by_cases hs : (b.length : Int) < (modI b).Len
  · rw [if_pos hs, if_pos hs]
    simp only [zeroI, alive18]
    rfl
  · rw [if_neg hs, if_neg hs]
    have hle : (modI b).Len ≤ (b.length : Int) := by omega
    have hL0 : 0 ≤ (modI b).Len := by
      unfold modI
      split
      · have := modAt_len b (byteAt b 0 - 14) (byteAt b 1) 2; omega
      · have := modAt_len b 1 (byteAt b 0) 1; omega
    have hv := modI_value hb
    have hsame := same_is hb hl hle
    simp only [Bool.not_true, Bool.false_eq_true, if_false, beq_self_eq_true, Bool.and_self, bne_self_eq_false, Bool.or_self, put_is hb hl hle, Option.bind_some]
    generalize modI b = i at *
    have w1 : IntKind.wrap .i64 at_ = at_ := wrap_i64 (by omega) (by omega)
    have w2 : IntKind.wrap .i64 (at_ + i.Len) = at_ + i.Len := wrap_i64 (by omega) (by omega)
    have w3 : IntKind.wrap .i64 i.Value = i.Value := wrap_i64 (by omega) (by omega)
    have w4 : IntKind.wrap .i64 (at_ + i.Len + i.Value) = at_ + i.Len + i.Value := wrap_i64 (by omega) (by omega)
    have t1 : Int.tmod (at_ + i.Len) 65536 = (at_ + i.Len) % 65536 := Int.tmod_eq_emod_of_nonneg (by omega)
    have t2 : Int.tmod (at_ + i.Len + i.Value) 65536 = (at_ + i.Len + i.Value) % 65536 := Int.tmod_eq_emod_of_nonneg (by omega)
    have hnext : inst_Next i at_ = some ((at_ + i.Len) % 65536) := by
      unfold inst_Next; rw [wrap_u16m, wrap_u16m]; congr 1; omega
    have w5 : IntKind.wrap .i64 ((at_ + i.Len) % 65536) = (at_ + i.Len) % 65536 := wrap_i64 (by omega) (by omega)
    have w6 : IntKind.wrap .i64 ((at_ + i.Len + i.Value) % 65536) = (at_ + i.Len + i.Value) % 65536 := wrap_i64 (by omega) (by omega)
    have hc : 0 ≤ i.Len ∧ i.Len ≤ ln b := ⟨hL0, hle⟩
    have hj : ∀ (to : Int × Bool) (want : Int), IntKind.wrap .i64 to.1 = want → to.2 = ((i.Entry.Mode == 6) || (i.Entry.Mode == 7)) →
        spinetlaw18_InstReads_j0 b at_ (i, 0) (b.take i.Len.toNat, 0) to want = some true := by
      intro to want e1 e2
      unfold spinetlaw18_InstReads_j0
      simp only [if_pos hc, List.drop_zero, Nat.sub_zero, equal_bs, Option.bind_some, beq_self_eq_true, Bool.and_self, if_true, hsame, hnext, w1, w2, w5, t1, e1, e2, alive18]
    unfold inst_Target
    rw [hnext]
    by_cases hm : ((i.Entry.Mode == 6) || (i.Entry.Mode == 7)) = true
    · have hn : ¬ ((i.Entry.Mode != 6) && (i.Entry.Mode != 7)) = true := by
        simp only [Bool.or_eq_true, beq_iff_eq] at hm
        simp; omega
      rw [if_neg hn]
      simp only [Option.bind_some, hm, if_true, w1, w2, w3, w4, t2]
      exact hj _ _ (by simp only [wrap_u16m]; rw [show ((at_ + i.Len) % 65536 + i.Value) % 65536 = (at_ + i.Len + i.Value) % 65536 by omega]; exact w6) hm.symm
    · have hn : ((i.Entry.Mode != 6) && (i.Entry.Mode != 7)) = true := by
        simp only [Bool.or_eq_true, beq_iff_eq, not_or] at hm
        simp; omega
      rw [if_pos hn]
      simp only [Option.bind_some, hm, if_false]
      exact hj _ _ (by decide +kernel) (by simpa using hm)
end Go.Proofs.YtmabdijipkmmkaaK
