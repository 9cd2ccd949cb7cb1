/- The law ListsTexts. -/
import Derived.Test.YtiedenhkailolaaDoorUB
import Derived.Test.YtiedenhkailolaaDoorF
namespace Go.Proofs.YtiedenhkailolaaDoorK
set_option linter.unusedVariables false
set_option linter.unusedSimpArgs false
set_option maxHeartbeats 4000000
open Go.RowKit
attribute [local irreducible] dwv mops lops lqops lwops kont iter run runK rk okK ex E1 vals val chain chB sel resF

theorem lregs_is {s : Int} (h : s ≠ 3) : lists_regs s = lists_regs 0 := by
  unfold lists_regs
  rw [if_neg (by simpa using h), if_neg (by decide)]
theorem lbits_st {s : Int} (h : s ≠ 3) (x : ByteArray) : lists_bits x s = lists_bits x 0 := by
  unfold lists_bits
  rw [lregs_is h]
theorem lread_l0 {s : Int} (h : s ≠ 3) (r : List ByteArray) : ∀ (k : Nat) (p t : Int), lists_Read_l0 s r k p t = lists_Read_l0 0 r k p t
  | 0, _, _ => rfl
  | k + 1, p, t => by
    rw [lists_Read_l0, lists_Read_l0]
    simp only [lbits_st h, lread_l0 h r k]
theorem ltexts_st {s : Int} (h : s ≠ 3) (p : Int) : spinetlaw17_ListsTexts p s = spinetlaw17_ListsTexts p 0 := by
  have e : (s == 3) = ((0 : Int) == 3) := by
    rw [show ((0 : Int) == 3) = false from rfl]; simpa using h
  unfold spinetlaw17_ListsTexts lists_Text lists_Read
  simp only [lregs_is h, lread_l0 h, e]
theorem ltexts_all3 : ((List.range 256).all fun (p : Nat) => spinetlaw17_ListsTexts (p : Int) 3 == some true) = true := by decide +kernel
theorem ltexts_all0 : ((List.range 256).all fun (p : Nat) => spinetlaw17_ListsTexts (p : Int) 0 == some true) = true := by decide +kernel
theorem listsTexts_true (post stack : Int) (h0 : 0 ≤ post) (h1 : post < 256) : spinetlaw17_ListsTexts post stack = some true := by
  obtain ⟨p, rfl⟩ : ∃ p : Nat, post = p := ⟨post.toNat, by omega⟩
  have hp : p ∈ List.range 256 := by rw [List.mem_range]; omega
  by_cases h : stack = 3
  · subst h
    simpa using List.all_eq_true.1 ltexts_all3 p hp
  · rw [ltexts_st h]
    simpa using List.all_eq_true.1 ltexts_all0 p hp
end Go.Proofs.YtiedenhkailolaaDoorK
