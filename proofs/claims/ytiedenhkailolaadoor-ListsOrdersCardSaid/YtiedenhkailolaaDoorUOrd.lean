/- The law ListsOrders over typed data. -/
import Derived.Test.YtiedenhkailolaaDoorF
import Derived.Test.YtiedenhkailolaaDoorUB
namespace Go.Proofs.YtiedenhkailolaaDoorK
set_option linter.unusedVariables false
set_option linter.unusedSimpArgs false
set_option maxRecDepth 100000
set_option maxHeartbeats 4000000
open Go.RowKit
attribute [local irreducible] dwv mops lops lqops lwops kont iter run runK rk okK ex E1 vals val chain chB sel resF

theorem alive17 : spinetlaw17_alive = some true := by decide +kernel
theorem regs_is {s : Int} (h : s ≠ 3) : lists_regs s = lists_regs 0 := by
  unfold lists_regs
  rw [if_neg (by simpa using h), if_neg (by decide)]
theorem orders_all3 : ((List.range 256).all fun (p : Nat) => spinetlaw17_ListsOrders (p : Int) 3 == some true) = true := by decide +kernel
theorem orders_all0 : ((List.range 256).all fun (p : Nat) => spinetlaw17_ListsOrders (p : Int) 0 == some true) = true := by decide +kernel
theorem listsOrders_true (post stack : Int) (h0 : 0 ≤ post) (h1 : post < 256) : spinetlaw17_ListsOrders post stack = some true := by
  obtain ⟨c, rfl⟩ := Int.eq_ofNat_of_zero_le h0
  by_cases h : stack = 3
  · subst h
    exact eq_of_beq (List.all_eq_true.1 orders_all3 c (by simp; omega))
  · have e : spinetlaw17_ListsOrders (c : Int) stack = spinetlaw17_ListsOrders (c : Int) 0 := by
      unfold spinetlaw17_ListsOrders lists_Order
      rw [regs_is h, show (stack == 3) = false by simpa using h]
      rfl
    rw [e]
    exact eq_of_beq (List.all_eq_true.1 orders_all0 c (by simp; omega))
end Go.Proofs.YtiedenhkailolaaDoorK
