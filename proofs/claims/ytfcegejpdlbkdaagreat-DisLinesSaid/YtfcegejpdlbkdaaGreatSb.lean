/- Builders: what the library's functions come to. -/
import Derived.Test.YtfcegejpdlbkdaaGreatRi
import Derived.Test.YtfcegejpdlbkdaaGreatProg
import Derived.Lib.Builder
import Derived.Lib.UnsafeStr
import Derived.WalkKit
import Derived.Laws.Externs
import Derived.Shelf.RegionOpenPlain
namespace Go.Proofs.YtfcegejpdlbkdaaGreatK
set_option linter.unusedVariables false
set_option linter.unusedSimpArgs false
set_option maxRecDepth 100000
set_option maxHeartbeats 4000000
open Go.RowKit
theorem cc_used (b:Nat) (w:World) (h0:w.cell? ⟨b,0,none⟩=some (.pointer (some ⟨b,0,none⟩))) :
    Calls Tryz.prog 67 #[.pointer (some ⟨b,0,none⟩)] w fun e w'=>e=.returned (.tuple #[])∧w'=w:=by
  obtain ⟨j,hj⟩:∃ j,Tryz.prog.info? 102=some j:=Option.isSome_iff_exists.1 (by kernel_rfl)
  go_enter Tryz.func67,Tryz.ntmps67
  go_wp2
  rw [Lib.run_neq_ptr_same w _ Tryz.underlying100 hj]
  go_wp2
  go_end0
  exact ⟨rfl,rfl⟩
theorem cc_fresh (b:Nat) (w:World) (h0:w.cell? ⟨b,0,none⟩=some (.pointer none)) (hsh:w.shape? b=some (102,2)) (hfz:w.frozen? ⟨b,0,none⟩=false) :
    Calls Tryz.prog 67 #[.pointer (some ⟨b,0,none⟩)] w fun e w'=>e=.returned (.tuple #[])∧w'=w.setCell ⟨b,0,none⟩ (.pointer (some ⟨b,0,none⟩)):=by
  obtain ⟨j,hj⟩:∃ j,Tryz.prog.info? 102=some j:=Option.isSome_iff_exists.1 (by kernel_rfl)
  have hjs:j.size=2:=by
    have:(Tryz.prog.info? 102).map (·.size)=some 2:=by kernel_rfl
    rw [hj] at this; exact Option.some.inj this
  go_enter Tryz.func67,Tryz.ntmps67
  go_wp2
  rw [Lib.run_to_unsafe w ⟨b,0,none⟩ Tryz.underlying100 Tryz.underlying152 hj (by rw [hjs]; decide) hsh (Nat.zero_lt_succ 1)]
  simp only [Result.andThen]
  rw [Oper.upon_value]
  go_wp2
  rw [run_callFunc_extern Tryz.func89 (by kernel_rfl) (by kernel_rfl) (by kernel_rfl) (e:=Extern.AbiNoEscape.same) (by kernel_rfl)]
  rw [Lib.run_noEscape]
  simp only [Result.andThen]
  rw [Oper.upon_value]
  go_wp2
  rw [Lib.run_from_unsafe w ⟨b,0,none⟩ Tryz.underlying152 Tryz.underlying100 hj hsh (by kernel_rfl)]
  simp only [Result.andThen]
  rw [Oper.upon_value]
  go_wp2
  go_end0
  exact ⟨rfl,rfl⟩
theorem str_some (b g cap:Nat) (l:List UInt8) (h0:l ≠ []) (w:World) (hc:w.cell? ⟨b,1,none⟩=some (.slice (some ⟨g,0,none⟩) l.length cap)) (hcap:l.length≤cap) (hcm:cap≤maxLen) (n:Nat) (hsh:w.shape? g=some (5,n)) (hn:l.length≤n)
    (hl:∀ j x,l[j]? = some x→w.cell? ((⟨g,0,none⟩:Addr).add j)=some (.int .u8 x.toNat)) :
    Calls Tryz.prog 48 #[.pointer (some ⟨b,0,none⟩)] w fun e w'=>e=.returned (.string ⟨l.toArray⟩)∧w'=w.drew.freeze ⟨g,0,none⟩ l.length:=by
  have hl0:l.length ≠ 0:=by simpa using h0
  have c1:w.drew.cell? ⟨b,1,none⟩=some (.slice (some ⟨g,0,none⟩) l.length cap):=hc
  have hSD:(Builtin.unsafeSliceData_ #[22] 138 #[.slice (some ⟨g,0,none⟩) l.length cap]).run Tryz.prog w.drew=.ok (.pointer (some ⟨g,0,none⟩)) w.drew :=
    Lib.run_unsafeSliceData_row _ _ _ _ _ _ (by omega)
  have hUS:(Builtin.unsafeString_ #[138,3] 9 #[.pointer (some ⟨g,0,none⟩),.int .i64 l.length]).run Tryz.prog w.drew=.ok (.string ⟨l.toArray⟩) (w.drew.freeze ⟨g,0,none⟩ l.length):=by
    refine Lib.run_unsafeString_row w.drew 138 3 9 5 Tryz.underlying138 (by kernel_rfl) g n hsh l h0 hn (by unfold maxLen at hcm; omega) hl
  have mixed:Tryz.prog.follows .mixedOrders=true:=by kernel_rfl
  go_enter Tryz.func48,Tryz.ntmps48
  go_wp2
  go_region_o
  all_goals (go_wp2; go_ret; exact ⟨rfl,rfl⟩)
theorem str_nil (b:Nat) (w:World) (hc:w.cell? ⟨b,1,none⟩=some (.slice none 0 0)) :
    Calls Tryz.prog 48 #[.pointer (some ⟨b,0,none⟩)] w fun e w'=>e=.returned (.string ⟨#[]⟩)∧w'=w.drew:=by
  have c1:w.drew.cell? ⟨b,1,none⟩=some (.slice none 0 0):=hc
  have hSD:(Builtin.unsafeSliceData_ #[22] 138 #[.slice none 0 0]).run Tryz.prog w.drew=.ok (.pointer none) w.drew:=Lib.run_unsafeSliceData_nil _ _ _ _ _
  have hUS:(Builtin.unsafeString_ #[138,3] 9 #[.pointer none,.int .i64 0]).run Tryz.prog w.drew=.ok (.string .empty) w.drew:=Lib.run_unsafeString_none _ _ _ _ _
  have mixed:Tryz.prog.follows .mixedOrders=true:=by kernel_rfl
  go_enter Tryz.func48,Tryz.ntmps48
  go_wp2
  go_region_o
  all_goals (go_wp2; go_ret; exact ⟨rfl,rfl⟩)
theorem str_row0 (b cap:Nat) (a:Addr) (hcap:cap ≠ 0) (w:World) (hc:w.cell? ⟨b,1,none⟩=some (.slice (some a) 0 cap)) :
    Calls Tryz.prog 48 #[.pointer (some ⟨b,0,none⟩)] w fun e w'=>e=.returned (.string ⟨#[]⟩)∧w'=w.drew:=by
  have c1:w.drew.cell? ⟨b,1,none⟩=some (.slice (some a) 0 cap):=hc
  have hSD:(Builtin.unsafeSliceData_ #[22] 138 #[.slice (some a) 0 cap]).run Tryz.prog w.drew=.ok (.pointer (some a)) w.drew:=Lib.run_unsafeSliceData_row _ _ _ _ _ _ hcap
  have hUS:(Builtin.unsafeString_ #[138,3] 9 #[.pointer (some a),.int .i64 0]).run Tryz.prog w.drew=.ok (.string .empty) w.drew:=Lib.run_unsafeString_none _ _ _ _ _
  have mixed:Tryz.prog.follows .mixedOrders=true:=by kernel_rfl
  go_enter Tryz.func48,Tryz.ntmps48
  go_wp2
  go_region_o
  all_goals (go_wp2; go_ret; exact ⟨rfl,rfl⟩)
theorem str_row00 (b:Nat) (a:Addr) (w:World) (hc:w.cell? ⟨b,1,none⟩=some (.slice (some a) 0 0)) (sh:TypeId × Nat) (hsh:w.shape? a.block=some sh) :
    Calls Tryz.prog 48 #[.pointer (some ⟨b,0,none⟩)] w fun e w'=>e=.returned (.string ⟨#[]⟩)∧w'=w.drew.alloc (.view a 5):=by
  have c1:w.drew.cell? ⟨b,1,none⟩=some (.slice (some a) 0 0):=hc
  have hSD:(Builtin.unsafeSliceData_ #[22] 138 #[.slice (some a) 0 0]).run Tryz.prog w.drew=.ok (.pointer (some ⟨w.drew.heap.size,0,none⟩)) (w.drew.alloc (.view a 5)):=Lib.run_unsafeSliceData_zero _ _ _ _ Tryz.underlying138 _ _ sh hsh
  have hb:b < w.heap.size:=by
    unfold World.cell? at hc
    rcases Nat.lt_or_ge b w.heap.size with h | h
    · exact h
    · rw [Array.getElem?_eq_none h] at hc; simp at hc
  have c2:(w.alloc (.view a 5)).cell? ⟨b,1,none⟩=some (.slice (some a) 0 0):=by
    have:(w.alloc (.view a 5)).heap[b]? = w.heap[b]? := by rw [alloc_heap,if_neg (by omega)]
    rw [World.cell?_of_block (w:=w) (a:=⟨b,1,none⟩) this]; exact hc
  have hUS:(Builtin.unsafeString_ #[138,3] 9 #[.pointer (some ⟨w.heap.size,0,none⟩),.int .i64 0]).run Tryz.prog (w.alloc (.view a 5)).drew=.ok (.string .empty) (w.alloc (.view a 5)).drew:=Lib.run_unsafeString_none _ _ _ _ _
  have mixed:Tryz.prog.follows .mixedOrders=true:=by kernel_rfl
  go_enter Tryz.func48,Tryz.ntmps48
  go_wp2
  go_region_o
  all_goals (go_wp2; go_ret; exact ⟨rfl,rfl⟩)
end Go.Proofs.YtfcegejpdlbkdaaGreatK
