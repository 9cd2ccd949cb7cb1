/- Places of bytes in strings: what the library's functions come to. -/
import Derived.Test.YtnilppmpfklpbaaDoorRj
import Derived.Test.YtnilppmpfklpbaaDoorProg
import Derived.Lib.Strings
import Derived.Lib.Slices
import Derived.Lib.Walk
import Derived.Lib.Bytealg
import Derived.WalkKit
import Derived.Laws.Externs
import Derived.Test.YtnilppmpfklpbaaDoorSh
namespace Go.Proofs.YtnilppmpfklpbaaDoorK
set_option linter.unusedVariables false
set_option linter.unusedSimpArgs false
set_option maxRecDepth 100000
set_option maxHeartbeats 4000000
open Go.RowKit

theorem ixb_walk (s : ByteArray) (c : Int) (w : World) :
    Calls Tryd.prog 38 #[.string s, .int .u8 c] w fun e w' => e = .returned (.int .i64 (ixB s.data.toList c.toNat.toUInt8)) ∧ w' = w := by
  rw [ixB_lib]
  go_enter Tryd.func38, Tryd.ntmps38
  go_wp2
  rw [run_callFunc_extern Tryd.func43 (by kernel_rfl) (by kernel_rfl) (by kernel_rfl) (e := Extern.BytealgIndexByte.indexByte) (by kernel_rfl), Lib.run_indexByteString]
  simp only [Result.andThen]
  rw [Oper.upon_value]
  go_wp2
  go_ret
  exact ⟨rfl, rfl⟩
theorem ix_walk (s : ByteArray) (c : UInt8) (w : World) :
    Calls Tryd.prog 35 #[.string s, .string ⟨#[c]⟩] w fun e w' => e = .returned (.int .i64 (ixB s.data.toList c)) ∧ w' = w := by
  go_enter Tryd.func35, Tryd.ntmps35
  go_wp2_with (go_at_call 38; refine (ixb_walk _ _ _).mono ?_; rintro e w' ⟨rfl, rfl⟩)
  · have h : ([c] == s.toList) = true := by assumption
    go_ret
    refine ⟨?_, rfl⟩
    have e : s.data.toList = [c] := by rw [← Lib.toList_data]; exact (beq_iff_eq.1 h).symm
    rw [e]
    simp [ixB]
  · go_ret
    exact ⟨rfl, rfl⟩
theorem cnt_walk (s : ByteArray) (c : UInt8) (w : World) :
    Calls Tryd.prog 19 #[.string s, .string ⟨#[c]⟩] w fun e w' => e = .returned (.int .i64 ((s.data.toList.count c : Nat) : Int)) ∧ w' = w := by
  go_enter Tryd.func19, Tryd.ntmps19
  go_wp2
  rw [run_callFunc_extern Tryd.func27 (by kernel_rfl) (by kernel_rfl) (by kernel_rfl) (e := Extern.BytealgCount.count) (by kernel_rfl), Lib.run_countString]
  simp only [Result.andThen]
  rw [Oper.upon_value]
  go_wp2
  go_ret
  exact ⟨rfl, rfl⟩
theorem internal_stringslite_IndexByte_ok (s : ByteArray) (c : Int) (r : Int) (h : internal_stringslite_IndexByte s c = some r) : Pure Tryd.prog 38 [.s (.string s), .s (.int .u8 c)] (.s (.int .i64 r)) := by
  obtain rfl := Option.some.inj h
  exact Pure.val (cs := [.string s, .int .u8 c]) fun w => ixb_walk s c w
theorem internal_stringslite_Index_ok (s t : ByteArray) (r : Int) (h : internal_stringslite_Index s t = some r) : Pure Tryd.prog 35 [.s (.string s), .s (.string t)] (.s (.int .i64 r)) := by
  obtain ⟨c, rfl, rfl⟩ := one_byte h
  exact Pure.val (cs := [.string s, .string ⟨#[c]⟩]) fun w => ix_walk s c w
theorem strings_Count_ok (s t : ByteArray) (r : Int) (h : strings_Count s t = some r) : Pure Tryd.prog 19 [.s (.string s), .s (.string t)] (.s (.int .i64 r)) := by
  unfold strings_Count at h
  split at h
  · rename_i c hc
    obtain rfl := Option.some.inj h
    have ht : t = ⟨#[c]⟩ := by
      obtain ⟨⟨x⟩⟩ := t
      simp at hc; subst hc; rfl
    subst ht
    exact Pure.val (cs := [.string s, .string ⟨#[c]⟩]) fun w => cnt_walk s c w
  · split at h
    · rename_i h2
      obtain rfl := Option.some.inj h
      exact Pure.valG (g := 0) (by simp [GL]) (cs := [.string s, .string t]) fun w n hn => Tryd.strings_Count s t n w h2.2 hn h2.1
    · cases h
end Go.Proofs.YtnilppmpfklpbaaDoorK
