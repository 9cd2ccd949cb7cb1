/- Builders: what they are over the abstract memory. -/
import Derived.Test.YtoemlgdlejkliaaRg
namespace Go.Proofs.YtoemlgdlejkliaaK
set_option linter.unusedVariables false
set_option linter.unusedSimpArgs false
open Go.RowKit
/-- A builder's own address, or nil. -/
def sp (z:Bool) (b ver:Nat):V:=bif z then .s (.pointer none) else .ptr b ver 0
theorem sp_rn {ρ:Nat→Nat} {z:Bool} {b b' ver:Nat} (h:ρ b=b'):RN ρ (sp z b ver) (sp z b' ver):=by subst h; cases z <;> rfl
def Bld (t u:TypeId) (z:Bool) (v:Nat) (l:List Int):Hp:=[⟨v,.buf u,1,cat (nI .u8) l⟩,⟨0,.bld t,1,[sp z 1 0,.ref 0 v 0 l.length]⟩]
/-- A builder whose text has been taken. -/
def BldD (t u:TypeId) (z:Bool) (v:Nat) (n:Nat):Hp:=[⟨v,.dead,1,[]⟩,⟨0,.bld t,1,[sp z 1 0,.ref 0 v 0 n]⟩]
end Go.Proofs.YtoemlgdlejkliaaK
