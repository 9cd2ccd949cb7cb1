/- The reference table of page.Of, and what a scan of it finds. -/
import Derived.Test.YtfcegejpdlbkdaaGreatF
namespace Go.Proofs.YtfcegejpdlbkdaaGreatK
set_option linter.unusedVariables false
set_option linter.unusedSimpArgs false
set_option maxRecDepth 100000
set_option maxHeartbeats 4000000
open Go.RowKit
attribute [local irreducible] dwv mops lops lqops lwops kont iter run runK ex E1 vals val chain chB sel resF
/-- The reference's table. -/
def refTab:List spinetref14_Known:=[
  ⟨1,131,⟨27,2,0⟩⟩,⟨1,147,⟨27,3,0⟩⟩,⟨1,163,⟨27,4,0⟩⟩,⟨1,179,⟨27,5,0⟩⟩,⟨1,140,⟨28,2,1⟩⟩,⟨1,156,⟨28,3,1⟩⟩,⟨1,172,⟨28,4,1⟩⟩,⟨1,188,⟨28,5,1⟩⟩,
  ⟨1,142,⟨24,2,1⟩⟩,⟨1,158,⟨24,3,1⟩⟩,⟨1,174,⟨24,4,1⟩⟩,⟨1,190,⟨24,5,1⟩⟩,⟨1,159,⟨25,3,1⟩⟩,⟨1,175,⟨25,4,1⟩⟩,⟨1,191,⟨25,5,1⟩⟩,⟨1,195,⟨26,2,0⟩⟩,
  ⟨1,211,⟨26,3,0⟩⟩,⟨1,227,⟨26,4,0⟩⟩,⟨1,243,⟨26,5,0⟩⟩,⟨1,204,⟨24,2,0⟩⟩,⟨1,220,⟨24,3,0⟩⟩,⟨1,236,⟨24,4,0⟩⟩,⟨1,252,⟨24,5,0⟩⟩,⟨1,221,⟨25,3,0⟩⟩,
  ⟨1,237,⟨25,4,0⟩⟩,⟨1,253,⟨25,5,0⟩⟩,⟨1,206,⟨24,2,3⟩⟩,⟨1,222,⟨24,3,3⟩⟩,⟨1,238,⟨24,4,3⟩⟩,⟨1,254,⟨24,5,3⟩⟩,⟨1,223,⟨25,3,3⟩⟩,⟨1,239,⟨25,4,3⟩⟩,
  ⟨1,255,⟨25,5,3⟩⟩,⟨1,157,⟨33,3,0⟩⟩,⟨1,173,⟨33,4,0⟩⟩,⟨1,189,⟨33,5,0⟩⟩,⟨2,131,⟨28,2,0⟩⟩,⟨2,147,⟨28,3,0⟩⟩,⟨2,163,⟨28,4,0⟩⟩,⟨2,179,⟨28,5,0⟩⟩,
  ⟨2,140,⟨28,2,2⟩⟩,⟨2,156,⟨28,3,2⟩⟩,⟨2,172,⟨28,4,2⟩⟩,⟨2,188,⟨28,5,2⟩⟩,⟨2,142,⟨24,2,2⟩⟩,⟨2,158,⟨24,3,2⟩⟩,⟨2,174,⟨24,4,2⟩⟩,⟨2,190,⟨24,5,2⟩⟩,
  ⟨2,159,⟨25,3,2⟩⟩,⟨2,175,⟨25,4,2⟩⟩,⟨2,191,⟨25,5,2⟩⟩,⟨2,206,⟨24,2,4⟩⟩,⟨2,222,⟨24,3,4⟩⟩,⟨2,238,⟨24,4,4⟩⟩,⟨2,254,⟨24,5,4⟩⟩,⟨2,223,⟨25,3,4⟩⟩,
  ⟨2,239,⟨25,4,4⟩⟩,⟨2,255,⟨25,5,4⟩⟩,⟨3,131,⟨28,2,3⟩⟩,⟨3,147,⟨28,3,3⟩⟩,⟨3,163,⟨28,4,3⟩⟩,⟨3,179,⟨28,5,3⟩⟩,⟨3,140,⟨28,2,4⟩⟩,⟨3,156,⟨28,3,4⟩⟩,
  ⟨3,172,⟨28,4,4⟩⟩,⟨3,188,⟨28,5,4⟩⟩,⟨1,128,⟨10,1,8⟩⟩,⟨1,144,⟨10,3,8⟩⟩,⟨1,160,⟨10,4,8⟩⟩,⟨1,176,⟨10,5,8⟩⟩,⟨1,192,⟨10,1,9⟩⟩,⟨1,208,⟨10,3,9⟩⟩,
  ⟨1,224,⟨10,4,9⟩⟩,⟨1,240,⟨10,5,9⟩⟩,⟨1,129,⟨6,1,8⟩⟩,⟨1,145,⟨6,3,8⟩⟩,⟨1,161,⟨6,4,8⟩⟩,⟨1,177,⟨6,5,8⟩⟩,⟨1,193,⟨6,1,9⟩⟩,⟨1,209,⟨6,3,9⟩⟩,
  ⟨1,225,⟨6,4,9⟩⟩,⟨1,241,⟨6,5,9⟩⟩,⟨1,130,⟨9,1,8⟩⟩,⟨1,146,⟨9,3,8⟩⟩,⟨1,162,⟨9,4,8⟩⟩,⟨1,178,⟨9,5,8⟩⟩,⟨1,194,⟨9,1,9⟩⟩,⟨1,210,⟨9,3,9⟩⟩,
  ⟨1,226,⟨9,4,9⟩⟩,⟨1,242,⟨9,5,9⟩⟩,⟨1,132,⟨4,1,8⟩⟩,⟨1,148,⟨4,3,8⟩⟩,⟨1,164,⟨4,4,8⟩⟩,⟨1,180,⟨4,5,8⟩⟩,⟨1,196,⟨4,1,9⟩⟩,⟨1,212,⟨4,3,9⟩⟩,
  ⟨1,228,⟨4,4,9⟩⟩,⟨1,244,⟨4,5,9⟩⟩,⟨1,133,⟨5,1,8⟩⟩,⟨1,149,⟨5,3,8⟩⟩,⟨1,165,⟨5,4,8⟩⟩,⟨1,181,⟨5,5,8⟩⟩,⟨1,197,⟨5,1,9⟩⟩,⟨1,213,⟨5,3,9⟩⟩,
  ⟨1,229,⟨5,4,9⟩⟩,⟨1,245,⟨5,5,9⟩⟩,⟨1,134,⟨11,1,8⟩⟩,⟨1,150,⟨11,3,8⟩⟩,⟨1,166,⟨11,4,8⟩⟩,⟨1,182,⟨11,5,8⟩⟩,⟨1,198,⟨11,1,9⟩⟩,⟨1,214,⟨11,3,9⟩⟩,
  ⟨1,230,⟨11,4,9⟩⟩,⟨1,246,⟨11,5,9⟩⟩,⟨1,151,⟨12,3,8⟩⟩,⟨1,167,⟨12,4,8⟩⟩,⟨1,183,⟨12,5,8⟩⟩,⟨1,215,⟨12,3,9⟩⟩,⟨1,231,⟨12,4,9⟩⟩,⟨1,247,⟨12,5,9⟩⟩,
  ⟨1,136,⟨7,1,8⟩⟩,⟨1,152,⟨7,3,8⟩⟩,⟨1,168,⟨7,4,8⟩⟩,⟨1,184,⟨7,5,8⟩⟩,⟨1,200,⟨7,1,9⟩⟩,⟨1,216,⟨7,3,9⟩⟩,⟨1,232,⟨7,4,9⟩⟩,⟨1,248,⟨7,5,9⟩⟩,
  ⟨1,137,⟨2,1,8⟩⟩,⟨1,153,⟨2,3,8⟩⟩,⟨1,169,⟨2,4,8⟩⟩,⟨1,185,⟨2,5,8⟩⟩,⟨1,201,⟨2,1,9⟩⟩,⟨1,217,⟨2,3,9⟩⟩,⟨1,233,⟨2,4,9⟩⟩,⟨1,249,⟨2,5,9⟩⟩,
  ⟨1,138,⟨8,1,8⟩⟩,⟨1,154,⟨8,3,8⟩⟩,⟨1,170,⟨8,4,8⟩⟩,⟨1,186,⟨8,5,8⟩⟩,⟨1,202,⟨8,1,9⟩⟩,⟨1,218,⟨8,3,9⟩⟩,⟨1,234,⟨8,4,9⟩⟩,⟨1,250,⟨8,5,9⟩⟩,
  ⟨1,139,⟨3,1,8⟩⟩,⟨1,155,⟨3,3,8⟩⟩,⟨1,171,⟨3,4,8⟩⟩,⟨1,187,⟨3,5,8⟩⟩,⟨1,203,⟨3,1,9⟩⟩,⟨1,219,⟨3,3,9⟩⟩,⟨1,235,⟨3,4,9⟩⟩,⟨1,251,⟨3,5,9⟩⟩,
  ⟨1,0,⟨13,3,0⟩⟩,⟨1,96,⟨13,4,0⟩⟩,⟨1,112,⟨13,5,0⟩⟩,⟨1,64,⟨13,0,8⟩⟩,⟨1,80,⟨13,0,9⟩⟩,⟨1,3,⟨14,3,0⟩⟩,⟨1,99,⟨14,4,0⟩⟩,⟨1,115,⟨14,5,0⟩⟩,
  ⟨1,67,⟨14,0,8⟩⟩,⟨1,83,⟨14,0,9⟩⟩,⟨1,4,⟨15,3,0⟩⟩,⟨1,100,⟨15,4,0⟩⟩,⟨1,116,⟨15,5,0⟩⟩,⟨1,68,⟨15,0,8⟩⟩,⟨1,84,⟨15,0,9⟩⟩,⟨1,6,⟨16,3,0⟩⟩,
  ⟨1,102,⟨16,4,0⟩⟩,⟨1,118,⟨16,5,0⟩⟩,⟨1,70,⟨16,0,8⟩⟩,⟨1,86,⟨16,0,9⟩⟩,⟨1,7,⟨17,3,0⟩⟩,⟨1,103,⟨17,4,0⟩⟩,⟨1,119,⟨17,5,0⟩⟩,⟨1,71,⟨17,0,8⟩⟩,
  ⟨1,87,⟨17,0,9⟩⟩,⟨1,8,⟨18,3,0⟩⟩,⟨1,104,⟨18,4,0⟩⟩,⟨1,120,⟨18,5,0⟩⟩,⟨1,72,⟨18,0,8⟩⟩,⟨1,88,⟨18,0,9⟩⟩,⟨1,9,⟨19,3,0⟩⟩,⟨1,105,⟨19,4,0⟩⟩,
  ⟨1,121,⟨19,5,0⟩⟩,⟨1,73,⟨19,0,8⟩⟩,⟨1,89,⟨19,0,9⟩⟩,⟨1,10,⟨20,3,0⟩⟩,⟨1,106,⟨20,4,0⟩⟩,⟨1,122,⟨20,5,0⟩⟩,⟨1,74,⟨20,0,8⟩⟩,⟨1,90,⟨20,0,9⟩⟩,
  ⟨1,12,⟨21,3,0⟩⟩,⟨1,108,⟨21,4,0⟩⟩,⟨1,124,⟨21,5,0⟩⟩,⟨1,76,⟨21,0,8⟩⟩,⟨1,92,⟨21,0,9⟩⟩,⟨1,13,⟨22,3,0⟩⟩,⟨1,109,⟨22,4,0⟩⟩,⟨1,125,⟨22,5,0⟩⟩,
  ⟨1,77,⟨22,0,8⟩⟩,⟨1,93,⟨22,0,9⟩⟩,⟨1,15,⟨23,3,0⟩⟩,⟨1,111,⟨23,4,0⟩⟩,⟨1,127,⟨23,5,0⟩⟩,⟨1,79,⟨23,0,8⟩⟩,⟨1,95,⟨23,0,9⟩⟩,⟨1,14,⟨32,3,0⟩⟩,
  ⟨1,110,⟨32,4,0⟩⟩,⟨1,126,⟨32,5,0⟩⟩,⟨1,32,⟨34,6,0⟩⟩,⟨1,33,⟨34,6,1⟩⟩,⟨2,33,⟨35,7,1⟩⟩,⟨1,34,⟨34,6,2⟩⟩,⟨2,34,⟨35,7,2⟩⟩,⟨1,35,⟨34,6,3⟩⟩,
  ⟨2,35,⟨35,7,3⟩⟩,⟨1,36,⟨34,6,4⟩⟩,⟨2,36,⟨35,7,4⟩⟩,⟨1,37,⟨34,6,5⟩⟩,⟨2,37,⟨35,7,5⟩⟩,⟨1,38,⟨34,6,6⟩⟩,⟨2,38,⟨35,7,6⟩⟩,⟨1,39,⟨34,6,7⟩⟩,
  ⟨2,39,⟨35,7,7⟩⟩,⟨1,40,⟨34,6,8⟩⟩,⟨2,40,⟨35,7,8⟩⟩,⟨1,41,⟨34,6,9⟩⟩,⟨2,41,⟨35,7,9⟩⟩,⟨1,42,⟨34,6,10⟩⟩,⟨2,42,⟨35,7,10⟩⟩,⟨1,43,⟨34,6,11⟩⟩,
  ⟨2,43,⟨35,7,11⟩⟩,⟨1,44,⟨34,6,12⟩⟩,⟨2,44,⟨35,7,12⟩⟩,⟨1,45,⟨34,6,13⟩⟩,⟨2,45,⟨35,7,13⟩⟩,⟨1,46,⟨34,6,14⟩⟩,⟨2,46,⟨35,7,14⟩⟩,⟨1,47,⟨34,6,15⟩⟩,
  ⟨2,47,⟨35,7,15⟩⟩,⟨1,18,⟨39,0,0⟩⟩,⟨1,19,⟨40,0,0⟩⟩,⟨1,25,⟨42,0,0⟩⟩,⟨1,29,⟨45,0,0⟩⟩,⟨1,57,⟨48,0,0⟩⟩,⟨1,58,⟨1,0,0⟩⟩,⟨1,59,⟨49,0,0⟩⟩,
  ⟨1,61,⟨50,0,0⟩⟩,⟨1,63,⟨51,0,1⟩⟩,⟨2,63,⟨51,0,2⟩⟩,⟨3,63,⟨51,0,3⟩⟩,⟨1,26,⟨43,1,0⟩⟩,⟨1,28,⟨44,1,0⟩⟩,⟨1,60,⟨41,1,0⟩⟩,⟨1,30,⟨46,8,0⟩⟩,
  ⟨1,31,⟨47,8,0⟩⟩,⟨1,52,⟨30,9,4⟩⟩,⟨1,53,⟨31,9,4⟩⟩,⟨1,54,⟨30,9,3⟩⟩,⟨1,55,⟨31,9,3⟩⟩,⟨1,48,⟨29,4,1⟩⟩,⟨1,49,⟨29,4,2⟩⟩,⟨1,50,⟨29,4,4⟩⟩,
  ⟨1,51,⟨29,4,3⟩⟩,⟨1,141,⟨37,6,0⟩⟩,⟨1,22,⟨36,7,0⟩⟩,⟨1,23,⟨38,7,0⟩⟩]
deriving instance DecidableEq for api_Entry
deriving instance DecidableEq for spinetref14_Known
theorem all_tab:spinetref14_All=some refTab:=by decide +kernel
def same (a b:api_Entry):Bool:=a.Op == b.Op&&(a.Mode == b.Mode&&(a.Reg == b.Reg&&true))
theorem same_eq {a b:api_Entry} (h:same a b=true):a=b:=by
  obtain ⟨a1,a2,a3⟩:=a
  obtain ⟨b1,b2,b3⟩:=b
  simp [same] at h
  obtain ⟨h1,h2,h3⟩:=h
  subst h1 h2 h3
  rfl
theorem same_self (a:api_Entry):same a a=true:=by simp [same]
theorem wrap64 {c:Nat} (h:c < 2 ^ 62):IntKind.wrap .i64 (c:Int)=c:=wrap_i64 (by omega) (by omega)
theorem wrap64s {c:Nat} (h:c < 2 ^ 62):IntKind.wrap .i64 ((c:Int)+1)=((c+1:Nat):Int):=by
  rw [show ((c:Int)+1)=((c+1:Nat):Int) by omega]
  exact wrap_i64 (by omega) (by omega)
theorem gt_at {α:Type} [Inhabited α] {l:List α} {i:Nat} {x:α} (h:l[i]? = some x):gt l (i:Int)=x:=by
  simp [gt,h]
theorem drop_cons {α:Type} {l r:List α} {i:Nat} {x:α} (h:l.drop i=x::r):l[i]? = some x∧l.drop (i+1)=r∧i < l.length:=by
  refine ⟨by have:=congrArg (fun t=>t[0]?) h; simpa [List.getElem?_drop] using this,by rw [← List.drop_drop,h]; rfl,?_⟩
  have:=congrArg List.length h
  rw [List.length_drop] at this
  simp at this; omega
theorem drop_nil {α:Type} {l:List α} {i:Nat} (h:l.drop i=[]):l.length≤i:=by
  have:=congrArg List.length h
  rw [List.length_drop] at this
  simp at this; omega
theorem scan_of (page code:Int) (T:List spinetref14_Known) (hT:T.length < 2 ^ 40):∀ (l:List spinetref14_Known) (i k:Nat),T.drop i=l→l.length < k →
    spinetref14_Of_l0 page code T k i=some (match l.find? (fun x=>x.Page == page&&x.Code == code) with | some x=>.ret x.Entry | none=>.go ())
  | l,i,0,hl,hk=>by omega
  | [],i,k+1,hl,hk=>by
    have:¬ (i:Int) < ln T:=by have:=drop_nil hl; simp only [ln]; omega
    simp only [spinetref14_Of_l0,decide_eq_false this]
    rfl
  | x::r,i,k+1,hl,hk=>by
    obtain ⟨hx,hr,hlt⟩:=drop_cons hl
    have h1:(i:Int) < ln T:=by simp only [ln]; omega
    have h2:0≤(i:Int)∧(i:Int) < ln T:=⟨by omega,h1⟩
    have h3:(x.Page == page)=true→0≤(i:Int)∧(i:Int) < ln T:=fun _=>h2
    simp only [spinetref14_Of_l0,decide_eq_true h1,gt_at hx,if_true,if_pos h2,if_pos h3,wrap64s (show i < 2 ^ 62 by omega),List.find?_cons]
    cases x.Page == page&&x.Code == code with
    | true=>rfl
    | false=>exact scan_of page code T hT r (i+1) k hr (by simp at hk; omega)
def refOf (page code:Int):api_Entry:=match refTab.find? (fun x=>x.Page == page&&x.Code == code) with | some x=>x.Entry | none=>⟨0,0,0⟩
theorem refLen:refTab.length=268:=by decide +kernel
theorem of_is (page code:Int):spinetref14_Of page code=some (refOf page code):=by
  have:=scan_of page code refTab (by rw [refLen]; decide) refTab 0 BIG rfl (by rw [refLen]; decide)
  unfold spinetref14_Of refOf
  simp only [all_tab,Option.bind_some]
  rw [show (0:Int)=((0:Nat):Int) from rfl,this]
  cases refTab.find? (fun x=>x.Page == page&&x.Code == code) <;> rfl
def inTab (e:api_Entry):Bool:=same e ⟨0,0,0⟩||refTab.any fun k=>same k.Entry e
theorem refOf_inTab (p c:Int):inTab (refOf p c)=true:=by
  unfold refOf
  cases h:refTab.find? (fun x=>x.Page == p&&x.Code == c) with
  | none=>rfl
  | some x =>
    simp only [inTab,Bool.or_eq_true,List.any_eq_true]
    exact .inr ⟨x,List.mem_of_find?_eq_some h,same_self _⟩
/-- What holds of each entry of the table holds of each that is in it. -/
theorem inTab_all {q:api_Entry→Bool} (h0:q ⟨0,0,0⟩=true) (h:(refTab.all fun k=>q k.Entry)=true) {e:api_Entry} (he:inTab e=true):q e=true:=by
  simp only [inTab,Bool.or_eq_true,List.any_eq_true] at he
  rcases he with he | ⟨k,hk,hs⟩
  · rw [same_eq he]; exact h0
  · rw [← same_eq hs]; exact List.all_eq_true.1 h k hk
def modeOk (e:api_Entry):Bool:=decide (0≤e.Mode)&&decide (e.Mode < 10)
theorem modes:(refTab.all fun k=>modeOk k.Entry)=true:=by decide +kernel
end Go.Proofs.YtfcegejpdlbkdaaGreatK
