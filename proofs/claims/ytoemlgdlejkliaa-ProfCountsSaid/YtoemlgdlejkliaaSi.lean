/- Keys of a map, sorted: the kit's contracts laid at this program, by the kit's own tool, in plain words. -/
import Derived.Shelf.SlGeneric
import Derived.Shelf.SlSortCmp.NoneTotal
import Derived.Ground.SlsfProg
import Derived.Test.YtoemlgdlejkliaaProg
namespace Go.Proofs
open Go.Shelf
def Try.sortf19_ren:Go.Shelf.Ren:=⟨fun | 6=>19 | 15=>22 | 14=>21 | 28=>34 | 29=>35 | 20=>26 | 21=>27 | 22=>28 | 23=>29 | 24=>30 | 25=>31 | 26=>32 | 27=>33 | 46=>38 | 47=>39 | 48=>40 | 49=>41 | 50=>42 | 57=>43 | n=>n,fun | 22=>28 | 24=>35 | 25=>55 | 3=>3 | 39=>59 | 0=>0 | 53=>72 | 55=>74 | 4=>4 | 46=>65 | 45=>64 | 50=>69 | 5=>5 | 9=>9 | 66=>78 | 70=>82 | 76=>84 | 77=>85 | n=>n,fun | n=>n⟩
theorem Try.sortf19:Go.Proofs.SlLaysF0.n6 Try.prog Try.sortf19_ren:={
  mixed:=by kernel_rfl
  f6:=⟨Try.f19.name,by decide,Try.func19.trans (congrArg some (by kernel_rfl))⟩
  f14:=⟨Try.f21.name,by decide,Try.func21.trans (congrArg some (by kernel_rfl))⟩
  f15:=Try.func22.trans (congrArg some (by kernel_rfl))
  f20:=⟨Try.f26.name,by decide,Try.func26.trans (congrArg some (by kernel_rfl))⟩
  f21:=⟨Try.f27.name,by decide,Try.func27.trans (congrArg some (by kernel_rfl))⟩
  f22:=⟨Try.f28.name,by decide,Try.func28.trans (congrArg some (by kernel_rfl))⟩
  f23:=⟨Try.f29.name,by decide,Try.func29.trans (congrArg some (by kernel_rfl))⟩
  f24:=⟨Try.f30.name,by decide,Try.func30.trans (congrArg some (by kernel_rfl))⟩
  f25:=⟨Try.f31.name,by decide,Try.func31.trans (congrArg some (by kernel_rfl))⟩
  f26:=⟨Try.f32.name,by decide,Try.func32.trans (congrArg some (by kernel_rfl))⟩
  f27:=⟨Try.f33.name,by decide,Try.func33.trans (congrArg some (by kernel_rfl))⟩
  f28:=Try.func34.trans (congrArg some (by kernel_rfl))
  f29:=Try.func35.trans (congrArg some (by kernel_rfl))
  f46:=⟨Try.f38.name,by decide,Try.func38.trans (congrArg some (by kernel_rfl))⟩
  f47:=Try.func39.trans (congrArg some (by kernel_rfl))
  f48:=Try.func40.trans (congrArg some (by kernel_rfl))
  f49:=⟨Try.f41.name,by decide,Try.func41.trans (congrArg some (by kernel_rfl))⟩
  f50:=⟨Try.f42.name,by decide,Try.func42.trans (congrArg some (by kernel_rfl))⟩
  f57:=⟨Try.f43.name,by decide,Try.func43.trans (congrArg some (by kernel_rfl))⟩
  t0:=Try.underlying0
  a0:=Try.isAgg0
  z0:=Try.sizeOf0
  v0:=Try.zeroValue0
  t3:=Try.underlying3
  a3:=Try.isAgg3
  z3:=Try.sizeOf3
  v3:=Try.zeroValue3
  t4:=Try.underlying4
  a4:=Try.isAgg4
  z4:=Try.sizeOf4
  v4:=Try.zeroValue4
  t5:=Try.underlying5
  a5:=Try.isAgg5
  z5:=Try.sizeOf5
  v5:=Try.zeroValue5
  t9:=Try.underlying9
  a9:=Try.isAgg9
  z9:=Try.sizeOf9
  v9:=Try.zeroValue9
  t22:=Try.underlying28
  a22:=Try.isAgg28
  z22:=Try.sizeOf28
  v22:=Try.zeroValue28
  t25:=Try.underlying55
  a25:=Try.isAgg55
  z25:=Try.sizeOf55
  v25:=Try.zeroValue55
  t39:=Try.underlying59
  a39:=Try.isAgg59
  z39:=Try.sizeOf59
  v39:=Try.zeroValue59
  t45:=Try.underlying64
  a45:=Try.isAgg64
  z45:=Try.sizeOf64
  v45:=Try.zeroValue64
  t46:=Try.underlying65
  a46:=Try.isAgg65
  z46:=Try.sizeOf65
  v46:=Try.zeroValue65
  t50:=Try.underlying69
  a50:=Try.isAgg69
  z50:=Try.sizeOf69
  v50:=Try.zeroValue69
  t53:=Try.underlying72
  a53:=Try.isAgg72
  z53:=Try.sizeOf72
  v53:=Try.zeroValue72
  t55:=Try.underlying74
  a55:=Try.isAgg74
  z55:=Try.sizeOf74
  v55:=Try.zeroValue74
  t66:=Try.underlying78
  a66:=Try.isAgg78
  z66:=Try.sizeOf78
  v66:=Try.zeroValue78
  t70:=Try.underlying82
  a70:=Try.isAgg82
  z70:=Try.sizeOf82
  v70:=Try.zeroValue82
  t76:=Try.underlying84
  a76:=Try.isAgg84
  z76:=Try.sizeOf84
  v76:=Try.zeroValue84
  t77:=Try.underlying85
  a77:=Try.isAgg85
  z77:=Try.sizeOf85
  v77:=Try.zeroValue85 }
end Go.Proofs
