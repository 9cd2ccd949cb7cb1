/- Package prof, by hand: which count comes first. -/
import Derived.Test.YtoemlgdlejkliaaPz
import Derived.Test.YtoemlgdlejkliaaSi
import Derived.StillTailTactics
namespace Go.Proofs.YtoemlgdlejkliaaK
set_option linter.unusedVariables false
set_option linter.unusedSimpArgs false
set_option maxRecDepth 100000
set_option maxHeartbeats 4000000
open Go.RowKit Go.Shelf Go.Sort
def cmpZ (x y:Int):Int:=if x < y then -1 else if y < x then 1 else 0
theorem cmpI_walk (x y:Int) (w:World):Calls Try.prog 24 #[.int .i64 x,.int .i64 y] w fun e w'=>e=.returned (.int .i64 (cmpZ x y))∧w'=w:=by
  go_enter Try.func24,Try.ntmps24
  go_wp2_with (go_in)
  all_goals go_ret
  all_goals
    refine ⟨?_,rfl⟩
    unfold cmpZ
    simp_all
    try omega
theorem cmpU_walk (x y:Int) (w:World):Calls Try.prog 25 #[.int .u16 x,.int .u16 y] w fun e w'=>e=.returned (.int .i64 (cmpZ x y))∧w'=w:=by
  go_enter Try.func25,Try.ntmps25
  go_wp2_with (go_in)
  all_goals go_ret
  all_goals
    refine ⟨?_,rfl⟩
    unfold cmpZ
    simp_all
    try omega
theorem or_walk (a b:Int) (g:Nat) (w:World) (h0:w.cell? ⟨g,0,none⟩=some (.int .i64 a)) (h1:w.cell? ⟨g,1,none⟩=some (.int .i64 b)):Calls Try.prog 23 #[.slice (some ⟨g,0,none⟩) 2 2] w fun e w'=>e=.returned (.int .i64 (if a=0 then b else a))∧w'=w:=by
  have fin0:a ≠ 0→(if a=0 then b else a)=a:=fun h=>if_neg h
  have fin1:a=0→(if a=0 then b else a)=b:=fun h=>if_pos h
  generalize (if a=0 then b else a)=r at *
  go_enter Try.func23,Try.ntmps23
  go_wp2
  refine wp_loop_rounds 3 ?_
  rw [rounds_succ]
  go_wp2
  · go_ret
    exact ⟨congrArg (fun r=>Ending.returned (Value.int .i64 r)) (fin0 (by simpa using (show (a != 0)=true by assumption))).symm,rfl⟩
  have ha:a=0:=by simpa using (show (a != 0)=false by assumption)
  rw [rounds_succ]
  go_wp2
  · go_ret
    exact ⟨congrArg (fun r=>Ending.returned (Value.int .i64 r)) (fin1 ha).symm,rfl⟩
  have hb:b=0:=by simpa using (show (b != 0)=false by assumption)
  rw [rounds_succ]
  go_wp2
  go_ret
  exact ⟨congrArg (fun r=>Ending.returned (Value.int .i64 r)) ((fin1 ha).trans hb).symm,rfl⟩
/-- Which comes first. -/
def spC (x y:SpT):Int:=if cmpZ y.2.2.1 x.2.2.1=0 then cmpZ x.1 y.1 else cmpZ y.2.2.1 x.2.2.1
theorem compare_walk (x y:SpT) (w:World):Calls Try.prog 20 #[spV x,spV y] w fun e w'=>e=.returned (.int .i64 (spC x y))∧∃ q os,w'=grow (w.drewN q) os:=by
  obtain ⟨x0,x1,x2,x3⟩:=x
  obtain ⟨y0,y1,y2,y3⟩:=y
  unfold spC
  simp only [spV]
  have hO0:=fun W2:World=>or_walk (cmpZ y2 x2) (cmpZ x0 y0) W2.heap.size (W2.alloc (.cells #[.int .i64 (cmpZ y2 x2),.int .i64 (cmpZ x0 y0)] 3)) (by unfold World.cell?; rw [(MapKept.heap_alloc W2 _).1]; rfl) (by unfold World.cell?; rw [(MapKept.heap_alloc W2 _).1]; rfl)
  generalize (if cmpZ y2 x2=0 then cmpZ x0 y0 else cmpZ y2 x2)=r at *
  have hI:=cmpI_walk y2 x2
  have hU:=cmpU_walk x0 y0
  have mixed:Try.prog.follows .mixedOrders=true:=by kernel_rfl
  go_enter Try.func20,Try.ntmps20
  go_wp2
  generalize hW:((w.alloc (.cells #[.int .u16 x0,.int .i64 x1,.int .i64 x2,.int .i64 x3] PME)).alloc (.cells #[.int .u16 y0,.int .i64 y1,.int .i64 y2,.int .i64 y3] PME))=W
  have hx:W.drew.heap[w.heap.size]? = some (.cells #[.int .u16 x0,.int .i64 x1,.int .i64 x2,.int .i64 x3] PME (0,0)):=by rw [← hW]; exact heap_alloc2_old w _ _
  have hy:W.drew.heap[w.heap.size+1]? = some (.cells #[.int .u16 y0,.int .i64 y1,.int .i64 y2,.int .i64 y3] PME (0,0)):=by rw [← hW]; exact heap_alloc2_new w _ _
  obtain ⟨cx0,_,cx2,_⟩:=block4 hx
  obtain ⟨cy0,_,cy2,_⟩:=block4 hy
  clear hx hy
  refine wp_region_still_tail 10 mixed (by kernel_rfl) ?_
  simp only [List.take_succ_cons,List.take_zero,List.drop_succ_cons,List.drop_zero]
  change wpStill _ _ (World.drew W) (fun a=>wpList _ _ _ _ a (World.drew W)) _ _
  generalize hW2:W.drew=W2 at *
  still_step
  still_step
  still_step
  still_step
  still_call (hI _)
  still_step
  still_step
  still_step
  still_step
  still_call (hU _)
  refine wpStill_nil ?_
  change wpList _ _ _ _ _ W2
  have hO:=hO0 W2
  clear hO0
  go_wp2_with (go_at_call 23; refine hO.mono ?_; rintro e w' ⟨rfl,rfl⟩)
  go_ret
  refine ⟨rfl,1,#[.cells #[.int .u16 x0,.int .i64 x1,.int .i64 x2,.int .i64 x3] PME,.cells #[.int .u16 y0,.int .i64 y1,.int .i64 y2,.int .i64 y3] PME,.cells #[.int .i64 (cmpZ y2 x2),.int .i64 (cmpZ x0 y0)] 3],?_⟩
  rw [← hW2,← hW,alloc_eq_grow,alloc_eq_grow,alloc_eq_grow,grow_grow]
  show grow (grow (World.drew w) _) _=_
  rw [grow_grow]
  rfl
end Go.Proofs.YtoemlgdlejkliaaK
