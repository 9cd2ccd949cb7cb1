/- slices.Clone of a row of one's own: by hand. -/
import Derived.Test.YtfdadnldlngmeaaRq
import Derived.Test.YtfdadnldlngmeaaProg
import Derived.Lib.SliceRun
import Derived.WalkKit
import Derived.Shelf.RegionOpenPlain
import Derived.Lib.Walk
namespace Go.Proofs.YtfdadnldlngmeaaK
set_option linter.unusedVariables false
set_option linter.unusedSimpArgs false
set_option maxRecDepth 100000
set_option maxHeartbeats 4000000
open Go.RowKit

theorem cln_nil (c : Nat) (w : World) : Calls Try.prog 47 #[.slice none 0 c] w fun e w' => e = .returned (.slice none 0 0) ∧ w' = w := by
  have mixed : Try.prog.follows .mixedOrders = true := by kernel_rfl
  have q : ∀ (w : World) (a : Option Addr) (n c n' c' : Nat), (binOp .eql 27 (.slice a n c) (.slice none n' c')).run Try.prog w = .ok (.bool a.isNone) w := fun w a n c n' c' => Lib.run_eql_slice_nil w _ _ a n c n' c' Try.underlying27
  go_enter Try.func47, Try.ntmps47
  go_wp2
  go_ret
  exact ⟨rfl, rfl⟩

theorem cln_some (a : Addr) (c : Nat) (w : World) : Calls Try.prog 47 #[.slice (some a) 0 c] w fun e w' => ∃ A cap, e = .returned (.slice A 0 cap) ∧ cap ≤ maxLen ∧ w'.os = w.os ∧ w'.tape = w.tape ∧ w'.output = w.output ∧ w.heap.size ≤ w'.heap.size ∧ ∀ k, k < w.heap.size → w'.heap[k]? = w.heap[k]? := by
  have mixed : Try.prog.follows .mixedOrders = true := by kernel_rfl
  have q : ∀ (w : World) (a : Option Addr) (n c n' c' : Nat), (binOp .eql 27 (.slice a n c) (.slice none n' c')).run Try.prog w = .ok (.bool a.isNone) w := fun w a n c n' c' => Lib.run_eql_slice_nil w _ _ a n c n' c' Try.underlying27
  go_enter Try.func47, Try.ntmps47
  go_wp2
  go_ret
  refine ⟨_, 0, rfl, Nat.zero_le _, rfl, rfl, rfl, ?_, fun k hk => ?_⟩
  · show w.heap.size ≤ (w.heap.push _).size
    rw [Array.size_push]; omega
  · show (w.heap.push _)[k]? = _
    rw [Array.getElem?_push, if_neg (by omega)]

attribute [local irreducible] dwv mops lops lqops lwops kont iter run runK rk okK ex E1 vals val chain chB sel resF

theorem e_nil_ref {f : Fr} {L : Hp} {x : Opd} {b ver n : Nat} {B : Blk} (hx : ev x f = .ref b ver 0 (n + 1)) (hL : live L b ver = some B) : E1 (.isnil false true x) f L = some (.s (.bool false), L) := by
  unfold E1
  simp [hx, nil?, hL]
def cln_ir : IR := (.seq (.reg false [⟨(some 2), (.e (.nilg 4)), none, []⟩]) (.seq (.seq (.reg false [⟨(some 3), (.e (.mv (.t 0))), none, []⟩, ⟨(some 4), (.e (.isnil false true (.t 3))), none, [0]⟩]) (.cond (.t 4) (.seq (.reg false [⟨(some 2), (.e (.nilg 4)), none, []⟩]) .ret) .skip)) (.seq (.reg false [⟨(some 5), (.e (.bslo 4 0 [] [])), none, []⟩, ⟨(some 6), (.e (.mv (.t 0))), none, []⟩, ⟨(some 7), (.e (.app 61 4 24 (.t 5) (.t 6))), none, [0, 1]⟩, ⟨(some 2), (.e (.mv (.t 7))), none, [2, 2, 0, 1, 2]⟩]) .ret)))
theorem cln_cfn : cFn Try.prog 47 = some (cln_ir, [(.t 2)], 8) := by kernel_rfl

/-- A copy of a row of one's own. -/
theorem sl_clone_ok {α : Type} [Inhabited α] {g : α → List V} [Cells g 4] (s : List α) (v : Nat) (r : List α) (h : sl_clone s = some r) : ConL Try.prog 47 [.ref 0 v 0 s.length] [⟨v, .grow, 4, cat g s⟩] (.sl false r.length (cat g r)) [⟨v, .grow, 4, cat g s⟩] := by
  unfold sl_clone at h
  split at h
  case isFalse => simp at h
  rename_i hlen
  obtain rfl := Option.some.inj h
  cases s with
  | nil =>
    refine ⟨Nat.le_refl _, fun ρ G hE => ?_⟩
    intro im w cargs hr ha
    rw [CallsD.st (by rfl)]
    match cargs, ha with
    | [c], ha =>
      have hB := hE.get [⟨v, .grow, 4, cat g []⟩] 0 _ (Nat.le_refl _) rfl
      obtain ⟨⟨_, B', hB', _, hv⟩, _⟩ := ha
      rw [hB] at hB'; injection hB' with hB'; subst hB'
      obtain ⟨A, cap, rfl, hn, hm, _⟩ := hv rfl (by simp [Blk.rn])
      cases A with
      | none =>
        refine (cln_nil cap w).mono ?_
        rintro e w' ⟨rfl, rfl⟩
        exact ⟨im, _, rfl, hr, Ext.refl _ _ _, none, 0, rfl, Nat.le_refl _, Nat.zero_le _, fun e => by simp at e, .inl rfl⟩
      | some a =>
        refine (cln_some a cap w).mono ?_
        rintro e w' ⟨A, k, rfl, hk, h1, h2, h3, h4, h5⟩
        obtain ⟨d1, d2⟩ := hr.grow h4 h5 h1 h2 h3
        exact ⟨im, _, rfl, d1, d2, A, k, rfl, Nat.zero_le _, hk, fun e => by simp at e, .inl rfl⟩
  | cons x t =>
    refine ConL.of cln_cfn (Nat.le_of_ble_eq_true (by kernel_rfl)) (Nat.le_of_ble_eq_true (by kernel_rfl)) ?_
    refine k_start ?_
    have hf : FOk (fr0 [.ref 0 v 0 (x :: t).length]) [⟨0, [], .ref 0 v 0 (x :: t).length⟩] := ⟨⟨fun _ => rfl, fun h => (h trivial).elim⟩, trivial⟩
    generalize fr0 [.ref 0 v 0 (x :: t).length] = f at hf ⊢
    refine k_seq ?_
    refine k_reg ?_
    refine mops_end [0] hf (l' := [⟨0, [], .ref 0 v 0 (x :: t).length⟩]) (L' := [⟨v, .grow, 4, cat g (x :: t)⟩, ⟨0, .grow, 4, []⟩]) (by kernel_rfl) fun f1 hf1 => ?_
    refine k_c ?_
    refine k_seq ?_
    refine k_seq ?_
    refine k_reg ?_
    refine mops_seg [0, 3] 1 hf1 (l' := [⟨0, [], .ref 0 v 0 (x :: t).length⟩, ⟨3, [], .ref 0 v 0 (x :: t).length⟩]) (L' := [⟨v, .grow, 4, cat g (x :: t)⟩, ⟨0, .grow, 4, []⟩]) (by kernel_rfl) fun f2 hf2 => ?_
    refine mops_adv rfl (v := .s (.bool false)) hf2 (by kernel_rfl) (e_nil_ref (B := ⟨v, .grow, 4, cat g (x :: t)⟩) (b := 0) (ver := v) (n := t.length) (by kernel_rfl) (live_grow (by kernel_rfl))) fun f3 hf3 => ?_
    refine mops_en hf3 (by kernel_rfl) fun f4 hf4 => ?_
    refine k_c ?_
    refine k_cond hf4 (t := false) (by kernel_rfl) (fun e => by cases e) (fun _ => ?_)
    refine k_skip ?_
    refine k_c ?_
    refine k_seq ?_
    refine k_reg ?_
    refine mops_sg 2 hf4 (by kernel_rfl) fun f5 hf5 => ?_
    refine mops_adv rfl (v := .ref 2 1 0 ([] ++ (x :: t)).length) hf5 (by kernel_rfl) (e_app (g := g) (l := []) (l' := x :: t) (b := 2) (ver := 0) (n := 0) rfl (by kernel_rfl) rfl (live_grow (by kernel_rfl)) (sll_ev (v := .ref 0 v 0 (x :: t).length) (by kernel_rfl) (sll_ref (B := ⟨v, .grow, 4, cat g (x :: t)⟩) rfl (live_grow (by kernel_rfl)))) (slc_ev (v := .ref 0 v 0 (x :: t).length) (by kernel_rfl) (slc_ref (g := g) (l := x :: t) (kd := .grow) (q := 4) rfl (live_grow (by kernel_rfl)))) (by show (0 + (x :: t).length) * 24 ≤ 140737488355328; omega)) fun f6 hf6 => ?_
    refine mops_en hf6 (by kernel_rfl) fun f7 hf7 => ?_
    refine k_c ?_
    refine k_ret ?_
    exact k_fin (fin_ret (.inl rfl) hf7 (vs := [.ref 2 1 0 ([] ++ (x :: t)).length]) (by kernel_rfl) (SettL.cutb (L' := [⟨v, .grow, 4, cat g (x :: t)⟩]) 1 (by kernel_rfl) (by kernel_rfl) (by kernel_rfl) ⟨.inr (.inr (statics_unders _ _ (cat_stat _))), trivial⟩ (FzL.whole (g := g) (l := [] ++ (x :: t)) (kd := .grow) (by kernel_rfl) rfl (live_grow (by kernel_rfl)))))
end Go.Proofs.YtfdadnldlngmeaaK
