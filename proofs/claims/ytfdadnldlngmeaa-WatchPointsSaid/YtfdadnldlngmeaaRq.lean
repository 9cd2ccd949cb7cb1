/- A growing row of its own is from now on only read; a growing row takes another one's place. -/
import Derived.Test.YtfdadnldlngmeaaRj
namespace Go.Proofs.YtfdadnldlngmeaaK
set_option linter.unusedVariables false
set_option linter.unusedSimpArgs false
open Go.RowKit

theorem Emb.ne {ρ : Nat → Nat} {G : Hp → Hp} {n0 : Nat} (hE : Emb ρ G n0) {L : Hp} (hn : n0 ≤ L.length) {b c : Nat} {B C : Blk} (hB : L[b]? = some B) (hC : L[c]? = some C) (h : b ≠ c) : ρ b ≠ ρ c := fun e => by
  have hbl : b < L.length := (List.getElem?_eq_some_iff.1 hB).1
  have h1 := hE.set L b ⟨C.ver + 1, .dead, 0, []⟩ hn hbl
  have h2 : (G (L.set b ⟨C.ver + 1, .dead, 0, []⟩))[ρ c]? = some (C.rn ρ) := hE.get _ c C (by simpa using hn) (by rw [List.getElem?_set, if_neg h]; exact hC)
  have h3 := hE.get L c C hn hC
  have hl : ρ c < (G L).length := (List.getElem?_eq_some_iff.1 h3).1
  rw [← h1, e, List.getElem?_set, if_pos rfl, if_pos hl] at h2
  injection h2 with h2
  have := congrArg Blk.ver h2
  simp [Blk.rn] at this

/-- An own row's slice is from now on only read; the row begins anew. -/
theorem Shl.freeze {L0 L : Hp} {f : Fr} {b ver q n t0 : Nat} {cs : List V} (hB : L[b]? = some ⟨ver, .grow, q, cs⟩) (hst : statics cs = true) (hlen : n * q = cs.length) (hf : f t0 = .ref b ver 0 n) :
    Shl L0 f L (upd (some t0) (.sl false n cs) f) (L.set b ⟨ver + 1, .grow, q, []⟩) := fun hl => by
  refine ⟨by simpa using hl, fun ρ G hE N im0 w0 im w a h0 hs hx => ?_⟩
  have hbl : b < L.length := (List.getElem?_eq_some_iff.1 hB).1
  have hset : (G L).set (ρ b) ⟨ver + 1, .grow, q, []⟩ = G (L.set b ⟨ver + 1, .grow, q, []⟩) := hE.set L b ⟨ver + 1, .grow, q, []⟩ hl hbl
  have hg : (G L)[ρ b]? = some ⟨ver, .grow, q, cs⟩ := by
    have := hE.get L b _ hl hB
    simpa only [Blk.rn, rns_stat _ _ hst] using this
  rw [← hset]
  have hβl : ρ b < (G L).length := (List.getElem?_eq_some_iff.1 hg).1
  have hget : ∀ y, ((G L).set (ρ b) ⟨ver + 1, .grow, q, []⟩)[y]? = if y = ρ b then some ⟨ver + 1, .grow, q, []⟩ else (G L)[y]? := by
    intro y
    rw [List.getElem?_set]
    by_cases e : ρ b = y
    · subst e; simp [hβl]
    · rw [if_neg e, if_neg (by omega)]
  have hO : ∀ g, Own (fun y => if y = ρ b then none else im y) ((G L).set (ρ b) ⟨ver + 1, .grow, q, []⟩) g → Own im (G L) g ∧ im (ρ b) ≠ some g := fun g ⟨y, Y, e1, e2, e3⟩ => by
    by_cases e : y = ρ b
    · subst e; simp at e3
    · rw [hget, if_neg e] at e1
      simp only [if_neg e] at e3
      exact ⟨⟨y, Y, e1, e2, e3⟩, fun e4 => e (hs.rel.inj _ _ _ _ _ e1 hg e2 (by simp) e3 e4)⟩
  have hx1 : Ext im (G L) w (fun y => if y = ρ b then none else im y) ((G L).set (ρ b) ⟨ver + 1, .grow, q, []⟩) w := by
    refine ⟨rfl, rfl, rfl, Nat.le_refl _, by simp, fun g hg' ho => ⟨rfl, fun e => ho (hO g e).1⟩, fun y Y Y' hY hY' => ?_⟩
    rw [hget] at hY'
    by_cases e : y = ρ b
    · subst e
      rw [hg] at hY; injection hY with hY; subst hY
      rw [if_pos rfl] at hY'; injection hY' with hY'; subst hY'
      exact ⟨Nat.le_succ _, fun e => by simp at e⟩
    · rw [if_neg e] at hY'
      rw [hY] at hY'; injection hY' with hY'; subst hY'
      exact ⟨Nat.le_refl _, fun _ hd => ⟨hd, by simp only [if_neg e], rfl, fun _ _ => rfl⟩⟩
  refine ⟨_, ⟨⟨fun y Y hY hd => ?_, fun y y' Y Y' g hY hY' hd hd' hi hi' => ?_, Glob.ext hs.rel.glob hx1⟩, ⟨fun t => ?_⟩, hs.size, hs.defers⟩, hx.trans hx1⟩
  · rw [hget] at hY
    by_cases e : y = ρ b
    · subst e
      rw [if_pos rfl] at hY; injection hY with hY; subst hY
      simp
    · rw [if_neg e] at hY
      simp only [if_neg e]
      have hrow := hs.rel.row y Y hY hd
      cases hi : im y with
      | none => rw [hi] at hrow; exact hrow
      | some g =>
        rw [hi] at hrow
        obtain ⟨arr, t, fr, vs, r1, r2, r3, r4, r5⟩ := hrow
        exact ⟨arr, t, fr, vs, r1, r2, r3, VRs.ext hx1 _ _ r4, r5⟩
  · rw [hget] at hY hY'
    by_cases e : y = ρ b
    · subst e; simp at hi
    · by_cases e' : y' = ρ b
      · subst e'; simp at hi'
      · rw [if_neg e] at hY; rw [if_neg e'] at hY'
        simp only [if_neg e] at hi; simp only [if_neg e'] at hi'
        exact hs.rel.inj y y' Y Y' g hY hY' hd hd' hi hi'
  · show VR _ _ w ((upd (some t0) (.sl false n cs) f t).rn ρ) _
    by_cases e : t = t0
    · subst e
      simp only [upd, if_true]
      have hv := hs.fr.at_ t
      have hv : VR im (G L) w ((f t).rn ρ) (a.tmps.getD t undef) := hv
      rw [hf] at hv
      simp only [V.rn, rns_stat _ _ hst]
      obtain ⟨_, B', hB', _, hv⟩ := hv
      rw [hg] at hB'; injection hB' with hB'; subst hB'
      obtain ⟨A, cap, hc, h1, h2, h3⟩ := hv rfl (by simp)
      refine ⟨A, cap, hc, h1, h2, fun e => by simp at e, ?_⟩
      rcases h3 with h3 | ⟨g, hgi, hA, hz⟩
      · exact .inl (by omega)
      · have hrow := hs.rel.row (ρ b) _ hg (by simp)
        rw [hgi] at hrow
        obtain ⟨arr, t', fr, vs, k1, k2, k3, k4, _⟩ := hrow
        refine .inr ⟨g, 0, vs, hA, fun e => (hO g e).2 hgi, hs.rel.lt hg (by simp) hgi, ?_, VRs.ext hx1 _ _ k4⟩
        exact At.of_row k1 fun j v hj => by rw [Nat.zero_add]; exact k3 _ _ hj
    · simp only [upd, if_neg e]
      exact (hs.fr.at_ t).ext hx1 _ _

/-- An own row comes to another own row's place, of which nothing is left. -/
theorem Shl.move {L0 L : Hp} {f : Fr} {b c ver v2 q n t0 : Nat} {kd : BK} {cs0 cs : List V} (hne : b ≠ c) (hB : L[b]? = some ⟨ver, kd, q, cs0⟩) (hC : L[c]? = some ⟨v2, .grow, q, cs⟩) (hf : f t0 = .ref c v2 0 n) :
    Shl L0 f L (upd (some t0) (.ref b (ver + 1) 0 n) f) ((L.set b ⟨ver + 1, .grow, q, cs⟩).set c ⟨v2 + 1, .grow, q, []⟩) := fun hl => by
  refine ⟨by simpa using hl, fun ρ G hE N im0 w0 im w a h0 hs hx => ?_⟩
  have hbl : b < L.length := (List.getElem?_eq_some_iff.1 hB).1
  have hcl : c < L.length := (List.getElem?_eq_some_iff.1 hC).1
  have hρ : ρ b ≠ ρ c := hE.ne hl hB hC hne
  have hset : ((G L).set (ρ b) ⟨ver + 1, .grow, q, rns ρ cs⟩).set (ρ c) ⟨v2 + 1, .grow, q, []⟩ = G ((L.set b ⟨ver + 1, .grow, q, cs⟩).set c ⟨v2 + 1, .grow, q, []⟩) := by
    have h1 := hE.set L b ⟨ver + 1, .grow, q, cs⟩ hl hbl
    have h2 := hE.set (L.set b ⟨ver + 1, .grow, q, cs⟩) c ⟨v2 + 1, .grow, q, []⟩ (by simpa using hl) (by simpa using hcl)
    rw [← h2, ← h1]; rfl
  have hg := hE.get L b _ hl hB
  have hg2 := hE.get L c _ hl hC
  have hg2 : (G L)[ρ c]? = some ⟨v2, .grow, q, rns ρ cs⟩ := hg2
  rw [← hset]
  have hβl : ρ b < (G L).length := (List.getElem?_eq_some_iff.1 hg).1
  have hγl : ρ c < (G L).length := (List.getElem?_eq_some_iff.1 hg2).1
  have hget : ∀ y, (((G L).set (ρ b) ⟨ver + 1, .grow, q, rns ρ cs⟩).set (ρ c) ⟨v2 + 1, .grow, q, []⟩)[y]? = if y = ρ c then some ⟨v2 + 1, .grow, q, []⟩ else if y = ρ b then some ⟨ver + 1, .grow, q, rns ρ cs⟩ else (G L)[y]? := by
    intro y
    rw [List.getElem?_set]
    by_cases e : ρ c = y
    · subst e; simp [hγl]
    · rw [if_neg e, if_neg (show ¬ y = ρ c by omega), List.getElem?_set]
      by_cases e' : ρ b = y
      · subst e'; simp [hβl]
      · rw [if_neg e', if_neg (show ¬ y = ρ b by omega)]
  generalize hH : ((G L).set (ρ b) ⟨ver + 1, .grow, q, rns ρ cs⟩).set (ρ c) ⟨v2 + 1, .grow, q, []⟩ = H' at hget ⊢
  have hHl : (G L).length = H'.length := by rw [← hH]; simp
  have him : ∃ im' : Im, im' (ρ b) = im (ρ c) ∧ im' (ρ c) = none ∧ ∀ y, y ≠ ρ b → y ≠ ρ c → im' y = im y :=
    ⟨fun y => if y = ρ c then none else if y = ρ b then im (ρ c) else im y, by simp [hρ], by simp, fun y h1 h2 => by simp [h1, h2]⟩
  obtain ⟨im', i1, i2, i3⟩ := him
  have hO : ∀ g, Own im' H' g → Own im (G L) g := fun g ⟨y, Y, e1, e2, e3⟩ => by
    by_cases e : y = ρ c
    · subst e; rw [i2] at e3; simp at e3
    · by_cases e' : y = ρ b
      · subst e'; rw [i1] at e3
        exact ⟨ρ c, _, hg2, by simp, e3⟩
      · rw [hget, if_neg e, if_neg e'] at e1
        rw [i3 y e' e] at e3
        exact ⟨y, Y, e1, e2, e3⟩
  have hx1 : Ext im (G L) w im' H' w := by
    refine ⟨rfl, rfl, rfl, Nat.le_refl _, by omega, fun g hg' ho => ⟨rfl, fun e => ho (hO g e)⟩, fun y Y Y' hY hY' => ?_⟩
    rw [hget] at hY'
    by_cases e : y = ρ c
    · subst e
      rw [hg2] at hY; injection hY with hY; subst hY
      rw [if_pos rfl] at hY'; injection hY' with hY'; subst hY'
      exact ⟨Nat.le_succ _, fun e => by simp at e⟩
    · rw [if_neg e] at hY'
      by_cases e' : y = ρ b
      · subst e'
        rw [hg] at hY; injection hY with hY; subst hY
        rw [if_pos rfl] at hY'; injection hY' with hY'; subst hY'
        exact ⟨Nat.le_succ _, fun e => by simp [Blk.rn] at e⟩
      · rw [if_neg e', hY] at hY'; injection hY' with hY'; subst hY'
        exact ⟨Nat.le_refl _, fun _ hd => ⟨hd, i3 y e' e, rfl, fun _ _ => rfl⟩⟩
  refine ⟨im', ⟨⟨fun y Y hY hd => ?_, fun y y' Y Y' g hY hY' hd hd' hi hi' => ?_, Glob.ext hs.rel.glob hx1⟩, ⟨fun t => ?_⟩, hs.size, hs.defers⟩, hx.trans hx1⟩
  · rw [hget] at hY
    by_cases e : y = ρ c
    · subst e
      rw [if_pos rfl] at hY; injection hY with hY; subst hY
      rw [i2]; simp
    · rw [if_neg e] at hY
      by_cases e' : y = ρ b
      · subst e'
        rw [if_pos rfl] at hY; injection hY with hY; subst hY
        rw [i1]
        have hrow := hs.rel.row (ρ c) _ hg2 (by simp)
        cases hi : im (ρ c) with
        | none => rw [hi] at hrow; exact hrow
        | some g =>
          rw [hi] at hrow
          obtain ⟨arr, t, fr, vs, r1, r2, r3, r4, r5⟩ := hrow
          exact ⟨arr, t, fr, vs, r1, r2, r3, VRs.ext hx1 _ _ r4, r5⟩
      · rw [if_neg e'] at hY
        rw [i3 y e' e]
        have hrow := hs.rel.row y Y hY hd
        cases hi : im y with
        | none => rw [hi] at hrow; exact hrow
        | some g =>
          rw [hi] at hrow
          obtain ⟨arr, t, fr, vs, r1, r2, r3, r4, r5⟩ := hrow
          exact ⟨arr, t, fr, vs, r1, r2, r3, VRs.ext hx1 _ _ r4, r5⟩
  · have key : ∀ y Y, H'[y]? = some Y → Y.kind ≠ .dead → im' y = some g → y = ρ b ∧ im (ρ c) = some g ∨ y ≠ ρ b ∧ y ≠ ρ c ∧ (G L)[y]? = some Y ∧ im y = some g := by
      intro y Y hY hd hi
      rw [hget] at hY
      by_cases e : y = ρ c
      · subst e; rw [i2] at hi; simp at hi
      · by_cases e' : y = ρ b
        · subst e'; rw [i1] at hi; exact .inl ⟨rfl, hi⟩
        · rw [if_neg e, if_neg e'] at hY
          rw [i3 y e' e] at hi
          exact .inr ⟨e', e, hY, hi⟩
    rcases key y Y hY hd hi with ⟨e1, e2⟩ | ⟨e1, e2, e3, e4⟩ <;> rcases key y' Y' hY' hd' hi' with ⟨f1, f2⟩ | ⟨f1, f2, f3, f4⟩
    · omega
    · exact absurd (hs.rel.inj _ _ _ _ _ hg2 f3 (by simp) hd' e2 f4).symm f2
    · exact absurd (hs.rel.inj _ _ _ _ _ hg2 e3 (by simp) hd f2 e4).symm e2
    · exact hs.rel.inj _ _ _ _ _ e3 f3 hd hd' e4 f4
  · show VR _ _ w ((upd (some t0) (.ref b (ver + 1) 0 n) f t).rn ρ) _
    by_cases e : t = t0
    · subst e
      simp only [upd, if_true]
      have hv := hs.fr.at_ t
      have hv : VR im (G L) w ((f t).rn ρ) (a.tmps.getD t undef) := hv
      rw [hf] at hv
      simp only [V.rn]
      obtain ⟨hone, B', hB', _, hv⟩ := hv
      rw [hg2] at hB'; injection hB' with hB'; subst hB'
      obtain ⟨A, cap, hc, h1, h2, h3⟩ := hv rfl (by simp)
      refine ⟨hone, ⟨ver + 1, .grow, q, rns ρ cs⟩, by rw [hget, if_neg hρ, if_pos rfl], Nat.le_refl _, fun _ _ => ⟨A, cap, hc, h1, h2, ?_⟩⟩
      rw [i1]; exact h3
    · simp only [upd, if_neg e]
      exact (hs.fr.at_ t).ext hx1 _ _

/-- Nothing, as a slice of a row. -/
theorem Shl.nilr {L0 L : Hp} {f : Fr} {b ver t0 : Nat} {B : Blk} (hB : L[b]? = some B) (hv : ver ≤ B.ver) (hf : f t0 = .s (.slice none 0 0)) : Shl L0 f L (upd (some t0) (.ref b ver 0 0) f) L := fun hl => by
  refine ⟨hl, fun ρ G hE N im0 w0 im w a h0 hs hx => ⟨im, ⟨hs.rel, ⟨fun t => ?_⟩, hs.size, hs.defers⟩, hx⟩⟩
  show VR _ _ w ((upd (some t0) (.ref b ver 0 0) f t).rn ρ) _
  by_cases e : t = t0
  · subst e
    simp only [upd, if_true, V.rn]
    have h : VR im (G L) w ((f t).rn ρ) (a.tmps.getD t undef) := hs.fr.at_ t
    rw [hf] at h
    have h : a.tmps.getD t undef = .slice none 0 0 := h
    rw [h]
    exact ⟨rfl, _, hE.get L b _ hl hB, hv, fun _ _ => ⟨none, 0, rfl, Nat.le_refl _, Nat.zero_le _, .inl ⟨rfl, fun a e => by simp at e⟩⟩⟩
  · simp only [upd, if_neg e]; exact hs.fr.at_ t

/-- A block that is pointed to is from now on only read. -/
theorem Shl.frptr {L0 L : Hp} {f : Fr} {b ver q t0 : Nat} {cs : List V} (hB : L[b]? = some ⟨ver, .mem, q, cs⟩) (hst : statics cs = true) (hf : f t0 = .ptr b ver 0) :
    Shl L0 f L (upd (some t0) (.ip cs) f) (L.set b ⟨ver + 1, .dead, q, []⟩) := fun hl => by
  refine ⟨by simpa using hl, fun ρ G hE N im0 w0 im w a h0 hs hx => ?_⟩
  have hbl : b < L.length := (List.getElem?_eq_some_iff.1 hB).1
  have hset : (G L).set (ρ b) ⟨ver + 1, .dead, q, []⟩ = G (L.set b ⟨ver + 1, .dead, q, []⟩) := hE.set L b ⟨ver + 1, .dead, q, []⟩ hl hbl
  have hg : (G L)[ρ b]? = some ⟨ver, .mem, q, cs⟩ := by
    have := hE.get L b _ hl hB
    simpa only [Blk.rn, rns_stat _ _ hst] using this
  rw [← hset]
  have hβl : ρ b < (G L).length := (List.getElem?_eq_some_iff.1 hg).1
  have hget : ∀ y, ((G L).set (ρ b) ⟨ver + 1, .dead, q, []⟩)[y]? = if y = ρ b then some ⟨ver + 1, .dead, q, []⟩ else (G L)[y]? := by
    intro y
    rw [List.getElem?_set]
    by_cases e : ρ b = y
    · subst e; simp [hβl]
    · rw [if_neg e, if_neg (by omega)]
  have hO : ∀ g, Own im ((G L).set (ρ b) ⟨ver + 1, .dead, q, []⟩) g → Own im (G L) g ∧ im (ρ b) ≠ some g := fun g ⟨y, Y, e1, e2, e3⟩ => by
    by_cases e : y = ρ b
    · subst e; rw [hget, if_pos rfl] at e1; injection e1 with e1; subst e1; simp at e2
    · rw [hget, if_neg e] at e1
      exact ⟨⟨y, Y, e1, e2, e3⟩, fun e4 => e (hs.rel.inj _ _ _ _ _ e1 hg e2 (by simp) e3 e4)⟩
  have hx1 : Ext im (G L) w im ((G L).set (ρ b) ⟨ver + 1, .dead, q, []⟩) w := by
    refine ⟨rfl, rfl, rfl, Nat.le_refl _, by simp, fun g hg' ho => ⟨rfl, fun e => ho (hO g e).1⟩, fun y Y Y' hY hY' => ?_⟩
    rw [hget] at hY'
    by_cases e : y = ρ b
    · subst e
      rw [hg] at hY; injection hY with hY; subst hY
      rw [if_pos rfl] at hY'; injection hY' with hY'; subst hY'
      exact ⟨Nat.le_succ _, fun e => by simp at e⟩
    · rw [if_neg e] at hY'
      rw [hY] at hY'; injection hY' with hY'; subst hY'
      exact ⟨Nat.le_refl _, fun _ hd => ⟨hd, rfl, rfl, fun _ _ => rfl⟩⟩
  refine ⟨im, ⟨⟨fun y Y hY hd => ?_, fun y y' Y Y' g hY hY' hd hd' hi hi' => ?_, Glob.ext hs.rel.glob hx1⟩, ⟨fun t => ?_⟩, hs.size, hs.defers⟩, hx.trans hx1⟩
  · rw [hget] at hY
    by_cases e : y = ρ b
    · subst e
      rw [if_pos rfl] at hY; injection hY with hY; subst hY
      simp at hd
    · rw [if_neg e] at hY
      have hrow := hs.rel.row y Y hY hd
      cases hi : im y with
      | none => rw [hi] at hrow; exact hrow
      | some g =>
        rw [hi] at hrow
        obtain ⟨arr, t, fr, vs, r1, r2, r3, r4, r5⟩ := hrow
        exact ⟨arr, t, fr, vs, r1, r2, r3, VRs.ext hx1 _ _ r4, r5⟩
  · rw [hget] at hY hY'
    by_cases e : y = ρ b
    · subst e; rw [if_pos rfl] at hY; injection hY with hY; subst hY; simp at hd
    · by_cases e' : y' = ρ b
      · subst e'; rw [if_pos rfl] at hY'; injection hY' with hY'; subst hY'; simp at hd'
      · rw [if_neg e] at hY; rw [if_neg e'] at hY'
        exact hs.rel.inj y y' Y Y' g hY hY' hd hd' hi hi'
  · show VR _ _ w ((upd (some t0) (.ip cs) f t).rn ρ) _
    by_cases e : t = t0
    · subst e
      simp only [upd, if_true]
      have hv := hs.fr.at_ t
      have hv : VR im (G L) w ((f t).rn ρ) (a.tmps.getD t undef) := hv
      rw [hf] at hv
      simp only [V.rn, rns_stat _ _ hst]
      obtain ⟨_, B', hB', _, hv⟩ := hv
      rw [hg] at hB'; injection hB' with hB'; subst hB'
      obtain ⟨g, hgi, hc⟩ := hv rfl (by simp)
      have hrow := hs.rel.row (ρ b) _ hg (by simp)
      rw [hgi] at hrow
      obtain ⟨arr, t', fr, vs, k1, k2, k3, k4, _⟩ := hrow
      refine ⟨g, 0, vs, hc, fun e => (hO g e).2 hgi, hs.rel.lt hg (by simp) hgi, ?_, VRs.ext hx1 _ _ k4⟩
      exact At.of_row k1 fun j v hj => by rw [Nat.zero_add]; exact k3 _ _ hj
    · simp only [upd, if_neg e]
      exact (hs.fr.at_ t).ext hx1 _ _

/-- A nil slice within a block becomes a row of its own. -/
theorem Shl.addrow {L0 L : Hp} {f : Fr} {b j ver q sz : Nat} {kd : BK} {cs : List V} (hB : L[b]? = some ⟨ver, kd, q, cs⟩) (hk : kd ≠ .dead) (hj : cs[j]? = some (.s (.slice none 0 0))) :
    Shl L0 f L f ((L ++ [(⟨0, .grow, sz, []⟩ : Blk)]).set b ⟨ver, kd, q, cs.set j (.ref L.length 0 0 0)⟩) := fun hl => by
  refine ⟨by simp; omega, fun ρ G hE N im0 w0 im w a h0 hs hx => ?_⟩
  have hbl : b < L.length := (List.getElem?_eq_some_iff.1 hB).1
  obtain ⟨r1, x1⟩ := hs.rel.nilg sz
  generalize him : (fun b => if b = (G L).length then none else im b) = im1 at r1 x1
  have hsn : G L ++ [(⟨0, .grow, sz, []⟩ : Blk)] = G (L ++ [(⟨0, .grow, sz, []⟩ : Blk)]) := hE.snoc L ⟨0, .grow, sz, []⟩ hl
  have hlen : (G L).length = ρ L.length := hE.len L hl
  rw [hsn] at r1 x1
  have hl2 : L0.length ≤ (L ++ [(⟨0, .grow, sz, []⟩ : Blk)]).length := by simp; omega
  have hset := hE.set (L ++ [(⟨0, .grow, sz, []⟩ : Blk)]) b ⟨ver, kd, q, cs.set j (.ref L.length 0 0 0)⟩ hl2 (by simp; omega)
  have hg := hE.get (L ++ [(⟨0, .grow, sz, []⟩ : Blk)]) b ⟨ver, kd, q, cs⟩ hl2 (by rw [List.getElem?_append_left hbl]; exact hB)
  have hn := hE.get (L ++ [(⟨0, .grow, sz, []⟩ : Blk)]) L.length ⟨0, .grow, sz, []⟩ hl2 (by simp)
  rw [← hset]
  generalize hH : G (L ++ [(⟨0, .grow, sz, []⟩ : Blk)]) = H at r1 x1 hg hn ⊢
  have hgl : ρ b < H.length := (List.getElem?_eq_some_iff.1 hg).1
  have hcs : (Blk.rn ρ ⟨ver, kd, q, cs.set j (.ref L.length 0 0 0)⟩) = ⟨ver, kd, q, (rns ρ cs).set j (.ref (ρ L.length) 0 0 0)⟩ := by
    simp only [Blk.rn, rns_map, List.map_set, V.rn]
  rw [hcs]
  have hg : H[ρ b]? = some ⟨ver, kd, q, rns ρ cs⟩ := hg
  have hn : H[ρ L.length]? = some ⟨0, .grow, sz, []⟩ := hn
  have hget : ∀ y, (H.set (ρ b) ⟨ver, kd, q, (rns ρ cs).set j (.ref (ρ L.length) 0 0 0)⟩)[y]? = if y = ρ b then some ⟨ver, kd, q, (rns ρ cs).set j (.ref (ρ L.length) 0 0 0)⟩ else H[y]? := by
    intro y
    rw [List.getElem?_set]
    by_cases e : ρ b = y
    · subst e; simp [hgl]
    · rw [if_neg e, if_neg (by omega)]
  have back : ∀ (y : Nat) (Y : Blk), (H.set (ρ b) ⟨ver, kd, q, (rns ρ cs).set j (.ref (ρ L.length) 0 0 0)⟩)[y]? = some Y → ∃ Y0 : Blk, H[y]? = some Y0 ∧ Y0.kind = Y.kind ∧ Y0.ver = Y.ver ∧ Y0.sz = Y.sz := by
    intro y Y hY
    rw [hget] at hY
    by_cases e : y = ρ b
    · subst e; rw [if_pos rfl] at hY; injection hY with hY; subst hY
      exact ⟨_, hg, rfl, rfl, rfl⟩
    · rw [if_neg e] at hY; exact ⟨Y, hY, rfl, rfl, rfl⟩
  have hO : ∀ g, Own im1 (H.set (ρ b) ⟨ver, kd, q, (rns ρ cs).set j (.ref (ρ L.length) 0 0 0)⟩) g → Own im1 H g := fun g ⟨y, Y, e1, e2, e3⟩ => by
    obtain ⟨Y0, f1, f2, _⟩ := back y Y e1
    exact ⟨y, Y0, f1, by rw [f2]; exact e2, e3⟩
  have hx1 : Ext im1 H w im1 (H.set (ρ b) ⟨ver, kd, q, (rns ρ cs).set j (.ref (ρ L.length) 0 0 0)⟩) w := by
    refine ⟨rfl, rfl, rfl, Nat.le_refl _, by simp, fun g hg' ho => ⟨rfl, fun e => ho (hO g e)⟩, fun y Y Y' hY hY' => ?_⟩
    obtain ⟨Y0, f1, f2, f3, f4⟩ := back y Y' hY'
    rw [hY] at f1; injection f1 with f1; subst f1
    exact ⟨by omega, fun _ hd => ⟨by rw [f2]; exact hd, rfl, f4.symm, fun _ _ => rfl⟩⟩
  refine ⟨im1, ⟨⟨fun y Y hY hd => ?_, fun y y' Y Y' g hY hY' hd hd' hi hi' => ?_, Glob.ext r1.glob hx1⟩, ⟨fun t => ((hs.fr.at_ t).ext x1 _ _).ext hx1 _ _⟩, hs.size, hs.defers⟩, (hx.trans x1).trans hx1⟩
  · rw [hget] at hY
    by_cases e : y = ρ b
    · subst e
      rw [if_pos rfl] at hY; injection hY with hY; subst hY
      have hrow := r1.row (ρ b) _ hg hk
      cases hi : im1 (ρ b) with
      | none =>
        rw [hi] at hrow
        have : rns ρ cs = [] := hrow.2
        rw [rns_map] at this
        have : cs = [] := List.map_eq_nil_iff.1 this
        rw [this] at hj; simp at hj
      | some g =>
        rw [hi] at hrow
        obtain ⟨arr, t, fr, vs, e1, e2, e3, e4, e5⟩ := hrow
        refine ⟨arr, t, fr, vs, e1, e2, e3, ?_, e5⟩
        have hrj : (rns ρ cs)[j]? = some (.s (.slice none 0 0)) := by rw [rns_map, List.getElem?_map, hj]; rfl
        have hnew : ∀ c, VR im1 H w (.s (.slice none 0 0)) c → VR im1 (H.set (ρ b) ⟨ver, kd, q, (rns ρ cs).set j (.ref (ρ L.length) 0 0 0)⟩) w (.ref (ρ L.length) 0 0 0) c := by
          intro c hc
          have hc : c = .slice none 0 0 := hc
          subst hc
          have hne : ρ L.length ≠ ρ b := by
            have := hE.ne (L := L ++ [(⟨0, .grow, sz, []⟩ : Blk)]) hl2 (b := L.length) (c := b) (B := ⟨0, .grow, sz, []⟩) (by simp) (by rw [List.getElem?_append_left hbl]; exact hB) (by omega)
            exact this
          exact ⟨rfl, ⟨0, .grow, sz, []⟩, (hget _).trans ((if_neg hne).trans hn), Nat.le_refl _, fun _ _ => ⟨none, 0, rfl, Nat.le_refl _, Nat.zero_le _, .inl ⟨rfl, fun a e => by simp at e⟩⟩⟩
        generalize H.set (ρ b) ⟨ver, kd, q, (rns ρ cs).set j (.ref (ρ L.length) 0 0 0)⟩ = H2 at hnew hx1
        have go : ∀ (l : List V) (j : Nat) (vs : List Value), l[j]? = some (.s (.slice none 0 0)) → VRs im1 H w l vs → VRs im1 H2 w (l.set j (.ref (ρ L.length) 0 0 0)) vs := by
          intro l
          induction l with
          | nil => intro j vs hj; simp at hj
          | cons x l ih =>
            intro j vs hj hv
            cases vs with
            | nil => exact hv.elim
            | cons v vs =>
              cases j with
              | zero =>
                simp at hj; subst hj
                exact ⟨hnew v hv.1, VRs.ext hx1 _ _ hv.2⟩
              | succ j => exact ⟨VR.ext hx1 _ _ hv.1, ih j vs (by simpa using hj) hv.2⟩
        exact go _ _ _ hrj e4
    · rw [if_neg e] at hY
      have hrow := r1.row y Y hY hd
      cases hi : im1 y with
      | none => rw [hi] at hrow; exact hrow
      | some g =>
        rw [hi] at hrow
        obtain ⟨arr, t, fr, vs, e1, e2, e3, e4, e5⟩ := hrow
        exact ⟨arr, t, fr, vs, e1, e2, e3, VRs.ext hx1 _ _ e4, e5⟩
  · obtain ⟨Y0, f1, f2, _⟩ := back y Y hY
    obtain ⟨Y0', f1', f2', _⟩ := back y' Y' hY'
    exact r1.inj y y' Y0 Y0' g f1 f1' (by rw [f2]; exact hd) (by rw [f2']; exact hd') hi hi'

/-- A function's value is called. -/
theorem CalL.clo {n0 : Nat} {P : Program} {g : FuncId} {args caps : List V} {L L' : Hp} {r : V} (h : CalL n0 P g (args ++ caps) L r L') (hc : callable P g = true := by kernel_rfl) : CalL n0 P 4294967296 (.clo g caps :: args) L r L' := by
  have hlt : Nat.blt g 4294967296 = true := by
    unfold callable at hc; rw [Bool.and_eq_true] at hc; exact hc.1
  refine ⟨h.1, fun ρ G hE => ?_⟩
  intro im w cargs hr ha
  have h2 := h.2 ρ G hE
  match cargs, ha with
  | c :: cs, ha =>
    obtain ⟨h1, h3⟩ := ha
    obtain ⟨vs, rfl, hvs⟩ := h1
    have hall : VRs im (G L) w (rns ρ (args ++ caps)) (cs ++ vs.toList) := by
      rw [rns_map, List.map_append, ← rns_map, ← rns_map]
      exact h3.append hvs
    have := h2 im w (cs ++ vs.toList) hr hall
    rw [CallsD.st hlt] at this
    rw [CallsD.dy rfl]
    exact ⟨g, cs ++ vs.toList, hc, .inl ⟨rfl, vs, cs, rfl, rfl⟩, this⟩

def Opn : List It → Bool
  | .c _ :: _ => true
  | .l _ :: _ => true
  | .b _ :: S => Opn S
  | [] => false

section
variable {P : Program} {L0 : Hp} {C : X → Fr → Hp → Prop} {f f2 : Fr} {L L2 : Hp}

theorem k_sv : ∀ (S : List It), Opn S = true → Shl L0 f L f2 L2 → kont P L0 C S .normal f2 L2 → kont P L0 C S .normal f L
  | [], h, _, _ => by simp [Opn] at h
  | .c _ :: S, _, h, ⟨f3, L3, k, K⟩ => ⟨f3, L3, h.trans k, K⟩
  | .l _ :: S, _, h, ⟨f3, L3, k, K⟩ => ⟨f3, L3, h.trans k, K⟩
  | .b id :: S, ho, h, K => k_sv S ho h K

theorem vs_sv {K : Fr → Hp → Prop} (h : Shl L0 f L f2 L2) (k : vs L0 K f2 L2) : vs L0 K f L := by
  obtain ⟨f3, L3, k1, k2⟩ := k
  exact ⟨f3, L3, h.trans k1, k2⟩

variable {S : List It} {l l' : List Fc} {L' : Hp}

theorem kb2 {t : Bool} {α : Type} {x y : α} {z : α} {G : Prop} (h : (if t = true then x else y) = z) (ha : t = true → x = z → G) (hb : t = false → y = z → G) : G := by
  cases t
  · exact hb rfl (by simpa using h)
  · exact ha rfl (by simpa using h)

theorem put_at (hf : FOk f l) (t0 : Nat) (v : V) (hl : putD (some t0) [] v l = l') : FOk (upd (some t0) v f) l' := hl ▸ FOk_putD hf (by rfl) (fun _ => rfl) (fun h => absurd trivial h)

theorem k_fz {α : Type} {g : α → List V} {s : Nat} [Cells g s] {x : List α} (t0 b : Nat) {ver n : Nat} (hf : FOk f l) (hx : x.length = n) (K : ∀ f', FOk f' (putD (some t0) [] (.sl false x.length (cat g x)) l) → kont P L0 C S .normal f' L')
    (hv : val l [] (.t t0) = some (.ref b ver 0 n) := by kernel_rfl) (hB : L[b]? = some ⟨ver, .grow, s, cat g x⟩ := by kernel_rfl) (hL : L.set b ⟨ver + 1, .grow, s, []⟩ = L' := by kernel_rfl) (hS : Opn S = true := by kernel_rfl) : kont P L0 C S .normal f L := by
  subst hL; subst hx
  exact k_sv S hS (Shl.freeze hB (cat_stat x) (by rw [cat_len (g := g)]) (val_ok (ch := []) hf trivial hv).1) (K _ (put_at hf _ _ rfl))

theorem k_mv (t0 b c : Nat) {ver v2 q n : Nat} {kd : BK} {cs0 cs : List V} (hf : FOk f l) (K : ∀ f', FOk f' (putD (some t0) [] (.ref b (ver + 1) 0 n) l) → kont P L0 C S .normal f' L') (hB : L[b]? = some ⟨ver, kd, q, cs0⟩ := by kernel_rfl) (hC : L[c]? = some ⟨v2, .grow, q, cs⟩ := by kernel_rfl)
    (hv : val l [] (.t t0) = some (.ref c v2 0 n) := by kernel_rfl) (hL : (L.set b ⟨ver + 1, .grow, q, cs⟩).set c ⟨v2 + 1, .grow, q, []⟩ = L' := by kernel_rfl) (hne : Nat.beq b c = false := by kernel_rfl) (hS : Opn S = true := by kernel_rfl) : kont P L0 C S .normal f L := by
  subst hL
  exact k_sv S hS (Shl.move (fun e => by rw [e] at hne; simp at hne) hB hC (val_ok (ch := []) hf trivial hv).1) (K _ (put_at hf _ _ rfl))

theorem k_nil (t0 b : Nat) {ver : Nat} {B : Blk} (hf : FOk f l) (K : ∀ f', FOk f' (putD (some t0) [] (.ref b ver 0 0) l) → kont P L0 C S .normal f' L) (hB : L[b]? = some B) (hver : ver = B.ver := by kernel_rfl) (hv : val l [] (.t t0) = some (.s (.slice none 0 0)) := by kernel_rfl) (hS : Opn S = true := by kernel_rfl) : kont P L0 C S .normal f L :=
  k_sv S hS (Shl.nilr hB (Nat.le_of_eq hver) (val_ok (ch := []) hf trivial hv).1) (K _ (put_at hf _ _ rfl))

theorem k_fp (t0 b : Nat) {ver q : Nat} {cs : List V} (hf : FOk f l) (hst : statics cs = true) (K : ∀ f', FOk f' (putD (some t0) [] (.ip cs) l) → kont P L0 C S .normal f' L')
    (hv : val l [] (.t t0) = some (.ptr b ver 0) := by kernel_rfl) (hB : L[b]? = some ⟨ver, .mem, q, cs⟩ := by kernel_rfl) (hL : L.set b ⟨ver + 1, .dead, q, []⟩ = L' := by kernel_rfl) (hS : Opn S = true := by kernel_rfl) : kont P L0 C S .normal f L := by
  subst hL
  exact k_sv S hS (Shl.frptr hB hst (val_ok (ch := []) hf trivial hv).1) (K _ (put_at hf _ _ rfl))

theorem k_row (b j sz : Nat) {ver q : Nat} {kd : BK} {cs : List V} (K : kont P L0 C S .normal f L') (hB : L[b]? = some ⟨ver, kd, q, cs⟩ := by kernel_rfl) (hk : kd ≠ .dead := by nofun) (hj : cs[j]? = some (.s (.slice none 0 0)) := by kernel_rfl)
    (hL : (L ++ [(⟨0, .grow, sz, []⟩ : Blk)]).set b ⟨ver, kd, q, cs.set j (.ref L.length 0 0 0)⟩ = L' := by kernel_rfl) (hS : Opn S = true := by kernel_rfl) : kont P L0 C S .normal f L := by
  subst hL
  exact k_sv S hS (Shl.addrow hB hk hj) K
end

/-- A struct with a row of its own was handed over: the row's version is told anew at the end. -/
theorem SettL.resetw {L0 : Hp} {r r' : V} {L : Hp} {v8 n ver q : Nat} {cs0 cs post : List V} {L1 : Hp} (h : SettL L0 r L r' L1) (hst : r'.static = true) (h0 : L0[0]? = some ⟨ver, .grow, q, cs0⟩) (h1 : L1 = [⟨v8, .grow, q, cs⟩, ⟨0, .mem, 1, .ref 0 v8 0 n :: post⟩]) (hs : statics cs = true) (hp : statics post = true) :
    SettL L0 r L r' [⟨ver + 1, .grow, q, cs⟩, ⟨0, .mem, 1, .ref 0 (ver + 1) 0 n :: post⟩] := by
  subst h1
  intro hl
  obtain ⟨a1, a2⟩ := h hl
  refine ⟨a1, fun ρ G hE => ?_⟩
  have hrr : r'.rn ρ = r' := rn_static ρ _ hst
  have a2 := a2 ρ G hE
  rw [hrr] at a2 ⊢
  generalize hL1 : ([⟨v8, .grow, q, cs⟩, ⟨0, .mem, 1, .ref 0 v8 0 n :: post⟩] : Hp) = L1 at a1 a2
  have g0 : L1[0]? = some ⟨v8, .grow, q, cs⟩ := by rw [← hL1]; rfl
  have g1 : L1[1]? = some ⟨0, .mem, 1, .ref 0 v8 0 n :: post⟩ := by rw [← hL1]; rfl
  have hne : ρ 0 ≠ ρ 1 := hE.ne a1 g0 g1 (by decide)
  have hlen2 : L1.length = 2 := by rw [← hL1]; rfl
  have hg1 : (G L1)[ρ 0]? = some ⟨v8, .grow, q, cs⟩ := by
    have := hE.get L1 0 _ a1 g0
    simpa only [Blk.rn, rns_stat _ _ hs] using this
  have hg2 : (G L1)[ρ 1]? = some ⟨0, .mem, 1, .ref (ρ 0) v8 0 n :: post⟩ := by
    have := hE.get L1 1 _ a1 g1
    simpa only [Blk.rn, rns, V.rn, rns_stat _ _ hp] using this
  have hset : ((G L1).set (ρ 0) ⟨ver + 1, .grow, q, cs⟩).set (ρ 1) ⟨0, .mem, 1, .ref (ρ 0) (ver + 1) 0 n :: post⟩ = G [⟨ver + 1, .grow, q, cs⟩, ⟨0, .mem, 1, .ref 0 (ver + 1) 0 n :: post⟩] := by
    have e1 := hE.set L1 0 ⟨ver + 1, .grow, q, cs⟩ a1 (by omega)
    have e2 := hE.set (L1.set 0 ⟨ver + 1, .grow, q, cs⟩) 1 ⟨0, .mem, 1, .ref 0 (ver + 1) 0 n :: post⟩ (by simpa using a1) (by simp; omega)
    simp only [Blk.rn, rns, V.rn, rns_stat _ _ hp, rns_stat _ _ hs] at e1 e2
    rw [← e1] at e2
    rw [e2, ← hL1]; rfl
  have hg0 : (G L0)[ρ 0]? = some ⟨ver, .grow, q, rns ρ cs0⟩ := hE.get L0 0 _ (Nat.le_refl _) h0
  rw [← hset]
  intro im0 w0 im w c hr0 hr hx hv
  obtain ⟨im1, k1, k2, k3⟩ := a2 im0 w0 im w c hr0 hr hx hv
  have hl0 : ρ 0 < (G L1).length := (List.getElem?_eq_some_iff.1 hg1).1
  have hl1 : ρ 1 < (G L1).length := (List.getElem?_eq_some_iff.1 hg2).1
  have hget : ∀ y, (((G L1).set (ρ 0) ⟨ver + 1, .grow, q, cs⟩).set (ρ 1) ⟨0, .mem, 1, .ref (ρ 0) (ver + 1) 0 n :: post⟩)[y]? = if y = ρ 1 then some ⟨0, .mem, 1, .ref (ρ 0) (ver + 1) 0 n :: post⟩ else if y = ρ 0 then some ⟨ver + 1, .grow, q, cs⟩ else (G L1)[y]? := by
    intro y
    rw [List.getElem?_set]
    by_cases e : ρ 1 = y
    · subst e; simp [hl1]
    · rw [if_neg e, if_neg (show ¬ y = ρ 1 by omega), List.getElem?_set]
      by_cases e' : ρ 0 = y
      · subst e'; simp [hl0]
      · rw [if_neg e', if_neg (show ¬ y = ρ 0 by omega)]
  generalize hH : ((G L1).set (ρ 0) ⟨ver + 1, .grow, q, cs⟩).set (ρ 1) ⟨0, .mem, 1, .ref (ρ 0) (ver + 1) 0 n :: post⟩ = H' at hget ⊢
  have hHl : (G L1).length = H'.length := by rw [← hH]; simp
  have hback : ∀ (y : Nat) (Y : Blk), H'[y]? = some Y → ∃ Y0 : Blk, (G L1)[y]? = some Y0 ∧ Y0.kind = Y.kind ∧ Y0.sz = Y.sz ∧ (y ≠ ρ 0 → Y0.ver = Y.ver) := by
    intro y Y hY
    rw [hget] at hY
    by_cases e : y = ρ 1
    · subst e; rw [if_pos rfl] at hY; injection hY with hY; subst hY
      exact ⟨_, hg2, rfl, rfl, fun _ => rfl⟩
    · rw [if_neg e] at hY
      by_cases e' : y = ρ 0
      · subst e'; rw [if_pos rfl] at hY; injection hY with hY; subst hY
        exact ⟨_, hg1, rfl, rfl, fun e => absurd rfl e⟩
      · rw [if_neg e'] at hY; exact ⟨Y, hY, rfl, rfl, fun _ => rfl⟩
  have hO : ∀ g, Own im1 H' g → Own im1 (G L1) g := fun g ⟨y, Y, e1, e2, e3⟩ => by
    obtain ⟨Y0, f1, f2, _⟩ := hback y Y e1
    exact ⟨y, Y0, f1, by rw [f2]; exact e2, e3⟩
  have hbo : ∀ (y : Nat) (Y : Blk), (G L1)[y]? = some Y → y ≠ ρ 0 → ∃ Y' : Blk, H'[y]? = some Y' ∧ Y'.ver = Y.ver ∧ Y'.kind = Y.kind ∧ Y'.sz = Y.sz := fun y Y h e => by
    by_cases e1 : y = ρ 1
    · subst e1; rw [hg2] at h; injection h with h; subst h
      exact ⟨⟨0, .mem, 1, .ref (ρ 0) (ver + 1) 0 n :: post⟩, by rw [hget, if_pos rfl], rfl, rfl, rfl⟩
    · exact ⟨Y, by rw [hget, if_neg e1, if_neg e]; exact h, rfl, rfl, rfl⟩
  have hβ : H'[ρ 0]? = some ⟨ver + 1, .grow, q, cs⟩ := by rw [hget, if_neg hne, if_pos rfl]
  have hx' : Ext im0 (G L0) w0 im1 H' w := by
    refine ⟨k2.os, k2.tape, k2.output, k2.size, by have := k2.len; omega, fun g hg ho => ⟨(k2.keep g hg ho).1, fun e => (k2.keep g hg ho).2 (hO g e)⟩, fun y Y Y' hY hY' => ?_⟩
    by_cases e : y = ρ 0
    · subst e
      rw [hg0] at hY; injection hY with hY; subst hY
      rw [hβ] at hY'; injection hY' with hY'; subst hY'
      exact ⟨Nat.le_succ _, fun e => by simp at e⟩
    · obtain ⟨Y0, f1, f2, f3, f4⟩ := hback y Y' hY'
      obtain ⟨m1, m2⟩ := k2.blk y Y Y0 hY f1
      have f4 := f4 e
      exact ⟨by omega, fun u d => by
        obtain ⟨n1, n2, n3, n4⟩ := m2 (by omega) (by rw [f2]; exact d)
        exact ⟨n1, n2, by rw [← f3]; exact n3, n4⟩⟩
  refine ⟨im1, ⟨fun y Y hY hd => ?_, fun y y' Y Y' g hY hY' hd hd' hi hi' => ?_, fun a ha => ⟨fun e => (k1.glob a ha).1 (hO a e), (k1.glob a ha).2⟩⟩, hx', ?_⟩
  · obtain ⟨Y0, f1, f2, f3, f4⟩ := hback y Y hY
    have hrow := k1.row y Y0 f1 (by rw [f2]; exact hd)
    rw [hget] at hY
    by_cases e1 : y = ρ 1
    · subst e1
      rw [if_pos rfl] at hY; injection hY with hY; subst hY
      rw [hg2] at f1; injection f1 with f1; subst f1
      cases hgx : im1 (ρ 1) with
      | none => rw [hgx] at hrow; simp at hrow
      | some gx =>
        rw [hgx] at hrow
        obtain ⟨arr, t, fr, vs, r1, r2, r3, r4, r5⟩ := hrow
        refine ⟨arr, t, fr, vs, r1, r2, r3, ?_, r5⟩
        match vs, r4 with
        | c :: vs, r4 =>
          obtain ⟨⟨o1, B', hB', hle, hp'⟩, r4⟩ := r4
          rw [hg1] at hB'; injection hB' with hB'; subst hB'
          exact ⟨⟨o1, ⟨ver + 1, .grow, q, cs⟩, hβ, Nat.le_refl _, fun _ _ => hp' rfl (by simp)⟩, VRs.stay hO _ _ hp r4⟩
    · rw [if_neg e1] at hY
      by_cases e2 : y = ρ 0
      · subst e2
        rw [if_pos rfl] at hY; injection hY with hY; subst hY
        rw [hg1] at f1; injection f1 with f1; subst f1
        cases hgx : im1 (ρ 0) with
        | none => rw [hgx] at hrow; exact hrow
        | some gx =>
          rw [hgx] at hrow
          obtain ⟨arr, t, fr, vs, r1, r2, r3, r4, r5⟩ := hrow
          exact ⟨arr, t, fr, vs, r1, r2, r3, VRs.stay hO _ _ hs r4, r5⟩
      · rw [if_neg e2] at hY
        rw [f1] at hY; injection hY with hY; subst hY
        cases hgx : im1 y with
        | none => rw [hgx] at hrow; exact hrow
        | some gx =>
          rw [hgx] at hrow
          obtain ⟨arr, t, fr, vs, r1, r2, r3, r4, r5⟩ := hrow
          refine ⟨arr, t, fr, vs, r1, r2, r3, ?_, r5⟩
          rcases hE.out L1 y Y0 a1 f1 with ⟨k, rfl, hk⟩ | hout
          · exfalso
            match k, hk, e1, e2 with
            | 0, _, _, e2 => exact e2 rfl
            | 1, _, e1, _ => exact e1 rfl
            | k + 2, hk, _, _ => omega
          · have hY0 := hout L0 (Nat.le_refl _)
            have hrow0 := hr0.row y Y0 hY0 hd
            cases hg : im0 y with
            | none =>
              rw [hg] at hrow0
              rw [hrow0.2] at r4 ⊢
              cases vs with
              | nil => trivial
              | cons a b => exact r4.elim
            | some g0' =>
              rw [hg] at hrow0
              obtain ⟨_, _, _, vs0, _, _, _, r40, _⟩ := hrow0
              exact VRs.back hO hbo hβ rfl hg0 rfl _ _ _ r40 r4
  · obtain ⟨Y0, f1, f2, _⟩ := hback y Y hY
    obtain ⟨Y0', f1', f2', _⟩ := hback y' Y' hY'
    exact k1.inj y y' Y0 Y0' g f1 f1' (by rw [f2]; exact hd) (by rw [f2']; exact hd') hi hi'
  · exact VR.stay hO _ _ hst k3

theorem FOk_re {f : Fr} {l : List Fc} {t0 : Nat} {v v' : V} (hf : FOk f l) (h : v = v') (hv : val l [] (.t t0) = some v := by kernel_rfl) : FOk f (putD (some t0) [] v' l) := by
  have h0 := (val_ok (ch := []) hf trivial hv).1
  have h1 := put_at hf t0 v' rfl
  have e : upd (some t0) v' f = f := by
    funext t
    simp only [upd]
    split
    · rename_i e; subst e; rw [← h]; exact h0.symm
    · rfl
  rw [e] at h1; exact h1
theorem ref_cut {α : Type} {b ver s k n : Nat} {l : List α} (hc : 0 ≤ k ∧ k ≤ n) (hl : l.length = n) : V.ref b ver (0 + 0 * s) (k - 0) = .ref b ver 0 (l.take k).length := by
  rw [List.length_take, Nat.min_eq_left (by omega)]; simp
theorem e_clr {α : Type} {g : α → List V} {s : Nat} [Cells g s] {f : Fr} {L : Hp} {x : Opd} {z : List Value} {l : List α} {q ver n a : Nat} {kd : BK} (hx : ev x f = .ref q ver (0 + a * s) n) (hL : live L q ver = some ⟨ver, kd, s, cat g l⟩) (hz : (Nat.beq s z.length && z.all Value.oneCell') = true) : E1 (.clr z x) f L = some (.tup [], L.set q ⟨ver, kd, s, cat g (l.take a)⟩) := by
  rw [Bool.and_eq_true] at hz
  have h1 : s = z.length := Nat.eq_of_beq_eq_true hz.1
  simp only [E1, hx, clrV, hL, Option.bind_some]
  rw [if_pos ⟨h1, hz.2⟩, Nat.zero_add, cat_taken]; rfl
end Go.Proofs.YtfdadnldlngmeaaK
