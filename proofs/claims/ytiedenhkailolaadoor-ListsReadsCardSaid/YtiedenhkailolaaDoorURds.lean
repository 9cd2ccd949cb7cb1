/- The law ListsReads over typed data. -/
import Derived.Test.YtiedenhkailolaaDoorUSpl
namespace Go.Proofs.YtiedenhkailolaaDoorK
set_option linter.unusedVariables false
set_option linter.unusedSimpArgs false
set_option maxHeartbeats 4000000
open Go.RowKit
attribute [local irreducible] dwv mops lops lqops lwops kont iter run runK rk okK ex E1 vals val chain chB sel resF

theorem alive17r : spinetlaw17_alive = some true := by decide +kernel
theorem spinetlaw17_namesP_l0 {s : ByteArray} (hs : s.size < 100000) : ∀ (r : List Int) (k i : Nat) (d : List ByteArray) (w : List Int), (sbl s).drop i = r → r.length < k → d.length ≤ i → w.length ≤ i → (∀ x ∈ w, 0 ≤ x ∧ x < 256) →
    spinetlaw17_names_l0 s k (d ++ [bs w]) (i : Int) = some (d ++ (match cutAt 44 r with | [] => [] | p :: q => bs (w ++ p) :: q.map bs))
  | _, 0, _, _, _, _, hk, _, _, _ => by omega
  | [], k + 1, i, d, w, h, _, _, _, _ => by
    rw [spinetlaw17_names_l0, if_neg (fun e => btNil h (of_decide_eq_true e))]; simp [cutAt]
  | x :: r, k + 1, i, d, w, h, hk, hd, hw, hB => by
    obtain ⟨e1, g1, r1, h1⟩ := btCons h
    have hi : i < 100000 := by have := g1.2; unfold sln at this; omega
    have hlt : (i : Int) + 1 ≤ sln s := by have := g1.2; omega
    rw [spinetlaw17_names_l0, if_pos (decide_eq_true g1.2), if_pos g1, e1]
    by_cases hc : x = 44
    · subst hc
      have ih := spinetlaw17_namesP_l0 hs r k (i + 1) (d ++ [bs w]) [] h1 (by simp only [List.length_cons] at hk; omega) (by simp; omega) (by simp) (by simp)
      rw [if_pos (by decide), if_pos (by simp only [List.length_append, List.length_cons, List.length_nil]; omega), wrapS (by omega)]
      rw [show (⟨#[]⟩ : ByteArray) = bs [] from rfl, ih]
      rw [cutAt, if_pos rfl]
      have hne := cutAt_ne 44 r
      cases hq : cutAt 44 r with
      | nil => exact absurd hq hne
      | cons p q => simp
    · have hb : (x == 44) = false := by simpa using hc
      have ih := spinetlaw17_namesP_l0 hs r k (i + 1) d (w ++ [x]) h1 (by simp only [List.length_cons] at hk; omega) (by omega) (by simp; omega) (by
        intro y hy
        rcases List.mem_append.1 hy with hy | hy
        · exact hB y hy
        · simp at hy; subst hy; exact r1)
      rw [hb, if_neg (by decide)]
      have hl : ln (d ++ [bs w]) = ((d.length + 1 : Nat) : Int) := by simp [ln]
      have w1 : IntKind.wrap .i64 (ln (d ++ [bs w]) - 1) = ((d.length : Nat) : Int) := by rw [hl, wrap_i64 (by omega) (by omega)]; omega
      have gx : 0 ≤ ((d.length : Nat) : Int) ∧ ((d.length : Nat) : Int) < ln (d ++ [bs w]) := by rw [hl]; omega
      have gg : gt (d ++ [bs w]) ((d.length : Nat) : Int) = bs w := gtAt (by simp)
      have w2 : IntKind.wrap .i64 ((i : Int) + 1) = ((i + 1 : Nat) : Int) := wrapS (by omega)
      have hx : s.extract i (i + 1) = bs [x] := by
        apply sbl_inj
        rw [sbl_extract, h, sbl_bs (by intro y hy; simp at hy; subst hy; exact r1)]
        simp
      rw [w1, if_pos gx, w2, if_pos ⟨g1.1, by omega, by omega⟩, gg, Int.toNat_natCast, Int.toNat_natCast, hx, bs_size, bs_size]
      have hsz : ((w.length + [x].length : Nat) : Int) ≤ 9223372036854775807 := by simp only [List.length_cons, List.length_nil]; omega
      rw [if_pos hsz, if_pos gx]
      have hst : st (d ++ [bs w]) ((d.length : Nat) : Int) (bs w ++ bs [x]) = d ++ [bs (w ++ [x])] := by unfold st; rw [Int.toNat_natCast, set_at, ← bs_app]
      rw [hst, ih, cutAt, if_neg hc]
      have hne := cutAt_ne 44 r
      cases hq : cutAt 44 r with
      | nil => exact absurd hq hne
      | cons p q => simp
theorem spinetlaw17_namesP_is {s : ByteArray} (hs : s.size < 100000) : spinetlaw17_names_l0 s BIG [(⟨#[]⟩ : ByteArray)] 0 = some ((cutAt 44 (sbl s)).map bs) := by
  have := spinetlaw17_namesP_l0 hs (sbl s) BIG 0 [] [] rfl (by rw [sbl_len]; unfold BIG; omega) (by simp) (by simp) (by simp)
  rw [show (((0 : Nat) : Int)) = 0 from rfl] at this
  rw [show [(⟨#[]⟩ : ByteArray)] = [] ++ [bs []] from rfl, this]
  have hne := cutAt_ne 44 (sbl s)
  cases hq : cutAt 44 (sbl s) with
  | nil => exact absurd hq hne
  | cons p q => simp


/-- The bits of a name. -/
def nmB (u : Bool) (L : List Int) : Int :=
  if L = [68] then 6 else if L = [67, 67] then 1 else if L = [65] then 2 else if L = [66] then 4 else if L = [68, 80] then 8 else if L = [88] then 16 else if L = [89] then 32 else if L = [if u then 83 else 85] then 64 else if L = [80, 67] then 128 else 0
theorem nm_range (u : Bool) (L : List Int) : 0 ≤ nmB u L ∧ nmB u L < 256 := by
  unfold nmB
  repeat' split
  all_goals decide

theorem lb3 (x : ByteArray) (k : Nat) : lists_bits_l0 x (A8_i64.mk 10 8 9 11 1 2 4 5) (k + 9) 0 =
  if ((⟨#[67, 67]⟩ : ByteArray).toList == x.toList) = true then some (.ret 1) else
  if ((⟨#[65]⟩ : ByteArray).toList == x.toList) = true then some (.ret 2) else
  if ((⟨#[66]⟩ : ByteArray).toList == x.toList) = true then some (.ret 4) else
  if ((⟨#[68, 80]⟩ : ByteArray).toList == x.toList) = true then some (.ret 8) else
  if ((⟨#[88]⟩ : ByteArray).toList == x.toList) = true then some (.ret 16) else
  if ((⟨#[89]⟩ : ByteArray).toList == x.toList) = true then some (.ret 32) else
  if ((⟨#[83]⟩ : ByteArray).toList == x.toList) = true then some (.ret 64) else
  if ((⟨#[80, 67]⟩ : ByteArray).toList == x.toList) = true then some (.ret 128) else some (.go ()) := rfl
theorem lb0 (x : ByteArray) (k : Nat) : lists_bits_l0 x (A8_i64.mk 10 8 9 11 1 2 3 5) (k + 9) 0 =
  if ((⟨#[67, 67]⟩ : ByteArray).toList == x.toList) = true then some (.ret 1) else
  if ((⟨#[65]⟩ : ByteArray).toList == x.toList) = true then some (.ret 2) else
  if ((⟨#[66]⟩ : ByteArray).toList == x.toList) = true then some (.ret 4) else
  if ((⟨#[68, 80]⟩ : ByteArray).toList == x.toList) = true then some (.ret 8) else
  if ((⟨#[88]⟩ : ByteArray).toList == x.toList) = true then some (.ret 16) else
  if ((⟨#[89]⟩ : ByteArray).toList == x.toList) = true then some (.ret 32) else
  if ((⟨#[85]⟩ : ByteArray).toList == x.toList) = true then some (.ret 64) else
  if ((⟨#[80, 67]⟩ : ByteArray).toList == x.toList) = true then some (.ret 128) else some (.go ()) := rfl

theorem beqc (a L : List Int) : ((a == L) = true) = (L = a) := by
  rw [beq_iff_eq]
  exact propext ⟨Eq.symm, Eq.symm⟩
theorem sb1 (a : UInt8) : sbl ⟨#[a]⟩ = [(a.toNat : Int)] := rfl
theorem sb2 (a b : UInt8) : sbl ⟨#[a, b]⟩ = [(a.toNat : Int), (b.toNat : Int)] := rfl

theorem lbits_is (x : ByteArray) (st : Int) : lists_bits x st = some (nmB (st == 3) (sbl x)) := by
  unfold lists_bits lists_regs
  obtain ⟨k, hk⟩ := bigS 8 (by omega)
  rw [hk, show k + 8 + 1 = k + 9 from rfl]
  rw [show (x.toList == (⟨#[68]⟩ : ByteArray).toList) = (sbl x == [68]) from teq _ _]
  unfold nmB
  by_cases hD : sbl x = [68]
  · rw [if_pos (by simpa using hD), if_pos hD]
  rw [if_neg (by simpa using hD), if_neg hD]
  cases hs : (st == 3) with
  | true =>
    rw [if_pos rfl, Option.bind_some, lb3]
    simp only [teq, beqc, show sbl ⟨#[67, 67]⟩ = [67, 67] from rfl, show sbl ⟨#[65]⟩ = [65] from rfl, show sbl ⟨#[66]⟩ = [66] from rfl, show sbl ⟨#[68, 80]⟩ = [68, 80] from rfl, show sbl ⟨#[88]⟩ = [88] from rfl, show sbl ⟨#[89]⟩ = [89] from rfl, show sbl ⟨#[83]⟩ = [83] from rfl, show sbl ⟨#[80, 67]⟩ = [80, 67] from rfl, if_true]
    repeat' split
    all_goals first | rfl | contradiction
  | false =>
    rw [if_neg (by simp), Option.bind_some, lb0]
    simp only [teq, beqc, show sbl ⟨#[67, 67]⟩ = [67, 67] from rfl, show sbl ⟨#[65]⟩ = [65] from rfl, show sbl ⟨#[66]⟩ = [66] from rfl, show sbl ⟨#[68, 80]⟩ = [68, 80] from rfl, show sbl ⟨#[88]⟩ = [88] from rfl, show sbl ⟨#[89]⟩ = [89] from rfl, show sbl ⟨#[85]⟩ = [85] from rfl, show sbl ⟨#[80, 67]⟩ = [80, 67] from rfl, Bool.false_eq_true, if_false]
    repeat' split
    all_goals first | rfl | contradiction

/-- The reference's name at a place. -/
def nmAt (u : Bool) : Nat → List Int
  | 0 => [67, 67] | 1 => [65] | 2 => [66] | 3 => [68, 80] | 4 => [88] | 5 => [89] | 6 => [if u then 83 else 85] | _ => [80, 67]
theorem name_is (u : Bool) : ∀ p : Nat, p < 8 → ∃ c b, spinetref17_Code (p : Int) u = some c ∧ spinetref13_Reg c = some b ∧ sbl b = nmAt u p := by
  intro p hp
  match p, hp with
  | 0, _ => cases u <;> exact ⟨_, _, rfl, rfl, rfl⟩
  | 1, _ => cases u <;> exact ⟨_, _, rfl, rfl, rfl⟩
  | 2, _ => cases u <;> exact ⟨_, _, rfl, rfl, rfl⟩
  | 3, _ => cases u <;> exact ⟨_, _, rfl, rfl, rfl⟩
  | 4, _ => cases u <;> exact ⟨_, _, rfl, rfl, rfl⟩
  | 5, _ => cases u <;> exact ⟨_, _, rfl, rfl, rfl⟩
  | 6, _ => cases u <;> exact ⟨_, _, rfl, rfl, rfl⟩
  | 7, _ => cases u <;> exact ⟨_, _, rfl, rfl, rfl⟩
theorem pow_is : ∀ p : Nat, p < 8 → IntKind.wrap .i64 (1 * 2 ^ (min ((p : Nat) : Int).toNat (IntKind.bits .i64))) = ((2 ^ p : Nat) : Int)
  | 0, _ => rfl
  | 1, _ => rfl
  | 2, _ => rfl
  | 3, _ => rfl
  | 4, _ => rfl
  | 5, _ => rfl
  | 6, _ => rfl
  | 7, _ => rfl
theorem r3_step {r : List ByteArray} {i : Int} (g : 0 ≤ i ∧ i < ln r) (st n : Int) (k p : Nat) (hp : p < 8) : spinetlaw17_ListsReads_l3 st r i (k + 1) n (p : Int) = spinetlaw17_ListsReads_l3 st r i k (if sbl (gt r i) = nmAt (st == 3) p then ((2 ^ p : Nat) : Int) else n) ((p + 1 : Nat) : Int) := by
  obtain ⟨c, b, h1, h2, h3⟩ := name_is (st == 3) p hp
  rw [spinetlaw17_ListsReads_l3, if_pos (decide_eq_true (by omega)), h1, Option.bind_some, h2, Option.bind_some, if_pos g, teq, h3, wrapS (by omega), pow_is p hp]
  by_cases hx : sbl (gt r i) = nmAt (st == 3) p
  · rw [if_pos (by rw [hx]; simp), if_pos (by omega), if_pos hx]
  · rw [if_neg (by rw [beqc]; exact hx), if_neg hx]
theorem r3_is {r : List ByteArray} {i : Int} (g : 0 ≤ i ∧ i < ln r) (st : Int) : spinetlaw17_ListsReads_l3 st r i BIG (if sbl (gt r i) = [68] then 6 else 0) 0 = some (nmB (st == 3) (sbl (gt r i)), 8, 8, false) := by
  obtain ⟨k, hk⟩ := bigS 8 (by omega)
  rw [hk]
  rw [show (0 : Int) = ((0 : Nat) : Int) from rfl, r3_step g st _ _ 0 (by omega), r3_step g st _ _ 1 (by omega), r3_step g st _ _ 2 (by omega), r3_step g st _ _ 3 (by omega), r3_step g st _ _ 4 (by omega), r3_step g st _ _ 5 (by omega), r3_step g st _ _ 6 (by omega), r3_step g st _ _ 7 (by omega)]
  rw [spinetlaw17_ListsReads_l3, if_neg (by decide)]
  congr 1
  generalize (st == 3) = u
  generalize sbl (gt r i) = L
  simp only [nmAt, nmB]
  by_cases h0 : L = [68]
  · subst h0; cases u <;> rfl
  by_cases h1 : L = [67, 67]
  · subst h1; cases u <;> rfl
  by_cases h2 : L = [65]
  · subst h2; cases u <;> rfl
  by_cases h3 : L = [66]
  · subst h3; cases u <;> rfl
  by_cases h4 : L = [68, 80]
  · subst h4; cases u <;> rfl
  by_cases h5 : L = [88]
  · subst h5; cases u <;> rfl
  by_cases h6 : L = [89]
  · subst h6; cases u <;> rfl
  by_cases h7 : L = [if u then 83 else 85]
  · subst h7; cases u <;> rfl
  by_cases h8 : L = [80, 67]
  · subst h8; cases u <;> rfl
  rw [if_neg h0, if_neg h1, if_neg h2, if_neg h3, if_neg h4, if_neg h5, if_neg h6, if_neg h7, if_neg h8]
  rw [if_neg h0, if_neg h1, if_neg h2, if_neg h3, if_neg h4, if_neg h5, if_neg h6, if_neg h7, if_neg h8]
  rfl

theorem bit_same {a b : Int} (ha : 0 ≤ a ∧ a < 256) (hb : 0 ≤ b ∧ b < 256) : bits .and .u8 a b = bits .and .i64 a b ∧ bits .or .u8 a b = bits .or .i64 a b ∧ 0 ≤ bits .or .u8 a b ∧ bits .or .u8 a b < 256 := by
  obtain ⟨⟨x, rfl⟩, ⟨y, rfl⟩⟩ := And.intro (Int.eq_ofNat_of_zero_le ha.1) (Int.eq_ofNat_of_zero_le hb.1)
  have h1 := bits_nat .u8 8 (by decide) (fun n h h' => wrap_u8 h h') x y (by omega) (by omega)
  have h2 := bits_nat .i64 8 (by decide) (fun n h h' => wrap_i64 (by omega) (by omega)) x y (by omega) (by omega)
  have h3 : x ||| y < 2 ^ 8 := Nat.or_lt_two_pow (by omega) (by omega)
  rw [h1.1, h1.2, h2.1, h2.2]
  exact ⟨rfl, rfl, by omega, by omega⟩

theorem r2_end {s : ByteArray} {L : List ByteArray} {st : Int} {k : Nat} {w f : Int} {i : Nat} (h : f ≠ 0 ∨ L.drop i = []) : spinetlaw17_ListsReads_l2 s st L (k + 1) w f (i : Int) = some (w, f) := by
  rw [spinetlaw17_ListsReads_l2, if_neg]
  rcases h with h | h
  · simp [h]
  · have := gtNil h; simp [this]
section
variable {s : ByteArray} (hne : (s.toList == (⟨#[]⟩ : ByteArray).toList) = false) {L : List ByteArray} (st : Int) (hN : L.length < 100000)
include hne hN
theorem reads_l : ∀ (r : List ByteArray) (k i : Nat) (w : Int), L.drop i = r → r.length + 1 < k → 0 ≤ w ∧ w < 256 →
    (∃ p, 0 ≤ p ∧ p < 256 ∧ lists_Read_l0 st L k w (i : Int) = some (.go p) ∧ spinetlaw17_ListsReads_l2 s st L k w 0 (i : Int) = some (p, 0)) ∨
    ∃ e w', e ≠ 0 ∧ lists_Read_l0 st L k w (i : Int) = some (.ret (0, e)) ∧ spinetlaw17_ListsReads_l2 s st L k w 0 (i : Int) = some (w', e)
  | _, 0, _, _, _, hk, _ => by omega
  | [], k + 1, i, w, h, _, hw => by
    refine .inl ⟨w, hw.1, hw.2, ?_, r2_end (.inr h)⟩
    rw [lists_Read_l0, if_neg (fun e => gtNil h (of_decide_eq_true e))]
  | x :: r, k + 1, i, w, h, hk, hw => by
    obtain ⟨e1, g1, h1⟩ := gtCons h
    have hi := (dropAt h).2.2
    have hR := r3_is g1 st
    rw [e1] at hR
    obtain ⟨b1, b2, b3, b4⟩ := bit_same hw (nm_range (st == 3) (sbl x))
    have hn := nm_range (st == 3) (sbl x)
    have hL2 : spinetlaw17_ListsReads_l2 s st L (k + 1) w 0 (i : Int) = spinetlaw17_ListsReads_j1 (spinetlaw17_ListsReads_l2 s st L k) st L w 0 (i : Int) (if sbl x = [68] then 6 else 0) := by
      rw [spinetlaw17_ListsReads_l2, if_pos (by rw [hne, decide_eq_true g1.2]; rfl), if_pos g1, e1, teq, show sbl ⟨#[68]⟩ = [68] from rfl]
      by_cases hx : sbl x = [68]
      · rw [if_pos (by rw [hx]; rfl), if_pos hx]
      · rw [if_neg (by simpa using hx), if_neg hx]
    rw [hL2, lists_Read_l0, if_pos (decide_eq_true g1.2), if_pos g1, e1, lbits_is, Option.bind_some]
    unfold spinetlaw17_ListsReads_j1 spinetlaw17_ListsReads_j0
    rw [hR, Option.bind_some]
    simp only
    rw [wrapS (by omega)]
    have hk' : ∃ j, k = j + 1 := ⟨k - 1, by simp only [List.length_cons] at hk; omega⟩
    obtain ⟨j, hj⟩ := hk'
    by_cases hz : nmB (st == 3) (sbl x) = 0
    · have hz' : (nmB (st == 3) (sbl x) == 0) = true := by simpa using hz
      refine .inr ⟨40, bits .or .i64 w (nmB (st == 3) (sbl x)), by decide, ?_, ?_⟩
      · rw [if_pos hz']
      · rw [if_pos hz', hj, r2_end (.inl (by decide))]
    · have hz' : ¬ (nmB (st == 3) (sbl x) == 0) = true := by simpa using hz
      rw [if_neg hz', if_neg hz', b1]
      by_cases hd : bits .and .i64 w (nmB (st == 3) (sbl x)) = 0
      · have hd' : ¬ (bits .and .i64 w (nmB (st == 3) (sbl x)) != 0) = true := by simpa using hd
        rw [if_neg hd', if_neg hd', ← b2]
        exact reads_l r k (i + 1) _ h1 (by simp only [List.length_cons] at hk; omega) ⟨b3, b4⟩
      · have hd' : (bits .and .i64 w (nmB (st == 3) (sbl x)) != 0) = true := by simpa using hd
        refine .inr ⟨41, bits .or .i64 w (nmB (st == 3) (sbl x)), by decide, ?_, ?_⟩
        · rw [if_pos hd']
        · rw [if_pos hd', hj, r2_end (.inl (by decide))]
end

theorem j2_is (a e : Int) (h : 0 ≤ a ∧ a < 256) : spinetlaw17_ListsReads_j2 (a, e) e a = some true := by
  unfold spinetlaw17_ListsReads_j2
  have hw : IntKind.wrap .i64 a = a := wrap_i64 (by omega) (by omega)
  simp only [hw, beq_self_eq_true, Bool.and_self, if_true, alive17r, Option.bind_some]

theorem cut_len_le (c : Int) (l : List Int) : (cutAt c l).length ≤ l.length + 1 := by rw [cutAt_count]; have := List.count_le_length (a := c) (l := l); omega

theorem listsReads_true (s : ByteArray) (st : Int) : spinetlaw17_ListsReads s st = some true := by
  unfold spinetlaw17_ListsReads
  by_cases h6 : 60 < sln s
  · rw [if_pos (decide_eq_true h6)]
  rw [if_neg (fun h => h6 (of_decide_eq_true h))]
  have hz : s.size ≤ 60 := by unfold sln at h6; omega
  have hs : s.size < 100000 := by omega
  have h44 : (((44 : UInt8).toNat : Nat) : Int) = 44 := rfl
  have hsp : strings_Split s (⟨#[44]⟩ : ByteArray) = some ((cutAt 44 (sbl s)).map bs) := by
    rw [show (⟨#[44]⟩ : ByteArray) = s1 44 from rfl, split_is s 44 (by omega)]
    unfold pieces
    rw [h44]
  unfold lists_Read spinetlaw17_names
  rw [hsp, spinetlaw17_namesP_is hs]
  have hN : ((cutAt 44 (sbl s)).map bs).length < 1000 := by
    rw [List.length_map]
    have := cut_len_le 44 (sbl s)
    rw [sbl_len] at this
    omega
  generalize (cutAt 44 (sbl s)).map bs = L at *
  cases hne : (s.toList == (⟨#[]⟩ : ByteArray).toList) with
  | true =>
    simp only [if_true, Option.bind_some]
    have hl2 : spinetlaw17_ListsReads_l2 s st L BIG 0 0 0 = some (0, 0) := by
      obtain ⟨k, hk⟩ := bigS 1 (by omega)
      rw [hk, spinetlaw17_ListsReads_l2, if_neg (by rw [hne]; simp)]
    rw [hl2]
    exact j2_is 0 0 (by decide)
  | false =>
    rw [if_neg (by simp)]
    rcases reads_l hne st (L := L) (by omega) L BIG 0 0 rfl (by unfold BIG; omega) (by decide) with ⟨p, p1, p2, h1, h2⟩ | ⟨e, w, he, h1, h2⟩
    · rw [show (((0 : Nat) : Int)) = 0 from rfl] at h1 h2
      simp only [Option.bind_some]
      rw [h1, h2]
      exact j2_is p 0 ⟨p1, p2⟩
    · rw [show (((0 : Nat) : Int)) = 0 from rfl] at h1 h2
      simp only [Option.bind_some]
      rw [h1, h2]
      simp only [Option.bind_some]
      rw [if_pos (by simpa using he)]
      exact j2_is 0 e (by decide)
end Go.Proofs.YtiedenhkailolaaDoorK
