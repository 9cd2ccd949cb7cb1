/- The law SrecPuts. -/
import Derived.Test.YtphfmfbebcconaaDoorUSpB
namespace Go.Proofs.YtphfmfbebcconaaDoorK
set_option linter.unusedVariables false
set_option linter.unusedSimpArgs false
set_option maxHeartbeats 400000
open Go.RowKit
attribute [local irreducible] dwv mops lops lqops lwops kont iter run runK rk okK ex E1 vals val chain chB sel resF

def endL (start : Int) : srec_Line := ⟨9, start, []⟩
theorem endL_ok {start : Int} (h0 : 0 ≤ start) (h1 : start < 65536) : okL (endL start) :=
  ⟨.inr (.inr rfl), h0, h1, by show ([] : List Int).length ≤ 252; simp, fun _ => rfl, by intro x hx; simp [endL] at hx⟩
theorem dsg_ge (n : Int) (h : 0 ≤ n) : 48 ≤ dsg n := by unfold dsg; split <;> omega
theorem prs_ge : ∀ {l : List Int}, (∀ x ∈ l, 0 ≤ x ∧ x < 256) → ∀ x ∈ prs l, 48 ≤ x
  | [], _, x, hx => by simp [prs] at hx
  | c :: r, h, x, hx => by
    have hc := h c (by simp)
    rw [prs_cons] at hx
    simp only [List.mem_cons] at hx
    rcases hx with rfl | rfl | hx
    · exact dsg_ge _ (by omega)
    · exact dsg_ge _ (by omega)
    · exact prs_ge (fun y hy => h y (by simp [hy])) x hx
theorem textL_no10 {L : srec_Line} (h : okL L) : (10 : Int) ∉ textL L := fun hx => by
  have hk := h.kind
  unfold textL at hx
  simp only [List.mem_cons] at hx
  rcases hx with hx | hx | hx
  · omega
  · omega
  · have := prs_ge (T4_bytes h) _ hx
    omega
theorem textL_sbl {L : srec_Line} (h : okL L) : sbl (bs (textL L)) = textL L := sbl_bs (textL_bytes h)
theorem textL_ne {L : srec_Line} (h : okL L) : ¬ ((bs (textL L)).toList == (⟨#[]⟩ : ByteArray).toList) = true := by
  rw [teq, textL_sbl h]
  intro e
  have e0 : sbl (⟨#[]⟩ : ByteArray) = [] := rfl
  rw [e0] at e
  have := eq_of_beq e
  unfold textL at this
  simp at this
theorem cut_lines {X : List Int} : ∀ {Ls : List srec_Line}, (∀ L ∈ Ls, okL L) → cutAt 10 (linesB Ls ++ X) = Ls.map textL ++ cutAt 10 X
  | [], _ => by simp [linesB]
  | L :: r, h => by
    have hL := h L (by simp)
    have e : linesB (L :: r) ++ X = textL L ++ 10 :: (linesB r ++ X) := by
      rw [linesB_cons]; unfold lineB; simp
    rw [e, cutAt_app _ (textL_no10 hL), cut_lines fun y hy => h y (by simp [hy])]
    rfl
def toP (L : srec_Line) : srec_Piece := ⟨L.At, L.B⟩

theorem get_l0 {R : List ByteArray} (hR : R.length < 100000) {start : Int} (he : okL (endL start)) (S : List ByteArray) : ∀ (Ls : List srec_Line) (k i : Nat) (acc : List srec_Piece), R.drop i = (Ls.map fun L => bs (textL L)) ++ bs (textL (endL start)) :: S → (∀ L ∈ Ls, okN L) → Ls.length < k → acc.length ≤ i →
    srec_Get_l0 R k acc (i : Int) = some (.ret (acc ++ Ls.map toP, start, 0, 0))
  | _, 0, _, _, _, _, hk, _ => by omega
  | [], k + 1, i, acc, h, _, _, _ => by
    obtain ⟨e1, g1, h1⟩ := gtCons (show R.drop i = bs (textL (endL start)) :: S from h)
    have hs : (bs (textL (endL start))).size < 100000 := by rw [bs_size, textL_len]; show 2 * ([] : List Int).length + 10 < 100000; simp
    rw [srec_Get_l0, if_pos (decide_eq_true g1.2), if_pos g1, e1, if_neg (textL_ne he), sread_is hs, textL_sbl he, read_text he, Option.bind_some]
    simp only
    rw [if_neg (by decide), if_pos (by rfl)]
    simp [endL]
  | L :: r, k + 1, i, acc, h, hL, hk, ha => by
    obtain ⟨e1, g1, h1⟩ := gtCons (show R.drop i = bs (textL L) :: ((r.map fun L => bs (textL L)) ++ bs (textL (endL start)) :: S) from h)
    have hi := (dropAt (show R.drop i = bs (textL L) :: ((r.map fun L => bs (textL L)) ++ bs (textL (endL start)) :: S) from h)).2.2
    have ok := hL L (by simp)
    have hlen := ok.len
    have h0 := ok.ok.at0
    have hf := ok.fit
    have hpos := ok.pos
    have hs : (bs (textL L)).size < 100000 := by rw [bs_size, textL_len]; omega
    have w1 : IntKind.wrap .i64 L.At = L.At := wrap_i64 (by omega) (by omega)
    have w2 : IntKind.wrap .i64 (L.At + ln L.B) = L.At + (L.B.length : Int) := by unfold ln; exact wrap_i64 (by omega) (by omega)
    rw [srec_Get_l0, if_pos (decide_eq_true g1.2), if_pos g1, e1, if_neg (textL_ne ok.ok), sread_is hs, textL_sbl ok.ok, read_text ok.ok, Option.bind_some]
    simp only
    rw [if_neg (by decide), if_neg (by rw [ok.one]; decide), w1, w2, if_neg (by simp; intro _; omega), if_pos (by rw [ok.one]; simp [ln]; omega), if_pos (by simp only [List.length_cons, List.length_nil]; omega), wrapS (by omega)]
    rw [get_l0 hR he S r k (i + 1) _ h1 (fun y hy => hL y (by simp [hy])) (by simp only [List.length_cons] at hk; omega) (by simp; omega)]
    simp [toP]

theorem get_is {Ls : List srec_Line} {start : Int} (hL : ∀ L ∈ Ls, okN L) (he : okL (endL start)) (hn : Ls.length ≤ 2000) : srec_Get (bs (linesB Ls ++ lineB (endL start))) = some (Ls.map toP, start, 0, 0) := by
  have hB : ∀ x ∈ linesB Ls ++ lineB (endL start), 0 ≤ x ∧ x < 256 := fun x hx => by
    rcases List.mem_append.1 hx with hx | hx
    · exact linesB_bytes hL x hx
    · exact lineB_bytes he x hx
  have hl := linesB_len hL
  have hel := lineB_len (endL start)
  have hel' : (endL start).B.length = 0 := rfl
  have h10 : (((10 : UInt8).toNat : Nat) : Int) = 10 := rfl
  have hcut : cutAt 10 (linesB Ls ++ lineB (endL start)) = Ls.map textL ++ [textL (endL start), []] := by
    rw [cut_lines fun L h => (hL L h).ok]
    have e : lineB (endL start) = textL (endL start) ++ 10 :: [] := rfl
    rw [e, cutAt_app _ (textL_no10 he)]; rfl
  unfold srec_Get
  rw [show (⟨#[10]⟩ : ByteArray) = s1 10 from rfl, split_is _ 10 (by rw [bs_size, List.length_append]; omega), Option.bind_some]
  unfold pieces
  rw [h10, sbl_bs hB, hcut, List.map_append, List.map_map]
  have h := get_l0 (R := (Ls.map fun L => bs (textL L)) ++ [bs (textL (endL start)), bs []]) (by simp; omega) he [bs []] Ls BIG 0 [] rfl hL (by unfold BIG; omega) (by simp)
  rw [show (((0 : Nat) : Int)) = 0 from rfl] at h
  have e2 : Ls.map (bs ∘ textL) ++ [textL (endL start), []].map bs = (Ls.map fun L => bs (textL L)) ++ [bs (textL (endL start)), bs []] := rfl
  rw [e2, h]
  rfl

theorem lay_eq {m B : List Int} {a : Int} (h0 : 0 ≤ a) (h1 : a + (B.length : Int) ≤ m.length) : layM m ⟨a, B⟩ = m.take a.toNat ++ B ++ m.drop (a.toNat + B.length) := by
  unfold layM cpyL
  simp only
  have ht : B.take (m.length - a.toNat) = B := List.take_of_length_le (by omega)
  rw [if_pos (by omega), ht]
theorem lay_nil {m : List Int} {a : Int} (h0 : 0 ≤ a) (h1 : a ≤ m.length) : layM m ⟨a, []⟩ = m := by
  rw [lay_eq h0 (by simpa using h1)]
  simp
theorem lay_lay {m B1 B2 : List Int} {a : Int} {n : Nat} (hn : B1.length = n) (h0 : 0 ≤ a) (h1 : a + ((n + B2.length : Nat) : Int) ≤ m.length) : layM (layM m ⟨a, B1⟩) ⟨a + (n : Int), B2⟩ = layM m ⟨a, B1 ++ B2⟩ := by
  subst hn
  obtain ⟨k, rfl⟩ : ∃ k : Nat, a = k := ⟨a.toNat, by omega⟩
  have hl : (layM m ⟨(k : Int), B1⟩).length = m.length := layM_len _ _
  rw [lay_eq (by omega) (by rw [hl]; omega), lay_eq (m := m) (B := B1) (by omega) (by omega), lay_eq (m := m) (B := B1 ++ B2) (by omega) (by rw [List.length_append]; omega)]
  have e1 : ((k : Int) + (B1.length : Int)).toNat = k + B1.length := by omega
  rw [e1, Int.toNat_natCast]
  have e2 : (m.take k ++ B1).length = k + B1.length := by rw [List.length_append, List.length_take]; omega
  have t1 : (m.take k ++ B1 ++ m.drop (k + B1.length)).take (k + B1.length) = m.take k ++ B1 := by rw [← e2, List.take_left]
  have t2 : (m.take k ++ B1 ++ m.drop (k + B1.length)).drop (k + B1.length + B2.length) = m.drop (k + (B1 ++ B2).length) := by
    rw [← List.drop_drop, ← e2, List.drop_left, e2, List.drop_drop, List.length_append, Nat.add_assoc]
  rw [t1, t2]
  simp
theorem lns_lay : ∀ (f : Nat) (a : Int) (B m : List Int), m.length = 65536 → 0 ≤ a → a + (B.length : Int) ≤ 65536 → B.length ≤ f → ((lns f a B).map toP).foldl layM m = layM m ⟨a, B⟩
  | f, a, [], m, hm, h0, h1, _ => by
    rw [lns_nil, lay_nil h0 (by rw [hm]; simpa using h1)]; rfl
  | 0, a, x :: r, m, _, _, _, hf => by simp at hf
  | f + 1, a, x :: r, m, hm, h0, h1, hf => by
    rw [lns, List.map_cons, List.foldl_cons]
    simp only [List.length_cons] at h1 hf
    have hl : (layM m (toP ⟨1, a, (x :: r).take 32⟩)).length = 65536 := (layM_len _ _).trans hm
    have hd : ((x :: r).drop 32).length = r.length + 1 - 32 := by rw [List.length_drop, List.length_cons]
    have ht : ((x :: r).take 32).length = min 32 (r.length + 1) := by rw [List.length_take, List.length_cons]
    by_cases hs : r.length + 1 ≤ 32
    · have e1 : (x :: r).drop 32 = [] := List.drop_eq_nil_iff.2 (by simpa using hs)
      have e2 : (x :: r).take 32 = x :: r := List.take_of_length_le (by simpa using hs)
      rw [e1, lns_nil, e2]; rfl
    · rw [lns_lay f (a + 32) _ _ hl (by omega) (by rw [hd]; omega) (by rw [hd]; omega)]
      have := lay_lay (m := m) (B1 := (x :: r).take 32) (B2 := (x :: r).drop 32) (a := a) (n := 32) (by rw [ht]; omega) h0 (by rw [hm, hd]; omega)
      rw [List.take_append_drop] at this
      exact this
theorem all_lay : ∀ {l : List srec_Piece} {m : List Int}, (∀ p ∈ l, okP p) → m.length = 65536 → ((allL l).map toP).foldl layM m = l.foldl layM m
  | [], m, _, _ => by simp [allL]
  | p :: r, m, h, hm => by
    have hp := h p (by simp)
    rw [allL_cons, List.map_append, List.foldl_append, lns_lay 200 p.At p.B m hm hp.at0 hp.fit hp.len, List.foldl_cons]
    exact all_lay (fun q hq => h q (by simp [hq])) ((layM_len _ _).trans hm)
theorem load_l0 {l : List srec_Piece} (hN : l.length < 100000) (hA : ∀ p ∈ l, 0 ≤ p.At ∧ p.At < 65536) : ∀ (r : List srec_Piece) (k i : Nat) (m : List Int), l.drop i = r → r.length < k → m.length = 65536 → srec_Load_l0 l k m (i : Int) = some (r.foldl layM m)
  | _, 0, _, _, _, hk, _ => by omega
  | [], k + 1, i, m, h, _, _ => by
    rw [srec_Load_l0, if_neg (fun e => gtNil h (of_decide_eq_true e))]; rfl
  | p :: r, k + 1, i, m, h, hk, hm => by
    obtain ⟨e1, g1, h1⟩ := gtCons h
    have hi := (dropAt h).2.2
    have hp := hA p (List.mem_of_mem_drop (i := i) (by rw [h]; simp))
    rw [srec_Load_l0, if_pos (decide_eq_true g1.2), if_pos g1, e1, if_pos (by unfold ln; omega), wrapS (by omega)]
    exact load_l0 hN hA r k (i + 1) _ h1 (by simp only [List.length_cons] at hk; omega) (cpyL_len.trans hm)
def mem0 : List Int := rp 65536 (0 : Int)
theorem mem0_len : mem0.length = 65536 := by unfold mem0 rp; rw [List.length_replicate]; rfl
theorem load_is {l : List srec_Piece} (hN : l.length < 100000) (hA : ∀ p ∈ l, 0 ≤ p.At ∧ p.At < 65536) : srec_Load l = some (l.foldl layM mem0) := by
  have h := load_l0 hN hA l BIG 0 mem0 rfl (by unfold BIG; omega) mem0_len
  rw [show (((0 : Nat) : Int)) = 0 from rfl] at h
  unfold srec_Load
  rw [if_pos (by decide), show rp 65536 (0 : Int) = mem0 from rfl, h, Option.bind_some]

def okB (p : srec_Piece) : Bool := !((decide (200 < ln p.B)) || (decide (65536 < (IntKind.wrap .i64 ((IntKind.wrap .i64 p.At) + (ln p.B))))))
theorem fits_l0 {l : List srec_Piece} (hN : l.length < 100000) : ∀ (r : List srec_Piece) (k i : Nat), l.drop i = r → r.length < k → spinetlaw40_fits_l0 l k (i : Int) = some (if r.all okB = true then .go () else .ret false)
  | _, 0, _, _, hk => by omega
  | [], k + 1, i, h, _ => by
    rw [spinetlaw40_fits_l0, if_neg (fun e => gtNil h (of_decide_eq_true e))]; rfl
  | p :: r, k + 1, i, h, hk => by
    obtain ⟨e1, g1, h1⟩ := gtCons h
    have hi := (dropAt h).2.2
    have e2 : ((decide (200 < ln p.B)) || (decide (65536 < (IntKind.wrap .i64 ((IntKind.wrap .i64 p.At) + (ln p.B)))))) = !okB p := by unfold okB; rw [Bool.not_not]
    rw [spinetlaw40_fits_l0, if_pos (decide_eq_true g1.2), if_pos g1, if_pos (fun _ => g1), if_pos (fun _ => g1), e1, e2, wrapS (by omega), fits_l0 hN r k (i + 1) h1 (by simp only [List.length_cons] at hk; omega), List.all_cons]
    cases okB p <;> simp
theorem fits_is {l : List srec_Piece} (hN : l.length < 100000) : spinetlaw40_fits l = some (l.all okB) := by
  have h := fits_l0 hN l BIG 0 rfl (by unfold BIG; omega)
  rw [show (((0 : Nat) : Int)) = 0 from rfl] at h
  unfold spinetlaw40_fits
  rw [h]
  cases l.all okB <;> rfl

theorem put_is {l : List srec_Piece} (hN : l.length ≤ 10) (ok : ∀ p ∈ l, okP p) {start : Int} (he : okL (endL start)) : srec_Put start l = some (bs (linesB (allL l) ++ lineB (endL start))) := by
  have h := put_l2 hN ok l BIG 0 [] rfl (by unfold BIG; omega) (by simp)
  rw [show (((0 : Nat) : Int)) = 0 from rfl, List.nil_append] at h
  have hA := allL_ok ok
  have hl := linesB_len hA
  have hl2 := allL_len l
  have e10 : (⟨#[10]⟩ : ByteArray).size = 1 := rfl
  have hs : (bs (textL (endL start))).size = 10 := by rw [bs_size, textL_len]; rfl
  have hel : (lineB (endL start)).length = 11 := lineB_len _
  have ht : srec_Line_Text (srec_Line.mk 9 start []) = some (bs (textL (endL start))) := stext_is he
  unfold srec_Put
  rw [h, Option.bind_some, ht, Option.bind_some, if_pos (by rw [hs, e10]; omega), lineB_bs he, sbl_bs (lineB_bytes he), if_pos (by rw [bs_size]; omega), if_pos]
  rw [bytesB_iff]
  intro x hx
  rcases List.mem_append.1 hx with hx | hx
  · exact linesB_bytes hA x hx
  · exact lineB_bytes he x hx

theorem srecPuts_true (start : Int) (l : List srec_Piece) (hst : okI .u16 start) (hA : ∀ p ∈ l, okI .u16 p.At) (hB : ∀ p ∈ l, ∀ x ∈ p.B, okI .u8 x) : spinetlaw40_SrecPuts start l = some true := by
  unfold spinetlaw40_SrecPuts
  by_cases h10 : 10 < ln l
  · rw [if_neg (by simp [h10]), Option.bind_some, if_pos (by simp [h10])]
  have hN : l.length ≤ 10 := by unfold ln at h10; omega
  rw [if_pos (by simp [h10]), fits_is (by omega), Option.bind_some]
  cases hf : l.all okB with
  | false => rw [if_pos (by simp)]
  | true =>
    have ok : ∀ p ∈ l, okP p := fun p hp => by
      have h := List.all_eq_true.1 hf p hp
      have ha := okI_u16 (hA p hp)
      unfold okB at h
      have w1 : IntKind.wrap .i64 p.At = p.At := wrap_i64 (by omega) (by omega)
      rw [w1] at h
      simp only [Bool.not_eq_true', Bool.or_eq_false_iff, decide_eq_false_iff_not] at h
      have h1 : p.B.length ≤ 200 := by have := h.1; unfold ln at this; omega
      have w2 : IntKind.wrap .i64 (p.At + ln p.B) = p.At + (p.B.length : Int) := by unfold ln; exact wrap_i64 (by omega) (by omega)
      rw [w2] at h
      exact ⟨ha.1, ha.2, h1, by omega, okBytes (hB p hp)⟩
    have hs := okI_u16 hst
    have he := endL_ok hs.1 hs.2
    have hAll := allL_ok ok
    have hAn := allL_len l
    have hl := linesB_len hAll
    have h2 := law_l2 hN ok l BIG 0 mem0 [] rfl (by unfold BIG; omega) (by simp) mem0_len
    rw [show (((0 : Nat) : Int)) = 0 from rfl, List.nil_append] at h2
    have e10 : (⟨#[10]⟩ : ByteArray).size = 1 := rfl
    have hsz : (bs (textL (endL start))).size = 10 := by rw [bs_size, textL_len]; rfl
    have hel : (lineB (endL start)).length = 11 := lineB_len _
    have ht : spinetref40_Text (spinetref40_Line.mk 9 start []) = some (bs (textL (endL start))) := rtext1 he
    have hback : ∀ p ∈ (allL l).map toP, okP p := fun p hp => by
      obtain ⟨L, h1, rfl⟩ := List.mem_map.1 hp
      have := hAll L h1
      have h32 := this.len
      exact ⟨this.ok.at0, this.ok.at1, by show L.B.length ≤ 200; omega, this.fit, this.ok.bytes⟩
    have hbackB : ((allL l).map toP).all okB = true := by
      rw [List.all_eq_true]
      intro p hp
      have h := hback p hp
      have h0 := h.at0
      have h1 := h.at1
      have h2 := h.len
      have h3 := h.fit
      have w1 : IntKind.wrap .i64 p.At = p.At := wrap_i64 (by omega) (by omega)
      have w2 : IntKind.wrap .i64 (p.At + ln p.B) = p.At + (p.B.length : Int) := by unfold ln; exact wrap_i64 (by omega) (by omega)
      unfold okB
      rw [w1, w2, Bool.not_eq_true', Bool.or_eq_false_iff, decide_eq_false_iff_not, decide_eq_false_iff_not]
      unfold ln
      omega
    have hload1 := load_is (l := l) (by omega) fun p hp => ⟨(ok p hp).at0, (ok p hp).at1⟩
    have hload2 := load_is (l := (allL l).map toP) (by rw [List.length_map]; omega) fun p hp => ⟨(hback p hp).at0, (hback p hp).at1⟩
    rw [all_lay ok mem0_len] at hload2
    rw [if_neg (by simp [h10]), if_pos (by decide), show rp 65536 (0 : Int) = mem0 from rfl, show (⟨#[]⟩ : ByteArray) = bs [] from rfl, h2, Option.bind_some]
    simp only
    rw [ht, Option.bind_some, if_pos (by rw [hsz, e10]; omega), lineB_bs he, if_pos (by rw [bs_size, bs_size]; omega), put_is hN ok he, Option.bind_some, get_is hAll he (by omega), Option.bind_some, ← bs_app]
    simp only [beq_self_eq_true, bne_self_eq_false, Bool.not_true, Bool.or_false, Bool.not_false, if_true]
    rw [fits_is (by rw [List.length_map]; omega), hbackB, Option.bind_some, hload1, Option.bind_some]
    simp only [Bool.not_true, Bool.false_eq_true, if_false]
    unfold bytes_Equal
    simp only [Option.bind_some, beq_self_eq_true, if_true, hload2, Bool.and_self, alive40]
    rfl
end Go.Proofs.YtphfmfbebcconaaDoorK
