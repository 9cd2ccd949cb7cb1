/- The functions, over typed data. Printed by a program of this work. -/
import Derived.Test.YtfdadnldlngmeaaRj
namespace Go.Proofs.YtfdadnldlngmeaaK
set_option linter.unusedVariables false
set_option linter.unusedSimpArgs false
set_option maxHeartbeats 4000000
open Go.RowKit
attribute [local irreducible] dwv mops lops lqops lwops kont iter run runK rk okK ex E1 vals val chain chB sel resF
structure api_Rec where
  Addr : Int
  Data : Int
  Read : Bool
  BA : Bool
  BS : Bool
  LIC : Bool
  AVMA : Bool
  BUSY : Bool
  Mine : Bool
instance : Inhabited api_Rec := ⟨⟨0, 0, false, false, false, false, false, false, false⟩⟩
def api_Rec.v (x : api_Rec) : List V := [.s (.int .u16 x.Addr), .s (.int .u8 x.Data), .s (.bool x.Read), .s (.bool x.BA), .s (.bool x.BS), .s (.bool x.LIC), .s (.bool x.AVMA), .s (.bool x.BUSY), .s (.bool x.Mine)]
instance : Cells api_Rec.v 9 := ⟨fun _ => rfl, fun _ => rfl, fun _ => rfl⟩
def sl_api_Rec (x : (List api_Rec)) : List V := [.sl false x.length (cat api_Rec.v x)]
instance : Cells sl_api_Rec 1 := ⟨fun _ => rfl, fun _ => by simp [sl_api_Rec, statics, V.static, cat_stat], fun _ => rfl⟩
structure slice_Part where
  Recs : (List api_Rec)
  Ended : Bool
instance : Inhabited slice_Part := ⟨⟨[], false⟩⟩
def slice_Part.v (x : slice_Part) : List V := [.sl false x.Recs.length (cat api_Rec.v x.Recs), .s (.bool x.Ended)]
instance : Cells slice_Part.v 2 := ⟨fun _ => rfl, fun _ => by simp [slice_Part.v, statics, V.static, cat_stat], fun _ => rfl⟩
def sl_slice_Part (x : (List slice_Part)) : List V := [.sl false x.length (cat slice_Part.v x)]
instance : Cells sl_slice_Part 1 := ⟨fun _ => rfl, fun _ => by simp [sl_slice_Part, statics, V.static, cat_stat], fun _ => rfl⟩
def sl_u8 (x : (List Int)) : List V := [.sl false x.length (cat (nI .u8) x)]
instance : Cells sl_u8 1 := ⟨fun _ => rfl, fun _ => by simp [sl_u8, statics, V.static, cat_stat], fun _ => rfl⟩
structure A16_u8 where
  a0 : Int
  a1 : Int
  a2 : Int
  a3 : Int
  a4 : Int
  a5 : Int
  a6 : Int
  a7 : Int
  a8 : Int
  a9 : Int
  a10 : Int
  a11 : Int
  a12 : Int
  a13 : Int
  a14 : Int
  a15 : Int
instance : Inhabited A16_u8 := ⟨⟨0, 0, 0, 0, 0, 0, 0, 0, 0, 0, 0, 0, 0, 0, 0, 0⟩⟩
def A16_u8.v (x : A16_u8) : List V := [.s (.int .u8 x.a0), .s (.int .u8 x.a1), .s (.int .u8 x.a2), .s (.int .u8 x.a3), .s (.int .u8 x.a4), .s (.int .u8 x.a5), .s (.int .u8 x.a6), .s (.int .u8 x.a7), .s (.int .u8 x.a8), .s (.int .u8 x.a9), .s (.int .u8 x.a10), .s (.int .u8 x.a11), .s (.int .u8 x.a12), .s (.int .u8 x.a13), .s (.int .u8 x.a14), .s (.int .u8 x.a15)]
instance : Cells A16_u8.v 16 := ⟨fun _ => rfl, fun _ => rfl, fun _ => rfl⟩
structure A7_bool where
  a0 : Bool
  a1 : Bool
  a2 : Bool
  a3 : Bool
  a4 : Bool
  a5 : Bool
  a6 : Bool
instance : Inhabited A7_bool := ⟨⟨false, false, false, false, false, false, false⟩⟩
def A7_bool.v (x : A7_bool) : List V := [.s (.bool x.a0), .s (.bool x.a1), .s (.bool x.a2), .s (.bool x.a3), .s (.bool x.a4), .s (.bool x.a5), .s (.bool x.a6)]
instance : Cells A7_bool.v 7 := ⟨fun _ => rfl, fun _ => rfl, fun _ => rfl⟩
def slice_Cut_l0 (l_ : (List api_Rec)) : Nat → (List slice_Part) → (List api_Rec) → Int → Option ((List slice_Part) × (List api_Rec))
  | 0, _, _, _ => none
  | k + 1, l_3, l_4, t_1 =>
    if (decide (t_1 < (ln l_))) = true then
      if 0 ≤ (t_1 : Int) ∧ t_1 < ln l_ then
      if (l_4.length + [(gt l_ t_1)].length) * 10 ≤ 140737488355328 then
      if ((gt l_ t_1).Mine && (gt l_ t_1).LIC) = true then
        if (l_3.length + [(slice_Part.mk (l_4 ++ [(gt l_ t_1)]) true)].length) * 32 ≤ 140737488355328 then
        slice_Cut_l0 l_ k (l_3 ++ [(slice_Part.mk (l_4 ++ [(gt l_ t_1)]) true)]) ([] : List api_Rec) (IntKind.wrap .i64 (t_1 + 1))
        else none
      else
        slice_Cut_l0 l_ k l_3 (l_4 ++ [(gt l_ t_1)]) (IntKind.wrap .i64 (t_1 + 1))
      else none
      else none
    else
      some (l_3, l_4)
def slice_Cut (l_ : (List api_Rec)) : Option ((List slice_Part)) :=
  (slice_Cut_l0 l_ BIG ([] : List slice_Part) ([] : List api_Rec) (0)).bind fun (l_5, l_6) =>
  if (decide (0 < (ln l_6))) = true then
    if (l_5.length + [(slice_Part.mk l_6 false)].length) * 32 ≤ 140737488355328 then
    some (l_5 ++ [(slice_Part.mk l_6 false)])
    else none
  else
    some l_5
def slices_Equal_sl_api_Rec_api_Rec_l0 (s1_ : (List api_Rec)) (s2_ : (List api_Rec)) : Nat → Int → Option (Out (Bool) (Unit))
  | 0, _ => none
  | k + 1, t_1 =>
    if (decide (t_1 < (ln s1_))) = true then
      if 0 ≤ (t_1 : Int) ∧ t_1 < ln s1_ then
      if 0 ≤ (t_1 : Int) ∧ t_1 < ln s2_ then
      if (!(((gt s1_ t_1).Addr == (gt s2_ t_1).Addr) && (((gt s1_ t_1).Data == (gt s2_ t_1).Data) && (((gt s1_ t_1).Read == (gt s2_ t_1).Read) && (((gt s1_ t_1).BA == (gt s2_ t_1).BA) && (((gt s1_ t_1).BS == (gt s2_ t_1).BS) && (((gt s1_ t_1).LIC == (gt s2_ t_1).LIC) && (((gt s1_ t_1).AVMA == (gt s2_ t_1).AVMA) && (((gt s1_ t_1).BUSY == (gt s2_ t_1).BUSY) && (((gt s1_ t_1).Mine == (gt s2_ t_1).Mine) && true)))))))))) = true then
        some (.ret false)
      else
        slices_Equal_sl_api_Rec_api_Rec_l0 s1_ s2_ k (IntKind.wrap .i64 (t_1 + 1))
      else none
      else none
    else
      some (.go ())
def slices_Equal_sl_api_Rec_api_Rec (s1_ : (List api_Rec)) (s2_ : (List api_Rec)) : Option (Bool) :=
  if ((ln s1_) != (ln s2_)) = true then
    some false
  else
    (slices_Equal_sl_api_Rec_api_Rec_l0 s1_ s2_ BIG (0)).bind fun o => match o with
      | .ret r => some r
      | .go _ =>
        some true
def slice_Part_Start_l0 (p_ : slice_Part) : Nat → Int → Option (Out (Int × Bool) (Unit))
  | 0, _ => none
  | k + 1, t_1 =>
    if (decide (t_1 < (ln p_.Recs))) = true then
      if 0 ≤ (t_1 : Int) ∧ t_1 < ln p_.Recs then
      if (gt p_.Recs t_1).Mine = true then
        some (.ret ((gt p_.Recs t_1).Addr, true))
      else
        slice_Part_Start_l0 p_ k (IntKind.wrap .i64 (t_1 + 1))
      else none
    else
      some (.go ())
def slice_Part_Start (p_ : slice_Part) : Option (Int × Bool) :=
  (slice_Part_Start_l0 p_ BIG (0)).bind fun o => match o with
    | .ret r => some r
    | .go _ =>
      some (0, false)
def slice_Part_Vector_l0 (p_ : slice_Part) : Nat → Int → Option (Out (Int × Bool) (Unit))
  | 0, _ => none
  | k + 1, t_1 =>
    if (decide (t_1 < (ln p_.Recs))) = true then
      if 0 ≤ (t_1 : Int) ∧ t_1 < ln p_.Recs then
      if (((gt p_.Recs t_1).Mine && (gt p_.Recs t_1).BS) && (!(gt p_.Recs t_1).BA)) = true then
        some (.ret ((gt p_.Recs t_1).Addr, true))
      else
        slice_Part_Vector_l0 p_ k (IntKind.wrap .i64 (t_1 + 1))
      else none
    else
      some (.go ())
def slice_Part_Vector (p_ : slice_Part) : Option (Int × Bool) :=
  (slice_Part_Vector_l0 p_ BIG (0)).bind fun o => match o with
    | .ret r => some r
    | .go _ =>
      some (0, false)
def digit_sign (n_ : Int) : Option (Int) :=
  if (decide (n_ < 10)) = true then
    some (IntKind.wrap .u8 (48 + n_))
  else
    some (IntKind.wrap .u8 ((IntKind.wrap .u8 (65 + n_)) - 10))
def digit_Pairs_l0 (b_ : (List Int)) : Nat → (List Int) → Int → Option (List Int)
  | 0, _, _ => none
  | k + 1, l_1, t_1 =>
    if (decide (t_1 < (ln b_))) = true then
      if 0 ≤ (t_1 : Int) ∧ t_1 < ln b_ then
      (digit_sign (Int.fdiv (gt b_ t_1) (2 ^ (4)))).bind fun r_4 =>
      (digit_sign (bits .and .u8 (gt b_ t_1) 15)).bind fun r_5 =>
      if (l_1.length + [r_4, r_5].length) * 1 ≤ 140737488355328 then
      digit_Pairs_l0 b_ k (l_1 ++ [r_4, r_5]) (IntKind.wrap .i64 (t_1 + 1))
      else none
      else none
    else
      some l_1
def digit_Pairs (b_ : (List Int)) : Option (ByteArray) :=
  if 0 ≤ (0 : Int) ∧ (0 : Int) ≤ (IntKind.wrap .i64 (2 * (ln b_))) ∧ ((IntKind.wrap .i64 (2 * (ln b_))) : Int) * 1 ≤ 281474976710656 ∧ ((IntKind.wrap .i64 (2 * (ln b_))) : Int) ≤ 281474976710656 then
  (digit_Pairs_l0 b_ BIG (rp (0) (0 : Int)) (0)).bind fun l_2 =>
  some (bs l_2)
  else none
def digit_Hex_l0 (width_ : Int) : Nat → (List Int) → Int → Int → Option ((List Int) × Int)
  | 0, _, _, _ => none
  | k + 1, l_1, t_1, i_1 =>
    if (((decide (0 < t_1)) || (i_1 == 16)) || (decide ((IntKind.wrap .i64 (16 - i_1)) < (if 16 < width_ then 16 else width_)))) = true then
      (digit_sign (IntKind.wrap .u8 (bits .and .u64 t_1 15))).bind fun r_2 =>
      if 0 ≤ ((IntKind.wrap .i64 (i_1 - 1)) : Int) ∧ (IntKind.wrap .i64 (i_1 - 1)) < (16 : Int) then
      digit_Hex_l0 width_ k (st l_1 (IntKind.wrap .i64 (i_1 - 1)) r_2) (Int.fdiv t_1 (2 ^ (4))) (IntKind.wrap .i64 (i_1 - 1))
      else none
    else
      some (l_1, i_1)
def digit_Hex (n_ : Int) (width_ : Int) : Option (ByteArray) :=
  (digit_Hex_l0 width_ BIG [0, 0, 0, 0, 0, 0, 0, 0, 0, 0, 0, 0, 0, 0, 0, 0] n_ (16)).bind fun (l_2, i_2) =>
  if 0 ≤ (i_2 : Int) ∧ i_2 ≤ (16 : Int) then
  some (bs ((l_2.drop (i_2 : Int).toNat).take (16 - (i_2 : Int).toNat)))
  else none
def record_lines (r_ : api_Rec) : Option (A7_bool) :=
  some (A7_bool.mk r_.Read r_.BA r_.BS r_.LIC r_.AVMA r_.BUSY r_.Mine)
def record_Text_l0 (r_3 : (A7_bool)) : Nat → (List Int) → Int → Option (List Int)
  | 0, _, _ => none
  | k + 1, l_1, t_1 =>
    if (decide (t_1 < 7)) = true then
      if 0 ≤ (t_1 : Int) ∧ t_1 < (7 : Int) then
      if (!(gt [r_3.a0, r_3.a1, r_3.a2, r_3.a3, r_3.a4, r_3.a5, r_3.a6] t_1)) = true then
        record_Text_l0 r_3 k l_1 (IntKind.wrap .i64 (t_1 + 1))
      else
        if (t_1 == 0) = true then
          if 0 ≤ (8 : Int) ∧ 8 < ln l_1 then
          record_Text_l0 r_3 k (st l_1 (8) (82)) (IntKind.wrap .i64 (t_1 + 1))
          else none
        else
          if (t_1 == 6) = true then
            if 0 ≤ (16 : Int) ∧ 16 < ln l_1 then
            record_Text_l0 r_3 k (st l_1 (16) (77)) (IntKind.wrap .i64 (t_1 + 1))
            else none
          else
            if 0 ≤ ((IntKind.wrap .i64 (t_1 - 1)) : Int) ∧ (IntKind.wrap .i64 (t_1 - 1)) < sln (⟨#[65, 83, 76, 86, 66]⟩ : ByteArray) then
            if 0 ≤ ((IntKind.wrap .i64 (9 + t_1)) : Int) ∧ (IntKind.wrap .i64 (9 + t_1)) < ln l_1 then
            record_Text_l0 r_3 k (st l_1 (IntKind.wrap .i64 (9 + t_1)) (bt (⟨#[65, 83, 76, 86, 66]⟩ : ByteArray) (IntKind.wrap .i64 (t_1 - 1)))) (IntKind.wrap .i64 (t_1 + 1))
            else none
            else none
      else none
    else
      some l_1
def record_Text (r_ : api_Rec) : Option (ByteArray) :=
  (digit_Hex (IntKind.wrap .u64 r_.Addr) (4)).bind fun r_1 =>
  if ((r_1.size + (⟨#[32]⟩ : ByteArray).size : Nat) : Int) ≤ 9223372036854775807 then
  (digit_Pairs [r_.Data]).bind fun r_2 =>
  if (((r_1 ++ (⟨#[32]⟩ : ByteArray)).size + r_2.size : Nat) : Int) ≤ 9223372036854775807 then
  if ((((r_1 ++ (⟨#[32]⟩ : ByteArray)) ++ r_2).size + (⟨#[32, 87, 32, 45, 45, 45, 45, 45, 32, 45]⟩ : ByteArray).size : Nat) : Int) ≤ 9223372036854775807 then
  if (((r_1 ++ (⟨#[32]⟩ : ByteArray)) ++ r_2) ++ (⟨#[32, 87, 32, 45, 45, 45, 45, 45, 32, 45]⟩ : ByteArray)).size ≤ 140737488355328 then
  (record_lines r_).bind fun r_3 =>
  (record_Text_l0 r_3 BIG (sbl (((r_1 ++ (⟨#[32]⟩ : ByteArray)) ++ r_2) ++ (⟨#[32, 87, 32, 45, 45, 45, 45, 45, 32, 45]⟩ : ByteArray))) (0)).bind fun l_2 =>
  some (bs l_2)
  else none
  else none
  else none
  else none
def record_Lines_l0 (l_ : (List api_Rec)) : Nat → (List Int) → Int → Option (List Int)
  | 0, _, _ => none
  | k + 1, l_2, t_1 =>
    if (decide (t_1 < (ln l_))) = true then
      if 0 ≤ (t_1 : Int) ∧ t_1 < ln l_ then
      (record_Text (gt l_ t_1)).bind fun r_2 =>
      if (l_2.length + r_2.size) * 1 ≤ 140737488355328 then
      if ((l_2 ++ (sbl r_2)).length + [10].length) * 1 ≤ 140737488355328 then
      record_Lines_l0 l_ k ((l_2 ++ (sbl r_2)) ++ [10]) (IntKind.wrap .i64 (t_1 + 1))
      else none
      else none
      else none
    else
      some l_2
def record_Lines (l_ : (List api_Rec)) : Option (ByteArray) :=
  (record_Lines_l0 l_ BIG ([] : List Int) (0)).bind fun l_3 =>
  if bytesB l_3 = true then
  some (bs l_3)
  else none
def slice_Part_Own_l0 (p_ : slice_Part) : Nat → Int → Int → Option Int
  | 0, _, _ => none
  | k + 1, n_1, t_1 =>
    if (decide (t_1 < (ln p_.Recs))) = true then
      if 0 ≤ (t_1 : Int) ∧ t_1 < ln p_.Recs then
      if (gt p_.Recs t_1).Mine = true then
        slice_Part_Own_l0 p_ k (IntKind.wrap .i64 (n_1 + 1)) (IntKind.wrap .i64 (t_1 + 1))
      else
        slice_Part_Own_l0 p_ k n_1 (IntKind.wrap .i64 (t_1 + 1))
      else none
    else
      some n_1
def slice_Part_Own (p_ : slice_Part) : Option (Int) :=
  (slice_Part_Own_l0 p_ BIG (0) (0)).bind fun n_2 =>
  some n_2
def slice_Part_Lost (p_ : slice_Part) : Option (Int) :=
  (slice_Part_Own p_).bind fun r_ =>
  some (IntKind.wrap .i64 ((ln p_.Recs) - r_))
def slice_Part_Writes_l0 (p_ : slice_Part) : Nat → (List api_Rec) → Int → Option (List api_Rec)
  | 0, _, _ => none
  | k + 1, l_1, t_1 =>
    if (decide (t_1 < (ln p_.Recs))) = true then
      if 0 ≤ (t_1 : Int) ∧ t_1 < ln p_.Recs then
      if ((gt p_.Recs t_1).Mine && (!(gt p_.Recs t_1).Read)) = true then
        if (l_1.length + [(gt p_.Recs t_1)].length) * 10 ≤ 140737488355328 then
        slice_Part_Writes_l0 p_ k (l_1 ++ [(gt p_.Recs t_1)]) (IntKind.wrap .i64 (t_1 + 1))
        else none
      else
        slice_Part_Writes_l0 p_ k l_1 (IntKind.wrap .i64 (t_1 + 1))
      else none
    else
      some l_1
def slice_Part_Writes (p_ : slice_Part) : Option ((List api_Rec)) :=
  (slice_Part_Writes_l0 p_ BIG ([] : List api_Rec) (0)).bind fun l_2 =>
  some l_2
def slice_Part_Text (p_ : slice_Part) : Option (ByteArray) :=
  (record_Lines p_.Recs).bind fun r_ =>
  if p_.Ended = true then
    if ((r_.size + (⟨#[45, 10]⟩ : ByteArray).size : Nat) : Int) ≤ 9223372036854775807 then
    some (r_ ++ (⟨#[45, 10]⟩ : ByteArray))
    else none
  else
    some r_
def spinetlaw48_told_j0 (rec : (List api_Rec) → Int → Int → Int → Bool → Bool → Int → Option ((List api_Rec) × Int × Int × Int × Bool × Bool)) (p_ : slice_Part) (l_1 : (List api_Rec)) (own_1 : Int) (i_1 : Int) (start_5 : Int) (some_5 : Bool) (vector_5 : Int) (reads_5 : Bool) : Option ((List api_Rec) × Int × Int × Int × Bool × Bool) :=
  if (!(gt p_.Recs i_1).Read) = true then
    if (l_1.length + [(gt p_.Recs i_1)].length) * 10 ≤ 140737488355328 then
    rec (l_1 ++ [(gt p_.Recs i_1)]) (IntKind.wrap .i64 (own_1 + 1)) start_5 vector_5 some_5 reads_5 (IntKind.wrap .i64 (i_1 + 1))
    else none
  else
    rec l_1 (IntKind.wrap .i64 (own_1 + 1)) start_5 vector_5 some_5 reads_5 (IntKind.wrap .i64 (i_1 + 1))
def spinetlaw48_told_j1 (rec : (List api_Rec) → Int → Int → Int → Bool → Bool → Int → Option ((List api_Rec) × Int × Int × Int × Bool × Bool)) (p_ : slice_Part) (l_1 : (List api_Rec)) (own_1 : Int) (vector_3 : Int) (reads_3 : Bool) (i_1 : Int) (start_5 : Int) (some_5 : Bool) : Option ((List api_Rec) × Int × Int × Int × Bool × Bool) :=
  if (((gt p_.Recs i_1).BS && (!(gt p_.Recs i_1).BA)) && (!reads_3)) = true then
    spinetlaw48_told_j0 (rec) p_ l_1 own_1 i_1 start_5 some_5 ((gt p_.Recs i_1).Addr) true
  else
    spinetlaw48_told_j0 (rec) p_ l_1 own_1 i_1 start_5 some_5 vector_3 reads_3
def spinetlaw48_told_l0 (p_ : slice_Part) : Nat → (List api_Rec) → Int → Int → Int → Bool → Bool → Int → Option ((List api_Rec) × Int × Int × Int × Bool × Bool)
  | 0, _, _, _, _, _, _, _ => none
  | k + 1, l_1, own_1, start_3, vector_3, some_3, reads_3, i_1 =>
    if (decide (i_1 < (ln p_.Recs))) = true then
      if 0 ≤ (i_1 : Int) ∧ i_1 < ln p_.Recs then
      if (!(gt p_.Recs i_1).Mine) = true then
        spinetlaw48_told_l0 p_ k l_1 own_1 start_3 vector_3 some_3 reads_3 (IntKind.wrap .i64 (i_1 + 1))
      else
        if (!some_3) = true then
          spinetlaw48_told_j1 (spinetlaw48_told_l0 p_ k) p_ l_1 own_1 vector_3 reads_3 i_1 ((gt p_.Recs i_1).Addr) true
        else
          spinetlaw48_told_j1 (spinetlaw48_told_l0 p_ k) p_ l_1 own_1 vector_3 reads_3 i_1 start_3 some_3
      else none
    else
      some (l_1, own_1, start_3, vector_3, some_3, reads_3)
def spinetlaw48_told_j2 (p_ : slice_Part) (l_2 : (List api_Rec)) (own_2 : Int) (start_4 : Int) (vector_4 : Int) (some_4 : Bool) (reads_4 : Bool) (r_ : (Int × Bool)) (r_1 : (Int × Bool)) (want_ : ByteArray) : Option (Bool) :=
  (slice_Part_Own p_).bind fun r_3 =>
  ((if (r_3 == own_2) = true then slice_Part_Lost p_ else some default)).bind fun r_4 =>
  ((if ((((((r_3 == own_2) && (r_4 == (IntKind.wrap .i64 ((ln p_.Recs) - own_2)))) && (r_.1 == start_4)) && (r_.2 == some_4)) && (r_1.1 == vector_4)) && (r_1.2 == reads_4)) = true then slice_Part_Writes p_ else some default)).bind fun r_5 =>
  ((if ((((((r_3 == own_2) && (r_4 == (IntKind.wrap .i64 ((ln p_.Recs) - own_2)))) && (r_.1 == start_4)) && (r_.2 == some_4)) && (r_1.1 == vector_4)) && (r_1.2 == reads_4)) = true then slices_Equal_sl_api_Rec_api_Rec r_5 l_2 else some default)).bind fun r_6 =>
  ((if (((((((r_3 == own_2) && (r_4 == (IntKind.wrap .i64 ((ln p_.Recs) - own_2)))) && (r_.1 == start_4)) && (r_.2 == some_4)) && (r_1.1 == vector_4)) && (r_1.2 == reads_4)) && r_6) = true then slice_Part_Text p_ else some default)).bind fun r_7 =>
  some ((((((((r_3 == own_2) && (r_4 == (IntKind.wrap .i64 ((ln p_.Recs) - own_2)))) && (r_.1 == start_4)) && (r_.2 == some_4)) && (r_1.1 == vector_4)) && (r_1.2 == reads_4)) && r_6) && (r_7.toList == want_.toList))
def spinetlaw48_told (p_ : slice_Part) : Option (Bool) :=
  (spinetlaw48_told_l0 p_ BIG ([] : List api_Rec) (0) (0) (0) false false (0)).bind fun (l_2, own_2, start_4, vector_4, some_4, reads_4) =>
  (slice_Part_Start p_).bind fun r_ =>
  (slice_Part_Vector p_).bind fun r_1 =>
  (record_Lines p_.Recs).bind fun r_2 =>
  if p_.Ended = true then
    if ((r_2.size + (⟨#[45, 10]⟩ : ByteArray).size : Nat) : Int) ≤ 9223372036854775807 then
    spinetlaw48_told_j2 p_ l_2 own_2 start_4 vector_4 some_4 reads_4 r_ r_1 (r_2 ++ (⟨#[45, 10]⟩ : ByteArray))
    else none
  else
    spinetlaw48_told_j2 p_ l_2 own_2 start_4 vector_4 some_4 reads_4 r_ r_1 r_2
def spinetlaw48_alive : Option (Bool) :=
  (slice_Cut [(api_Rec.mk (5) (0) false false false true false false true)]).bind fun r_ =>
  (slice_Cut ([] : List api_Rec)).bind fun r_1 =>
  if (((ln r_1) == 0) && ((ln r_) == 1)) = true → 0 ≤ (0 : Int) ∧ 0 < ln r_ then
  if ((((ln r_1) == 0) && ((ln r_) == 1)) && (gt r_ (0)).Ended) = true → 0 ≤ (0 : Int) ∧ 0 < ln r_ then
  ((if ((((ln r_1) == 0) && ((ln r_) == 1)) && (gt r_ (0)).Ended) = true then slice_Part_Own (gt r_ (0)) else some default)).bind fun r_2 =>
  some (((((ln r_1) == 0) && ((ln r_) == 1)) && (gt r_ (0)).Ended) && (r_2 == 1))
  else none
  else none
def spinetlaw48_SliceCuts_l3 (r_ : ((List slice_Part))) (i_1 : Int) : Nat → Int → Option (Out (Bool) (Int × Int × Bool))
  | 0, _ => none
  | k + 1, k_7 =>
    if (decide (k_7 < (ln ((gt r_ i_1).Recs)))) = true then
      if 0 ≤ (k_7 : Int) ∧ k_7 < ln ((gt r_ i_1).Recs) then
      if (gt ((gt r_ i_1).Recs) k_7).Mine = true → 0 ≤ (k_7 : Int) ∧ k_7 < ln ((gt r_ i_1).Recs) then
      if (!(((gt ((gt r_ i_1).Recs) k_7).Mine && (gt ((gt r_ i_1).Recs) k_7).LIC) == ((gt r_ i_1).Ended && ((IntKind.wrap .i64 (k_7 + 1)) == (ln ((gt r_ i_1).Recs)))))) = true then
        some (.ret false)
      else
        spinetlaw48_SliceCuts_l3 r_ i_1 k (IntKind.wrap .i64 (k_7 + 1))
      else none
      else none
    else
      some (.go (k_7, k_7, (decide (k_7 < (ln ((gt r_ i_1).Recs))))))
def spinetlaw48_SliceCuts_l2 (r_ : ((List slice_Part))) : Nat → (List api_Rec) → Int → Option (Out (Bool) (List api_Rec))
  | 0, _, _ => none
  | k + 1, l_2, i_1 =>
    if (decide (i_1 < (ln r_))) = true then
      if 0 ≤ (i_1 : Int) ∧ i_1 < ln r_ then
      ((if (!(((ln ((gt r_ i_1).Recs)) == 0) || ((!(gt r_ i_1).Ended) && (decide ((IntKind.wrap .i64 (i_1 + 1)) < (ln r_)))))) = true then spinetlaw48_told (gt r_ i_1) else some default)).bind fun r_3 =>
      if ((((ln ((gt r_ i_1).Recs)) == 0) || ((!(gt r_ i_1).Ended) && (decide ((IntKind.wrap .i64 (i_1 + 1)) < (ln r_))))) || (!r_3)) = true then
        some (.ret false)
      else
        (spinetlaw48_SliceCuts_l3 r_ i_1 BIG (0)).bind fun o => match o with
          | .ret r => some (.ret r)
          | .go (k_8, t_4, t_5) =>
            if (l_2.length + ((gt r_ i_1).Recs).length) * 10 ≤ 140737488355328 then
            spinetlaw48_SliceCuts_l2 r_ k (l_2 ++ ((gt r_ i_1).Recs)) (IntKind.wrap .i64 (i_1 + 1))
            else none
      else none
    else
      some (.go l_2)
def spinetlaw48_SliceCuts (l_ : (List api_Rec)) : Option (Bool) :=
  if (decide (200 < (ln l_))) = true then
    some true
  else
    (slice_Cut l_).bind fun r_ =>
    (spinetlaw48_SliceCuts_l2 r_ BIG ([] : List api_Rec) (0)).bind fun o => match o with
      | .ret r => some r
      | .go l_3 =>
        (slices_Equal_sl_api_Rec_api_Rec l_3 l_).bind fun r_4 =>
        ((if r_4 = true then spinetlaw48_alive else some default)).bind fun r_5 =>
        some (r_4 && r_5)
end Go.Proofs.YtfdadnldlngmeaaK
