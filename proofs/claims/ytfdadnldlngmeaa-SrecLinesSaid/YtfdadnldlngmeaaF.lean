/- The functions, over typed data. Printed by a program of this work. -/
import Derived.Test.YtfdadnldlngmeaaRg
namespace Go.Proofs.YtfdadnldlngmeaaK
set_option linter.unusedVariables false
set_option linter.unusedSimpArgs false
set_option maxHeartbeats 4000000
open Go.RowKit
attribute [local irreducible] dwv mops lops lqops lwops kont iter run runK rk okK ex E1 vals val chain chB sel resF
def sl_u8 (x : (List Int)) : List V := [.sl false x.length (cat (nI .u8) x)]
instance : Cells sl_u8 1 := ⟨fun _ => rfl, fun _ => by simp [sl_u8, statics, V.static, cat_stat], fun _ => rfl⟩
structure srec_Line where
  Kind : Int
  At : Int
  B : (List Int)
instance : Inhabited srec_Line := ⟨⟨0, 0, []⟩⟩
def srec_Line.v (x : srec_Line) : List V := [.s (.int .i64 x.Kind), .s (.int .u16 x.At), .sl false x.B.length (cat (nI .u8) x.B)]
instance : Cells srec_Line.v 3 := ⟨fun _ => rfl, fun _ => by simp [srec_Line.v, statics, V.static, cat_stat], fun _ => rfl⟩
structure spinetref40_Line where
  Kind : Int
  At : Int
  B : (List Int)
instance : Inhabited spinetref40_Line := ⟨⟨0, 0, []⟩⟩
def spinetref40_Line.v (x : spinetref40_Line) : List V := [.s (.int .i64 x.Kind), .s (.int .u16 x.At), .sl false x.B.length (cat (nI .u8) x.B)]
instance : Cells spinetref40_Line.v 3 := ⟨fun _ => rfl, fun _ => by simp [spinetref40_Line.v, statics, V.static, cat_stat], fun _ => rfl⟩
structure A20_u8 where
  a0 : Int
  a1 : Int
  a2 : Int
  a3 : Int
  a4 : Int
  a5 : Int
  a6 : Int
  a7 : Int
  a8 : Int
  a9 : Int
  a10 : Int
  a11 : Int
  a12 : Int
  a13 : Int
  a14 : Int
  a15 : Int
  a16 : Int
  a17 : Int
  a18 : Int
  a19 : Int
instance : Inhabited A20_u8 := ⟨⟨0, 0, 0, 0, 0, 0, 0, 0, 0, 0, 0, 0, 0, 0, 0, 0, 0, 0, 0, 0⟩⟩
def A20_u8.v (x : A20_u8) : List V := [.s (.int .u8 x.a0), .s (.int .u8 x.a1), .s (.int .u8 x.a2), .s (.int .u8 x.a3), .s (.int .u8 x.a4), .s (.int .u8 x.a5), .s (.int .u8 x.a6), .s (.int .u8 x.a7), .s (.int .u8 x.a8), .s (.int .u8 x.a9), .s (.int .u8 x.a10), .s (.int .u8 x.a11), .s (.int .u8 x.a12), .s (.int .u8 x.a13), .s (.int .u8 x.a14), .s (.int .u8 x.a15), .s (.int .u8 x.a16), .s (.int .u8 x.a17), .s (.int .u8 x.a18), .s (.int .u8 x.a19)]
instance : Cells A20_u8.v 20 := ⟨fun _ => rfl, fun _ => rfl, fun _ => rfl⟩
def digit_value (c_ : Int) : Option (Int × Bool) :=
  if ((decide (48 ≤ c_)) && (decide (c_ ≤ 57))) = true then
    some ((IntKind.wrap .u8 (c_ - 48)), true)
  else
    if ((decide (65 ≤ c_)) && (decide (c_ ≤ 70))) = true then
      some ((IntKind.wrap .u8 ((IntKind.wrap .u8 (c_ - 65)) + 10)), true)
    else
      if ((decide (97 ≤ c_)) && (decide (c_ ≤ 102))) = true then
        some ((IntKind.wrap .u8 ((IntKind.wrap .u8 (c_ - 97)) + 10)), true)
      else
        some (0, false)
def digit_Unpair_l0 (s_ : ByteArray) : Nat → (List Int) → Int → Option (Out ((List Int) × Int) (List Int))
  | 0, _, _ => none
  | k + 1, l_1, i_1 =>
    if (decide (i_1 < (sln s_))) = true then
      if 0 ≤ (i_1 : Int) ∧ i_1 < sln s_ then
      (digit_value (bt s_ i_1)).bind fun r_4 =>
      if 0 ≤ ((IntKind.wrap .i64 (i_1 + 1)) : Int) ∧ (IntKind.wrap .i64 (i_1 + 1)) < sln s_ then
      (digit_value (bt s_ (IntKind.wrap .i64 (i_1 + 1)))).bind fun r_5 =>
      if ((!r_4.2) || (!r_5.2)) = true then
        some (.ret (([] : List Int), 21))
      else
        if (l_1.length + [(bits .or .u8 (IntKind.wrap .u8 (r_4.1 * 2 ^ (4))) r_5.1)].length) * 1 ≤ 140737488355328 then
        digit_Unpair_l0 s_ k (l_1 ++ [(bits .or .u8 (IntKind.wrap .u8 (r_4.1 * 2 ^ (4))) r_5.1)]) (IntKind.wrap .i64 (i_1 + 2))
        else none
      else none
      else none
    else
      some (.go l_1)
def digit_Unpair (s_ : ByteArray) : Option ((List Int) × Int) :=
  if ((Int.tmod (sln s_) 2) != 0) = true then
    some (([] : List Int), 21)
  else
    (digit_Unpair_l0 s_ BIG ([] : List Int) (0)).bind fun o => match o with
      | .ret r => some r
      | .go l_2 =>
        some (l_2, 0)
def octet_Sum_l0 (b_ : (List Int)) : Nat → Int → Int → Option Int
  | 0, _, _ => none
  | k + 1, s_1, t_1 =>
    if (decide (t_1 < (ln b_))) = true then
      if 0 ≤ (t_1 : Int) ∧ t_1 < ln b_ then
      octet_Sum_l0 b_ k (IntKind.wrap .u8 (s_1 + (gt b_ t_1))) (IntKind.wrap .i64 (t_1 + 1))
      else none
    else
      some s_1
def octet_Sum (b_ : (List Int)) : Option (Int) :=
  (octet_Sum_l0 b_ BIG (0) (0)).bind fun s_2 =>
  some s_2
def octet_Word (hi_ : Int) (lo_ : Int) : Option (Int) :=
  some (bits .or .u16 (IntKind.wrap .u16 ((IntKind.wrap .u16 hi_) * 2 ^ (8))) (IntKind.wrap .u16 lo_))
def srec_Line_right (l_ : srec_Line) : Option (Bool) :=
  some ((((l_.Kind == 0) || (l_.Kind == 1)) || ((l_.Kind == 9) && ((ln l_.B) == 0))) && (decide ((ln l_.B) ≤ 252)))
def srec_Read (s_ : ByteArray) : Option (srec_Line × Int) :=
  if (!(decide ((sln s_) < 2))) = true → 0 ≤ (0 : Int) ∧ 0 < sln s_ then
  if (!((decide ((sln s_) < 2)) || ((bt s_ (0)) != 83))) = true → 0 ≤ (1 : Int) ∧ 1 < sln s_ then
  if (((bt s_ (1)) != 48) && (!((decide ((sln s_) < 2)) || ((bt s_ (0)) != 83)))) = true → 0 ≤ (1 : Int) ∧ 1 < sln s_ then
  if ((((bt s_ (1)) != 48) && ((bt s_ (1)) != 49)) && (!((decide ((sln s_) < 2)) || ((bt s_ (0)) != 83)))) = true → 0 ≤ (1 : Int) ∧ 1 < sln s_ then
  if (((decide ((sln s_) < 2)) || ((bt s_ (0)) != 83)) || ((((bt s_ (1)) != 48) && ((bt s_ (1)) != 49)) && ((bt s_ (1)) != 57))) = true then
    some ((srec_Line.mk (0) (0) ([] : List Int)), 21)
  else
    if 0 ≤ (2 : Int) ∧ 2 ≤ (sln s_) then
    (digit_Unpair (s_.extract (2 : Int).toNat s_.size)).bind fun r_ =>
    if ((r_.2 != 0) || (decide ((ln r_.1) < 4))) = true then
      some ((srec_Line.mk (0) (0) ([] : List Int)), 21)
    else
      if 0 ≤ (0 : Int) ∧ 0 < ln r_.1 then
      if ((IntKind.wrap .i64 (gt r_.1 (0))) != (IntKind.wrap .i64 ((ln r_.1) - 1))) = true then
        some ((srec_Line.mk (0) (0) ([] : List Int)), 12)
      else
        (octet_Sum r_.1).bind fun r_1 =>
        if (r_1 != 255) = true then
          some ((srec_Line.mk (0) (0) ([] : List Int)), 22)
        else
          if 0 ≤ (1 : Int) ∧ 1 < sln s_ then
          if 0 ≤ (1 : Int) ∧ 1 < ln r_.1 then
          if 0 ≤ (2 : Int) ∧ 2 < ln r_.1 then
          (octet_Word (gt r_.1 (1)) (gt r_.1 (2))).bind fun r_2 =>
          if (0 ≤ ((IntKind.wrap .i64 ((ln r_.1) - 1)) : Int) ∧ (IntKind.wrap .i64 ((ln r_.1) - 1)) ≤ (ln r_.1)) ∧ 0 ≤ (3 : Int) ∧ 3 ≤ ((IntKind.wrap .i64 ((ln r_.1) - 1)) : Int) ∧ (IntKind.wrap .i64 ((ln r_.1) - 1)) ≤ (IntKind.wrap .i64 ((ln r_.1) - 1)) then
          (srec_Line_right (srec_Line.mk (IntKind.wrap .i64 (IntKind.wrap .u8 ((bt s_ (1)) - 48))) r_2 ((r_.1.drop (3 : Int).toNat).take (((IntKind.wrap .i64 ((ln r_.1) - 1)) : Int).toNat - (3 : Int).toNat)))).bind fun r_3 =>
          if (!r_3) = true then
            some ((srec_Line.mk (0) (0) ([] : List Int)), 21)
          else
            some ((srec_Line.mk (IntKind.wrap .i64 (IntKind.wrap .u8 ((bt s_ (1)) - 48))) r_2 ((r_.1.drop (3 : Int).toNat).take (((IntKind.wrap .i64 ((ln r_.1) - 1)) : Int).toNat - (3 : Int).toNat))), 0)
          else none
          else none
          else none
          else none
      else none
    else none
  else none
  else none
  else none
  else none
def spinetref02_Value (c_ : Int) : Option (Int) :=
  if ((decide (48 ≤ c_)) && (decide (c_ ≤ 57))) = true then
    some (IntKind.wrap .i64 ((IntKind.wrap .i64 c_) - 48))
  else
    if ((decide (65 ≤ c_)) && (decide (c_ ≤ 70))) = true then
      some (IntKind.wrap .i64 ((IntKind.wrap .i64 c_) - 55))
    else
      if ((decide (97 ≤ c_)) && (decide (c_ ≤ 102))) = true then
        some (IntKind.wrap .i64 ((IntKind.wrap .i64 c_) - 87))
      else
        some (99)
def spinetref02_Read_l0 (s_ : ByteArray) (base_ : Int) : Nat → Int → Option (Out (Int × Int) (Unit))
  | 0, _ => none
  | k + 1, i_1 =>
    if (decide (i_1 < (sln s_))) = true then
      if 0 ≤ (i_1 : Int) ∧ i_1 < sln s_ then
      (spinetref02_Value (bt s_ i_1)).bind fun r_2 =>
      if (decide ((IntKind.wrap .i64 base_) ≤ r_2)) = true then
        some (.ret (0, 21))
      else
        spinetref02_Read_l0 s_ base_ k (IntKind.wrap .i64 (i_1 + 1))
      else none
    else
      some (.go ())
def spinetref02_Read_l1 (s_ : ByteArray) (base_ : Int) : Nat → Int → Int → Option (Out (Int × Int) Int)
  | 0, _, _ => none
  | k + 1, n_1, i_3 =>
    if (decide (i_3 < (sln s_))) = true then
      if 0 ≤ (i_3 : Int) ∧ i_3 < sln s_ then
      (spinetref02_Value (bt s_ i_3)).bind fun r_5 =>
      if base_ ≠ 0 then
      if (decide ((IntKind.wrap .u64 (Int.tdiv (IntKind.wrap .u64 (18446744073709551615 - (IntKind.wrap .u64 r_5))) base_)) < n_1)) = true then
        some (.ret (0, 50))
      else
        spinetref02_Read_l1 s_ base_ k (IntKind.wrap .u64 ((IntKind.wrap .u64 (base_ * n_1)) + (IntKind.wrap .u64 r_5))) (IntKind.wrap .i64 (i_3 + 1))
      else none
      else none
    else
      some (.go n_1)
def spinetref02_Read (s_ : ByteArray) (base_ : Int) (most_ : Int) : Option (Int × Int) :=
  if (s_.toList == (⟨#[]⟩ : ByteArray).toList) = true then
    some (0, 21)
  else
    (spinetref02_Read_l0 s_ base_ BIG (0)).bind fun o => match o with
      | .ret r => some r
      | .go _ =>
        if (decide (most_ < (sln s_))) = true then
          some (0, 12)
        else
          (spinetref02_Read_l1 s_ base_ BIG (0) (0)).bind fun o => match o with
            | .ret r => some r
            | .go n_2 =>
              some (n_2, 0)
def spinetref02_Unpair_l0 (s_ : ByteArray) : Nat → (List Int) → Int → Option (Out ((List Int) × Int) (List Int))
  | 0, _, _ => none
  | k + 1, l_1, i_1 =>
    if (decide (i_1 < (sln s_))) = true then
      if 0 ≤ (i_1 : Int) ∧ i_1 ≤ ((IntKind.wrap .i64 (i_1 + 2)) : Int) ∧ (IntKind.wrap .i64 (i_1 + 2)) ≤ (sln s_) then
      (spinetref02_Read (s_.extract (i_1 : Int).toNat ((IntKind.wrap .i64 (i_1 + 2)) : Int).toNat) (16) (2)).bind fun r_2 =>
      if (r_2.2 != 0) = true then
        some (.ret (([] : List Int), r_2.2))
      else
        if (l_1.length + [(IntKind.wrap .u8 r_2.1)].length) * 1 ≤ 140737488355328 then
        spinetref02_Unpair_l0 s_ k (l_1 ++ [(IntKind.wrap .u8 r_2.1)]) (IntKind.wrap .i64 (i_1 + 2))
        else none
      else none
    else
      some (.go l_1)
def spinetref02_Unpair (s_ : ByteArray) : Option ((List Int) × Int) :=
  if ((Int.tmod (sln s_) 2) == 1) = true then
    some (([] : List Int), 21)
  else
    (spinetref02_Unpair_l0 s_ BIG ([] : List Int) (0)).bind fun o => match o with
      | .ret r => some r
      | .go l_2 =>
        some (l_2, 0)
def spinetref40_Read_l0 (r_ : ((List Int) × Int)) : Nat → Int → Int → Option Int
  | 0, _, _ => none
  | k + 1, sum_1, i_1 =>
    if (decide (i_1 < (ln r_.1))) = true then
      if 0 ≤ (i_1 : Int) ∧ i_1 < ln r_.1 then
      spinetref40_Read_l0 r_ k (IntKind.wrap .i64 (sum_1 + (IntKind.wrap .i64 (gt r_.1 i_1)))) (IntKind.wrap .i64 (i_1 + 1))
      else none
    else
      some sum_1
def spinetref40_Read_j0 (s_ : ByteArray) (kind_ : Int) : Option (spinetref40_Line × Int) :=
  if (((kind_ != 0) && (kind_ != 1)) && (kind_ != 9)) = true then
    some ((spinetref40_Line.mk (0) (0) ([] : List Int)), 21)
  else
    if 0 ≤ (2 : Int) ∧ 2 ≤ (sln s_) then
    (spinetref02_Unpair (s_.extract (2 : Int).toNat s_.size)).bind fun r_ =>
    if ((r_.2 != 0) || (decide ((ln r_.1) < 4))) = true then
      some ((spinetref40_Line.mk (0) (0) ([] : List Int)), 21)
    else
      if 0 ≤ (0 : Int) ∧ 0 < ln r_.1 then
      if ((IntKind.wrap .i64 ((IntKind.wrap .i64 (gt r_.1 (0))) + 1)) != (ln r_.1)) = true then
        some ((spinetref40_Line.mk (0) (0) ([] : List Int)), 12)
      else
        (spinetref40_Read_l0 r_ BIG (0) (0)).bind fun sum_2 =>
        if ((Int.tmod sum_2 256) != 255) = true then
          some ((spinetref40_Line.mk (0) (0) ([] : List Int)), 22)
        else
          if ((kind_ == 9) && (decide (4 < (ln r_.1)))) = true then
            some ((spinetref40_Line.mk (0) (0) ([] : List Int)), 21)
          else
            if 0 ≤ (1 : Int) ∧ 1 < ln r_.1 then
            if 0 ≤ (2 : Int) ∧ 2 < ln r_.1 then
            if 0 ≤ (3 : Int) ∧ 3 ≤ ((IntKind.wrap .i64 ((ln r_.1) - 1)) : Int) ∧ (IntKind.wrap .i64 ((ln r_.1) - 1)) ≤ (ln r_.1) then
            some ((spinetref40_Line.mk kind_ (IntKind.wrap .u16 ((IntKind.wrap .u16 ((IntKind.wrap .u16 (gt r_.1 (1))) * 256)) + (IntKind.wrap .u16 (gt r_.1 (2))))) ((r_.1.drop (3 : Int).toNat).take (((IntKind.wrap .i64 ((ln r_.1) - 1)) : Int).toNat - (3 : Int).toNat))), 0)
            else none
            else none
            else none
      else none
    else none
def spinetref40_Read (s_ : ByteArray) : Option (spinetref40_Line × Int) :=
  if (decide (2 ≤ (sln s_))) = true → 0 ≤ (0 : Int) ∧ 0 < sln s_ then
  if ((decide (2 ≤ (sln s_))) && ((bt s_ (0)) == 83)) = true then
    if 0 ≤ (1 : Int) ∧ 1 < sln s_ then
    spinetref40_Read_j0 s_ (IntKind.wrap .i64 ((IntKind.wrap .i64 (bt s_ (1))) - 48))
    else none
  else
    spinetref40_Read_j0 s_ (99)
  else none
def bytes_Equal (a_ : (List Int)) (b_ : (List Int)) : Option (Bool) :=
  some ((bs a_).toList == (bs b_).toList)
def octet_High (w_ : Int) : Option (Int) :=
  some (IntKind.wrap .u8 (Int.fdiv w_ (2 ^ (8))))
def octet_Low (w_ : Int) : Option (Int) :=
  some (IntKind.wrap .u8 w_)
def digit_sign (n_ : Int) : Option (Int) :=
  if (decide (n_ < 10)) = true then
    some (IntKind.wrap .u8 (48 + n_))
  else
    some (IntKind.wrap .u8 ((IntKind.wrap .u8 (65 + n_)) - 10))
def digit_Dec_l0 : Nat → (List Int) → Int → Int → Option ((List Int) × Int)
  | 0, _, _, _ => none
  | k + 1, l_1, t_1, i_1 =>
    if ((decide (0 < t_1)) || (i_1 == 20)) = true then
      (digit_sign (IntKind.wrap .u8 (Int.tmod t_1 10))).bind fun r_2 =>
      if 0 ≤ ((IntKind.wrap .i64 (i_1 - 1)) : Int) ∧ (IntKind.wrap .i64 (i_1 - 1)) < (20 : Int) then
      digit_Dec_l0 k (st l_1 (IntKind.wrap .i64 (i_1 - 1)) r_2) (IntKind.wrap .u64 (Int.tdiv t_1 10)) (IntKind.wrap .i64 (i_1 - 1))
      else none
    else
      some (l_1, i_1)
def digit_Dec (n_ : Int) : Option (ByteArray) :=
  (digit_Dec_l0 BIG [0, 0, 0, 0, 0, 0, 0, 0, 0, 0, 0, 0, 0, 0, 0, 0, 0, 0, 0, 0] n_ (20)).bind fun (l_2, i_2) =>
  if 0 ≤ (i_2 : Int) ∧ i_2 ≤ (20 : Int) then
  some (bs ((l_2.drop (i_2 : Int).toNat).take (20 - (i_2 : Int).toNat)))
  else none
def digit_Pairs_l0 (b_ : (List Int)) : Nat → (List Int) → Int → Option (List Int)
  | 0, _, _ => none
  | k + 1, l_1, t_1 =>
    if (decide (t_1 < (ln b_))) = true then
      if 0 ≤ (t_1 : Int) ∧ t_1 < ln b_ then
      (digit_sign (Int.fdiv (gt b_ t_1) (2 ^ (4)))).bind fun r_4 =>
      (digit_sign (bits .and .u8 (gt b_ t_1) 15)).bind fun r_5 =>
      if (l_1.length + [r_4, r_5].length) * 1 ≤ 140737488355328 then
      digit_Pairs_l0 b_ k (l_1 ++ [r_4, r_5]) (IntKind.wrap .i64 (t_1 + 1))
      else none
      else none
    else
      some l_1
def digit_Pairs (b_ : (List Int)) : Option (ByteArray) :=
  if 0 ≤ (0 : Int) ∧ (0 : Int) ≤ (IntKind.wrap .i64 (2 * (ln b_))) ∧ ((IntKind.wrap .i64 (2 * (ln b_))) : Int) * 1 ≤ 281474976710656 ∧ ((IntKind.wrap .i64 (2 * (ln b_))) : Int) ≤ 281474976710656 then
  (digit_Pairs_l0 b_ BIG (rp (0) (0 : Int)) (0)).bind fun l_2 =>
  some (bs l_2)
  else none
def srec_Line_Text (l_ : srec_Line) : Option (ByteArray) :=
  (octet_High l_.At).bind fun r_ =>
  (octet_Low l_.At).bind fun r_1 =>
  if ([(IntKind.wrap .u8 (IntKind.wrap .i64 ((ln l_.B) + 3))), r_, r_1].length + l_.B.length) * 1 ≤ 140737488355328 then
  (digit_Dec (IntKind.wrap .u64 l_.Kind)).bind fun r_2 =>
  if (((⟨#[83]⟩ : ByteArray).size + r_2.size : Nat) : Int) ≤ 9223372036854775807 then
  (octet_Sum ([(IntKind.wrap .u8 (IntKind.wrap .i64 ((ln l_.B) + 3))), r_, r_1] ++ l_.B)).bind fun r_3 =>
  if (([(IntKind.wrap .u8 (IntKind.wrap .i64 ((ln l_.B) + 3))), r_, r_1] ++ l_.B).length + [(bits .xor .u8 (IntKind.max .u8) r_3)].length) * 1 ≤ 140737488355328 then
  (digit_Pairs (([(IntKind.wrap .u8 (IntKind.wrap .i64 ((ln l_.B) + 3))), r_, r_1] ++ l_.B) ++ [(bits .xor .u8 (IntKind.max .u8) r_3)])).bind fun r_4 =>
  if ((((⟨#[83]⟩ : ByteArray) ++ r_2).size + r_4.size : Nat) : Int) ≤ 9223372036854775807 then
  some (((⟨#[83]⟩ : ByteArray) ++ r_2) ++ r_4)
  else none
  else none
  else none
  else none
def spinetlaw40_alive : Option (Bool) :=
  (srec_Line_Text (srec_Line.mk (9) (0) ([] : List Int))).bind fun r_ =>
  some ((r_.toList == (⟨#[83, 57, 48, 51, 48, 48, 48, 48, 70, 67]⟩ : ByteArray).toList) || false)
def spinetref02_Digits_l0 (base_ : Int) (width_ : Int) : Nat → Int → ByteArray → Option ByteArray
  | 0, _, _ => none
  | k + 1, t_1, s_1 =>
    if (((decide (0 < t_1)) || (decide ((sln s_1) < width_))) || (s_1.toList == (⟨#[]⟩ : ByteArray).toList)) = true then
      if base_ ≠ 0 then
      if 0 ≤ ((IntKind.wrap .i64 (Int.tmod t_1 base_)) : Int) ∧ (IntKind.wrap .i64 (Int.tmod t_1 base_)) ≤ ((IntKind.wrap .i64 ((IntKind.wrap .i64 (Int.tmod t_1 base_)) + 1)) : Int) ∧ (IntKind.wrap .i64 ((IntKind.wrap .i64 (Int.tmod t_1 base_)) + 1)) ≤ (sln (⟨#[48, 49, 50, 51, 52, 53, 54, 55, 56, 57, 65, 66, 67, 68, 69, 70]⟩ : ByteArray)) then
      if ((((⟨#[48, 49, 50, 51, 52, 53, 54, 55, 56, 57, 65, 66, 67, 68, 69, 70]⟩ : ByteArray).extract ((IntKind.wrap .i64 (Int.tmod t_1 base_)) : Int).toNat ((IntKind.wrap .i64 ((IntKind.wrap .i64 (Int.tmod t_1 base_)) + 1)) : Int).toNat).size + s_1.size : Nat) : Int) ≤ 9223372036854775807 then
      if base_ ≠ 0 then
      spinetref02_Digits_l0 base_ width_ k (IntKind.wrap .u64 (Int.tdiv t_1 base_)) (((⟨#[48, 49, 50, 51, 52, 53, 54, 55, 56, 57, 65, 66, 67, 68, 69, 70]⟩ : ByteArray).extract ((IntKind.wrap .i64 (Int.tmod t_1 base_)) : Int).toNat ((IntKind.wrap .i64 ((IntKind.wrap .i64 (Int.tmod t_1 base_)) + 1)) : Int).toNat) ++ s_1)
      else none
      else none
      else none
      else none
    else
      some s_1
def spinetref02_Digits (n_ : Int) (base_ : Int) (width_ : Int) : Option (ByteArray) :=
  (spinetref02_Digits_l0 base_ width_ BIG n_ (⟨#[]⟩ : ByteArray)).bind fun s_2 =>
  some s_2
def spinetref02_Pairs_l0 (b_ : (List Int)) : Nat → ByteArray → Int → Option ByteArray
  | 0, _, _ => none
  | k + 1, s_1, i_1 =>
    if (decide (i_1 < (ln b_))) = true then
      if 0 ≤ (i_1 : Int) ∧ i_1 < ln b_ then
      (spinetref02_Digits (IntKind.wrap .u64 (gt b_ i_1)) (16) (2)).bind fun r_2 =>
      if ((s_1.size + r_2.size : Nat) : Int) ≤ 9223372036854775807 then
      spinetref02_Pairs_l0 b_ k (s_1 ++ r_2) (IntKind.wrap .i64 (i_1 + 1))
      else none
      else none
    else
      some s_1
def spinetref02_Pairs (b_ : (List Int)) : Option (ByteArray) :=
  (spinetref02_Pairs_l0 b_ BIG (⟨#[]⟩ : ByteArray) (0)).bind fun s_2 =>
  some s_2
def spinetref40_Text_l0 (l_ : spinetref40_Line) : Nat → Int → Int → Option Int
  | 0, _, _ => none
  | k + 1, sum_1, i_1 =>
    if (decide (i_1 < (ln ([(IntKind.wrap .u8 (IntKind.wrap .i64 ((ln l_.B) + 3))), (IntKind.wrap .u8 (IntKind.wrap .u16 (Int.tdiv l_.At 256))), (IntKind.wrap .u8 (Int.tmod l_.At 256))] ++ l_.B)))) = true then
      if 0 ≤ (i_1 : Int) ∧ i_1 < ln ([(IntKind.wrap .u8 (IntKind.wrap .i64 ((ln l_.B) + 3))), (IntKind.wrap .u8 (IntKind.wrap .u16 (Int.tdiv l_.At 256))), (IntKind.wrap .u8 (Int.tmod l_.At 256))] ++ l_.B) then
      spinetref40_Text_l0 l_ k (IntKind.wrap .i64 (sum_1 + (IntKind.wrap .i64 (gt ([(IntKind.wrap .u8 (IntKind.wrap .i64 ((ln l_.B) + 3))), (IntKind.wrap .u8 (IntKind.wrap .u16 (Int.tdiv l_.At 256))), (IntKind.wrap .u8 (Int.tmod l_.At 256))] ++ l_.B) i_1)))) (IntKind.wrap .i64 (i_1 + 1))
      else none
    else
      some sum_1
def spinetref40_Text (l_ : spinetref40_Line) : Option (ByteArray) :=
  if ([(IntKind.wrap .u8 (IntKind.wrap .i64 ((ln l_.B) + 3))), (IntKind.wrap .u8 (IntKind.wrap .u16 (Int.tdiv l_.At 256))), (IntKind.wrap .u8 (Int.tmod l_.At 256))].length + l_.B.length) * 1 ≤ 140737488355328 then
  (spinetref40_Text_l0 l_ BIG (0) (0)).bind fun sum_2 =>
  (spinetref02_Digits (IntKind.wrap .u64 l_.Kind) (10) (1)).bind fun r_ =>
  if (((⟨#[83]⟩ : ByteArray).size + r_.size : Nat) : Int) ≤ 9223372036854775807 then
  if (([(IntKind.wrap .u8 (IntKind.wrap .i64 ((ln l_.B) + 3))), (IntKind.wrap .u8 (IntKind.wrap .u16 (Int.tdiv l_.At 256))), (IntKind.wrap .u8 (Int.tmod l_.At 256))] ++ l_.B).length + [(IntKind.wrap .u8 (IntKind.wrap .i64 (255 - (Int.tmod sum_2 256))))].length) * 1 ≤ 140737488355328 then
  (spinetref02_Pairs (([(IntKind.wrap .u8 (IntKind.wrap .i64 ((ln l_.B) + 3))), (IntKind.wrap .u8 (IntKind.wrap .u16 (Int.tdiv l_.At 256))), (IntKind.wrap .u8 (Int.tmod l_.At 256))] ++ l_.B) ++ [(IntKind.wrap .u8 (IntKind.wrap .i64 (255 - (Int.tmod sum_2 256))))])).bind fun r_1 =>
  if ((((⟨#[83]⟩ : ByteArray) ++ r_).size + r_1.size : Nat) : Int) ≤ 9223372036854775807 then
  some (((⟨#[83]⟩ : ByteArray) ++ r_) ++ r_1)
  else none
  else none
  else none
  else none
def spinetlaw40_SrecLines (l_ : srec_Line) (s_ : ByteArray) : Option (Bool) :=
  if (decide (600 < (sln s_))) = true then
    some true
  else
    (srec_Read s_).bind fun r_ =>
    (spinetref40_Read s_).bind fun r_1 =>
    ((if (!((r_.1.Kind != r_1.1.Kind) || (r_.1.At != r_1.1.At))) = true then bytes_Equal r_.1.B r_1.1.B else some default)).bind fun r_2 =>
    if ((((r_.1.Kind != r_1.1.Kind) || (r_.1.At != r_1.1.At)) || (!r_2)) || (r_.2 != r_1.2)) = true then
      some false
    else
      if (((((l_.Kind != 0) && (l_.Kind != 1)) && (l_.Kind != 9)) || (decide (252 < (ln l_.B)))) || ((l_.Kind == 9) && (decide (0 < (ln l_.B))))) = true then
        (spinetlaw40_alive).bind fun r_3 =>
        some r_3
      else
        (srec_Line_Text l_).bind fun r_4 =>
        (srec_Read r_4).bind fun r_5 =>
        (spinetref40_Text (spinetref40_Line.mk l_.Kind l_.At l_.B)).bind fun r_6 =>
        ((if (((r_4.toList == r_6.toList) && (r_5.1.Kind == l_.Kind)) && (r_5.1.At == l_.At)) = true then bytes_Equal r_5.1.B l_.B else some default)).bind fun r_7 =>
        ((if (((((r_4.toList == r_6.toList) && (r_5.1.Kind == l_.Kind)) && (r_5.1.At == l_.At)) && r_7) && (r_5.2 == 0)) = true then spinetlaw40_alive else some default)).bind fun r_8 =>
        some ((((((r_4.toList == r_6.toList) && (r_5.1.Kind == l_.Kind)) && (r_5.1.At == l_.At)) && r_7) && (r_5.2 == 0)) && r_8)
end Go.Proofs.YtfdadnldlngmeaaK
