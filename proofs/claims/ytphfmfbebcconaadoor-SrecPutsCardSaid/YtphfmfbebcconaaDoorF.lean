/- The functions, over typed data. Printed by a program of this work. -/
import Derived.Test.YtphfmfbebcconaaDoorRj
namespace Go.Proofs.YtphfmfbebcconaaDoorK
set_option linter.unusedVariables false
set_option linter.unusedSimpArgs false
set_option maxHeartbeats 4000000
open Go.RowKit
attribute [local irreducible] dwv mops lops lqops lwops kont iter run runK rk okK ex E1 vals val chain chB sel resF
def sl_u8 (x : (List Int)) : List V := [.sl false x.length (cat (nI .u8) x)]
instance : Cells sl_u8 1 := ⟨fun _ => rfl, fun _ => by simp [sl_u8, statics, V.static, cat_stat], fun _ => rfl⟩
structure srec_Piece where
  At : Int
  B : (List Int)
instance : Inhabited srec_Piece := ⟨⟨0, []⟩⟩
def srec_Piece.v (x : srec_Piece) : List V := [.s (.int .u16 x.At), .sl false x.B.length (cat (nI .u8) x.B)]
instance : Cells srec_Piece.v 2 := ⟨fun _ => rfl, fun _ => by simp [srec_Piece.v, statics, V.static, cat_stat], fun _ => rfl⟩
def sl_srec_Piece (x : (List srec_Piece)) : List V := [.sl false x.length (cat srec_Piece.v x)]
instance : Cells sl_srec_Piece 1 := ⟨fun _ => rfl, fun _ => by simp [sl_srec_Piece, statics, V.static, cat_stat], fun _ => rfl⟩
structure spinetref40_Line where
  Kind : Int
  At : Int
  B : (List Int)
instance : Inhabited spinetref40_Line := ⟨⟨0, 0, []⟩⟩
def spinetref40_Line.v (x : spinetref40_Line) : List V := [.s (.int .i64 x.Kind), .s (.int .u16 x.At), .sl false x.B.length (cat (nI .u8) x.B)]
instance : Cells spinetref40_Line.v 3 := ⟨fun _ => rfl, fun _ => by simp [spinetref40_Line.v, statics, V.static, cat_stat], fun _ => rfl⟩
structure A20_u8 where
  a0 : Int
  a1 : Int
  a2 : Int
  a3 : Int
  a4 : Int
  a5 : Int
  a6 : Int
  a7 : Int
  a8 : Int
  a9 : Int
  a10 : Int
  a11 : Int
  a12 : Int
  a13 : Int
  a14 : Int
  a15 : Int
  a16 : Int
  a17 : Int
  a18 : Int
  a19 : Int
instance : Inhabited A20_u8 := ⟨⟨0, 0, 0, 0, 0, 0, 0, 0, 0, 0, 0, 0, 0, 0, 0, 0, 0, 0, 0, 0⟩⟩
def A20_u8.v (x : A20_u8) : List V := [.s (.int .u8 x.a0), .s (.int .u8 x.a1), .s (.int .u8 x.a2), .s (.int .u8 x.a3), .s (.int .u8 x.a4), .s (.int .u8 x.a5), .s (.int .u8 x.a6), .s (.int .u8 x.a7), .s (.int .u8 x.a8), .s (.int .u8 x.a9), .s (.int .u8 x.a10), .s (.int .u8 x.a11), .s (.int .u8 x.a12), .s (.int .u8 x.a13), .s (.int .u8 x.a14), .s (.int .u8 x.a15), .s (.int .u8 x.a16), .s (.int .u8 x.a17), .s (.int .u8 x.a18), .s (.int .u8 x.a19)]
instance : Cells A20_u8.v 20 := ⟨fun _ => rfl, fun _ => rfl, fun _ => rfl⟩
structure srec_Line where
  Kind : Int
  At : Int
  B : (List Int)
instance : Inhabited srec_Line := ⟨⟨0, 0, []⟩⟩
def srec_Line.v (x : srec_Line) : List V := [.s (.int .i64 x.Kind), .s (.int .u16 x.At), .sl false x.B.length (cat (nI .u8) x.B)]
instance : Cells srec_Line.v 3 := ⟨fun _ => rfl, fun _ => by simp [srec_Line.v, statics, V.static, cat_stat], fun _ => rfl⟩
structure unicode_utf8_acceptRange where
  lo : Int
  hi : Int
instance : Inhabited unicode_utf8_acceptRange := ⟨⟨0, 0⟩⟩
def unicode_utf8_acceptRange.v (x : unicode_utf8_acceptRange) : List V := [.s (.int .u8 x.lo), .s (.int .u8 x.hi)]
instance : Cells unicode_utf8_acceptRange.v 2 := ⟨fun _ => rfl, fun _ => rfl, fun _ => rfl⟩
def sl_str (x : (List ByteArray)) : List V := [.sl false x.length (cat nS x)]
instance : Cells sl_str 1 := ⟨fun _ => rfl, fun _ => by simp [sl_str, statics, V.static, cat_stat], fun _ => rfl⟩
def spinetlaw40_fits_l0 (l_ : (List srec_Piece)) : Nat → Int → Option (Out (Bool) (Unit))
  | 0, _ => none
  | k + 1, i_1 =>
    if (decide (i_1 < (ln l_))) = true then
      if 0 ≤ (i_1 : Int) ∧ i_1 < ln l_ then
      if (!(decide (200 < (ln ((gt l_ i_1).B))))) = true → 0 ≤ (i_1 : Int) ∧ i_1 < ln l_ then
      if (!(decide (200 < (ln ((gt l_ i_1).B))))) = true → 0 ≤ (i_1 : Int) ∧ i_1 < ln l_ then
      if ((decide (200 < (ln ((gt l_ i_1).B)))) || (decide (65536 < (IntKind.wrap .i64 ((IntKind.wrap .i64 (gt l_ i_1).At) + (ln ((gt l_ i_1).B))))))) = true then
        some (.ret false)
      else
        spinetlaw40_fits_l0 l_ k (IntKind.wrap .i64 (i_1 + 1))
      else none
      else none
      else none
    else
      some (.go ())
def spinetlaw40_fits (l_ : (List srec_Piece)) : Option (Bool) :=
  (spinetlaw40_fits_l0 l_ BIG (0)).bind fun o => match o with
    | .ret r => some r
    | .go _ =>
      some true
def spinetref02_Digits_l0 (base_ : Int) (width_ : Int) : Nat → Int → ByteArray → Option ByteArray
  | 0, _, _ => none
  | k + 1, t_1, s_1 =>
    if (((decide (0 < t_1)) || (decide ((sln s_1) < width_))) || (s_1.toList == (⟨#[]⟩ : ByteArray).toList)) = true then
      if base_ ≠ 0 then
      if 0 ≤ ((IntKind.wrap .i64 (Int.tmod t_1 base_)) : Int) ∧ (IntKind.wrap .i64 (Int.tmod t_1 base_)) ≤ ((IntKind.wrap .i64 ((IntKind.wrap .i64 (Int.tmod t_1 base_)) + 1)) : Int) ∧ (IntKind.wrap .i64 ((IntKind.wrap .i64 (Int.tmod t_1 base_)) + 1)) ≤ (sln (⟨#[48, 49, 50, 51, 52, 53, 54, 55, 56, 57, 65, 66, 67, 68, 69, 70]⟩ : ByteArray)) then
      if ((((⟨#[48, 49, 50, 51, 52, 53, 54, 55, 56, 57, 65, 66, 67, 68, 69, 70]⟩ : ByteArray).extract ((IntKind.wrap .i64 (Int.tmod t_1 base_)) : Int).toNat ((IntKind.wrap .i64 ((IntKind.wrap .i64 (Int.tmod t_1 base_)) + 1)) : Int).toNat).size + s_1.size : Nat) : Int) ≤ 9223372036854775807 then
      if base_ ≠ 0 then
      spinetref02_Digits_l0 base_ width_ k (IntKind.wrap .u64 (Int.tdiv t_1 base_)) (((⟨#[48, 49, 50, 51, 52, 53, 54, 55, 56, 57, 65, 66, 67, 68, 69, 70]⟩ : ByteArray).extract ((IntKind.wrap .i64 (Int.tmod t_1 base_)) : Int).toNat ((IntKind.wrap .i64 ((IntKind.wrap .i64 (Int.tmod t_1 base_)) + 1)) : Int).toNat) ++ s_1)
      else none
      else none
      else none
      else none
    else
      some s_1
def spinetref02_Digits (n_ : Int) (base_ : Int) (width_ : Int) : Option (ByteArray) :=
  (spinetref02_Digits_l0 base_ width_ BIG n_ (⟨#[]⟩ : ByteArray)).bind fun s_2 =>
  some s_2
def spinetref02_Pairs_l0 (b_ : (List Int)) : Nat → ByteArray → Int → Option ByteArray
  | 0, _, _ => none
  | k + 1, s_1, i_1 =>
    if (decide (i_1 < (ln b_))) = true then
      if 0 ≤ (i_1 : Int) ∧ i_1 < ln b_ then
      (spinetref02_Digits (IntKind.wrap .u64 (gt b_ i_1)) (16) (2)).bind fun r_2 =>
      if ((s_1.size + r_2.size : Nat) : Int) ≤ 9223372036854775807 then
      spinetref02_Pairs_l0 b_ k (s_1 ++ r_2) (IntKind.wrap .i64 (i_1 + 1))
      else none
      else none
    else
      some s_1
def spinetref02_Pairs (b_ : (List Int)) : Option (ByteArray) :=
  (spinetref02_Pairs_l0 b_ BIG (⟨#[]⟩ : ByteArray) (0)).bind fun s_2 =>
  some s_2
def spinetref40_Text_l0 (l_ : spinetref40_Line) : Nat → Int → Int → Option Int
  | 0, _, _ => none
  | k + 1, sum_1, i_1 =>
    if (decide (i_1 < (ln ([(IntKind.wrap .u8 (IntKind.wrap .i64 ((ln l_.B) + 3))), (IntKind.wrap .u8 (IntKind.wrap .u16 (Int.tdiv l_.At 256))), (IntKind.wrap .u8 (Int.tmod l_.At 256))] ++ l_.B)))) = true then
      if 0 ≤ (i_1 : Int) ∧ i_1 < ln ([(IntKind.wrap .u8 (IntKind.wrap .i64 ((ln l_.B) + 3))), (IntKind.wrap .u8 (IntKind.wrap .u16 (Int.tdiv l_.At 256))), (IntKind.wrap .u8 (Int.tmod l_.At 256))] ++ l_.B) then
      spinetref40_Text_l0 l_ k (IntKind.wrap .i64 (sum_1 + (IntKind.wrap .i64 (gt ([(IntKind.wrap .u8 (IntKind.wrap .i64 ((ln l_.B) + 3))), (IntKind.wrap .u8 (IntKind.wrap .u16 (Int.tdiv l_.At 256))), (IntKind.wrap .u8 (Int.tmod l_.At 256))] ++ l_.B) i_1)))) (IntKind.wrap .i64 (i_1 + 1))
      else none
    else
      some sum_1
def spinetref40_Text (l_ : spinetref40_Line) : Option (ByteArray) :=
  if ([(IntKind.wrap .u8 (IntKind.wrap .i64 ((ln l_.B) + 3))), (IntKind.wrap .u8 (IntKind.wrap .u16 (Int.tdiv l_.At 256))), (IntKind.wrap .u8 (Int.tmod l_.At 256))].length + l_.B.length) * 1 ≤ 140737488355328 then
  (spinetref40_Text_l0 l_ BIG (0) (0)).bind fun sum_2 =>
  (spinetref02_Digits (IntKind.wrap .u64 l_.Kind) (10) (1)).bind fun r_ =>
  if (((⟨#[83]⟩ : ByteArray).size + r_.size : Nat) : Int) ≤ 9223372036854775807 then
  if (([(IntKind.wrap .u8 (IntKind.wrap .i64 ((ln l_.B) + 3))), (IntKind.wrap .u8 (IntKind.wrap .u16 (Int.tdiv l_.At 256))), (IntKind.wrap .u8 (Int.tmod l_.At 256))] ++ l_.B).length + [(IntKind.wrap .u8 (IntKind.wrap .i64 (255 - (Int.tmod sum_2 256))))].length) * 1 ≤ 140737488355328 then
  (spinetref02_Pairs (([(IntKind.wrap .u8 (IntKind.wrap .i64 ((ln l_.B) + 3))), (IntKind.wrap .u8 (IntKind.wrap .u16 (Int.tdiv l_.At 256))), (IntKind.wrap .u8 (Int.tmod l_.At 256))] ++ l_.B) ++ [(IntKind.wrap .u8 (IntKind.wrap .i64 (255 - (Int.tmod sum_2 256))))])).bind fun r_1 =>
  if ((((⟨#[83]⟩ : ByteArray) ++ r_).size + r_1.size : Nat) : Int) ≤ 9223372036854775807 then
  some (((⟨#[83]⟩ : ByteArray) ++ r_) ++ r_1)
  else none
  else none
  else none
  else none
def octet_High (w_ : Int) : Option (Int) :=
  some (IntKind.wrap .u8 (Int.fdiv w_ (2 ^ (8))))
def octet_Low (w_ : Int) : Option (Int) :=
  some (IntKind.wrap .u8 w_)
def digit_sign (n_ : Int) : Option (Int) :=
  if (decide (n_ < 10)) = true then
    some (IntKind.wrap .u8 (48 + n_))
  else
    some (IntKind.wrap .u8 ((IntKind.wrap .u8 (65 + n_)) - 10))
def digit_Dec_l0 : Nat → (List Int) → Int → Int → Option ((List Int) × Int)
  | 0, _, _, _ => none
  | k + 1, l_1, t_1, i_1 =>
    if ((decide (0 < t_1)) || (i_1 == 20)) = true then
      (digit_sign (IntKind.wrap .u8 (Int.tmod t_1 10))).bind fun r_2 =>
      if 0 ≤ ((IntKind.wrap .i64 (i_1 - 1)) : Int) ∧ (IntKind.wrap .i64 (i_1 - 1)) < (20 : Int) then
      digit_Dec_l0 k (st l_1 (IntKind.wrap .i64 (i_1 - 1)) r_2) (IntKind.wrap .u64 (Int.tdiv t_1 10)) (IntKind.wrap .i64 (i_1 - 1))
      else none
    else
      some (l_1, i_1)
def digit_Dec (n_ : Int) : Option (ByteArray) :=
  (digit_Dec_l0 BIG [0, 0, 0, 0, 0, 0, 0, 0, 0, 0, 0, 0, 0, 0, 0, 0, 0, 0, 0, 0] n_ (20)).bind fun (l_2, i_2) =>
  if 0 ≤ (i_2 : Int) ∧ i_2 ≤ (20 : Int) then
  some (bs ((l_2.drop (i_2 : Int).toNat).take (20 - (i_2 : Int).toNat)))
  else none
def digit_Pairs_l0 (b_ : (List Int)) : Nat → (List Int) → Int → Option (List Int)
  | 0, _, _ => none
  | k + 1, l_1, t_1 =>
    if (decide (t_1 < (ln b_))) = true then
      if 0 ≤ (t_1 : Int) ∧ t_1 < ln b_ then
      (digit_sign (Int.fdiv (gt b_ t_1) (2 ^ (4)))).bind fun r_4 =>
      (digit_sign (bits .and .u8 (gt b_ t_1) 15)).bind fun r_5 =>
      if (l_1.length + [r_4, r_5].length) * 1 ≤ 140737488355328 then
      digit_Pairs_l0 b_ k (l_1 ++ [r_4, r_5]) (IntKind.wrap .i64 (t_1 + 1))
      else none
      else none
    else
      some l_1
def digit_Pairs (b_ : (List Int)) : Option (ByteArray) :=
  if 0 ≤ (0 : Int) ∧ (0 : Int) ≤ (IntKind.wrap .i64 (2 * (ln b_))) ∧ ((IntKind.wrap .i64 (2 * (ln b_))) : Int) * 1 ≤ 281474976710656 ∧ ((IntKind.wrap .i64 (2 * (ln b_))) : Int) ≤ 281474976710656 then
  (digit_Pairs_l0 b_ BIG (rp (0) (0 : Int)) (0)).bind fun l_2 =>
  some (bs l_2)
  else none
def octet_Sum_l0 (b_ : (List Int)) : Nat → Int → Int → Option Int
  | 0, _, _ => none
  | k + 1, s_1, t_1 =>
    if (decide (t_1 < (ln b_))) = true then
      if 0 ≤ (t_1 : Int) ∧ t_1 < ln b_ then
      octet_Sum_l0 b_ k (IntKind.wrap .u8 (s_1 + (gt b_ t_1))) (IntKind.wrap .i64 (t_1 + 1))
      else none
    else
      some s_1
def octet_Sum (b_ : (List Int)) : Option (Int) :=
  (octet_Sum_l0 b_ BIG (0) (0)).bind fun s_2 =>
  some s_2
def srec_Line_Text (l_ : srec_Line) : Option (ByteArray) :=
  (octet_High l_.At).bind fun r_ =>
  (octet_Low l_.At).bind fun r_1 =>
  if ([(IntKind.wrap .u8 (IntKind.wrap .i64 ((ln l_.B) + 3))), r_, r_1].length + l_.B.length) * 1 ≤ 140737488355328 then
  (digit_Dec (IntKind.wrap .u64 l_.Kind)).bind fun r_2 =>
  if (((⟨#[83]⟩ : ByteArray).size + r_2.size : Nat) : Int) ≤ 9223372036854775807 then
  (octet_Sum ([(IntKind.wrap .u8 (IntKind.wrap .i64 ((ln l_.B) + 3))), r_, r_1] ++ l_.B)).bind fun r_3 =>
  if (([(IntKind.wrap .u8 (IntKind.wrap .i64 ((ln l_.B) + 3))), r_, r_1] ++ l_.B).length + [(bits .xor .u8 (IntKind.max .u8) r_3)].length) * 1 ≤ 140737488355328 then
  (digit_Pairs (([(IntKind.wrap .u8 (IntKind.wrap .i64 ((ln l_.B) + 3))), r_, r_1] ++ l_.B) ++ [(bits .xor .u8 (IntKind.max .u8) r_3)])).bind fun r_4 =>
  if ((((⟨#[83]⟩ : ByteArray) ++ r_2).size + r_4.size : Nat) : Int) ≤ 9223372036854775807 then
  some (((⟨#[83]⟩ : ByteArray) ++ r_2) ++ r_4)
  else none
  else none
  else none
  else none
def srec_Put_l3 (l_ : (List srec_Piece)) (t_5 : Int) : Nat → (List Int) → Int → Option ((List Int) × Int × Int × Bool)
  | 0, _, _ => none
  | k + 1, l_11, i_7 =>
    if (decide (i_7 < (ln ((gt l_ t_5).B)))) = true then
      if 0 ≤ (i_7 : Int) ∧ i_7 ≤ ((if (ln ((gt l_ t_5).B)) < (IntKind.wrap .i64 (i_7 + 32)) then (ln ((gt l_ t_5).B)) else (IntKind.wrap .i64 (i_7 + 32))) : Int) ∧ (if (ln ((gt l_ t_5).B)) < (IntKind.wrap .i64 (i_7 + 32)) then (ln ((gt l_ t_5).B)) else (IntKind.wrap .i64 (i_7 + 32))) ≤ (ln ((gt l_ t_5).B)) then
      (srec_Line_Text (srec_Line.mk (1) (IntKind.wrap .u16 ((gt l_ t_5).At + (IntKind.wrap .u16 i_7))) ((((gt l_ t_5).B).drop (i_7 : Int).toNat).take (((if (ln ((gt l_ t_5).B)) < (IntKind.wrap .i64 (i_7 + 32)) then (ln ((gt l_ t_5).B)) else (IntKind.wrap .i64 (i_7 + 32))) : Int).toNat - (i_7 : Int).toNat)))).bind fun r_8 =>
      if ((r_8.size + (⟨#[10]⟩ : ByteArray).size : Nat) : Int) ≤ 9223372036854775807 then
      if (l_11.length + (r_8 ++ (⟨#[10]⟩ : ByteArray)).size) * 1 ≤ 140737488355328 then
      srec_Put_l3 l_ t_5 k (l_11 ++ (sbl (r_8 ++ (⟨#[10]⟩ : ByteArray)))) (IntKind.wrap .i64 (i_7 + 32))
      else none
      else none
      else none
    else
      some (l_11, i_7, i_7, (decide (i_7 < (ln ((gt l_ t_5).B)))))
def srec_Put_l2 (l_ : (List srec_Piece)) : Nat → (List Int) → Int → Option (List Int)
  | 0, _, _ => none
  | k + 1, l_8, t_5 =>
    if (decide (t_5 < (ln l_))) = true then
      if 0 ≤ (t_5 : Int) ∧ t_5 < ln l_ then
      (srec_Put_l3 l_ t_5 BIG l_8 (0)).bind fun (l_12, i_8, t_6, t_7) =>
      srec_Put_l2 l_ k l_12 (IntKind.wrap .i64 (t_5 + 1))
      else none
    else
      some l_8
def srec_Put (start_ : Int) (l_ : (List srec_Piece)) : Option (ByteArray) :=
  (srec_Put_l2 l_ BIG ([] : List Int) (0)).bind fun l_9 =>
  (srec_Line_Text (srec_Line.mk (9) start_ ([] : List Int))).bind fun r_9 =>
  if ((r_9.size + (⟨#[10]⟩ : ByteArray).size : Nat) : Int) ≤ 9223372036854775807 then
  if (l_9.length + (r_9 ++ (⟨#[10]⟩ : ByteArray)).size) * 1 ≤ 140737488355328 then
  if bytesB (l_9 ++ (sbl (r_9 ++ (⟨#[10]⟩ : ByteArray)))) = true then
  some (bs (l_9 ++ (sbl (r_9 ++ (⟨#[10]⟩ : ByteArray)))))
  else none
  else none
  else none
def unicode_utf8_decodeRuneInStringSlow (s_ : ByteArray) : Option (Int × Int) :=
  if (decide ((sln s_) < 1)) = true then
    some (65533, 0)
  else
    none
def unicode_utf8_DecodeRuneInString (s_ : ByteArray) : Option (Int × Int) :=
  if (!(s_.toList == (⟨#[]⟩ : ByteArray).toList)) = true → 0 ≤ (0 : Int) ∧ 0 < sln s_ then
  if ((!(s_.toList == (⟨#[]⟩ : ByteArray).toList)) && (decide ((bt s_ (0)) < 128))) = true then
    if 0 ≤ (0 : Int) ∧ 0 < sln s_ then
    some ((IntKind.wrap .i32 (bt s_ (0))), 1)
    else none
  else
    (unicode_utf8_decodeRuneInStringSlow s_).bind fun r_ =>
    some (r_.1, r_.2)
  else none
def strings_Index (s_ : ByteArray) (substr_ : ByteArray) : Option (Int) :=
  (internal_stringslite_Index s_ substr_).bind fun r_ =>
  some r_
def strings_genSplit_l0 (s_ : ByteArray) (sep_ : ByteArray) (sepSave_ : Int) (t_ : Int) : Nat → (List ByteArray) → ByteArray → Int → Option ((List ByteArray) × ByteArray × Int)
  | 0, _, _, _ => none
  | k + 1, l_1, t_2, i_1 =>
    if (decide (i_1 < (IntKind.wrap .i64 ((if (IntKind.wrap .i64 ((sln s_) + 1)) < t_ then (IntKind.wrap .i64 ((sln s_) + 1)) else t_) - 1)))) = true then
      (strings_Index t_2 sep_).bind fun r_3 =>
      if (decide (r_3 < 0)) = true then
        some (l_1, t_2, i_1)
      else
        if 0 ≤ ((IntKind.wrap .i64 (r_3 + sepSave_)) : Int) ∧ (IntKind.wrap .i64 (r_3 + sepSave_)) ≤ (sln t_2) then
        if 0 ≤ (i_1 : Int) ∧ i_1 < ln l_1 then
        if 0 ≤ ((IntKind.wrap .i64 (r_3 + (sln sep_))) : Int) ∧ (IntKind.wrap .i64 (r_3 + (sln sep_))) ≤ (sln t_2) then
        strings_genSplit_l0 s_ sep_ sepSave_ t_ k (st l_1 i_1 (t_2.extract 0 ((IntKind.wrap .i64 (r_3 + sepSave_)) : Int).toNat)) (t_2.extract ((IntKind.wrap .i64 (r_3 + (sln sep_))) : Int).toNat t_2.size) (IntKind.wrap .i64 (i_1 + 1))
        else none
        else none
        else none
    else
      some (l_1, t_2, i_1)
def strings_genSplit_j0 (s_ : ByteArray) (sep_ : ByteArray) (sepSave_ : Int) (t_ : Int) : Option ((List ByteArray)) :=
  if 0 ≤ ((if (IntKind.wrap .i64 ((sln s_) + 1)) < t_ then (IntKind.wrap .i64 ((sln s_) + 1)) else t_) : Int) ∧ ((if (IntKind.wrap .i64 ((sln s_) + 1)) < t_ then (IntKind.wrap .i64 ((sln s_) + 1)) else t_) : Int) ≤ (if (IntKind.wrap .i64 ((sln s_) + 1)) < t_ then (IntKind.wrap .i64 ((sln s_) + 1)) else t_) ∧ ((if (IntKind.wrap .i64 ((sln s_) + 1)) < t_ then (IntKind.wrap .i64 ((sln s_) + 1)) else t_) : Int) * 16 ≤ 281474976710656 ∧ ((if (IntKind.wrap .i64 ((sln s_) + 1)) < t_ then (IntKind.wrap .i64 ((sln s_) + 1)) else t_) : Int) ≤ 281474976710656 then
  (strings_genSplit_l0 s_ sep_ sepSave_ t_ BIG (rp (if (IntKind.wrap .i64 ((sln s_) + 1)) < t_ then (IntKind.wrap .i64 ((sln s_) + 1)) else t_) ((⟨#[]⟩ : ByteArray) : ByteArray)) s_ (0)).bind fun (l_2, t_3, i_2) =>
  if 0 ≤ (i_2 : Int) ∧ i_2 < ln l_2 then
  if 0 ≤ ((IntKind.wrap .i64 (i_2 + 1)) : Int) ∧ (IntKind.wrap .i64 (i_2 + 1)) ≤ (ln (st l_2 i_2 t_3)) then
  some (((st l_2 i_2 t_3).drop 0).take (((IntKind.wrap .i64 (i_2 + 1)) : Int).toNat - 0))
  else none
  else none
  else none
def strings_genSplit (s_ : ByteArray) (sep_ : ByteArray) (sepSave_ : Int) (n_ : Int) : Option ((List ByteArray)) :=
  if (n_ == 0) = true then
    some ([] : List ByteArray)
  else
    if (sep_.toList == (⟨#[]⟩ : ByteArray).toList) = true then
      none
    else
      if (decide (n_ < 0)) = true then
        (strings_Count s_ sep_).bind fun r_ =>
        strings_genSplit_j0 s_ sep_ sepSave_ (IntKind.wrap .i64 (r_ + 1))
      else
        strings_genSplit_j0 s_ sep_ sepSave_ n_
def strings_Split (s_ : ByteArray) (sep_ : ByteArray) : Option ((List ByteArray)) :=
  (strings_genSplit s_ sep_ (0) (-1)).bind fun r_ =>
  some r_
def digit_value (c_ : Int) : Option (Int × Bool) :=
  if ((decide (48 ≤ c_)) && (decide (c_ ≤ 57))) = true then
    some ((IntKind.wrap .u8 (c_ - 48)), true)
  else
    if ((decide (65 ≤ c_)) && (decide (c_ ≤ 70))) = true then
      some ((IntKind.wrap .u8 ((IntKind.wrap .u8 (c_ - 65)) + 10)), true)
    else
      if ((decide (97 ≤ c_)) && (decide (c_ ≤ 102))) = true then
        some ((IntKind.wrap .u8 ((IntKind.wrap .u8 (c_ - 97)) + 10)), true)
      else
        some (0, false)
def digit_Unpair_l0 (s_ : ByteArray) : Nat → (List Int) → Int → Option (Out ((List Int) × Int) (List Int))
  | 0, _, _ => none
  | k + 1, l_1, i_1 =>
    if (decide (i_1 < (sln s_))) = true then
      if 0 ≤ (i_1 : Int) ∧ i_1 < sln s_ then
      (digit_value (bt s_ i_1)).bind fun r_4 =>
      if 0 ≤ ((IntKind.wrap .i64 (i_1 + 1)) : Int) ∧ (IntKind.wrap .i64 (i_1 + 1)) < sln s_ then
      (digit_value (bt s_ (IntKind.wrap .i64 (i_1 + 1)))).bind fun r_5 =>
      if ((!r_4.2) || (!r_5.2)) = true then
        some (.ret (([] : List Int), 21))
      else
        if (l_1.length + [(bits .or .u8 (IntKind.wrap .u8 (r_4.1 * 2 ^ (4))) r_5.1)].length) * 1 ≤ 140737488355328 then
        digit_Unpair_l0 s_ k (l_1 ++ [(bits .or .u8 (IntKind.wrap .u8 (r_4.1 * 2 ^ (4))) r_5.1)]) (IntKind.wrap .i64 (i_1 + 2))
        else none
      else none
      else none
    else
      some (.go l_1)
def digit_Unpair (s_ : ByteArray) : Option ((List Int) × Int) :=
  if ((Int.tmod (sln s_) 2) != 0) = true then
    some (([] : List Int), 21)
  else
    (digit_Unpair_l0 s_ BIG ([] : List Int) (0)).bind fun o => match o with
      | .ret r => some r
      | .go l_2 =>
        some (l_2, 0)
def octet_Word (hi_ : Int) (lo_ : Int) : Option (Int) :=
  some (bits .or .u16 (IntKind.wrap .u16 ((IntKind.wrap .u16 hi_) * 2 ^ (8))) (IntKind.wrap .u16 lo_))
def srec_Line_right (l_ : srec_Line) : Option (Bool) :=
  some ((((l_.Kind == 0) || (l_.Kind == 1)) || ((l_.Kind == 9) && ((ln l_.B) == 0))) && (decide ((ln l_.B) ≤ 252)))
def srec_Read (s_ : ByteArray) : Option (srec_Line × Int) :=
  if (!(decide ((sln s_) < 2))) = true → 0 ≤ (0 : Int) ∧ 0 < sln s_ then
  if (!((decide ((sln s_) < 2)) || ((bt s_ (0)) != 83))) = true → 0 ≤ (1 : Int) ∧ 1 < sln s_ then
  if (((bt s_ (1)) != 48) && (!((decide ((sln s_) < 2)) || ((bt s_ (0)) != 83)))) = true → 0 ≤ (1 : Int) ∧ 1 < sln s_ then
  if ((((bt s_ (1)) != 48) && ((bt s_ (1)) != 49)) && (!((decide ((sln s_) < 2)) || ((bt s_ (0)) != 83)))) = true → 0 ≤ (1 : Int) ∧ 1 < sln s_ then
  if (((decide ((sln s_) < 2)) || ((bt s_ (0)) != 83)) || ((((bt s_ (1)) != 48) && ((bt s_ (1)) != 49)) && ((bt s_ (1)) != 57))) = true then
    some ((srec_Line.mk (0) (0) ([] : List Int)), 21)
  else
    if 0 ≤ (2 : Int) ∧ 2 ≤ (sln s_) then
    (digit_Unpair (s_.extract (2 : Int).toNat s_.size)).bind fun r_ =>
    if ((r_.2 != 0) || (decide ((ln r_.1) < 4))) = true then
      some ((srec_Line.mk (0) (0) ([] : List Int)), 21)
    else
      if 0 ≤ (0 : Int) ∧ 0 < ln r_.1 then
      if ((IntKind.wrap .i64 (gt r_.1 (0))) != (IntKind.wrap .i64 ((ln r_.1) - 1))) = true then
        some ((srec_Line.mk (0) (0) ([] : List Int)), 12)
      else
        (octet_Sum r_.1).bind fun r_1 =>
        if (r_1 != 255) = true then
          some ((srec_Line.mk (0) (0) ([] : List Int)), 22)
        else
          if 0 ≤ (1 : Int) ∧ 1 < sln s_ then
          if 0 ≤ (1 : Int) ∧ 1 < ln r_.1 then
          if 0 ≤ (2 : Int) ∧ 2 < ln r_.1 then
          (octet_Word (gt r_.1 (1)) (gt r_.1 (2))).bind fun r_2 =>
          if (0 ≤ ((IntKind.wrap .i64 ((ln r_.1) - 1)) : Int) ∧ (IntKind.wrap .i64 ((ln r_.1) - 1)) ≤ (ln r_.1)) ∧ 0 ≤ (3 : Int) ∧ 3 ≤ ((IntKind.wrap .i64 ((ln r_.1) - 1)) : Int) ∧ (IntKind.wrap .i64 ((ln r_.1) - 1)) ≤ (IntKind.wrap .i64 ((ln r_.1) - 1)) then
          (srec_Line_right (srec_Line.mk (IntKind.wrap .i64 (IntKind.wrap .u8 ((bt s_ (1)) - 48))) r_2 ((r_.1.drop (3 : Int).toNat).take (((IntKind.wrap .i64 ((ln r_.1) - 1)) : Int).toNat - (3 : Int).toNat)))).bind fun r_3 =>
          if (!r_3) = true then
            some ((srec_Line.mk (0) (0) ([] : List Int)), 21)
          else
            some ((srec_Line.mk (IntKind.wrap .i64 (IntKind.wrap .u8 ((bt s_ (1)) - 48))) r_2 ((r_.1.drop (3 : Int).toNat).take (((IntKind.wrap .i64 ((ln r_.1) - 1)) : Int).toNat - (3 : Int).toNat))), 0)
          else none
          else none
          else none
          else none
      else none
    else none
  else none
  else none
  else none
  else none
def srec_Get_l0 (r_ : ((List ByteArray))) : Nat → (List srec_Piece) → Int → Option (Out ((List srec_Piece) × Int × Int × Int) (List srec_Piece))
  | 0, _, _ => none
  | k + 1, l_1, t_1 =>
    if (decide (t_1 < (ln r_))) = true then
      if 0 ≤ (t_1 : Int) ∧ t_1 < ln r_ then
      if ((gt r_ t_1).toList == (⟨#[]⟩ : ByteArray).toList) = true then
        srec_Get_l0 r_ k l_1 (IntKind.wrap .i64 (t_1 + 1))
      else
        (srec_Read (gt r_ t_1)).bind fun r_3 =>
        if (r_3.2 != 0) = true then
          some (.ret (([] : List srec_Piece), 0, (IntKind.wrap .i64 (t_1 + 1)), r_3.2))
        else
          if (r_3.1.Kind == 9) = true then
            some (.ret (l_1, r_3.1.At, 0, 0))
          else
            if ((r_3.1.Kind == 1) && (decide (65536 < (IntKind.wrap .i64 ((IntKind.wrap .i64 r_3.1.At) + (ln r_3.1.B)))))) = true then
              some (.ret (([] : List srec_Piece), 0, (IntKind.wrap .i64 (t_1 + 1)), 11))
            else
              if ((r_3.1.Kind == 1) && (decide (0 < (ln r_3.1.B)))) = true then
                if (l_1.length + [(srec_Piece.mk r_3.1.At r_3.1.B)].length) * 32 ≤ 140737488355328 then
                srec_Get_l0 r_ k (l_1 ++ [(srec_Piece.mk r_3.1.At r_3.1.B)]) (IntKind.wrap .i64 (t_1 + 1))
                else none
              else
                srec_Get_l0 r_ k l_1 (IntKind.wrap .i64 (t_1 + 1))
      else none
    else
      some (.go l_1)
def srec_Get (s_ : ByteArray) : Option ((List srec_Piece) × Int × Int × Int) :=
  (strings_Split s_ (⟨#[10]⟩ : ByteArray)).bind fun r_ =>
  (srec_Get_l0 r_ BIG ([] : List srec_Piece) (0)).bind fun o => match o with
    | .ret r => some r
    | .go l_2 =>
      some (([] : List srec_Piece), 0, (ln r_), 20)
def bytes_Equal (a_ : (List Int)) (b_ : (List Int)) : Option (Bool) :=
  some ((bs a_).toList == (bs b_).toList)
def srec_Load_l0 (l_ : (List srec_Piece)) : Nat → (List Int) → Int → Option (List Int)
  | 0, _, _ => none
  | k + 1, l_2, t_1 =>
    if (decide (t_1 < (ln l_))) = true then
      if 0 ≤ (t_1 : Int) ∧ t_1 < ln l_ then
      if 0 ≤ ((gt l_ t_1).At : Int) ∧ (gt l_ t_1).At ≤ (ln l_2) then
      srec_Load_l0 l_ k (cpyL l_2 (((gt l_ t_1).At : Int).toNat) (l_2.length - ((gt l_ t_1).At : Int).toNat) ((gt l_ t_1).B)) (IntKind.wrap .i64 (t_1 + 1))
      else none
      else none
    else
      some l_2
def srec_Load (l_ : (List srec_Piece)) : Option ((List Int)) :=
  if 0 ≤ (65536 : Int) ∧ (65536 : Int) ≤ 65536 ∧ (65536 : Int) * 1 ≤ 281474976710656 ∧ (65536 : Int) ≤ 281474976710656 then
  (srec_Load_l0 l_ BIG (rp (65536) (0 : Int)) (0)).bind fun l_3 =>
  some l_3
  else none
def spinetlaw40_alive : Option (Bool) :=
  (srec_Line_Text (srec_Line.mk (9) (0) ([] : List Int))).bind fun r_ =>
  some ((r_.toList == (⟨#[83, 57, 48, 51, 48, 48, 48, 48, 70, 67]⟩ : ByteArray).toList) || false)
def spinetlaw40_SrecPuts_l3 (l_ : (List srec_Piece)) (l_3 : (List Int)) (i_1 : Int) : Nat → ByteArray → Int → Option ((List Int) × ByteArray × Int × Int × Bool)
  | 0, _, _ => none
  | k + 1, want_10, k_7 =>
    if (decide (k_7 < (ln ((gt l_ i_1).B)))) = true then
      if 0 ≤ (i_1 : Int) ∧ i_1 < ln l_ then
      if 0 ≤ (k_7 : Int) ∧ k_7 ≤ ((if (ln ((gt l_ i_1).B)) < (IntKind.wrap .i64 (k_7 + 32)) then (ln ((gt l_ i_1).B)) else (IntKind.wrap .i64 (k_7 + 32))) : Int) ∧ (if (ln ((gt l_ i_1).B)) < (IntKind.wrap .i64 (k_7 + 32)) then (ln ((gt l_ i_1).B)) else (IntKind.wrap .i64 (k_7 + 32))) ≤ (ln ((gt l_ i_1).B)) then
      (spinetref40_Text (spinetref40_Line.mk (1) (IntKind.wrap .u16 ((gt l_ i_1).At + (IntKind.wrap .u16 k_7))) ((((gt l_ i_1).B).drop (k_7 : Int).toNat).take (((if (ln ((gt l_ i_1).B)) < (IntKind.wrap .i64 (k_7 + 32)) then (ln ((gt l_ i_1).B)) else (IntKind.wrap .i64 (k_7 + 32))) : Int).toNat - (k_7 : Int).toNat)))).bind fun r_9 =>
      if ((r_9.size + (⟨#[10]⟩ : ByteArray).size : Nat) : Int) ≤ 9223372036854775807 then
      if ((want_10.size + (r_9 ++ (⟨#[10]⟩ : ByteArray)).size : Nat) : Int) ≤ 9223372036854775807 then
      spinetlaw40_SrecPuts_l3 l_ l_3 i_1 k (want_10 ++ (r_9 ++ (⟨#[10]⟩ : ByteArray))) (IntKind.wrap .i64 (k_7 + 32))
      else none
      else none
      else none
      else none
    else
      some ((cpyL l_3 (((gt l_ i_1).At : Int).toNat) (l_3.length - ((gt l_ i_1).At : Int).toNat) ((gt l_ i_1).B)), want_10, k_7, k_7, (decide (k_7 < (ln ((gt l_ i_1).B)))))
def spinetlaw40_SrecPuts_l2 (l_ : (List srec_Piece)) : Nat → (List Int) → ByteArray → Int → Option ((List Int) × ByteArray)
  | 0, _, _, _ => none
  | k + 1, l_3, want_7, i_1 =>
    if (decide (i_1 < (ln l_))) = true then
      if 0 ≤ (i_1 : Int) ∧ i_1 < ln l_ then
      if 0 ≤ (i_1 : Int) ∧ i_1 < ln l_ then
      if 0 ≤ ((gt l_ i_1).At : Int) ∧ (gt l_ i_1).At ≤ (ln l_3) then
      (spinetlaw40_SrecPuts_l3 l_ l_3 i_1 BIG want_7 (0)).bind fun (l_5, want_11, k_8, t_4, t_5) =>
      spinetlaw40_SrecPuts_l2 l_ k l_5 want_11 (IntKind.wrap .i64 (i_1 + 1))
      else none
      else none
      else none
    else
      some (l_3, want_7)
def spinetlaw40_SrecPuts (start_ : Int) (l_ : (List srec_Piece)) : Option (Bool) :=
  ((if (!(decide (10 < (ln l_)))) = true then spinetlaw40_fits l_ else some default)).bind fun r_ =>
  if ((decide (10 < (ln l_))) || (!r_)) = true then
    some true
  else
    if 0 ≤ (65536 : Int) ∧ (65536 : Int) ≤ 65536 ∧ (65536 : Int) * 1 ≤ 281474976710656 ∧ (65536 : Int) ≤ 281474976710656 then
    (spinetlaw40_SrecPuts_l2 l_ BIG (rp (65536) (0 : Int)) (⟨#[]⟩ : ByteArray) (0)).bind fun (l_4, want_8) =>
    (spinetref40_Text (spinetref40_Line.mk (9) start_ ([] : List Int))).bind fun r_10 =>
    if ((r_10.size + (⟨#[10]⟩ : ByteArray).size : Nat) : Int) ≤ 9223372036854775807 then
    if ((want_8.size + (r_10 ++ (⟨#[10]⟩ : ByteArray)).size : Nat) : Int) ≤ 9223372036854775807 then
    (srec_Put start_ l_).bind fun r_11 =>
    (srec_Get r_11).bind fun r_12 =>
    ((if (!((((!(r_11.toList == (want_8 ++ (r_10 ++ (⟨#[10]⟩ : ByteArray))).toList)) || (r_12.2.1 != start_)) || (r_12.2.2.1 != 0)) || (r_12.2.2.2 != 0))) = true then spinetlaw40_fits r_12.1 else some default)).bind fun r_13 =>
    if (((((!(r_11.toList == (want_8 ++ (r_10 ++ (⟨#[10]⟩ : ByteArray))).toList)) || (r_12.2.1 != start_)) || (r_12.2.2.1 != 0)) || (r_12.2.2.2 != 0)) || (!r_13)) = true then
      some false
    else
      (srec_Load l_).bind fun r_14 =>
      (bytes_Equal r_14 l_4).bind fun r_15 =>
      ((if r_15 = true then srec_Load r_12.1 else some default)).bind fun r_16 =>
      ((if r_15 = true then bytes_Equal r_16 l_4 else some default)).bind fun r_17 =>
      ((if (r_15 && r_17) = true then spinetlaw40_alive else some default)).bind fun r_18 =>
      some ((r_15 && r_17) && r_18)
    else none
    else none
    else none
end Go.Proofs.YtphfmfbebcconaaDoorK
