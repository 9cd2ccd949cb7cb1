/- The functions, over typed data. Printed by a program of this work. -/
import Derived.Test.YthhjooegpjgicaaDoorRj
namespace Go.Proofs.YthhjooegpjgicaaDoorK
set_option linter.unusedVariables false
set_option linter.unusedSimpArgs false
set_option maxHeartbeats 4000000
open Go.RowKit
attribute [local irreducible] dwv mops lops lqops lwops kont iter run runK rk okK ex E1 vals val chain chB sel resF
structure unicode_utf8_acceptRange where
  lo : Int
  hi : Int
instance : Inhabited unicode_utf8_acceptRange := ⟨⟨0, 0⟩⟩
def unicode_utf8_acceptRange.v (x : unicode_utf8_acceptRange) : List V := [.s (.int .u8 x.lo), .s (.int .u8 x.hi)]
instance : Cells unicode_utf8_acceptRange.v 2 := ⟨fun _ => rfl, fun _ => rfl, fun _ => rfl⟩
def sl_str (x : (List ByteArray)) : List V := [.sl false x.length (cat nS x)]
instance : Cells sl_str 1 := ⟨fun _ => rfl, fun _ => by simp [sl_str, statics, V.static, cat_stat], fun _ => rfl⟩
structure api_Pins where
  Reset : Bool
  Nmi : Bool
  Firq : Bool
  Irq : Bool
  Halt : Bool
  Req : Bool
instance : Inhabited api_Pins := ⟨⟨false, false, false, false, false, false⟩⟩
def api_Pins.v (x : api_Pins) : List V := [.s (.bool x.Reset), .s (.bool x.Nmi), .s (.bool x.Firq), .s (.bool x.Irq), .s (.bool x.Halt), .s (.bool x.Req)]
instance : Cells api_Pins.v 6 := ⟨fun _ => rfl, fun _ => rfl, fun _ => rfl⟩
structure A6_bool where
  a0 : Bool
  a1 : Bool
  a2 : Bool
  a3 : Bool
  a4 : Bool
  a5 : Bool
instance : Inhabited A6_bool := ⟨⟨false, false, false, false, false, false⟩⟩
def A6_bool.v (x : A6_bool) : List V := [.s (.bool x.a0), .s (.bool x.a1), .s (.bool x.a2), .s (.bool x.a3), .s (.bool x.a4), .s (.bool x.a5)]
instance : Cells A6_bool.v 6 := ⟨fun _ => rfl, fun _ => rfl, fun _ => rfl⟩
def sl_api_Pins (x : (List api_Pins)) : List V := [.sl false x.length (cat api_Pins.v x)]
instance : Cells sl_api_Pins 1 := ⟨fun _ => rfl, fun _ => by simp [sl_api_Pins, statics, V.static, cat_stat], fun _ => rfl⟩
structure A20_u8 where
  a0 : Int
  a1 : Int
  a2 : Int
  a3 : Int
  a4 : Int
  a5 : Int
  a6 : Int
  a7 : Int
  a8 : Int
  a9 : Int
  a10 : Int
  a11 : Int
  a12 : Int
  a13 : Int
  a14 : Int
  a15 : Int
  a16 : Int
  a17 : Int
  a18 : Int
  a19 : Int
instance : Inhabited A20_u8 := ⟨⟨0, 0, 0, 0, 0, 0, 0, 0, 0, 0, 0, 0, 0, 0, 0, 0, 0, 0, 0, 0⟩⟩
def A20_u8.v (x : A20_u8) : List V := [.s (.int .u8 x.a0), .s (.int .u8 x.a1), .s (.int .u8 x.a2), .s (.int .u8 x.a3), .s (.int .u8 x.a4), .s (.int .u8 x.a5), .s (.int .u8 x.a6), .s (.int .u8 x.a7), .s (.int .u8 x.a8), .s (.int .u8 x.a9), .s (.int .u8 x.a10), .s (.int .u8 x.a11), .s (.int .u8 x.a12), .s (.int .u8 x.a13), .s (.int .u8 x.a14), .s (.int .u8 x.a15), .s (.int .u8 x.a16), .s (.int .u8 x.a17), .s (.int .u8 x.a18), .s (.int .u8 x.a19)]
instance : Cells A20_u8.v 20 := ⟨fun _ => rfl, fun _ => rfl, fun _ => rfl⟩
def sl_u8 (x : (List Int)) : List V := [.sl false x.length (cat (nI .u8) x)]
instance : Cells sl_u8 1 := ⟨fun _ => rfl, fun _ => by simp [sl_u8, statics, V.static, cat_stat], fun _ => rfl⟩
def unicode_utf8_decodeRuneInStringSlow (s_ : ByteArray) : Option (Int × Int) :=
  if (decide ((sln s_) < 1)) = true then
    some (65533, 0)
  else
    none
def unicode_utf8_DecodeRuneInString (s_ : ByteArray) : Option (Int × Int) :=
  if (!(s_.toList == (⟨#[]⟩ : ByteArray).toList)) = true → 0 ≤ (0 : Int) ∧ 0 < sln s_ then
  if ((!(s_.toList == (⟨#[]⟩ : ByteArray).toList)) && (decide ((bt s_ (0)) < 128))) = true then
    if 0 ≤ (0 : Int) ∧ 0 < sln s_ then
    some ((IntKind.wrap .i32 (bt s_ (0))), 1)
    else none
  else
    (unicode_utf8_decodeRuneInStringSlow s_).bind fun r_ =>
    some (r_.1, r_.2)
  else none
def strings_Index (s_ : ByteArray) (substr_ : ByteArray) : Option (Int) :=
  (internal_stringslite_Index s_ substr_).bind fun r_ =>
  some r_
def strings_genSplit_l0 (s_ : ByteArray) (sep_ : ByteArray) (sepSave_ : Int) (t_ : Int) : Nat → (List ByteArray) → ByteArray → Int → Option ((List ByteArray) × ByteArray × Int)
  | 0, _, _, _ => none
  | k + 1, l_1, t_2, i_1 =>
    if (decide (i_1 < (IntKind.wrap .i64 ((if (IntKind.wrap .i64 ((sln s_) + 1)) < t_ then (IntKind.wrap .i64 ((sln s_) + 1)) else t_) - 1)))) = true then
      (strings_Index t_2 sep_).bind fun r_3 =>
      if (decide (r_3 < 0)) = true then
        some (l_1, t_2, i_1)
      else
        if 0 ≤ ((IntKind.wrap .i64 (r_3 + sepSave_)) : Int) ∧ (IntKind.wrap .i64 (r_3 + sepSave_)) ≤ (sln t_2) then
        if 0 ≤ (i_1 : Int) ∧ i_1 < ln l_1 then
        if 0 ≤ ((IntKind.wrap .i64 (r_3 + (sln sep_))) : Int) ∧ (IntKind.wrap .i64 (r_3 + (sln sep_))) ≤ (sln t_2) then
        strings_genSplit_l0 s_ sep_ sepSave_ t_ k (st l_1 i_1 (t_2.extract 0 ((IntKind.wrap .i64 (r_3 + sepSave_)) : Int).toNat)) (t_2.extract ((IntKind.wrap .i64 (r_3 + (sln sep_))) : Int).toNat t_2.size) (IntKind.wrap .i64 (i_1 + 1))
        else none
        else none
        else none
    else
      some (l_1, t_2, i_1)
def strings_genSplit_j0 (s_ : ByteArray) (sep_ : ByteArray) (sepSave_ : Int) (t_ : Int) : Option ((List ByteArray)) :=
  if 0 ≤ ((if (IntKind.wrap .i64 ((sln s_) + 1)) < t_ then (IntKind.wrap .i64 ((sln s_) + 1)) else t_) : Int) ∧ ((if (IntKind.wrap .i64 ((sln s_) + 1)) < t_ then (IntKind.wrap .i64 ((sln s_) + 1)) else t_) : Int) ≤ (if (IntKind.wrap .i64 ((sln s_) + 1)) < t_ then (IntKind.wrap .i64 ((sln s_) + 1)) else t_) ∧ ((if (IntKind.wrap .i64 ((sln s_) + 1)) < t_ then (IntKind.wrap .i64 ((sln s_) + 1)) else t_) : Int) * 16 ≤ 281474976710656 ∧ ((if (IntKind.wrap .i64 ((sln s_) + 1)) < t_ then (IntKind.wrap .i64 ((sln s_) + 1)) else t_) : Int) ≤ 281474976710656 then
  (strings_genSplit_l0 s_ sep_ sepSave_ t_ BIG (rp (if (IntKind.wrap .i64 ((sln s_) + 1)) < t_ then (IntKind.wrap .i64 ((sln s_) + 1)) else t_) ((⟨#[]⟩ : ByteArray) : ByteArray)) s_ (0)).bind fun (l_2, t_3, i_2) =>
  if 0 ≤ (i_2 : Int) ∧ i_2 < ln l_2 then
  if 0 ≤ ((IntKind.wrap .i64 (i_2 + 1)) : Int) ∧ (IntKind.wrap .i64 (i_2 + 1)) ≤ (ln (st l_2 i_2 t_3)) then
  some (((st l_2 i_2 t_3).drop 0).take (((IntKind.wrap .i64 (i_2 + 1)) : Int).toNat - 0))
  else none
  else none
  else none
def strings_genSplit (s_ : ByteArray) (sep_ : ByteArray) (sepSave_ : Int) (n_ : Int) : Option ((List ByteArray)) :=
  if (n_ == 0) = true then
    some ([] : List ByteArray)
  else
    if (sep_.toList == (⟨#[]⟩ : ByteArray).toList) = true then
      none
    else
      if (decide (n_ < 0)) = true then
        (strings_Count s_ sep_).bind fun r_ =>
        strings_genSplit_j0 s_ sep_ sepSave_ (IntKind.wrap .i64 (r_ + 1))
      else
        strings_genSplit_j0 s_ sep_ sepSave_ n_
def strings_Split (s_ : ByteArray) (sep_ : ByteArray) : Option ((List ByteArray)) :=
  (strings_genSplit s_ sep_ (0) (-1)).bind fun r_ =>
  some r_
def pins_levels (p_ : api_Pins) : Option (A6_bool) :=
  some (A6_bool.mk p_.Reset p_.Nmi p_.Firq p_.Irq p_.Halt p_.Req)
def pins_Word_l0 (r_ : (A6_bool)) : Nat → ByteArray → Int → Option ByteArray
  | 0, _, _ => none
  | k + 1, s_1, t_1 =>
    if (decide (t_1 < 6)) = true then
      if 0 ≤ (t_1 : Int) ∧ t_1 < (6 : Int) then
      if (gt [r_.a0, r_.a1, r_.a2, r_.a3, r_.a4, r_.a5] t_1) = true then
        if 0 ≤ (t_1 : Int) ∧ t_1 ≤ ((IntKind.wrap .i64 (t_1 + 1)) : Int) ∧ (IntKind.wrap .i64 (t_1 + 1)) ≤ (sln (⟨#[82, 78, 70, 73, 72, 81]⟩ : ByteArray)) then
        if ((s_1.size + ((⟨#[82, 78, 70, 73, 72, 81]⟩ : ByteArray).extract (t_1 : Int).toNat ((IntKind.wrap .i64 (t_1 + 1)) : Int).toNat).size : Nat) : Int) ≤ 9223372036854775807 then
        pins_Word_l0 r_ k (s_1 ++ ((⟨#[82, 78, 70, 73, 72, 81]⟩ : ByteArray).extract (t_1 : Int).toNat ((IntKind.wrap .i64 (t_1 + 1)) : Int).toNat)) (IntKind.wrap .i64 (t_1 + 1))
        else none
        else none
      else
        pins_Word_l0 r_ k s_1 (IntKind.wrap .i64 (t_1 + 1))
      else none
    else
      some s_1
def pins_Word (p_ : api_Pins) : Option (ByteArray) :=
  (pins_levels p_).bind fun r_ =>
  (pins_Word_l0 r_ BIG (⟨#[]⟩ : ByteArray) (0)).bind fun s_2 =>
  if (s_2.toList == (⟨#[]⟩ : ByteArray).toList) = true then
    some (⟨#[46]⟩ : ByteArray)
  else
    some s_2
def strings_IndexByte (s_ : ByteArray) (c_ : Int) : Option (Int) :=
  (internal_stringslite_IndexByte s_ c_).bind fun r_ =>
  some r_
def pins_One_l0 (s_ : ByteArray) : Nat → (List Bool) → Int → Option (List Bool)
  | 0, _, _ => none
  | k + 1, l_1, t_2 =>
    if (decide (t_2 < 6)) = true then
      if 0 ≤ (t_2 : Int) ∧ t_2 < sln (⟨#[82, 78, 70, 73, 72, 81]⟩ : ByteArray) then
      (strings_IndexByte s_ (bt (⟨#[82, 78, 70, 73, 72, 81]⟩ : ByteArray) t_2)).bind fun r_3 =>
      if 0 ≤ (t_2 : Int) ∧ t_2 < (6 : Int) then
      pins_One_l0 s_ k (st l_1 t_2 (decide (0 ≤ r_3))) (IntKind.wrap .i64 (t_2 + 1))
      else none
      else none
    else
      some l_1
def pins_One (s_ : ByteArray) : Option (api_Pins × Bool) :=
  (pins_One_l0 s_ BIG [false, false, false, false, false, false] (0)).bind fun l_2 =>
  if 0 ≤ (0 : Int) ∧ 0 < (6 : Int) then
  if 0 ≤ (1 : Int) ∧ 1 < (6 : Int) then
  if 0 ≤ (2 : Int) ∧ 2 < (6 : Int) then
  if 0 ≤ (3 : Int) ∧ 3 < (6 : Int) then
  if 0 ≤ (4 : Int) ∧ 4 < (6 : Int) then
  if 0 ≤ (5 : Int) ∧ 5 < (6 : Int) then
  (pins_Word (api_Pins.mk (gt l_2 (0)) (gt l_2 (1)) (gt l_2 (2)) (gt l_2 (3)) (gt l_2 (4)) (gt l_2 (5)))).bind fun r_4 =>
  if (!(r_4.toList == s_.toList)) = true then
    some ((api_Pins.mk false false false false false false), false)
  else
    some ((api_Pins.mk (gt l_2 (0)) (gt l_2 (1)) (gt l_2 (2)) (gt l_2 (3)) (gt l_2 (4)) (gt l_2 (5))), true)
  else none
  else none
  else none
  else none
  else none
  else none
def internal_stringslite_Cut (s_ : ByteArray) (sep_ : ByteArray) : Option (ByteArray × ByteArray × Bool) :=
  (internal_stringslite_Index s_ sep_).bind fun r_ =>
  if (decide (0 ≤ r_)) = true then
    if 0 ≤ (r_ : Int) ∧ r_ ≤ (sln s_) then
    if 0 ≤ ((IntKind.wrap .i64 (r_ + (sln sep_))) : Int) ∧ (IntKind.wrap .i64 (r_ + (sln sep_))) ≤ (sln s_) then
    some ((s_.extract 0 (r_ : Int).toNat), (s_.extract ((IntKind.wrap .i64 (r_ + (sln sep_))) : Int).toNat s_.size), true)
    else none
    else none
  else
    some (s_, (⟨#[]⟩ : ByteArray), false)
def strings_Cut (s_ : ByteArray) (sep_ : ByteArray) : Option (ByteArray × ByteArray × Bool) :=
  (internal_stringslite_Cut s_ sep_).bind fun r_ =>
  some (r_.1, r_.2.1, r_.2.2)
def pins_count_l0 (s_ : ByteArray) : Nat → Int → Int → Option (Out (Int × Bool) Int)
  | 0, _, _ => none
  | k + 1, n_1, t_1 =>
    if (decide (t_1 < (sln s_))) = true then
      if 0 ≤ (t_1 : Int) ∧ t_1 < sln s_ then
      if (!(decide ((bt s_ t_1) < 48))) = true → 0 ≤ (t_1 : Int) ∧ t_1 < sln s_ then
      if ((decide ((bt s_ t_1) < 48)) || (decide (57 < (bt s_ t_1)))) = true then
        some (.ret (0, false))
      else
        if 0 ≤ (t_1 : Int) ∧ t_1 < sln s_ then
        pins_count_l0 s_ k (if 4097 < (IntKind.wrap .i64 ((IntKind.wrap .i64 (10 * n_1)) + (IntKind.wrap .i64 (IntKind.wrap .u8 ((bt s_ t_1) - 48))))) then 4097 else (IntKind.wrap .i64 ((IntKind.wrap .i64 (10 * n_1)) + (IntKind.wrap .i64 (IntKind.wrap .u8 ((bt s_ t_1) - 48)))))) (IntKind.wrap .i64 (t_1 + 1))
        else none
      else none
      else none
    else
      some (.go n_1)
def pins_count (s_ : ByteArray) : Option (Int × Bool) :=
  (pins_count_l0 s_ BIG (0) (0)).bind fun o => match o with
    | .ret r => some r
    | .go n_2 =>
      some (n_2, (!(s_.toList == (⟨#[]⟩ : ByteArray).toList)))
def pins_piece (s_ : ByteArray) : Option (api_Pins × Int × Int) :=
  (strings_Cut s_ (⟨#[42]⟩ : ByteArray)).bind fun r_ =>
  (pins_One r_.1).bind fun r_1 =>
  if (!r_1.2) = true then
    some ((api_Pins.mk false false false false false false), 0, 21)
  else
    if (!r_.2.2) = true then
      some (r_1.1, 1, 0)
    else
      (pins_count r_.2.1).bind fun r_2 =>
      if (!r_2.2) = true then
        some ((api_Pins.mk false false false false false false), 0, 21)
      else
        if (r_2.1 == 0) = true then
          some ((api_Pins.mk false false false false false false), 0, 10)
        else
          some (r_1.1, r_2.1, 0)
def pins_Parse_l3 (r_3 : (api_Pins × Int × Int)) : Nat → (List api_Pins) → Int → Option ((List api_Pins) × Int × Bool)
  | 0, _, _ => none
  | k + 1, l_10, t_11 =>
    if (decide (t_11 < r_3.2.1)) = true then
      if (l_10.length + [r_3.1].length) * 6 ≤ 140737488355328 then
      pins_Parse_l3 r_3 k (l_10 ++ [r_3.1]) (IntKind.wrap .i64 (t_11 + 1))
      else none
    else
      some (l_10, t_11, (decide (t_11 < r_3.2.1)))
def pins_Parse_l2 (r_ : ((List ByteArray))) : Nat → (List api_Pins) → Int → Option (Out ((List api_Pins) × Int) (List api_Pins))
  | 0, _, _ => none
  | k + 1, l_7, t_9 =>
    if (decide (t_9 < (ln r_))) = true then
      if 0 ≤ (t_9 : Int) ∧ t_9 < ln r_ then
      if ((gt r_ t_9).toList == (⟨#[]⟩ : ByteArray).toList) = true then
        pins_Parse_l2 r_ k l_7 (IntKind.wrap .i64 (t_9 + 1))
      else
        (pins_piece (gt r_ t_9)).bind fun r_3 =>
        if (r_3.2.2 != 0) = true then
          some (.ret (([] : List api_Pins), r_3.2.2))
        else
          if (decide ((IntKind.wrap .i64 (4096 - (ln l_7))) < r_3.2.1)) = true then
            some (.ret (([] : List api_Pins), 12))
          else
            (pins_Parse_l3 r_3 BIG l_7 (0)).bind fun (l_11, t_12, t_13) =>
            pins_Parse_l2 r_ k l_11 (IntKind.wrap .i64 (t_9 + 1))
      else none
    else
      some (.go l_7)
def pins_Parse (s_ : ByteArray) : Option ((List api_Pins) × Int) :=
  (strings_Split s_ (⟨#[32]⟩ : ByteArray)).bind fun r_ =>
  (pins_Parse_l2 r_ BIG ([] : List api_Pins) (0)).bind fun o => match o with
    | .ret r => some r
    | .go l_8 =>
      some (l_8, 0)
def spinetref31_Word_l0 (p_ : api_Pins) : Nat → ByteArray → Int → Option ByteArray
  | 0, _, _ => none
  | k + 1, s_2, i_2 =>
    if (decide (i_2 < 6)) = true then
      if 0 ≤ (i_2 : Int) ∧ i_2 < (6 : Int) then
      if (gt [p_.Reset, p_.Nmi, p_.Firq, p_.Irq, p_.Halt, p_.Req] i_2) = true then
        if 0 ≤ (i_2 : Int) ∧ i_2 ≤ ((IntKind.wrap .i64 (i_2 + 1)) : Int) ∧ (IntKind.wrap .i64 (i_2 + 1)) ≤ (sln (⟨#[82, 78, 70, 73, 72, 81]⟩ : ByteArray)) then
        if ((s_2.size + ((⟨#[82, 78, 70, 73, 72, 81]⟩ : ByteArray).extract (i_2 : Int).toNat ((IntKind.wrap .i64 (i_2 + 1)) : Int).toNat).size : Nat) : Int) ≤ 9223372036854775807 then
        spinetref31_Word_l0 p_ k (s_2 ++ ((⟨#[82, 78, 70, 73, 72, 81]⟩ : ByteArray).extract (i_2 : Int).toNat ((IntKind.wrap .i64 (i_2 + 1)) : Int).toNat)) (IntKind.wrap .i64 (i_2 + 1))
        else none
        else none
      else
        spinetref31_Word_l0 p_ k s_2 (IntKind.wrap .i64 (i_2 + 1))
      else none
    else
      some s_2
def spinetref31_Word (p_ : api_Pins) : Option (ByteArray) :=
  (spinetref31_Word_l0 p_ BIG (⟨#[]⟩ : ByteArray) (0)).bind fun s_3 =>
  if (s_3.toList == (⟨#[]⟩ : ByteArray).toList) = true then
    some (⟨#[46]⟩ : ByteArray)
  else
    some s_3
def spinetref31_One_l0 (s_ : ByteArray) : Nat → Int → Option (Out (api_Pins × Bool) (Unit))
  | 0, _ => none
  | k + 1, n_1 =>
    if (decide (n_1 < 64)) = true then
      (spinetref31_Word (api_Pins.mk ((Int.tmod n_1 2) == 1) ((Int.tmod (IntKind.wrap .i64 (Int.tdiv n_1 2)) 2) == 1) ((Int.tmod (IntKind.wrap .i64 (Int.tdiv n_1 4)) 2) == 1) ((Int.tmod (IntKind.wrap .i64 (Int.tdiv n_1 8)) 2) == 1) ((Int.tmod (IntKind.wrap .i64 (Int.tdiv n_1 16)) 2) == 1) ((Int.tmod (IntKind.wrap .i64 (Int.tdiv n_1 32)) 2) == 1))).bind fun r_2 =>
      if (r_2.toList == s_.toList) = true then
        some (.ret ((api_Pins.mk ((Int.tmod n_1 2) == 1) ((Int.tmod (IntKind.wrap .i64 (Int.tdiv n_1 2)) 2) == 1) ((Int.tmod (IntKind.wrap .i64 (Int.tdiv n_1 4)) 2) == 1) ((Int.tmod (IntKind.wrap .i64 (Int.tdiv n_1 8)) 2) == 1) ((Int.tmod (IntKind.wrap .i64 (Int.tdiv n_1 16)) 2) == 1) ((Int.tmod (IntKind.wrap .i64 (Int.tdiv n_1 32)) 2) == 1)), true))
      else
        spinetref31_One_l0 s_ k (IntKind.wrap .i64 (n_1 + 1))
    else
      some (.go ())
def spinetref31_One (s_ : ByteArray) : Option (api_Pins × Bool) :=
  (spinetref31_One_l0 s_ BIG (0)).bind fun o => match o with
    | .ret r => some r
    | .go _ =>
      some ((api_Pins.mk false false false false false false), false)
def spinetref31_count_l0 (s_ : ByteArray) : Nat → Int → Int → Option (Out (Int × Bool) Int)
  | 0, _, _ => none
  | k + 1, n_1, i_1 =>
    if (decide (i_1 < (sln s_))) = true then
      if 0 ≤ (i_1 : Int) ∧ i_1 < sln s_ then
      if (!(decide ((bt s_ i_1) < 48))) = true → 0 ≤ (i_1 : Int) ∧ i_1 < sln s_ then
      if ((decide ((bt s_ i_1) < 48)) || (decide (57 < (bt s_ i_1)))) = true then
        some (.ret (0, false))
      else
        if 0 ≤ (i_1 : Int) ∧ i_1 < sln s_ then
        if (decide (4097 < (IntKind.wrap .i64 ((IntKind.wrap .i64 ((IntKind.wrap .i64 (10 * n_1)) + (IntKind.wrap .i64 (bt s_ i_1)))) - 48)))) = true then
          spinetref31_count_l0 s_ k (4097) (IntKind.wrap .i64 (i_1 + 1))
        else
          spinetref31_count_l0 s_ k (IntKind.wrap .i64 ((IntKind.wrap .i64 ((IntKind.wrap .i64 (10 * n_1)) + (IntKind.wrap .i64 (bt s_ i_1)))) - 48)) (IntKind.wrap .i64 (i_1 + 1))
        else none
      else none
      else none
    else
      some (.go n_1)
def spinetref31_count (s_ : ByteArray) : Option (Int × Bool) :=
  (spinetref31_count_l0 s_ BIG (0) (0)).bind fun o => match o with
    | .ret r => some r
    | .go n_2 =>
      some (n_2, (decide (0 < (sln s_))))
def spinetref31_Parse_l5 (word_1 : ByteArray) : Nat → Int → Option (Int × Int × Bool × Bool × Bool)
  | 0, _ => none
  | k + 1, star_7 =>
    if (decide (star_7 < (sln word_1))) = true → 0 ≤ (star_7 : Int) ∧ star_7 < sln word_1 then
    if ((decide (star_7 < (sln word_1))) && ((bt word_1 star_7) != 42)) = true then
      spinetref31_Parse_l5 word_1 k (IntKind.wrap .i64 (star_7 + 1))
    else
      some (star_7, star_7, (decide (star_7 < (sln word_1))), (decide (star_7 < (sln word_1))), ((decide (star_7 < (sln word_1))) && ((bt word_1 star_7) != 42)))
    else none
def spinetref31_Parse_l6 (r_4 : (api_Pins × Bool)) (n_2 : Int) : Nat → (List api_Pins) → Int → Option ((List api_Pins) × Int × Int × Bool)
  | 0, _, _ => none
  | k + 1, l_10, k_7 =>
    if (decide (k_7 < n_2)) = true then
      if (l_10.length + [r_4.1].length) * 6 ≤ 140737488355328 then
      spinetref31_Parse_l6 r_4 n_2 k (l_10 ++ [r_4.1]) (IntKind.wrap .i64 (k_7 + 1))
      else none
    else
      some (l_10, k_7, k_7, (decide (k_7 < n_2)))
def spinetref31_Parse_j0 (rec : (List api_Pins) → ByteArray → Int → Option (Out ((List api_Pins) × Int) (List api_Pins))) (l_7 : (List api_Pins)) (i_1 : Int) (r_4 : (api_Pins × Bool)) (ok_2 : Bool) (n_2 : Int) : Option (Out ((List api_Pins) × Int) (List api_Pins)) :=
  if (!ok_2) = true then
    some (.ret (([] : List api_Pins), 21))
  else
    if (n_2 == 0) = true then
      some (.ret (([] : List api_Pins), 10))
    else
      if (decide ((IntKind.wrap .i64 (4096 - (ln l_7))) < n_2)) = true then
        some (.ret (([] : List api_Pins), 12))
      else
        (spinetref31_Parse_l6 r_4 n_2 BIG l_7 (0)).bind fun (l_11, k_8, t_16, t_17) =>
        rec l_11 (⟨#[]⟩ : ByteArray) (IntKind.wrap .i64 (i_1 + 1))
def spinetref31_Parse_l4 (s_ : ByteArray) : Nat → (List api_Pins) → ByteArray → Int → Option (Out ((List api_Pins) × Int) (List api_Pins))
  | 0, _, _, _ => none
  | k + 1, l_7, word_1, i_1 =>
    if (decide (i_1 < (sln (s_ ++ (⟨#[32]⟩ : ByteArray))))) = true then
      if 0 ≤ (i_1 : Int) ∧ i_1 < sln (s_ ++ (⟨#[32]⟩ : ByteArray)) then
      if ((bt (s_ ++ (⟨#[32]⟩ : ByteArray)) i_1) != 32) = true then
        if 0 ≤ (i_1 : Int) ∧ i_1 ≤ ((IntKind.wrap .i64 (i_1 + 1)) : Int) ∧ (IntKind.wrap .i64 (i_1 + 1)) ≤ (sln (s_ ++ (⟨#[32]⟩ : ByteArray))) then
        if ((word_1.size + ((s_ ++ (⟨#[32]⟩ : ByteArray)).extract (i_1 : Int).toNat ((IntKind.wrap .i64 (i_1 + 1)) : Int).toNat).size : Nat) : Int) ≤ 9223372036854775807 then
        spinetref31_Parse_l4 s_ k l_7 (word_1 ++ ((s_ ++ (⟨#[32]⟩ : ByteArray)).extract (i_1 : Int).toNat ((IntKind.wrap .i64 (i_1 + 1)) : Int).toNat)) (IntKind.wrap .i64 (i_1 + 1))
        else none
        else none
      else
        if (word_1.toList == (⟨#[]⟩ : ByteArray).toList) = true then
          spinetref31_Parse_l4 s_ k l_7 word_1 (IntKind.wrap .i64 (i_1 + 1))
        else
          (spinetref31_Parse_l5 word_1 BIG (0)).bind fun (star_8, t_12, t_13, t_14, t_15) =>
          if 0 ≤ (star_8 : Int) ∧ star_8 ≤ (sln word_1) then
          (spinetref31_One (word_1.extract 0 (star_8 : Int).toNat)).bind fun r_4 =>
          if (decide (star_8 < (sln word_1))) = true then
            if 0 ≤ ((IntKind.wrap .i64 (star_8 + 1)) : Int) ∧ (IntKind.wrap .i64 (star_8 + 1)) ≤ (sln word_1) then
            (spinetref31_count (word_1.extract ((IntKind.wrap .i64 (star_8 + 1)) : Int).toNat word_1.size)).bind fun r_5 =>
            spinetref31_Parse_j0 (spinetref31_Parse_l4 s_ k) l_7 i_1 r_4 (r_4.2 && r_5.2) r_5.1
            else none
          else
            spinetref31_Parse_j0 (spinetref31_Parse_l4 s_ k) l_7 i_1 r_4 r_4.2 (1)
          else none
      else none
    else
      some (.go l_7)
def spinetref31_Parse (s_ : ByteArray) : Option ((List api_Pins) × Int) :=
  if ((s_.size + (⟨#[32]⟩ : ByteArray).size : Nat) : Int) ≤ 9223372036854775807 then
  (spinetref31_Parse_l4 s_ BIG ([] : List api_Pins) (⟨#[]⟩ : ByteArray) (0)).bind fun o => match o with
    | .ret r => some r
    | .go l_8 =>
      some (l_8, 0)
  else none
def slices_Equal_sl_api_Pins_api_Pins_l0 (s1_ : (List api_Pins)) (s2_ : (List api_Pins)) : Nat → Int → Option (Out (Bool) (Unit))
  | 0, _ => none
  | k + 1, t_1 =>
    if (decide (t_1 < (ln s1_))) = true then
      if 0 ≤ (t_1 : Int) ∧ t_1 < ln s1_ then
      if 0 ≤ (t_1 : Int) ∧ t_1 < ln s2_ then
      if (!(((gt s1_ t_1).Reset == (gt s2_ t_1).Reset) && (((gt s1_ t_1).Nmi == (gt s2_ t_1).Nmi) && (((gt s1_ t_1).Firq == (gt s2_ t_1).Firq) && (((gt s1_ t_1).Irq == (gt s2_ t_1).Irq) && (((gt s1_ t_1).Halt == (gt s2_ t_1).Halt) && (((gt s1_ t_1).Req == (gt s2_ t_1).Req) && true))))))) = true then
        some (.ret false)
      else
        slices_Equal_sl_api_Pins_api_Pins_l0 s1_ s2_ k (IntKind.wrap .i64 (t_1 + 1))
      else none
      else none
    else
      some (.go ())
def slices_Equal_sl_api_Pins_api_Pins (s1_ : (List api_Pins)) (s2_ : (List api_Pins)) : Option (Bool) :=
  if ((ln s1_) != (ln s2_)) = true then
    some false
  else
    (slices_Equal_sl_api_Pins_api_Pins_l0 s1_ s2_ BIG (0)).bind fun o => match o with
      | .ret r => some r
      | .go _ =>
        some true
def spinetlaw31_alive : Option (Bool) :=
  (pins_Parse (⟨#[82, 42, 50, 32, 46, 32, 78, 70]⟩ : ByteArray)).bind fun r_ =>
  if ((ln r_.1) == 4) = true → 0 ≤ (1 : Int) ∧ 1 < ln r_.1 then
  if (((ln r_.1) == 4) && (gt r_.1 (1)).Reset) = true → 0 ≤ (3 : Int) ∧ 3 < ln r_.1 then
  some ((((((ln r_.1) == 4) && (gt r_.1 (1)).Reset) && (gt r_.1 (3)).Nmi) && (r_.2 == 0)) || false)
  else none
  else none
def spinetlaw31_PinsReads (s_ : ByteArray) : Option (Bool) :=
  if (decide (200 < (sln s_))) = true then
    some true
  else
    (pins_Parse s_).bind fun r_ =>
    (spinetref31_Parse s_).bind fun r_1 =>
    (pins_One s_).bind fun r_2 =>
    (spinetref31_One s_).bind fun r_3 =>
    (slices_Equal_sl_api_Pins_api_Pins r_.1 r_1.1).bind fun r_4 =>
    ((if (((r_4 && (r_.2 == r_1.2)) && ((r_2.1.Reset == r_3.1.Reset) && ((r_2.1.Nmi == r_3.1.Nmi) && ((r_2.1.Firq == r_3.1.Firq) && ((r_2.1.Irq == r_3.1.Irq) && ((r_2.1.Halt == r_3.1.Halt) && ((r_2.1.Req == r_3.1.Req) && true))))))) && (r_2.2 == r_3.2)) = true then spinetlaw31_alive else some default)).bind fun r_5 =>
    some ((((r_4 && (r_.2 == r_1.2)) && ((r_2.1.Reset == r_3.1.Reset) && ((r_2.1.Nmi == r_3.1.Nmi) && ((r_2.1.Firq == r_3.1.Firq) && ((r_2.1.Irq == r_3.1.Irq) && ((r_2.1.Halt == r_3.1.Halt) && ((r_2.1.Req == r_3.1.Req) && true))))))) && (r_2.2 == r_3.2)) && r_5)
def digit_sign (n_ : Int) : Option (Int) :=
  if (decide (n_ < 10)) = true then
    some (IntKind.wrap .u8 (48 + n_))
  else
    some (IntKind.wrap .u8 ((IntKind.wrap .u8 (65 + n_)) - 10))
def digit_Dec_l0 : Nat → (List Int) → Int → Int → Option ((List Int) × Int)
  | 0, _, _, _ => none
  | k + 1, l_1, t_1, i_1 =>
    if ((decide (0 < t_1)) || (i_1 == 20)) = true then
      (digit_sign (IntKind.wrap .u8 (Int.tmod t_1 10))).bind fun r_2 =>
      if 0 ≤ ((IntKind.wrap .i64 (i_1 - 1)) : Int) ∧ (IntKind.wrap .i64 (i_1 - 1)) < (20 : Int) then
      digit_Dec_l0 k (st l_1 (IntKind.wrap .i64 (i_1 - 1)) r_2) (IntKind.wrap .u64 (Int.tdiv t_1 10)) (IntKind.wrap .i64 (i_1 - 1))
      else none
    else
      some (l_1, i_1)
def digit_Dec (n_ : Int) : Option (ByteArray) :=
  (digit_Dec_l0 BIG [0, 0, 0, 0, 0, 0, 0, 0, 0, 0, 0, 0, 0, 0, 0, 0, 0, 0, 0, 0] n_ (20)).bind fun (l_2, i_2) =>
  if 0 ≤ (i_2 : Int) ∧ i_2 ≤ (20 : Int) then
  some (bs ((l_2.drop (i_2 : Int).toNat).take (20 - (i_2 : Int).toNat)))
  else none
def strings_Join_l0 (elems_ : (List ByteArray)) : Nat → Int → Int → Option Int
  | 0, _, _ => none
  | k + 1, n_2, t_1 =>
    if (decide (t_1 < (ln elems_))) = true then
      if 0 ≤ (t_1 : Int) ∧ t_1 < ln elems_ then
      if (decide ((IntKind.wrap .i64 (9223372036854775807 - n_2)) < (sln (gt elems_ t_1)))) = true then
        none
      else
        strings_Join_l0 elems_ k (IntKind.wrap .i64 (n_2 + (sln (gt elems_ t_1)))) (IntKind.wrap .i64 (t_1 + 1))
      else none
    else
      some n_2
def strings_Join_l1 (elems_ : (List ByteArray)) (sep_ : ByteArray) : Nat → (List Int) → Int → Option (List Int)
  | 0, _, _ => none
  | k + 1, l_1, t_3 =>
    if (decide (t_3 < (((elems_.length - (1 : Int).toNat) : Nat) : Int))) = true then
      if 0 ≤ (t_3 : Int) ∧ t_3 < (((elems_.length - (1 : Int).toNat) : Nat) : Int) then
      if (l_1.length + sep_.size) * 1 ≤ 140737488355328 then
      if ((l_1 ++ (sbl sep_)).length + (gt (elems_.drop (1 : Int).toNat) t_3).size) * 1 ≤ 140737488355328 then
      strings_Join_l1 elems_ sep_ k ((l_1 ++ (sbl sep_)) ++ (sbl (gt (elems_.drop (1 : Int).toNat) t_3))) (IntKind.wrap .i64 (t_3 + 1))
      else none
      else none
      else none
    else
      some l_1
def strings_Join_j0 (elems_ : (List ByteArray)) (sep_ : ByteArray) (n_ : Int) : Option (ByteArray) :=
  (strings_Join_l0 elems_ BIG n_ (0)).bind fun n_3 =>
  if 0 ≤ (n_3 : Int) ∧ n_3 ≤ 70368744177664 then
  if 0 ≤ (0 : Int) ∧ 0 < ln elems_ then
  if (([] : List Int).length + (gt elems_ (0)).size) * 1 ≤ 140737488355328 then
  if 0 ≤ (1 : Int) ∧ 1 ≤ (ln elems_) then
  (strings_Join_l1 elems_ sep_ BIG (([] : List Int) ++ (sbl (gt elems_ (0)))) (0)).bind fun l_2 =>
  if bytesB l_2 = true then
  some (bs l_2)
  else none
  else none
  else none
  else none
  else none
def strings_Join (elems_ : (List ByteArray)) (sep_ : ByteArray) : Option (ByteArray) :=
  if ((ln elems_) == 0) = true then
    some (⟨#[]⟩ : ByteArray)
  else
    if ((ln elems_) == 1) = true then
      if 0 ≤ (0 : Int) ∧ 0 < ln elems_ then
      some (gt elems_ (0))
      else none
    else
      if (decide (0 < (sln sep_))) = true then
        if (IntKind.wrap .i64 ((ln elems_) - 1)) ≠ 0 then
        if (decide ((IntKind.wrap .i64 (Int.tdiv 9223372036854775807 (IntKind.wrap .i64 ((ln elems_) - 1)))) ≤ (sln sep_))) = true then
          none
        else
          strings_Join_j0 elems_ sep_ (IntKind.wrap .i64 (0 + (IntKind.wrap .i64 ((sln sep_) * (IntKind.wrap .i64 ((ln elems_) - 1))))))
        else none
      else
        strings_Join_j0 elems_ sep_ (0)
def pins_Text_l3 (l_ : (List api_Pins)) (i_1 : Int) : Nat → Int → Option (Int × Int × Int × Bool × Bool × Bool)
  | 0, _ => none
  | k + 1, n_7 =>
    if (decide ((IntKind.wrap .i64 (i_1 + n_7)) < (ln l_))) = true → 0 ≤ ((IntKind.wrap .i64 (i_1 + n_7)) : Int) ∧ (IntKind.wrap .i64 (i_1 + n_7)) < ln l_ then
    if (decide ((IntKind.wrap .i64 (i_1 + n_7)) < (ln l_))) = true → 0 ≤ (i_1 : Int) ∧ i_1 < ln l_ then
    if ((decide ((IntKind.wrap .i64 (i_1 + n_7)) < (ln l_))) && (((gt l_ (IntKind.wrap .i64 (i_1 + n_7))).Reset == (gt l_ i_1).Reset) && (((gt l_ (IntKind.wrap .i64 (i_1 + n_7))).Nmi == (gt l_ i_1).Nmi) && (((gt l_ (IntKind.wrap .i64 (i_1 + n_7))).Firq == (gt l_ i_1).Firq) && (((gt l_ (IntKind.wrap .i64 (i_1 + n_7))).Irq == (gt l_ i_1).Irq) && (((gt l_ (IntKind.wrap .i64 (i_1 + n_7))).Halt == (gt l_ i_1).Halt) && (((gt l_ (IntKind.wrap .i64 (i_1 + n_7))).Req == (gt l_ i_1).Req) && true))))))) = true then
      pins_Text_l3 l_ i_1 k (IntKind.wrap .i64 (n_7 + 1))
    else
      some (n_7, n_7, (IntKind.wrap .i64 (i_1 + n_7)), (decide ((IntKind.wrap .i64 (i_1 + n_7)) < (ln l_))), (decide ((IntKind.wrap .i64 (i_1 + n_7)) < (ln l_))), ((decide ((IntKind.wrap .i64 (i_1 + n_7)) < (ln l_))) && (((gt l_ (IntKind.wrap .i64 (i_1 + n_7))).Reset == (gt l_ i_1).Reset) && (((gt l_ (IntKind.wrap .i64 (i_1 + n_7))).Nmi == (gt l_ i_1).Nmi) && (((gt l_ (IntKind.wrap .i64 (i_1 + n_7))).Firq == (gt l_ i_1).Firq) && (((gt l_ (IntKind.wrap .i64 (i_1 + n_7))).Irq == (gt l_ i_1).Irq) && (((gt l_ (IntKind.wrap .i64 (i_1 + n_7))).Halt == (gt l_ i_1).Halt) && (((gt l_ (IntKind.wrap .i64 (i_1 + n_7))).Req == (gt l_ i_1).Req) && true))))))))
    else none
    else none
def pins_Text_j0 (rec : (List ByteArray) → Int → Option (List ByteArray)) (l_2 : (List ByteArray)) (i_1 : Int) (n_8 : Int) (w_2 : ByteArray) : Option (List ByteArray) :=
  if (l_2.length + [w_2].length) * 16 ≤ 140737488355328 then
  rec (l_2 ++ [w_2]) (IntKind.wrap .i64 (i_1 + n_8))
  else none
def pins_Text_l2 (l_ : (List api_Pins)) : Nat → (List ByteArray) → Int → Option (List ByteArray)
  | 0, _, _ => none
  | k + 1, l_2, i_1 =>
    if (decide (i_1 < (ln l_))) = true then
      (pins_Text_l3 l_ i_1 BIG (1)).bind fun (n_8, t_10, t_11, t_12, t_13, t_14) =>
      if 0 ≤ (i_1 : Int) ∧ i_1 < ln l_ then
      (pins_Word (gt l_ i_1)).bind fun r_4 =>
      if (decide (1 < n_8)) = true then
        (digit_Dec (IntKind.wrap .u64 n_8)).bind fun r_5 =>
        if (((⟨#[42]⟩ : ByteArray).size + r_5.size : Nat) : Int) ≤ 9223372036854775807 then
        if ((r_4.size + ((⟨#[42]⟩ : ByteArray) ++ r_5).size : Nat) : Int) ≤ 9223372036854775807 then
        pins_Text_j0 (pins_Text_l2 l_ k) l_2 i_1 n_8 (r_4 ++ ((⟨#[42]⟩ : ByteArray) ++ r_5))
        else none
        else none
      else
        pins_Text_j0 (pins_Text_l2 l_ k) l_2 i_1 n_8 r_4
      else none
    else
      some l_2
def pins_Text (l_ : (List api_Pins)) : Option (ByteArray) :=
  (pins_Text_l2 l_ BIG ([] : List ByteArray) (0)).bind fun l_3 =>
  (strings_Join l_3 (⟨#[32]⟩ : ByteArray)).bind fun r_6 =>
  some r_6
def spinetref02_Digits_l0 (base_ : Int) (width_ : Int) : Nat → Int → ByteArray → Option ByteArray
  | 0, _, _ => none
  | k + 1, t_1, s_1 =>
    if (((decide (0 < t_1)) || (decide ((sln s_1) < width_))) || (s_1.toList == (⟨#[]⟩ : ByteArray).toList)) = true then
      if base_ ≠ 0 then
      if 0 ≤ ((IntKind.wrap .i64 (Int.tmod t_1 base_)) : Int) ∧ (IntKind.wrap .i64 (Int.tmod t_1 base_)) ≤ ((IntKind.wrap .i64 ((IntKind.wrap .i64 (Int.tmod t_1 base_)) + 1)) : Int) ∧ (IntKind.wrap .i64 ((IntKind.wrap .i64 (Int.tmod t_1 base_)) + 1)) ≤ (sln (⟨#[48, 49, 50, 51, 52, 53, 54, 55, 56, 57, 65, 66, 67, 68, 69, 70]⟩ : ByteArray)) then
      if ((((⟨#[48, 49, 50, 51, 52, 53, 54, 55, 56, 57, 65, 66, 67, 68, 69, 70]⟩ : ByteArray).extract ((IntKind.wrap .i64 (Int.tmod t_1 base_)) : Int).toNat ((IntKind.wrap .i64 ((IntKind.wrap .i64 (Int.tmod t_1 base_)) + 1)) : Int).toNat).size + s_1.size : Nat) : Int) ≤ 9223372036854775807 then
      if base_ ≠ 0 then
      spinetref02_Digits_l0 base_ width_ k (IntKind.wrap .u64 (Int.tdiv t_1 base_)) (((⟨#[48, 49, 50, 51, 52, 53, 54, 55, 56, 57, 65, 66, 67, 68, 69, 70]⟩ : ByteArray).extract ((IntKind.wrap .i64 (Int.tmod t_1 base_)) : Int).toNat ((IntKind.wrap .i64 ((IntKind.wrap .i64 (Int.tmod t_1 base_)) + 1)) : Int).toNat) ++ s_1)
      else none
      else none
      else none
      else none
    else
      some s_1
def spinetref02_Digits (n_ : Int) (base_ : Int) (width_ : Int) : Option (ByteArray) :=
  (spinetref02_Digits_l0 base_ width_ BIG n_ (⟨#[]⟩ : ByteArray)).bind fun s_2 =>
  some s_2
def spinetref31_Text_l3 (l_ : (List api_Pins)) (i_1 : Int) : Nat → Int → Option (Int × Int × Int × Bool × Bool × Bool)
  | 0, _ => none
  | k + 1, n_7 =>
    if (decide ((IntKind.wrap .i64 (i_1 + n_7)) < (ln l_))) = true → 0 ≤ ((IntKind.wrap .i64 (i_1 + n_7)) : Int) ∧ (IntKind.wrap .i64 (i_1 + n_7)) < ln l_ then
    if (decide ((IntKind.wrap .i64 (i_1 + n_7)) < (ln l_))) = true → 0 ≤ (i_1 : Int) ∧ i_1 < ln l_ then
    if ((decide ((IntKind.wrap .i64 (i_1 + n_7)) < (ln l_))) && (((gt l_ (IntKind.wrap .i64 (i_1 + n_7))).Reset == (gt l_ i_1).Reset) && (((gt l_ (IntKind.wrap .i64 (i_1 + n_7))).Nmi == (gt l_ i_1).Nmi) && (((gt l_ (IntKind.wrap .i64 (i_1 + n_7))).Firq == (gt l_ i_1).Firq) && (((gt l_ (IntKind.wrap .i64 (i_1 + n_7))).Irq == (gt l_ i_1).Irq) && (((gt l_ (IntKind.wrap .i64 (i_1 + n_7))).Halt == (gt l_ i_1).Halt) && (((gt l_ (IntKind.wrap .i64 (i_1 + n_7))).Req == (gt l_ i_1).Req) && true))))))) = true then
      spinetref31_Text_l3 l_ i_1 k (IntKind.wrap .i64 (n_7 + 1))
    else
      some (n_7, n_7, (IntKind.wrap .i64 (i_1 + n_7)), (decide ((IntKind.wrap .i64 (i_1 + n_7)) < (ln l_))), (decide ((IntKind.wrap .i64 (i_1 + n_7)) < (ln l_))), ((decide ((IntKind.wrap .i64 (i_1 + n_7)) < (ln l_))) && (((gt l_ (IntKind.wrap .i64 (i_1 + n_7))).Reset == (gt l_ i_1).Reset) && (((gt l_ (IntKind.wrap .i64 (i_1 + n_7))).Nmi == (gt l_ i_1).Nmi) && (((gt l_ (IntKind.wrap .i64 (i_1 + n_7))).Firq == (gt l_ i_1).Firq) && (((gt l_ (IntKind.wrap .i64 (i_1 + n_7))).Irq == (gt l_ i_1).Irq) && (((gt l_ (IntKind.wrap .i64 (i_1 + n_7))).Halt == (gt l_ i_1).Halt) && (((gt l_ (IntKind.wrap .i64 (i_1 + n_7))).Req == (gt l_ i_1).Req) && true))))))))
    else none
    else none
def spinetref31_Text_j0 (rec : ByteArray → Int → Option ByteArray) (l_ : (List api_Pins)) (i_1 : Int) (n_8 : Int) (s_5 : ByteArray) : Option ByteArray :=
  if 0 ≤ (i_1 : Int) ∧ i_1 < ln l_ then
  (spinetref31_Word (gt l_ i_1)).bind fun r_4 =>
  if ((s_5.size + r_4.size : Nat) : Int) ≤ 9223372036854775807 then
  if (decide (1 < n_8)) = true then
    (spinetref02_Digits (IntKind.wrap .u64 n_8) (10) (1)).bind fun r_5 =>
    if (((⟨#[42]⟩ : ByteArray).size + r_5.size : Nat) : Int) ≤ 9223372036854775807 then
    if (((s_5 ++ r_4).size + ((⟨#[42]⟩ : ByteArray) ++ r_5).size : Nat) : Int) ≤ 9223372036854775807 then
    rec ((s_5 ++ r_4) ++ ((⟨#[42]⟩ : ByteArray) ++ r_5)) (IntKind.wrap .i64 (i_1 + n_8))
    else none
    else none
  else
    rec (s_5 ++ r_4) (IntKind.wrap .i64 (i_1 + n_8))
  else none
  else none
def spinetref31_Text_l2 (l_ : (List api_Pins)) : Nat → ByteArray → Int → Option ByteArray
  | 0, _, _ => none
  | k + 1, s_3, i_1 =>
    if (decide (i_1 < (ln l_))) = true then
      (spinetref31_Text_l3 l_ i_1 BIG (1)).bind fun (n_8, t_10, t_11, t_12, t_13, t_14) =>
      if (!(s_3.toList == (⟨#[]⟩ : ByteArray).toList)) = true then
        if ((s_3.size + (⟨#[32]⟩ : ByteArray).size : Nat) : Int) ≤ 9223372036854775807 then
        spinetref31_Text_j0 (spinetref31_Text_l2 l_ k) l_ i_1 n_8 (s_3 ++ (⟨#[32]⟩ : ByteArray))
        else none
      else
        spinetref31_Text_j0 (spinetref31_Text_l2 l_ k) l_ i_1 n_8 s_3
    else
      some s_3
def spinetref31_Text (l_ : (List api_Pins)) : Option (ByteArray) :=
  (spinetref31_Text_l2 l_ BIG (⟨#[]⟩ : ByteArray) (0)).bind fun s_4 =>
  some s_4
def spinetlaw31_PinsTexts_l0 (l_ : (List api_Pins)) : Nat → Int → Option (Out (Bool) (Unit))
  | 0, _ => none
  | k + 1, i_1 =>
    if (decide (i_1 < (ln l_))) = true then
      if 0 ≤ (i_1 : Int) ∧ i_1 < ln l_ then
      (pins_Word (gt l_ i_1)).bind fun r_8 =>
      (pins_One r_8).bind fun r_9 =>
      if 0 ≤ (i_1 : Int) ∧ i_1 < ln l_ then
      (pins_Word (gt l_ i_1)).bind fun r_10 =>
      if 0 ≤ (i_1 : Int) ∧ i_1 < ln l_ then
      (spinetref31_Word (gt l_ i_1)).bind fun r_11 =>
      if (!(!(r_10.toList == r_11.toList))) = true → 0 ≤ (i_1 : Int) ∧ i_1 < ln l_ then
      if (((!(r_10.toList == r_11.toList)) || (!((r_9.1.Reset == (gt l_ i_1).Reset) && ((r_9.1.Nmi == (gt l_ i_1).Nmi) && ((r_9.1.Firq == (gt l_ i_1).Firq) && ((r_9.1.Irq == (gt l_ i_1).Irq) && ((r_9.1.Halt == (gt l_ i_1).Halt) && ((r_9.1.Req == (gt l_ i_1).Req) && true)))))))) || (!r_9.2)) = true then
        some (.ret false)
      else
        spinetlaw31_PinsTexts_l0 l_ k (IntKind.wrap .i64 (i_1 + 1))
      else none
      else none
      else none
      else none
    else
      some (.go ())
def spinetlaw31_PinsTexts (l_ : (List api_Pins)) : Option (Bool) :=
  if (decide (300 < (ln l_))) = true then
    some true
  else
    (spinetlaw31_PinsTexts_l0 l_ BIG (0)).bind fun o => match o with
      | .ret r => some r
      | .go _ =>
        (pins_Text l_).bind fun r_12 =>
        (pins_Parse r_12).bind fun r_13 =>
        (spinetref31_Text l_).bind fun r_14 =>
        ((if (r_12.toList == r_14.toList) = true then slices_Equal_sl_api_Pins_api_Pins r_13.1 l_ else some default)).bind fun r_15 =>
        ((if (((r_12.toList == r_14.toList) && r_15) && (r_13.2 == 0)) = true then spinetlaw31_alive else some default)).bind fun r_16 =>
        some ((((r_12.toList == r_14.toList) && r_15) && (r_13.2 == 0)) && r_16)
end Go.Proofs.YthhjooegpjgicaaDoorK
