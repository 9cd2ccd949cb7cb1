/- The functions, over typed data. Printed by a program of this work. -/
import Derived.Test.YtiedenhkailolaaDoorRj
namespace Go.Proofs.YtiedenhkailolaaDoorK
set_option linter.unusedVariables false
set_option linter.unusedSimpArgs false
set_option maxHeartbeats 4000000
open Go.RowKit
attribute [local irreducible] dwv mops lops lqops lwops kont iter run runK rk okK ex E1 vals val chain chB sel resF
structure unicode_utf8_acceptRange where
  lo : Int
  hi : Int
instance : Inhabited unicode_utf8_acceptRange := ⟨⟨0, 0⟩⟩
def unicode_utf8_acceptRange.v (x : unicode_utf8_acceptRange) : List V := [.s (.int .u8 x.lo), .s (.int .u8 x.hi)]
instance : Cells unicode_utf8_acceptRange.v 2 := ⟨fun _ => rfl, fun _ => rfl, fun _ => rfl⟩
def sl_str (x : (List ByteArray)) : List V := [.sl false x.length (cat nS x)]
instance : Cells sl_str 1 := ⟨fun _ => rfl, fun _ => by simp [sl_str, statics, V.static, cat_stat], fun _ => rfl⟩
structure A8_i64 where
  a0 : Int
  a1 : Int
  a2 : Int
  a3 : Int
  a4 : Int
  a5 : Int
  a6 : Int
  a7 : Int
instance : Inhabited A8_i64 := ⟨⟨0, 0, 0, 0, 0, 0, 0, 0⟩⟩
def A8_i64.v (x : A8_i64) : List V := [.s (.int .i64 x.a0), .s (.int .i64 x.a1), .s (.int .i64 x.a2), .s (.int .i64 x.a3), .s (.int .i64 x.a4), .s (.int .i64 x.a5), .s (.int .i64 x.a6), .s (.int .i64 x.a7)]
instance : Cells A8_i64.v 8 := ⟨fun _ => rfl, fun _ => rfl, fun _ => rfl⟩
structure lists_Part where
  Reg : Int
  High : Bool
instance : Inhabited lists_Part := ⟨⟨0, false⟩⟩
def lists_Part.v (x : lists_Part) : List V := [.s (.int .i64 x.Reg), .s (.bool x.High)]
instance : Cells lists_Part.v 2 := ⟨fun _ => rfl, fun _ => rfl, fun _ => rfl⟩
def sl_lists_Part (x : (List lists_Part)) : List V := [.sl false x.length (cat lists_Part.v x)]
instance : Cells sl_lists_Part 1 := ⟨fun _ => rfl, fun _ => by simp [sl_lists_Part, statics, V.static, cat_stat], fun _ => rfl⟩
def sl_u8 (x : (List Int)) : List V := [.sl false x.length (cat (nI .u8) x)]
instance : Cells sl_u8 1 := ⟨fun _ => rfl, fun _ => by simp [sl_u8, statics, V.static, cat_stat], fun _ => rfl⟩
structure A12_str where
  a0 : ByteArray
  a1 : ByteArray
  a2 : ByteArray
  a3 : ByteArray
  a4 : ByteArray
  a5 : ByteArray
  a6 : ByteArray
  a7 : ByteArray
  a8 : ByteArray
  a9 : ByteArray
  a10 : ByteArray
  a11 : ByteArray
instance : Inhabited A12_str := ⟨⟨⟨#[]⟩, ⟨#[]⟩, ⟨#[]⟩, ⟨#[]⟩, ⟨#[]⟩, ⟨#[]⟩, ⟨#[]⟩, ⟨#[]⟩, ⟨#[]⟩, ⟨#[]⟩, ⟨#[]⟩, ⟨#[]⟩⟩⟩
def A12_str.v (x : A12_str) : List V := [.s (.string x.a0), .s (.string x.a1), .s (.string x.a2), .s (.string x.a3), .s (.string x.a4), .s (.string x.a5), .s (.string x.a6), .s (.string x.a7), .s (.string x.a8), .s (.string x.a9), .s (.string x.a10), .s (.string x.a11)]
instance : Cells A12_str.v 12 := ⟨fun _ => rfl, fun _ => rfl, fun _ => rfl⟩
def unicode_utf8_decodeRuneInStringSlow (s_ : ByteArray) : Option (Int × Int) :=
  if (decide ((sln s_) < 1)) = true then
    some (65533, 0)
  else
    none
def unicode_utf8_DecodeRuneInString (s_ : ByteArray) : Option (Int × Int) :=
  if (!(s_.toList == (⟨#[]⟩ : ByteArray).toList)) = true → 0 ≤ (0 : Int) ∧ 0 < sln s_ then
  if ((!(s_.toList == (⟨#[]⟩ : ByteArray).toList)) && (decide ((bt s_ (0)) < 128))) = true then
    if 0 ≤ (0 : Int) ∧ 0 < sln s_ then
    some ((IntKind.wrap .i32 (bt s_ (0))), 1)
    else none
  else
    (unicode_utf8_decodeRuneInStringSlow s_).bind fun r_ =>
    some (r_.1, r_.2)
  else none
def strings_Index (s_ : ByteArray) (substr_ : ByteArray) : Option (Int) :=
  (internal_stringslite_Index s_ substr_).bind fun r_ =>
  some r_
def strings_genSplit_l0 (s_ : ByteArray) (sep_ : ByteArray) (sepSave_ : Int) (t_ : Int) : Nat → (List ByteArray) → ByteArray → Int → Option ((List ByteArray) × ByteArray × Int)
  | 0, _, _, _ => none
  | k + 1, l_1, t_2, i_1 =>
    if (decide (i_1 < (IntKind.wrap .i64 ((if (IntKind.wrap .i64 ((sln s_) + 1)) < t_ then (IntKind.wrap .i64 ((sln s_) + 1)) else t_) - 1)))) = true then
      (strings_Index t_2 sep_).bind fun r_3 =>
      if (decide (r_3 < 0)) = true then
        some (l_1, t_2, i_1)
      else
        if 0 ≤ ((IntKind.wrap .i64 (r_3 + sepSave_)) : Int) ∧ (IntKind.wrap .i64 (r_3 + sepSave_)) ≤ (sln t_2) then
        if 0 ≤ (i_1 : Int) ∧ i_1 < ln l_1 then
        if 0 ≤ ((IntKind.wrap .i64 (r_3 + (sln sep_))) : Int) ∧ (IntKind.wrap .i64 (r_3 + (sln sep_))) ≤ (sln t_2) then
        strings_genSplit_l0 s_ sep_ sepSave_ t_ k (st l_1 i_1 (t_2.extract 0 ((IntKind.wrap .i64 (r_3 + sepSave_)) : Int).toNat)) (t_2.extract ((IntKind.wrap .i64 (r_3 + (sln sep_))) : Int).toNat t_2.size) (IntKind.wrap .i64 (i_1 + 1))
        else none
        else none
        else none
    else
      some (l_1, t_2, i_1)
def strings_genSplit_j0 (s_ : ByteArray) (sep_ : ByteArray) (sepSave_ : Int) (t_ : Int) : Option ((List ByteArray)) :=
  if 0 ≤ ((if (IntKind.wrap .i64 ((sln s_) + 1)) < t_ then (IntKind.wrap .i64 ((sln s_) + 1)) else t_) : Int) ∧ ((if (IntKind.wrap .i64 ((sln s_) + 1)) < t_ then (IntKind.wrap .i64 ((sln s_) + 1)) else t_) : Int) ≤ (if (IntKind.wrap .i64 ((sln s_) + 1)) < t_ then (IntKind.wrap .i64 ((sln s_) + 1)) else t_) ∧ ((if (IntKind.wrap .i64 ((sln s_) + 1)) < t_ then (IntKind.wrap .i64 ((sln s_) + 1)) else t_) : Int) * 16 ≤ 281474976710656 ∧ ((if (IntKind.wrap .i64 ((sln s_) + 1)) < t_ then (IntKind.wrap .i64 ((sln s_) + 1)) else t_) : Int) ≤ 281474976710656 then
  (strings_genSplit_l0 s_ sep_ sepSave_ t_ BIG (rp (if (IntKind.wrap .i64 ((sln s_) + 1)) < t_ then (IntKind.wrap .i64 ((sln s_) + 1)) else t_) ((⟨#[]⟩ : ByteArray) : ByteArray)) s_ (0)).bind fun (l_2, t_3, i_2) =>
  if 0 ≤ (i_2 : Int) ∧ i_2 < ln l_2 then
  if 0 ≤ ((IntKind.wrap .i64 (i_2 + 1)) : Int) ∧ (IntKind.wrap .i64 (i_2 + 1)) ≤ (ln (st l_2 i_2 t_3)) then
  some (((st l_2 i_2 t_3).drop 0).take (((IntKind.wrap .i64 (i_2 + 1)) : Int).toNat - 0))
  else none
  else none
  else none
def strings_genSplit (s_ : ByteArray) (sep_ : ByteArray) (sepSave_ : Int) (n_ : Int) : Option ((List ByteArray)) :=
  if (n_ == 0) = true then
    some ([] : List ByteArray)
  else
    if (sep_.toList == (⟨#[]⟩ : ByteArray).toList) = true then
      none
    else
      if (decide (n_ < 0)) = true then
        (strings_Count s_ sep_).bind fun r_ =>
        strings_genSplit_j0 s_ sep_ sepSave_ (IntKind.wrap .i64 (r_ + 1))
      else
        strings_genSplit_j0 s_ sep_ sepSave_ n_
def strings_Split (s_ : ByteArray) (sep_ : ByteArray) : Option ((List ByteArray)) :=
  (strings_genSplit s_ sep_ (0) (-1)).bind fun r_ =>
  some r_
def lists_regs (stack_ : Int) : Option (A8_i64) :=
  if (stack_ == 3) = true then
    some (A8_i64.mk (10) (8) (9) (11) (1) (2) (4) (5))
  else
    some (A8_i64.mk (10) (8) (9) (11) (1) (2) (3) (5))
def ops_Reg (code_ : Int) : Option (ByteArray) :=
  if (code_ == 0) = true then
    some (⟨#[68]⟩ : ByteArray)
  else
    if (code_ == 1) = true then
      some (⟨#[88]⟩ : ByteArray)
    else
      if (code_ == 2) = true then
        some (⟨#[89]⟩ : ByteArray)
      else
        if (code_ == 3) = true then
          some (⟨#[85]⟩ : ByteArray)
        else
          if (code_ == 4) = true then
            some (⟨#[83]⟩ : ByteArray)
          else
            if (code_ == 5) = true then
              some (⟨#[80, 67]⟩ : ByteArray)
            else
              if (code_ == 8) = true then
                some (⟨#[65]⟩ : ByteArray)
              else
                if (code_ == 9) = true then
                  some (⟨#[66]⟩ : ByteArray)
                else
                  if (code_ == 10) = true then
                    some (⟨#[67, 67]⟩ : ByteArray)
                  else
                    if (code_ == 11) = true then
                      some (⟨#[68, 80]⟩ : ByteArray)
                    else
                      some (⟨#[]⟩ : ByteArray)
def lists_bits_l0 (s_ : ByteArray) (r_ : (A8_i64)) : Nat → Int → Option (Out (Int) (Unit))
  | 0, _ => none
  | k + 1, t_1 =>
    if (decide (t_1 < 8)) = true then
      if 0 ≤ (t_1 : Int) ∧ t_1 < (8 : Int) then
      (ops_Reg (gt [r_.a0, r_.a1, r_.a2, r_.a3, r_.a4, r_.a5, r_.a6, r_.a7] t_1)).bind fun r_3 =>
      if (r_3.toList == s_.toList) = true then
        if 0 ≤ t_1 then
        some (.ret (IntKind.wrap .u8 (1 * 2 ^ (min (t_1 : Int).toNat (IntKind.bits .u8)))))
        else none
      else
        lists_bits_l0 s_ r_ k (IntKind.wrap .i64 (t_1 + 1))
      else none
    else
      some (.go ())
def lists_bits (s_ : ByteArray) (stack_ : Int) : Option (Int) :=
  if (s_.toList == (⟨#[68]⟩ : ByteArray).toList) = true then
    some (6)
  else
    (lists_regs stack_).bind fun r_ =>
    (lists_bits_l0 s_ r_ BIG (0)).bind fun o => match o with
      | .ret r => some r
      | .go _ =>
        some (0)
def lists_Read_l0 (stack_ : Int) (r_ : ((List ByteArray))) : Nat → Int → Int → Option (Out (Int × Int) Int)
  | 0, _, _ => none
  | k + 1, post_1, t_1 =>
    if (decide (t_1 < (ln r_))) = true then
      if 0 ≤ (t_1 : Int) ∧ t_1 < ln r_ then
      (lists_bits (gt r_ t_1) stack_).bind fun r_3 =>
      if (r_3 == 0) = true then
        some (.ret (0, 40))
      else
        if ((bits .and .u8 post_1 r_3) != 0) = true then
          some (.ret (0, 41))
        else
          lists_Read_l0 stack_ r_ k (bits .or .u8 post_1 r_3) (IntKind.wrap .i64 (t_1 + 1))
      else none
    else
      some (.go post_1)
def lists_Read (s_ : ByteArray) (stack_ : Int) : Option (Int × Int) :=
  if (s_.toList == (⟨#[]⟩ : ByteArray).toList) = true then
    some (0, 0)
  else
    (strings_Split s_ (⟨#[44]⟩ : ByteArray)).bind fun r_ =>
    (lists_Read_l0 stack_ r_ BIG (0) (0)).bind fun o => match o with
      | .ret r => some r
      | .go post_2 =>
        some (post_2, 0)
def lists_Order_j0 (rec : (List lists_Part) → Int → Option (List lists_Part)) (r_ : (A8_i64)) (t_1 : Int) (l_5 : (List lists_Part)) : Option (List lists_Part) :=
  if (l_5.length + [(lists_Part.mk (gt [r_.a0, r_.a1, r_.a2, r_.a3, r_.a4, r_.a5, r_.a6, r_.a7] t_1) false)].length) * 16 ≤ 140737488355328 then
  rec (l_5 ++ [(lists_Part.mk (gt [r_.a0, r_.a1, r_.a2, r_.a3, r_.a4, r_.a5, r_.a6, r_.a7] t_1) false)]) (IntKind.wrap .i64 (t_1 + 1))
  else none
def lists_Order_l0 (post_ : Int) (r_ : (A8_i64)) : Nat → (List lists_Part) → Int → Option (List lists_Part)
  | 0, _, _ => none
  | k + 1, l_3, t_1 =>
    if (decide (t_1 < 8)) = true then
      if 0 ≤ (t_1 : Int) ∧ t_1 < (8 : Int) then
      if 0 ≤ t_1 then
      if ((bits .and .u8 (Int.fdiv post_ (2 ^ (min (t_1 : Int).toNat (IntKind.bits .u8)))) 1) == 0) = true then
        lists_Order_l0 post_ r_ k l_3 (IntKind.wrap .i64 (t_1 + 1))
      else
        if (decide (3 < t_1)) = true then
          if (l_3.length + [(lists_Part.mk (gt [r_.a0, r_.a1, r_.a2, r_.a3, r_.a4, r_.a5, r_.a6, r_.a7] t_1) true)].length) * 16 ≤ 140737488355328 then
          lists_Order_j0 (lists_Order_l0 post_ r_ k) r_ t_1 (l_3 ++ [(lists_Part.mk (gt [r_.a0, r_.a1, r_.a2, r_.a3, r_.a4, r_.a5, r_.a6, r_.a7] t_1) true)])
          else none
        else
          lists_Order_j0 (lists_Order_l0 post_ r_ k) r_ t_1 l_3
      else none
      else none
    else
      some l_3
def lists_Order (post_ : Int) (stack_ : Int) : Option ((List lists_Part)) :=
  (lists_regs stack_).bind fun r_ =>
  (lists_Order_l0 post_ r_ BIG ([] : List lists_Part) (0)).bind fun l_4 =>
  some l_4
def spinetlaw17_alive : Option (Bool) :=
  (lists_Order (129) (4)).bind fun r_ =>
  (lists_Read (⟨#[68, 44, 88]⟩ : ByteArray) (4)).bind fun r_1 =>
  if ((ln r_) == 3) = true → 0 ≤ (0 : Int) ∧ 0 < ln r_ then
  if (((ln r_) == 3) && ((gt r_ (0)).Reg == 10)) = true → 0 ≤ (1 : Int) ∧ 1 < ln r_ then
  some ((((((ln r_) == 3) && ((gt r_ (0)).Reg == 10)) && (gt r_ (1)).High) && (r_1.1 == 22)) && (r_1.2 == 0))
  else none
  else none
def strings_Join_l0 (elems_ : (List ByteArray)) : Nat → Int → Int → Option Int
  | 0, _, _ => none
  | k + 1, n_2, t_1 =>
    if (decide (t_1 < (ln elems_))) = true then
      if 0 ≤ (t_1 : Int) ∧ t_1 < ln elems_ then
      if (decide ((IntKind.wrap .i64 (9223372036854775807 - n_2)) < (sln (gt elems_ t_1)))) = true then
        none
      else
        strings_Join_l0 elems_ k (IntKind.wrap .i64 (n_2 + (sln (gt elems_ t_1)))) (IntKind.wrap .i64 (t_1 + 1))
      else none
    else
      some n_2
def strings_Join_l1 (elems_ : (List ByteArray)) (sep_ : ByteArray) : Nat → (List Int) → Int → Option (List Int)
  | 0, _, _ => none
  | k + 1, l_1, t_3 =>
    if (decide (t_3 < (((elems_.length - (1 : Int).toNat) : Nat) : Int))) = true then
      if 0 ≤ (t_3 : Int) ∧ t_3 < (((elems_.length - (1 : Int).toNat) : Nat) : Int) then
      if (l_1.length + sep_.size) * 1 ≤ 140737488355328 then
      if ((l_1 ++ (sbl sep_)).length + (gt (elems_.drop (1 : Int).toNat) t_3).size) * 1 ≤ 140737488355328 then
      strings_Join_l1 elems_ sep_ k ((l_1 ++ (sbl sep_)) ++ (sbl (gt (elems_.drop (1 : Int).toNat) t_3))) (IntKind.wrap .i64 (t_3 + 1))
      else none
      else none
      else none
    else
      some l_1
def strings_Join_j0 (elems_ : (List ByteArray)) (sep_ : ByteArray) (n_ : Int) : Option (ByteArray) :=
  (strings_Join_l0 elems_ BIG n_ (0)).bind fun n_3 =>
  if 0 ≤ (n_3 : Int) ∧ n_3 ≤ 70368744177664 then
  if 0 ≤ (0 : Int) ∧ 0 < ln elems_ then
  if (([] : List Int).length + (gt elems_ (0)).size) * 1 ≤ 140737488355328 then
  if 0 ≤ (1 : Int) ∧ 1 ≤ (ln elems_) then
  (strings_Join_l1 elems_ sep_ BIG (([] : List Int) ++ (sbl (gt elems_ (0)))) (0)).bind fun l_2 =>
  if bytesB l_2 = true then
  some (bs l_2)
  else none
  else none
  else none
  else none
  else none
def strings_Join (elems_ : (List ByteArray)) (sep_ : ByteArray) : Option (ByteArray) :=
  if ((ln elems_) == 0) = true then
    some (⟨#[]⟩ : ByteArray)
  else
    if ((ln elems_) == 1) = true then
      if 0 ≤ (0 : Int) ∧ 0 < ln elems_ then
      some (gt elems_ (0))
      else none
    else
      if (decide (0 < (sln sep_))) = true then
        if (IntKind.wrap .i64 ((ln elems_) - 1)) ≠ 0 then
        if (decide ((IntKind.wrap .i64 (Int.tdiv 9223372036854775807 (IntKind.wrap .i64 ((ln elems_) - 1)))) ≤ (sln sep_))) = true then
          none
        else
          strings_Join_j0 elems_ sep_ (IntKind.wrap .i64 (0 + (IntKind.wrap .i64 ((sln sep_) * (IntKind.wrap .i64 ((ln elems_) - 1))))))
        else none
      else
        strings_Join_j0 elems_ sep_ (0)
def lists_Text_l0 (post_ : Int) (r_ : (A8_i64)) : Nat → (List ByteArray) → Int → Option (List ByteArray)
  | 0, _, _ => none
  | k + 1, l_1, t_1 =>
    if (decide (t_1 < 8)) = true then
      if 0 ≤ (t_1 : Int) ∧ t_1 < (8 : Int) then
      if 0 ≤ t_1 then
      if ((bits .and .u8 (Int.fdiv post_ (2 ^ (min (t_1 : Int).toNat (IntKind.bits .u8)))) 1) == 1) = true then
        (ops_Reg (gt [r_.a0, r_.a1, r_.a2, r_.a3, r_.a4, r_.a5, r_.a6, r_.a7] t_1)).bind fun r_3 =>
        if (l_1.length + [r_3].length) * 16 ≤ 140737488355328 then
        lists_Text_l0 post_ r_ k (l_1 ++ [r_3]) (IntKind.wrap .i64 (t_1 + 1))
        else none
      else
        lists_Text_l0 post_ r_ k l_1 (IntKind.wrap .i64 (t_1 + 1))
      else none
      else none
    else
      some l_1
def lists_Text (post_ : Int) (stack_ : Int) : Option (ByteArray) :=
  (lists_regs stack_).bind fun r_ =>
  (lists_Text_l0 post_ r_ BIG ([] : List ByteArray) (0)).bind fun l_2 =>
  (strings_Join l_2 (⟨#[44]⟩ : ByteArray)).bind fun r_4 =>
  some r_4
def spinetref13_Reg (code_ : Int) : Option (ByteArray) :=
  if ((decide (code_ < 0)) || (decide (11 < code_))) = true then
    some (⟨#[]⟩ : ByteArray)
  else
    if 0 ≤ (code_ : Int) ∧ code_ < (12 : Int) then
    some (gt [(⟨#[68]⟩ : ByteArray), (⟨#[88]⟩ : ByteArray), (⟨#[89]⟩ : ByteArray), (⟨#[85]⟩ : ByteArray), (⟨#[83]⟩ : ByteArray), (⟨#[80, 67]⟩ : ByteArray), (⟨#[]⟩ : ByteArray), (⟨#[]⟩ : ByteArray), (⟨#[65]⟩ : ByteArray), (⟨#[66]⟩ : ByteArray), (⟨#[67, 67]⟩ : ByteArray), (⟨#[68, 80]⟩ : ByteArray)] code_)
    else none
def spinetref17_Code (place_ : Int) (user_ : Bool) : Option (Int) :=
  if (user_ && (place_ == 6)) = true then
    some (4)
  else
    if 0 ≤ (place_ : Int) ∧ place_ < (8 : Int) then
    some (gt [10, 8, 9, 11, 1, 2, 3, 5] place_)
    else none
def spinetlaw17_text_j0 (rec : ByteArray → Int → Int → Option ByteArray) (user_ : Bool) (bit_1 : Int) (i_1 : Int) (s_5 : ByteArray) : Option ByteArray :=
  (spinetref17_Code i_1 user_).bind fun r_4 =>
  (spinetref13_Reg r_4).bind fun r_5 =>
  if ((s_5.size + r_5.size : Nat) : Int) ≤ 9223372036854775807 then
  rec (s_5 ++ r_5) (IntKind.wrap .u8 (bit_1 * 2)) (IntKind.wrap .i64 (i_1 + 1))
  else none
def spinetlaw17_text_l0 (post_ : Int) (user_ : Bool) : Nat → ByteArray → Int → Int → Option ByteArray
  | 0, _, _, _ => none
  | k + 1, s_3, bit_1, i_1 =>
    if (decide (i_1 < 8)) = true then
      if bit_1 ≠ 0 then
      if ((Int.tmod (IntKind.wrap .u8 (Int.tdiv post_ bit_1)) 2) == 1) = true then
        if (!(s_3.toList == (⟨#[]⟩ : ByteArray).toList)) = true then
          if ((s_3.size + (⟨#[44]⟩ : ByteArray).size : Nat) : Int) ≤ 9223372036854775807 then
          spinetlaw17_text_j0 (spinetlaw17_text_l0 post_ user_ k) user_ bit_1 i_1 (s_3 ++ (⟨#[44]⟩ : ByteArray))
          else none
        else
          spinetlaw17_text_j0 (spinetlaw17_text_l0 post_ user_ k) user_ bit_1 i_1 s_3
      else
        spinetlaw17_text_l0 post_ user_ k s_3 (IntKind.wrap .u8 (bit_1 * 2)) (IntKind.wrap .i64 (i_1 + 1))
      else none
    else
      some s_3
def spinetlaw17_text (post_ : Int) (user_ : Bool) : Option (ByteArray) :=
  (spinetlaw17_text_l0 post_ user_ BIG (⟨#[]⟩ : ByteArray) (1) (0)).bind fun s_4 =>
  some s_4
def spinetlaw17_ListsTexts (post_ : Int) (stack_ : Int) : Option (Bool) :=
  (lists_Text post_ stack_).bind fun r_ =>
  (lists_Read r_ stack_).bind fun r_1 =>
  (spinetlaw17_text post_ (stack_ == 3)).bind fun r_2 =>
  ((if (((r_.toList == r_2.toList) && (r_1.1 == post_)) && (r_1.2 == 0)) = true then spinetlaw17_alive else some default)).bind fun r_3 =>
  some ((((r_.toList == r_2.toList) && (r_1.1 == post_)) && (r_1.2 == 0)) && r_3)
end Go.Proofs.YtiedenhkailolaaDoorK
