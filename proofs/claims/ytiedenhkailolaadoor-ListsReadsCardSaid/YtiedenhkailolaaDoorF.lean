/- The functions, over typed data. Printed by a program of this work. -/
import Derived.Test.YtiedenhkailolaaDoorRj
namespace Go.Proofs.YtiedenhkailolaaDoorK
set_option linter.unusedVariables false
set_option linter.unusedSimpArgs false
set_option maxHeartbeats 4000000
open Go.RowKit
attribute [local irreducible] dwv mops lops lqops lwops kont iter run runK rk okK ex E1 vals val chain chB sel resF
def sl_str (x : (List ByteArray)) : List V := [.sl false x.length (cat nS x)]
instance : Cells sl_str 1 := ⟨fun _ => rfl, fun _ => by simp [sl_str, statics, V.static, cat_stat], fun _ => rfl⟩
structure A8_i64 where
  a0 : Int
  a1 : Int
  a2 : Int
  a3 : Int
  a4 : Int
  a5 : Int
  a6 : Int
  a7 : Int
instance : Inhabited A8_i64 := ⟨⟨0, 0, 0, 0, 0, 0, 0, 0⟩⟩
def A8_i64.v (x : A8_i64) : List V := [.s (.int .i64 x.a0), .s (.int .i64 x.a1), .s (.int .i64 x.a2), .s (.int .i64 x.a3), .s (.int .i64 x.a4), .s (.int .i64 x.a5), .s (.int .i64 x.a6), .s (.int .i64 x.a7)]
instance : Cells A8_i64.v 8 := ⟨fun _ => rfl, fun _ => rfl, fun _ => rfl⟩
structure A12_str where
  a0 : ByteArray
  a1 : ByteArray
  a2 : ByteArray
  a3 : ByteArray
  a4 : ByteArray
  a5 : ByteArray
  a6 : ByteArray
  a7 : ByteArray
  a8 : ByteArray
  a9 : ByteArray
  a10 : ByteArray
  a11 : ByteArray
instance : Inhabited A12_str := ⟨⟨⟨#[]⟩, ⟨#[]⟩, ⟨#[]⟩, ⟨#[]⟩, ⟨#[]⟩, ⟨#[]⟩, ⟨#[]⟩, ⟨#[]⟩, ⟨#[]⟩, ⟨#[]⟩, ⟨#[]⟩, ⟨#[]⟩⟩⟩
def A12_str.v (x : A12_str) : List V := [.s (.string x.a0), .s (.string x.a1), .s (.string x.a2), .s (.string x.a3), .s (.string x.a4), .s (.string x.a5), .s (.string x.a6), .s (.string x.a7), .s (.string x.a8), .s (.string x.a9), .s (.string x.a10), .s (.string x.a11)]
instance : Cells A12_str.v 12 := ⟨fun _ => rfl, fun _ => rfl, fun _ => rfl⟩
structure lists_Part where
  Reg : Int
  High : Bool
instance : Inhabited lists_Part := ⟨⟨0, false⟩⟩
def lists_Part.v (x : lists_Part) : List V := [.s (.int .i64 x.Reg), .s (.bool x.High)]
instance : Cells lists_Part.v 2 := ⟨fun _ => rfl, fun _ => rfl, fun _ => rfl⟩
def sl_lists_Part (x : (List lists_Part)) : List V := [.sl false x.length (cat lists_Part.v x)]
instance : Cells sl_lists_Part 1 := ⟨fun _ => rfl, fun _ => by simp [sl_lists_Part, statics, V.static, cat_stat], fun _ => rfl⟩
def unicode_utf8_DecodeRuneInString (s_ : ByteArray) : Option (Int × Int) :=
  if (!(s_.toList == (⟨#[]⟩ : ByteArray).toList)) = true → 0 ≤ (0 : Int) ∧ 0 < sln s_ then
  if ((!(s_.toList == (⟨#[]⟩ : ByteArray).toList)) && (decide ((bt s_ (0)) < 128))) = true then
    if 0 ≤ (0 : Int) ∧ 0 < sln s_ then
    some ((IntKind.wrap .i32 (bt s_ (0))), 1)
    else none
  else
    none
  else none
def strings_Index (s_ : ByteArray) (substr_ : ByteArray) : Option (Int) :=
  (internal_stringslite_Index s_ substr_).bind fun r_ =>
  some r_
def strings_genSplit_l0 (s_ : ByteArray) (sep_ : ByteArray) (sepSave_ : Int) (t_ : Int) : Nat → (List ByteArray) → ByteArray → Int → Option ((List ByteArray) × ByteArray × Int)
  | 0, _, _, _ => none
  | k + 1, l_1, t_2, i_1 =>
    if (decide (i_1 < (IntKind.wrap .i64 ((if (IntKind.wrap .i64 ((sln s_) + 1)) < t_ then (IntKind.wrap .i64 ((sln s_) + 1)) else t_) - 1)))) = true then
      (strings_Index t_2 sep_).bind fun r_3 =>
      if (decide (r_3 < 0)) = true then
        some (l_1, t_2, i_1)
      else
        if 0 ≤ ((IntKind.wrap .i64 (r_3 + sepSave_)) : Int) ∧ (IntKind.wrap .i64 (r_3 + sepSave_)) ≤ (sln t_2) then
        if 0 ≤ (i_1 : Int) ∧ i_1 < ln l_1 then
        if 0 ≤ ((IntKind.wrap .i64 (r_3 + (sln sep_))) : Int) ∧ (IntKind.wrap .i64 (r_3 + (sln sep_))) ≤ (sln t_2) then
        strings_genSplit_l0 s_ sep_ sepSave_ t_ k (st l_1 i_1 (t_2.extract 0 ((IntKind.wrap .i64 (r_3 + sepSave_)) : Int).toNat)) (t_2.extract ((IntKind.wrap .i64 (r_3 + (sln sep_))) : Int).toNat t_2.size) (IntKind.wrap .i64 (i_1 + 1))
        else none
        else none
        else none
    else
      some (l_1, t_2, i_1)
def strings_genSplit_j0 (s_ : ByteArray) (sep_ : ByteArray) (sepSave_ : Int) (t_ : Int) : Option ((List ByteArray)) :=
  if 0 ≤ ((if (IntKind.wrap .i64 ((sln s_) + 1)) < t_ then (IntKind.wrap .i64 ((sln s_) + 1)) else t_) : Int) ∧ ((if (IntKind.wrap .i64 ((sln s_) + 1)) < t_ then (IntKind.wrap .i64 ((sln s_) + 1)) else t_) : Int) ≤ (if (IntKind.wrap .i64 ((sln s_) + 1)) < t_ then (IntKind.wrap .i64 ((sln s_) + 1)) else t_) ∧ ((if (IntKind.wrap .i64 ((sln s_) + 1)) < t_ then (IntKind.wrap .i64 ((sln s_) + 1)) else t_) : Int) * 16 ≤ 281474976710656 ∧ ((if (IntKind.wrap .i64 ((sln s_) + 1)) < t_ then (IntKind.wrap .i64 ((sln s_) + 1)) else t_) : Int) ≤ 281474976710656 then
  (strings_genSplit_l0 s_ sep_ sepSave_ t_ BIG (rp (if (IntKind.wrap .i64 ((sln s_) + 1)) < t_ then (IntKind.wrap .i64 ((sln s_) + 1)) else t_) ((⟨#[]⟩ : ByteArray) : ByteArray)) s_ (0)).bind fun (l_2, t_3, i_2) =>
  if 0 ≤ (i_2 : Int) ∧ i_2 < ln l_2 then
  if 0 ≤ ((IntKind.wrap .i64 (i_2 + 1)) : Int) ∧ (IntKind.wrap .i64 (i_2 + 1)) ≤ (ln (st l_2 i_2 t_3)) then
  some (((st l_2 i_2 t_3).drop 0).take (((IntKind.wrap .i64 (i_2 + 1)) : Int).toNat - 0))
  else none
  else none
  else none
def strings_genSplit (s_ : ByteArray) (sep_ : ByteArray) (sepSave_ : Int) (n_ : Int) : Option ((List ByteArray)) :=
  if (n_ == 0) = true then
    some ([] : List ByteArray)
  else
    if (sep_.toList == (⟨#[]⟩ : ByteArray).toList) = true then
      none
    else
      if (decide (n_ < 0)) = true then
        (strings_Count s_ sep_).bind fun r_ =>
        strings_genSplit_j0 s_ sep_ sepSave_ (IntKind.wrap .i64 (r_ + 1))
      else
        strings_genSplit_j0 s_ sep_ sepSave_ n_
def strings_Split (s_ : ByteArray) (sep_ : ByteArray) : Option ((List ByteArray)) :=
  (strings_genSplit s_ sep_ (0) (-1)).bind fun r_ =>
  some r_
def lists_regs (stack_ : Int) : Option (A8_i64) :=
  if (stack_ == 3) = true then
    some (A8_i64.mk (10) (8) (9) (11) (1) (2) (4) (5))
  else
    some (A8_i64.mk (10) (8) (9) (11) (1) (2) (3) (5))
def ops_Reg (code_ : Int) : Option (ByteArray) :=
  if (code_ == 0) = true then
    some (⟨#[68]⟩ : ByteArray)
  else
    if (code_ == 1) = true then
      some (⟨#[88]⟩ : ByteArray)
    else
      if (code_ == 2) = true then
        some (⟨#[89]⟩ : ByteArray)
      else
        if (code_ == 3) = true then
          some (⟨#[85]⟩ : ByteArray)
        else
          if (code_ == 4) = true then
            some (⟨#[83]⟩ : ByteArray)
          else
            if (code_ == 5) = true then
              some (⟨#[80, 67]⟩ : ByteArray)
            else
              if (code_ == 8) = true then
                some (⟨#[65]⟩ : ByteArray)
              else
                if (code_ == 9) = true then
                  some (⟨#[66]⟩ : ByteArray)
                else
                  if (code_ == 10) = true then
                    some (⟨#[67, 67]⟩ : ByteArray)
                  else
                    if (code_ == 11) = true then
                      some (⟨#[68, 80]⟩ : ByteArray)
                    else
                      some (⟨#[]⟩ : ByteArray)
def lists_bits_l0 (s_ : ByteArray) (r_ : (A8_i64)) : Nat → Int → Option (Out (Int) (Unit))
  | 0, _ => none
  | k + 1, t_1 =>
    if (decide (t_1 < 8)) = true then
      if 0 ≤ (t_1 : Int) ∧ t_1 < (8 : Int) then
      (ops_Reg (gt [r_.a0, r_.a1, r_.a2, r_.a3, r_.a4, r_.a5, r_.a6, r_.a7] t_1)).bind fun r_3 =>
      if (r_3.toList == s_.toList) = true then
        if 0 ≤ t_1 then
        some (.ret (IntKind.wrap .u8 (1 * 2 ^ (min (t_1 : Int).toNat (IntKind.bits .u8)))))
        else none
      else
        lists_bits_l0 s_ r_ k (IntKind.wrap .i64 (t_1 + 1))
      else none
    else
      some (.go ())
def lists_bits (s_ : ByteArray) (stack_ : Int) : Option (Int) :=
  if (s_.toList == (⟨#[68]⟩ : ByteArray).toList) = true then
    some (6)
  else
    (lists_regs stack_).bind fun r_ =>
    (lists_bits_l0 s_ r_ BIG (0)).bind fun o => match o with
      | .ret r => some r
      | .go _ =>
        some (0)
def lists_Read_l0 (stack_ : Int) (r_ : ((List ByteArray))) : Nat → Int → Int → Option (Out (Int × Int) Int)
  | 0, _, _ => none
  | k + 1, post_1, t_1 =>
    if (decide (t_1 < (ln r_))) = true then
      if 0 ≤ (t_1 : Int) ∧ t_1 < ln r_ then
      (lists_bits (gt r_ t_1) stack_).bind fun r_3 =>
      if (r_3 == 0) = true then
        some (.ret (0, 40))
      else
        if ((bits .and .u8 post_1 r_3) != 0) = true then
          some (.ret (0, 41))
        else
          lists_Read_l0 stack_ r_ k (bits .or .u8 post_1 r_3) (IntKind.wrap .i64 (t_1 + 1))
      else none
    else
      some (.go post_1)
def lists_Read (s_ : ByteArray) (stack_ : Int) : Option (Int × Int) :=
  if (s_.toList == (⟨#[]⟩ : ByteArray).toList) = true then
    some (0, 0)
  else
    (strings_Split s_ (⟨#[44]⟩ : ByteArray)).bind fun r_ =>
    (lists_Read_l0 stack_ r_ BIG (0) (0)).bind fun o => match o with
      | .ret r => some r
      | .go post_2 =>
        some (post_2, 0)
def spinetlaw17_names_l0 (s_ : ByteArray) : Nat → (List ByteArray) → Int → Option (List ByteArray)
  | 0, _, _ => none
  | k + 1, l_1, i_1 =>
    if (decide (i_1 < (sln s_))) = true then
      if 0 ≤ (i_1 : Int) ∧ i_1 < sln s_ then
      if ((bt s_ i_1) == 44) = true then
        if (l_1.length + [(⟨#[]⟩ : ByteArray)].length) * 16 ≤ 140737488355328 then
        spinetlaw17_names_l0 s_ k (l_1 ++ [(⟨#[]⟩ : ByteArray)]) (IntKind.wrap .i64 (i_1 + 1))
        else none
      else
        if 0 ≤ ((IntKind.wrap .i64 ((ln l_1) - 1)) : Int) ∧ (IntKind.wrap .i64 ((ln l_1) - 1)) < ln l_1 then
        if 0 ≤ (i_1 : Int) ∧ i_1 ≤ ((IntKind.wrap .i64 (i_1 + 1)) : Int) ∧ (IntKind.wrap .i64 (i_1 + 1)) ≤ (sln s_) then
        if (((gt l_1 (IntKind.wrap .i64 ((ln l_1) - 1))).size + (s_.extract (i_1 : Int).toNat ((IntKind.wrap .i64 (i_1 + 1)) : Int).toNat).size : Nat) : Int) ≤ 9223372036854775807 then
        if 0 ≤ ((IntKind.wrap .i64 ((ln l_1) - 1)) : Int) ∧ (IntKind.wrap .i64 ((ln l_1) - 1)) < ln l_1 then
        spinetlaw17_names_l0 s_ k (st l_1 (IntKind.wrap .i64 ((ln l_1) - 1)) ((gt l_1 (IntKind.wrap .i64 ((ln l_1) - 1))) ++ (s_.extract (i_1 : Int).toNat ((IntKind.wrap .i64 (i_1 + 1)) : Int).toNat))) (IntKind.wrap .i64 (i_1 + 1))
        else none
        else none
        else none
        else none
      else none
    else
      some l_1
def spinetlaw17_names (s_ : ByteArray) : Option ((List ByteArray)) :=
  (spinetlaw17_names_l0 s_ BIG [(⟨#[]⟩ : ByteArray)] (0)).bind fun l_2 =>
  some l_2
def spinetref13_Reg (code_ : Int) : Option (ByteArray) :=
  if ((decide (code_ < 0)) || (decide (11 < code_))) = true then
    some (⟨#[]⟩ : ByteArray)
  else
    if 0 ≤ (code_ : Int) ∧ code_ < (12 : Int) then
    some (gt [(⟨#[68]⟩ : ByteArray), (⟨#[88]⟩ : ByteArray), (⟨#[89]⟩ : ByteArray), (⟨#[85]⟩ : ByteArray), (⟨#[83]⟩ : ByteArray), (⟨#[80, 67]⟩ : ByteArray), (⟨#[]⟩ : ByteArray), (⟨#[]⟩ : ByteArray), (⟨#[65]⟩ : ByteArray), (⟨#[66]⟩ : ByteArray), (⟨#[67, 67]⟩ : ByteArray), (⟨#[68, 80]⟩ : ByteArray)] code_)
    else none
def spinetref17_Code (place_ : Int) (user_ : Bool) : Option (Int) :=
  if (user_ && (place_ == 6)) = true then
    some (4)
  else
    if 0 ≤ (place_ : Int) ∧ place_ < (8 : Int) then
    some (gt [10, 8, 9, 11, 1, 2, 3, 5] place_)
    else none
def lists_Order_j0 (rec : (List lists_Part) → Int → Option (List lists_Part)) (r_ : (A8_i64)) (t_1 : Int) (l_5 : (List lists_Part)) : Option (List lists_Part) :=
  if (l_5.length + [(lists_Part.mk (gt [r_.a0, r_.a1, r_.a2, r_.a3, r_.a4, r_.a5, r_.a6, r_.a7] t_1) false)].length) * 16 ≤ 140737488355328 then
  rec (l_5 ++ [(lists_Part.mk (gt [r_.a0, r_.a1, r_.a2, r_.a3, r_.a4, r_.a5, r_.a6, r_.a7] t_1) false)]) (IntKind.wrap .i64 (t_1 + 1))
  else none
def lists_Order_l0 (post_ : Int) (r_ : (A8_i64)) : Nat → (List lists_Part) → Int → Option (List lists_Part)
  | 0, _, _ => none
  | k + 1, l_3, t_1 =>
    if (decide (t_1 < 8)) = true then
      if 0 ≤ (t_1 : Int) ∧ t_1 < (8 : Int) then
      if 0 ≤ t_1 then
      if ((bits .and .u8 (Int.fdiv post_ (2 ^ (min (t_1 : Int).toNat (IntKind.bits .u8)))) 1) == 0) = true then
        lists_Order_l0 post_ r_ k l_3 (IntKind.wrap .i64 (t_1 + 1))
      else
        if (decide (3 < t_1)) = true then
          if (l_3.length + [(lists_Part.mk (gt [r_.a0, r_.a1, r_.a2, r_.a3, r_.a4, r_.a5, r_.a6, r_.a7] t_1) true)].length) * 16 ≤ 140737488355328 then
          lists_Order_j0 (lists_Order_l0 post_ r_ k) r_ t_1 (l_3 ++ [(lists_Part.mk (gt [r_.a0, r_.a1, r_.a2, r_.a3, r_.a4, r_.a5, r_.a6, r_.a7] t_1) true)])
          else none
        else
          lists_Order_j0 (lists_Order_l0 post_ r_ k) r_ t_1 l_3
      else none
      else none
    else
      some l_3
def lists_Order (post_ : Int) (stack_ : Int) : Option ((List lists_Part)) :=
  (lists_regs stack_).bind fun r_ =>
  (lists_Order_l0 post_ r_ BIG ([] : List lists_Part) (0)).bind fun l_4 =>
  some l_4
def spinetlaw17_alive : Option (Bool) :=
  (lists_Order (129) (4)).bind fun r_ =>
  (lists_Read (⟨#[68, 44, 88]⟩ : ByteArray) (4)).bind fun r_1 =>
  if ((ln r_) == 3) = true → 0 ≤ (0 : Int) ∧ 0 < ln r_ then
  if (((ln r_) == 3) && ((gt r_ (0)).Reg == 10)) = true → 0 ≤ (1 : Int) ∧ 1 < ln r_ then
  some ((((((ln r_) == 3) && ((gt r_ (0)).Reg == 10)) && (gt r_ (1)).High) && (r_1.1 == 22)) && (r_1.2 == 0))
  else none
  else none
def spinetlaw17_ListsReads_l3 (stack_ : Int) (r_1 : ((List ByteArray))) (i_1 : Int) : Nat → Int → Int → Option (Int × Int × Int × Bool)
  | 0, _, _ => none
  | k + 1, n_10, k_7 =>
    if (decide (k_7 < 8)) = true then
      (spinetref17_Code k_7 (stack_ == 3)).bind fun r_18 =>
      (spinetref13_Reg r_18).bind fun r_19 =>
      if 0 ≤ (i_1 : Int) ∧ i_1 < ln r_1 then
      if (r_19.toList == (gt r_1 i_1).toList) = true then
        if 0 ≤ k_7 then
        spinetlaw17_ListsReads_l3 stack_ r_1 i_1 k (IntKind.wrap .i64 (1 * 2 ^ (min (k_7 : Int).toNat (IntKind.bits .i64)))) (IntKind.wrap .i64 (k_7 + 1))
        else none
      else
        spinetlaw17_ListsReads_l3 stack_ r_1 i_1 k n_10 (IntKind.wrap .i64 (k_7 + 1))
      else none
    else
      some (n_10, k_7, k_7, (decide (k_7 < 8)))
def spinetlaw17_ListsReads_j0 (rec : Int → Int → Int → Option (Int × Int)) (want_1 : Int) (i_1 : Int) (n_11 : Int) (f_5 : Int) : Option (Int × Int) :=
  rec (bits .or .i64 want_1 n_11) f_5 (IntKind.wrap .i64 (i_1 + 1))
def spinetlaw17_ListsReads_j1 (rec : Int → Int → Int → Option (Int × Int)) (stack_ : Int) (r_1 : ((List ByteArray))) (want_1 : Int) (f_3 : Int) (i_1 : Int) (n_8 : Int) : Option (Int × Int) :=
  (spinetlaw17_ListsReads_l3 stack_ r_1 i_1 BIG n_8 (0)).bind fun (n_11, k_8, t_4, t_5) =>
  if (n_11 == 0) = true then
    spinetlaw17_ListsReads_j0 (rec) want_1 i_1 n_11 (40)
  else
    if ((bits .and .i64 want_1 n_11) != 0) = true then
      spinetlaw17_ListsReads_j0 (rec) want_1 i_1 n_11 (41)
    else
      spinetlaw17_ListsReads_j0 (rec) want_1 i_1 n_11 f_3
def spinetlaw17_ListsReads_l2 (s_ : ByteArray) (stack_ : Int) (r_1 : ((List ByteArray))) : Nat → Int → Int → Int → Option (Int × Int)
  | 0, _, _, _ => none
  | k + 1, want_1, f_3, i_1 =>
    if (((decide (i_1 < (ln r_1))) && (!(s_.toList == (⟨#[]⟩ : ByteArray).toList))) && (f_3 == 0)) = true then
      if 0 ≤ (i_1 : Int) ∧ i_1 < ln r_1 then
      if ((gt r_1 i_1).toList == (⟨#[68]⟩ : ByteArray).toList) = true then
        spinetlaw17_ListsReads_j1 (spinetlaw17_ListsReads_l2 s_ stack_ r_1 k) stack_ r_1 want_1 f_3 i_1 (6)
      else
        spinetlaw17_ListsReads_j1 (spinetlaw17_ListsReads_l2 s_ stack_ r_1 k) stack_ r_1 want_1 f_3 i_1 (0)
      else none
    else
      some (want_1, f_3)
def spinetlaw17_ListsReads_j2 (r_ : (Int × Int)) (f_4 : Int) (want_3 : Int) : Option (Bool) :=
  ((if (((IntKind.wrap .i64 r_.1) == want_3) && (r_.2 == f_4)) = true then spinetlaw17_alive else some default)).bind fun r_20 =>
  some ((((IntKind.wrap .i64 r_.1) == want_3) && (r_.2 == f_4)) && r_20)
def spinetlaw17_ListsReads (s_ : ByteArray) (stack_ : Int) : Option (Bool) :=
  if (decide (60 < (sln s_))) = true then
    some true
  else
    (lists_Read s_ stack_).bind fun r_ =>
    (spinetlaw17_names s_).bind fun r_1 =>
    (spinetlaw17_ListsReads_l2 s_ stack_ r_1 BIG (0) (0) (0)).bind fun (want_2, f_4) =>
    if (f_4 != 0) = true then
      spinetlaw17_ListsReads_j2 r_ f_4 (0)
    else
      spinetlaw17_ListsReads_j2 r_ f_4 want_2
end Go.Proofs.YtiedenhkailolaaDoorK
