/- The functions, over typed data. Printed by a program of this work. -/
import Derived.Test.YtnilppmpfklpbaaDoorRj
namespace Go.Proofs.YtnilppmpfklpbaaDoorK
set_option linter.unusedVariables false
set_option linter.unusedSimpArgs false
set_option maxHeartbeats 4000000
open Go.RowKit
attribute [local irreducible] dwv mops lops lqops lwops kont iter run runK rk okK ex E1 vals val chain chB sel resF
structure api_Rec where
  Addr : Int
  Data : Int
  Read : Bool
  BA : Bool
  BS : Bool
  LIC : Bool
  AVMA : Bool
  BUSY : Bool
  Mine : Bool
instance : Inhabited api_Rec := ⟨⟨0, 0, false, false, false, false, false, false, false⟩⟩
def api_Rec.v (x : api_Rec) : List V := [.s (.int .u16 x.Addr), .s (.int .u8 x.Data), .s (.bool x.Read), .s (.bool x.BA), .s (.bool x.BS), .s (.bool x.LIC), .s (.bool x.AVMA), .s (.bool x.BUSY), .s (.bool x.Mine)]
instance : Cells api_Rec.v 9 := ⟨fun _ => rfl, fun _ => rfl, fun _ => rfl⟩
def sl_api_Rec (x : (List api_Rec)) : List V := [.sl false x.length (cat api_Rec.v x)]
instance : Cells sl_api_Rec 1 := ⟨fun _ => rfl, fun _ => by simp [sl_api_Rec, statics, V.static, cat_stat], fun _ => rfl⟩
def sl_u8 (x : (List Int)) : List V := [.sl false x.length (cat (nI .u8) x)]
instance : Cells sl_u8 1 := ⟨fun _ => rfl, fun _ => by simp [sl_u8, statics, V.static, cat_stat], fun _ => rfl⟩
structure unicode_utf8_acceptRange where
  lo : Int
  hi : Int
instance : Inhabited unicode_utf8_acceptRange := ⟨⟨0, 0⟩⟩
def unicode_utf8_acceptRange.v (x : unicode_utf8_acceptRange) : List V := [.s (.int .u8 x.lo), .s (.int .u8 x.hi)]
instance : Cells unicode_utf8_acceptRange.v 2 := ⟨fun _ => rfl, fun _ => rfl, fun _ => rfl⟩
def sl_str (x : (List ByteArray)) : List V := [.sl false x.length (cat nS x)]
instance : Cells sl_str 1 := ⟨fun _ => rfl, fun _ => by simp [sl_str, statics, V.static, cat_stat], fun _ => rfl⟩
structure A7_bool where
  a0 : Bool
  a1 : Bool
  a2 : Bool
  a3 : Bool
  a4 : Bool
  a5 : Bool
  a6 : Bool
instance : Inhabited A7_bool := ⟨⟨false, false, false, false, false, false, false⟩⟩
def A7_bool.v (x : A7_bool) : List V := [.s (.bool x.a0), .s (.bool x.a1), .s (.bool x.a2), .s (.bool x.a3), .s (.bool x.a4), .s (.bool x.a5), .s (.bool x.a6)]
instance : Cells A7_bool.v 7 := ⟨fun _ => rfl, fun _ => rfl, fun _ => rfl⟩
structure A7_str where
  a0 : ByteArray
  a1 : ByteArray
  a2 : ByteArray
  a3 : ByteArray
  a4 : ByteArray
  a5 : ByteArray
  a6 : ByteArray
instance : Inhabited A7_str := ⟨⟨⟨#[]⟩, ⟨#[]⟩, ⟨#[]⟩, ⟨#[]⟩, ⟨#[]⟩, ⟨#[]⟩, ⟨#[]⟩⟩⟩
def A7_str.v (x : A7_str) : List V := [.s (.string x.a0), .s (.string x.a1), .s (.string x.a2), .s (.string x.a3), .s (.string x.a4), .s (.string x.a5), .s (.string x.a6)]
instance : Cells A7_str.v 7 := ⟨fun _ => rfl, fun _ => rfl, fun _ => rfl⟩
def wave_level (r_ : api_Rec) (line_ : Int) : Option (Bool) :=
  if 0 ≤ (line_ : Int) ∧ line_ < (7 : Int) then
  some (gt [r_.Read, r_.BA, r_.BS, r_.LIC, r_.AVMA, r_.BUSY, r_.Mine] line_)
  else none
def wave_Line_l0 (line_ : Int) (l_ : (List api_Rec)) : Nat → (List Int) → Int → Option (List Int)
  | 0, _, _ => none
  | k + 1, l_2, t_1 =>
    if (decide (t_1 < (ln l_))) = true then
      if 0 ≤ (t_1 : Int) ∧ t_1 < ln l_ then
      (wave_level (gt l_ t_1) line_).bind fun r_2 =>
      if r_2 = true then
        if (l_2.length + [35].length) * 1 ≤ 140737488355328 then
        wave_Line_l0 line_ l_ k (l_2 ++ [35]) (IntKind.wrap .i64 (t_1 + 1))
        else none
      else
        if (l_2.length + [95].length) * 1 ≤ 140737488355328 then
        wave_Line_l0 line_ l_ k (l_2 ++ [95]) (IntKind.wrap .i64 (t_1 + 1))
        else none
      else none
    else
      some l_2
def wave_Line (line_ : Int) (l_ : (List api_Rec)) : Option (ByteArray) :=
  if ((decide (line_ < 0)) || (decide (6 < line_))) = true then
    some (⟨#[]⟩ : ByteArray)
  else
    (wave_Line_l0 line_ l_ BIG ([] : List Int) (0)).bind fun l_3 =>
    if bytesB l_3 = true then
    some (bs l_3)
    else none
def strings_Index (s_ : ByteArray) (substr_ : ByteArray) : Option (Int) :=
  (internal_stringslite_Index s_ substr_).bind fun r_ =>
  some r_
def unicode_utf8_decodeRuneInStringSlow (s_ : ByteArray) : Option (Int × Int) :=
  if (decide ((sln s_) < 1)) = true then
    some (65533, 0)
  else
    none
def unicode_utf8_DecodeRuneInString (s_ : ByteArray) : Option (Int × Int) :=
  if (!(s_.toList == (⟨#[]⟩ : ByteArray).toList)) = true → 0 ≤ (0 : Int) ∧ 0 < sln s_ then
  if ((!(s_.toList == (⟨#[]⟩ : ByteArray).toList)) && (decide ((bt s_ (0)) < 128))) = true then
    if 0 ≤ (0 : Int) ∧ 0 < sln s_ then
    some ((IntKind.wrap .i32 (bt s_ (0))), 1)
    else none
  else
    (unicode_utf8_decodeRuneInStringSlow s_).bind fun r_ =>
    some (r_.1, r_.2)
  else none
def strings_genSplit_l0 (s_ : ByteArray) (sep_ : ByteArray) (sepSave_ : Int) (t_ : Int) : Nat → (List ByteArray) → ByteArray → Int → Option ((List ByteArray) × ByteArray × Int)
  | 0, _, _, _ => none
  | k + 1, l_1, t_2, i_1 =>
    if (decide (i_1 < (IntKind.wrap .i64 ((if (IntKind.wrap .i64 ((sln s_) + 1)) < t_ then (IntKind.wrap .i64 ((sln s_) + 1)) else t_) - 1)))) = true then
      (strings_Index t_2 sep_).bind fun r_3 =>
      if (decide (r_3 < 0)) = true then
        some (l_1, t_2, i_1)
      else
        if 0 ≤ ((IntKind.wrap .i64 (r_3 + sepSave_)) : Int) ∧ (IntKind.wrap .i64 (r_3 + sepSave_)) ≤ (sln t_2) then
        if 0 ≤ (i_1 : Int) ∧ i_1 < ln l_1 then
        if 0 ≤ ((IntKind.wrap .i64 (r_3 + (sln sep_))) : Int) ∧ (IntKind.wrap .i64 (r_3 + (sln sep_))) ≤ (sln t_2) then
        strings_genSplit_l0 s_ sep_ sepSave_ t_ k (st l_1 i_1 (t_2.extract 0 ((IntKind.wrap .i64 (r_3 + sepSave_)) : Int).toNat)) (t_2.extract ((IntKind.wrap .i64 (r_3 + (sln sep_))) : Int).toNat t_2.size) (IntKind.wrap .i64 (i_1 + 1))
        else none
        else none
        else none
    else
      some (l_1, t_2, i_1)
def strings_genSplit_j0 (s_ : ByteArray) (sep_ : ByteArray) (sepSave_ : Int) (t_ : Int) : Option ((List ByteArray)) :=
  if 0 ≤ ((if (IntKind.wrap .i64 ((sln s_) + 1)) < t_ then (IntKind.wrap .i64 ((sln s_) + 1)) else t_) : Int) ∧ ((if (IntKind.wrap .i64 ((sln s_) + 1)) < t_ then (IntKind.wrap .i64 ((sln s_) + 1)) else t_) : Int) ≤ (if (IntKind.wrap .i64 ((sln s_) + 1)) < t_ then (IntKind.wrap .i64 ((sln s_) + 1)) else t_) ∧ ((if (IntKind.wrap .i64 ((sln s_) + 1)) < t_ then (IntKind.wrap .i64 ((sln s_) + 1)) else t_) : Int) * 16 ≤ 281474976710656 ∧ ((if (IntKind.wrap .i64 ((sln s_) + 1)) < t_ then (IntKind.wrap .i64 ((sln s_) + 1)) else t_) : Int) ≤ 281474976710656 then
  (strings_genSplit_l0 s_ sep_ sepSave_ t_ BIG (rp (if (IntKind.wrap .i64 ((sln s_) + 1)) < t_ then (IntKind.wrap .i64 ((sln s_) + 1)) else t_) ((⟨#[]⟩ : ByteArray) : ByteArray)) s_ (0)).bind fun (l_2, t_3, i_2) =>
  if 0 ≤ (i_2 : Int) ∧ i_2 < ln l_2 then
  if 0 ≤ ((IntKind.wrap .i64 (i_2 + 1)) : Int) ∧ (IntKind.wrap .i64 (i_2 + 1)) ≤ (ln (st l_2 i_2 t_3)) then
  some (((st l_2 i_2 t_3).drop 0).take (((IntKind.wrap .i64 (i_2 + 1)) : Int).toNat - 0))
  else none
  else none
  else none
def strings_genSplit (s_ : ByteArray) (sep_ : ByteArray) (sepSave_ : Int) (n_ : Int) : Option ((List ByteArray)) :=
  if (n_ == 0) = true then
    some ([] : List ByteArray)
  else
    if (sep_.toList == (⟨#[]⟩ : ByteArray).toList) = true then
      none
    else
      if (decide (n_ < 0)) = true then
        (strings_Count s_ sep_).bind fun r_ =>
        strings_genSplit_j0 s_ sep_ sepSave_ (IntKind.wrap .i64 (r_ + 1))
      else
        strings_genSplit_j0 s_ sep_ sepSave_ n_
def strings_Split (s_ : ByteArray) (sep_ : ByteArray) : Option ((List ByteArray)) :=
  (strings_genSplit s_ sep_ (0) (-1)).bind fun r_ =>
  some r_
def math_bits_Mul32 (x_ : Int) (y_ : Int) : Option (Int × Int) :=
  some ((IntKind.wrap .u32 (Int.fdiv (IntKind.wrap .u64 ((IntKind.wrap .u64 x_) * (IntKind.wrap .u64 y_))) (2 ^ (32)))), (IntKind.wrap .u32 (IntKind.wrap .u64 ((IntKind.wrap .u64 x_) * (IntKind.wrap .u64 y_)))))
def math_bits_Mul64 (x_ : Int) (y_ : Int) : Option (Int × Int) :=
  some ((IntKind.wrap .u64 ((IntKind.wrap .u64 ((IntKind.wrap .u64 ((Int.fdiv x_ (2 ^ (32))) * (Int.fdiv y_ (2 ^ (32))))) + (Int.fdiv (IntKind.wrap .u64 ((IntKind.wrap .u64 ((Int.fdiv x_ (2 ^ (32))) * (bits .and .u64 y_ 4294967295))) + (Int.fdiv (IntKind.wrap .u64 ((bits .and .u64 x_ 4294967295) * (bits .and .u64 y_ 4294967295))) (2 ^ (32))))) (2 ^ (32))))) + (Int.fdiv (IntKind.wrap .u64 ((bits .and .u64 (IntKind.wrap .u64 ((IntKind.wrap .u64 ((Int.fdiv x_ (2 ^ (32))) * (bits .and .u64 y_ 4294967295))) + (Int.fdiv (IntKind.wrap .u64 ((bits .and .u64 x_ 4294967295) * (bits .and .u64 y_ 4294967295))) (2 ^ (32))))) 4294967295) + (IntKind.wrap .u64 ((bits .and .u64 x_ 4294967295) * (Int.fdiv y_ (2 ^ (32))))))) (2 ^ (32))))), (IntKind.wrap .u64 (x_ * y_)))
def math_bits_Mul (x_ : Int) (y_ : Int) : Option (Int × Int) :=
  if false = true then
    (math_bits_Mul32 (IntKind.wrap .u32 x_) (IntKind.wrap .u32 y_)).bind fun r_ =>
    some ((IntKind.wrap .u64 r_.1), (IntKind.wrap .u64 r_.2))
  else
    (math_bits_Mul64 x_ y_).bind fun r_1 =>
    some (r_1.1, r_1.2)
def internal_stringslite_HasPrefix (s_ : ByteArray) (prefix_ : ByteArray) : Option (Bool) :=
  if (decide ((sln prefix_) ≤ (sln s_))) = true → 0 ≤ ((sln prefix_) : Int) ∧ (sln prefix_) ≤ (sln s_) then
  some ((decide ((sln prefix_) ≤ (sln s_))) && ((s_.extract 0 ((sln prefix_) : Int).toNat).toList == prefix_.toList))
  else none
def strings_HasPrefix (s_ : ByteArray) (prefix_ : ByteArray) : Option (Bool) :=
  (internal_stringslite_HasPrefix s_ prefix_).bind fun r_ =>
  some r_
def strings_Repeat_j0 : Option (ByteArray) :=
  none
def strings_Repeat_j1 (s_ : ByteArray) (r_ : (Int × Int)) : Option (ByteArray) :=
  if (decide (8192 < (IntKind.wrap .i64 r_.2))) = true then
    if (sln s_) ≠ 0 then
    if ((IntKind.wrap .i64 ((IntKind.wrap .i64 (Int.tdiv 8192 (sln s_))) * (sln s_))) == 0) = true then
      strings_Repeat_j0
    else
      strings_Repeat_j0
    else none
  else
    strings_Repeat_j0
def strings_Repeat_j2 (s_ : ByteArray) (r_ : (Int × Int)) (t_ : Bool) : Option (ByteArray) :=
  if t_ = true then
    ((if (decide ((IntKind.wrap .i64 r_.2) ≤ 128)) = true then strings_HasPrefix (⟨#[32, 32, 32, 32, 32, 32, 32, 32, 32, 32, 32, 32, 32, 32, 32, 32, 32, 32, 32, 32, 32, 32, 32, 32, 32, 32, 32, 32, 32, 32, 32, 32, 32, 32, 32, 32, 32, 32, 32, 32, 32, 32, 32, 32, 32, 32, 32, 32, 32, 32, 32, 32, 32, 32, 32, 32, 32, 32, 32, 32, 32, 32, 32, 32, 32, 32, 32, 32, 32, 32, 32, 32, 32, 32, 32, 32, 32, 32, 32, 32, 32, 32, 32, 32, 32, 32, 32, 32, 32, 32, 32, 32, 32, 32, 32, 32, 32, 32, 32, 32, 32, 32, 32, 32, 32, 32, 32, 32, 32, 32, 32, 32, 32, 32, 32, 32, 32, 32, 32, 32, 32, 32, 32, 32, 32, 32, 32, 32]⟩ : ByteArray) s_ else some default)).bind fun r_1 =>
    if ((decide ((IntKind.wrap .i64 r_.2) ≤ 128)) && r_1) = true then
      if 0 ≤ ((IntKind.wrap .i64 r_.2) : Int) ∧ (IntKind.wrap .i64 r_.2) ≤ (sln (⟨#[32, 32, 32, 32, 32, 32, 32, 32, 32, 32, 32, 32, 32, 32, 32, 32, 32, 32, 32, 32, 32, 32, 32, 32, 32, 32, 32, 32, 32, 32, 32, 32, 32, 32, 32, 32, 32, 32, 32, 32, 32, 32, 32, 32, 32, 32, 32, 32, 32, 32, 32, 32, 32, 32, 32, 32, 32, 32, 32, 32, 32, 32, 32, 32, 32, 32, 32, 32, 32, 32, 32, 32, 32, 32, 32, 32, 32, 32, 32, 32, 32, 32, 32, 32, 32, 32, 32, 32, 32, 32, 32, 32, 32, 32, 32, 32, 32, 32, 32, 32, 32, 32, 32, 32, 32, 32, 32, 32, 32, 32, 32, 32, 32, 32, 32, 32, 32, 32, 32, 32, 32, 32, 32, 32, 32, 32, 32, 32]⟩ : ByteArray)) then
      some ((⟨#[32, 32, 32, 32, 32, 32, 32, 32, 32, 32, 32, 32, 32, 32, 32, 32, 32, 32, 32, 32, 32, 32, 32, 32, 32, 32, 32, 32, 32, 32, 32, 32, 32, 32, 32, 32, 32, 32, 32, 32, 32, 32, 32, 32, 32, 32, 32, 32, 32, 32, 32, 32, 32, 32, 32, 32, 32, 32, 32, 32, 32, 32, 32, 32, 32, 32, 32, 32, 32, 32, 32, 32, 32, 32, 32, 32, 32, 32, 32, 32, 32, 32, 32, 32, 32, 32, 32, 32, 32, 32, 32, 32, 32, 32, 32, 32, 32, 32, 32, 32, 32, 32, 32, 32, 32, 32, 32, 32, 32, 32, 32, 32, 32, 32, 32, 32, 32, 32, 32, 32, 32, 32, 32, 32, 32, 32, 32, 32]⟩ : ByteArray).extract 0 ((IntKind.wrap .i64 r_.2) : Int).toNat)
      else none
    else
      ((if (decide ((IntKind.wrap .i64 r_.2) ≤ 128)) = true then strings_HasPrefix (⟨#[45, 45, 45, 45, 45, 45, 45, 45, 45, 45, 45, 45, 45, 45, 45, 45, 45, 45, 45, 45, 45, 45, 45, 45, 45, 45, 45, 45, 45, 45, 45, 45, 45, 45, 45, 45, 45, 45, 45, 45, 45, 45, 45, 45, 45, 45, 45, 45, 45, 45, 45, 45, 45, 45, 45, 45, 45, 45, 45, 45, 45, 45, 45, 45, 45, 45, 45, 45, 45, 45, 45, 45, 45, 45, 45, 45, 45, 45, 45, 45, 45, 45, 45, 45, 45, 45, 45, 45, 45, 45, 45, 45, 45, 45, 45, 45, 45, 45, 45, 45, 45, 45, 45, 45, 45, 45, 45, 45, 45, 45, 45, 45, 45, 45, 45, 45, 45, 45, 45, 45, 45, 45, 45, 45, 45, 45, 45, 45]⟩ : ByteArray) s_ else some default)).bind fun r_2 =>
      if ((decide ((IntKind.wrap .i64 r_.2) ≤ 128)) && r_2) = true then
        if 0 ≤ ((IntKind.wrap .i64 r_.2) : Int) ∧ (IntKind.wrap .i64 r_.2) ≤ (sln (⟨#[45, 45, 45, 45, 45, 45, 45, 45, 45, 45, 45, 45, 45, 45, 45, 45, 45, 45, 45, 45, 45, 45, 45, 45, 45, 45, 45, 45, 45, 45, 45, 45, 45, 45, 45, 45, 45, 45, 45, 45, 45, 45, 45, 45, 45, 45, 45, 45, 45, 45, 45, 45, 45, 45, 45, 45, 45, 45, 45, 45, 45, 45, 45, 45, 45, 45, 45, 45, 45, 45, 45, 45, 45, 45, 45, 45, 45, 45, 45, 45, 45, 45, 45, 45, 45, 45, 45, 45, 45, 45, 45, 45, 45, 45, 45, 45, 45, 45, 45, 45, 45, 45, 45, 45, 45, 45, 45, 45, 45, 45, 45, 45, 45, 45, 45, 45, 45, 45, 45, 45, 45, 45, 45, 45, 45, 45, 45, 45]⟩ : ByteArray)) then
        some ((⟨#[45, 45, 45, 45, 45, 45, 45, 45, 45, 45, 45, 45, 45, 45, 45, 45, 45, 45, 45, 45, 45, 45, 45, 45, 45, 45, 45, 45, 45, 45, 45, 45, 45, 45, 45, 45, 45, 45, 45, 45, 45, 45, 45, 45, 45, 45, 45, 45, 45, 45, 45, 45, 45, 45, 45, 45, 45, 45, 45, 45, 45, 45, 45, 45, 45, 45, 45, 45, 45, 45, 45, 45, 45, 45, 45, 45, 45, 45, 45, 45, 45, 45, 45, 45, 45, 45, 45, 45, 45, 45, 45, 45, 45, 45, 45, 45, 45, 45, 45, 45, 45, 45, 45, 45, 45, 45, 45, 45, 45, 45, 45, 45, 45, 45, 45, 45, 45, 45, 45, 45, 45, 45, 45, 45, 45, 45, 45, 45]⟩ : ByteArray).extract 0 ((IntKind.wrap .i64 r_.2) : Int).toNat)
        else none
      else
        ((if (decide ((IntKind.wrap .i64 r_.2) ≤ 64)) = true then strings_HasPrefix (⟨#[48, 48, 48, 48, 48, 48, 48, 48, 48, 48, 48, 48, 48, 48, 48, 48, 48, 48, 48, 48, 48, 48, 48, 48, 48, 48, 48, 48, 48, 48, 48, 48, 48, 48, 48, 48, 48, 48, 48, 48, 48, 48, 48, 48, 48, 48, 48, 48, 48, 48, 48, 48, 48, 48, 48, 48, 48, 48, 48, 48, 48, 48, 48, 48]⟩ : ByteArray) s_ else some default)).bind fun r_3 =>
        if ((decide ((IntKind.wrap .i64 r_.2) ≤ 64)) && r_3) = true then
          if 0 ≤ ((IntKind.wrap .i64 r_.2) : Int) ∧ (IntKind.wrap .i64 r_.2) ≤ (sln (⟨#[48, 48, 48, 48, 48, 48, 48, 48, 48, 48, 48, 48, 48, 48, 48, 48, 48, 48, 48, 48, 48, 48, 48, 48, 48, 48, 48, 48, 48, 48, 48, 48, 48, 48, 48, 48, 48, 48, 48, 48, 48, 48, 48, 48, 48, 48, 48, 48, 48, 48, 48, 48, 48, 48, 48, 48, 48, 48, 48, 48, 48, 48, 48, 48]⟩ : ByteArray)) then
          some ((⟨#[48, 48, 48, 48, 48, 48, 48, 48, 48, 48, 48, 48, 48, 48, 48, 48, 48, 48, 48, 48, 48, 48, 48, 48, 48, 48, 48, 48, 48, 48, 48, 48, 48, 48, 48, 48, 48, 48, 48, 48, 48, 48, 48, 48, 48, 48, 48, 48, 48, 48, 48, 48, 48, 48, 48, 48, 48, 48, 48, 48, 48, 48, 48, 48]⟩ : ByteArray).extract 0 ((IntKind.wrap .i64 r_.2) : Int).toNat)
          else none
        else
          ((if (decide ((IntKind.wrap .i64 r_.2) ≤ 128)) = true then strings_HasPrefix (⟨#[61, 61, 61, 61, 61, 61, 61, 61, 61, 61, 61, 61, 61, 61, 61, 61, 61, 61, 61, 61, 61, 61, 61, 61, 61, 61, 61, 61, 61, 61, 61, 61, 61, 61, 61, 61, 61, 61, 61, 61, 61, 61, 61, 61, 61, 61, 61, 61, 61, 61, 61, 61, 61, 61, 61, 61, 61, 61, 61, 61, 61, 61, 61, 61, 61, 61, 61, 61, 61, 61, 61, 61, 61, 61, 61, 61, 61, 61, 61, 61, 61, 61, 61, 61, 61, 61, 61, 61, 61, 61, 61, 61, 61, 61, 61, 61, 61, 61, 61, 61, 61, 61, 61, 61, 61, 61, 61, 61, 61, 61, 61, 61, 61, 61, 61, 61, 61, 61, 61, 61, 61, 61, 61, 61, 61, 61, 61, 61]⟩ : ByteArray) s_ else some default)).bind fun r_4 =>
          if ((decide ((IntKind.wrap .i64 r_.2) ≤ 128)) && r_4) = true then
            if 0 ≤ ((IntKind.wrap .i64 r_.2) : Int) ∧ (IntKind.wrap .i64 r_.2) ≤ (sln (⟨#[61, 61, 61, 61, 61, 61, 61, 61, 61, 61, 61, 61, 61, 61, 61, 61, 61, 61, 61, 61, 61, 61, 61, 61, 61, 61, 61, 61, 61, 61, 61, 61, 61, 61, 61, 61, 61, 61, 61, 61, 61, 61, 61, 61, 61, 61, 61, 61, 61, 61, 61, 61, 61, 61, 61, 61, 61, 61, 61, 61, 61, 61, 61, 61, 61, 61, 61, 61, 61, 61, 61, 61, 61, 61, 61, 61, 61, 61, 61, 61, 61, 61, 61, 61, 61, 61, 61, 61, 61, 61, 61, 61, 61, 61, 61, 61, 61, 61, 61, 61, 61, 61, 61, 61, 61, 61, 61, 61, 61, 61, 61, 61, 61, 61, 61, 61, 61, 61, 61, 61, 61, 61, 61, 61, 61, 61, 61, 61]⟩ : ByteArray)) then
            some ((⟨#[61, 61, 61, 61, 61, 61, 61, 61, 61, 61, 61, 61, 61, 61, 61, 61, 61, 61, 61, 61, 61, 61, 61, 61, 61, 61, 61, 61, 61, 61, 61, 61, 61, 61, 61, 61, 61, 61, 61, 61, 61, 61, 61, 61, 61, 61, 61, 61, 61, 61, 61, 61, 61, 61, 61, 61, 61, 61, 61, 61, 61, 61, 61, 61, 61, 61, 61, 61, 61, 61, 61, 61, 61, 61, 61, 61, 61, 61, 61, 61, 61, 61, 61, 61, 61, 61, 61, 61, 61, 61, 61, 61, 61, 61, 61, 61, 61, 61, 61, 61, 61, 61, 61, 61, 61, 61, 61, 61, 61, 61, 61, 61, 61, 61, 61, 61, 61, 61, 61, 61, 61, 61, 61, 61, 61, 61, 61, 61]⟩ : ByteArray).extract 0 ((IntKind.wrap .i64 r_.2) : Int).toNat)
            else none
          else
            ((if (decide ((IntKind.wrap .i64 r_.2) ≤ 64)) = true then strings_HasPrefix (⟨#[9, 9, 9, 9, 9, 9, 9, 9, 9, 9, 9, 9, 9, 9, 9, 9, 9, 9, 9, 9, 9, 9, 9, 9, 9, 9, 9, 9, 9, 9, 9, 9, 9, 9, 9, 9, 9, 9, 9, 9, 9, 9, 9, 9, 9, 9, 9, 9, 9, 9, 9, 9, 9, 9, 9, 9, 9, 9, 9, 9, 9, 9, 9, 9]⟩ : ByteArray) s_ else some default)).bind fun r_5 =>
            if ((decide ((IntKind.wrap .i64 r_.2) ≤ 64)) && r_5) = true then
              if 0 ≤ ((IntKind.wrap .i64 r_.2) : Int) ∧ (IntKind.wrap .i64 r_.2) ≤ (sln (⟨#[9, 9, 9, 9, 9, 9, 9, 9, 9, 9, 9, 9, 9, 9, 9, 9, 9, 9, 9, 9, 9, 9, 9, 9, 9, 9, 9, 9, 9, 9, 9, 9, 9, 9, 9, 9, 9, 9, 9, 9, 9, 9, 9, 9, 9, 9, 9, 9, 9, 9, 9, 9, 9, 9, 9, 9, 9, 9, 9, 9, 9, 9, 9, 9]⟩ : ByteArray)) then
              some ((⟨#[9, 9, 9, 9, 9, 9, 9, 9, 9, 9, 9, 9, 9, 9, 9, 9, 9, 9, 9, 9, 9, 9, 9, 9, 9, 9, 9, 9, 9, 9, 9, 9, 9, 9, 9, 9, 9, 9, 9, 9, 9, 9, 9, 9, 9, 9, 9, 9, 9, 9, 9, 9, 9, 9, 9, 9, 9, 9, 9, 9, 9, 9, 9, 9]⟩ : ByteArray).extract 0 ((IntKind.wrap .i64 r_.2) : Int).toNat)
              else none
            else
              strings_Repeat_j1 s_ r_
  else
    strings_Repeat_j1 s_ r_
def strings_Repeat (s_ : ByteArray) (count_ : Int) : Option (ByteArray) :=
  if (count_ == 0) = true then
    some (⟨#[]⟩ : ByteArray)
  else
    if (count_ == 1) = true then
      some s_
    else
      if (decide (count_ < 0)) = true then
        none
      else
        ((math_bits_Mul (IntKind.wrap .u64 (sln s_)) (IntKind.wrap .u64 count_)).bind fun r_ =>
      if ((decide (0 < r_.1)) || (decide (9223372036854775807 < r_.2))) = true then
        none
      else
        (if ((sln s_) == 0) = true then
        some (⟨#[]⟩ : ByteArray)
      else
        if 0 ≤ (0 : Int) ∧ 0 < sln s_ then
        if ((bt s_ (0)) == 32) = true then
          strings_Repeat_j2 s_ r_ ((bt s_ (0)) == 32)
        else
          if ((bt s_ (0)) == 45) = true then
            strings_Repeat_j2 s_ r_ ((bt s_ (0)) == 45)
          else
            if ((bt s_ (0)) == 48) = true then
              strings_Repeat_j2 s_ r_ ((bt s_ (0)) == 48)
            else
              if ((bt s_ (0)) == 61) = true then
                strings_Repeat_j2 s_ r_ ((bt s_ (0)) == 61)
              else
                strings_Repeat_j2 s_ r_ ((bt s_ (0)) == 9)
        else none))
def wave_Text_l0 (l_ : (List api_Rec)) (r_ : ((List ByteArray))) : Nat → (List Int) → Int → Option (List Int)
  | 0, _, _ => none
  | k + 1, l_2, t_1 =>
    if (decide (t_1 < (ln r_))) = true then
      if 0 ≤ (t_1 : Int) ∧ t_1 < ln r_ then
      (strings_Repeat (⟨#[32]⟩ : ByteArray) (IntKind.wrap .i64 (5 - (sln (gt r_ t_1))))).bind fun r_5 =>
      if (((gt r_ t_1).size + r_5.size : Nat) : Int) ≤ 9223372036854775807 then
      (wave_Line t_1 l_).bind fun r_6 =>
      if ((((gt r_ t_1) ++ r_5).size + r_6.size : Nat) : Int) ≤ 9223372036854775807 then
      if (((((gt r_ t_1) ++ r_5) ++ r_6).size + (⟨#[10]⟩ : ByteArray).size : Nat) : Int) ≤ 9223372036854775807 then
      if (l_2.length + ((((gt r_ t_1) ++ r_5) ++ r_6) ++ (⟨#[10]⟩ : ByteArray)).size) * 1 ≤ 140737488355328 then
      wave_Text_l0 l_ r_ k (l_2 ++ (sbl ((((gt r_ t_1) ++ r_5) ++ r_6) ++ (⟨#[10]⟩ : ByteArray)))) (IntKind.wrap .i64 (t_1 + 1))
      else none
      else none
      else none
      else none
      else none
    else
      some l_2
def wave_Text (l_ : (List api_Rec)) : Option (ByteArray) :=
  (strings_Split (⟨#[82, 69, 65, 68, 32, 66, 65, 32, 66, 83, 32, 76, 73, 67, 32, 65, 86, 77, 65, 32, 66, 85, 83, 89, 32, 77, 73, 78, 69]⟩ : ByteArray) (⟨#[32]⟩ : ByteArray)).bind fun r_ =>
  (wave_Text_l0 l_ r_ BIG ([] : List Int) (0)).bind fun l_3 =>
  if bytesB l_3 = true then
  some (bs l_3)
  else none
def wave_Read_l3 (r_ : ((List ByteArray))) (t_11 : Int) : Nat → (List Bool) → Int → Option ((List Bool) × Int × Bool)
  | 0, _, _ => none
  | k + 1, l_10, t_14 =>
    if (decide (t_14 < 7)) = true then
      if 0 ≤ (t_14 : Int) ∧ t_14 < ln r_ then
      if (decide ((IntKind.wrap .i64 (t_11 + 5)) < (sln (gt r_ t_14)))) = true → 0 ≤ (t_14 : Int) ∧ t_14 < ln r_ then
      if (decide ((IntKind.wrap .i64 (t_11 + 5)) < (sln (gt r_ t_14)))) = true → 0 ≤ ((IntKind.wrap .i64 (t_11 + 5)) : Int) ∧ (IntKind.wrap .i64 (t_11 + 5)) < sln (gt r_ t_14) then
      if 0 ≤ (t_14 : Int) ∧ t_14 < (7 : Int) then
      wave_Read_l3 r_ t_11 k (st l_10 t_14 ((decide ((IntKind.wrap .i64 (t_11 + 5)) < (sln (gt r_ t_14)))) && ((bt (gt r_ t_14) (IntKind.wrap .i64 (t_11 + 5))) == 35))) (IntKind.wrap .i64 (t_14 + 1))
      else none
      else none
      else none
      else none
    else
      some (l_10, t_14, (decide (t_14 < 7)))
def wave_Read_l2 (r_ : ((List ByteArray))) : Nat → (List api_Rec) → Int → Option (List api_Rec)
  | 0, _, _ => none
  | k + 1, l_7, t_11 =>
    if (decide (t_11 < (IntKind.wrap .i64 ((sln (gt r_ (0))) - 5)))) = true then
      (wave_Read_l3 r_ t_11 BIG [false, false, false, false, false, false, false] (0)).bind fun (l_11, t_15, t_16) =>
      if 0 ≤ (0 : Int) ∧ 0 < (7 : Int) then
      if 0 ≤ (1 : Int) ∧ 1 < (7 : Int) then
      if 0 ≤ (2 : Int) ∧ 2 < (7 : Int) then
      if 0 ≤ (3 : Int) ∧ 3 < (7 : Int) then
      if 0 ≤ (4 : Int) ∧ 4 < (7 : Int) then
      if 0 ≤ (5 : Int) ∧ 5 < (7 : Int) then
      if 0 ≤ (6 : Int) ∧ 6 < (7 : Int) then
      if (l_7.length + [(api_Rec.mk (0) (0) (gt l_11 (0)) (gt l_11 (1)) (gt l_11 (2)) (gt l_11 (3)) (gt l_11 (4)) (gt l_11 (5)) (gt l_11 (6)))].length) * 10 ≤ 140737488355328 then
      wave_Read_l2 r_ k (l_7 ++ [(api_Rec.mk (0) (0) (gt l_11 (0)) (gt l_11 (1)) (gt l_11 (2)) (gt l_11 (3)) (gt l_11 (4)) (gt l_11 (5)) (gt l_11 (6)))]) (IntKind.wrap .i64 (t_11 + 1))
      else none
      else none
      else none
      else none
      else none
      else none
      else none
      else none
    else
      some l_7
def wave_Read (s_ : ByteArray) : Option ((List api_Rec) × Int) :=
  (strings_Split s_ (⟨#[10]⟩ : ByteArray)).bind fun r_ =>
  if (!((ln r_) != 8)) = true → 0 ≤ (0 : Int) ∧ 0 < ln r_ then
  if (((ln r_) != 8) || (decide ((sln (gt r_ (0))) < 5))) = true then
    some (([] : List api_Rec), 21)
  else
    if 0 ≤ (0 : Int) ∧ 0 < ln r_ then
    (wave_Read_l2 r_ BIG ([] : List api_Rec) (0)).bind fun l_8 =>
    (wave_Text l_8).bind fun r_1 =>
    if (!(r_1.toList == s_.toList)) = true then
      some (([] : List api_Rec), 21)
    else
      some (l_8, 0)
    else none
  else none
def spinetlaw50_alive : Option (Bool) :=
  (wave_Line (0) [(api_Rec.mk (0) (0) true false false false false false false), (api_Rec.mk (0) (0) false false false false false false false)]).bind fun r_ =>
  some ((r_.toList == (⟨#[35, 95]⟩ : ByteArray).toList) || false)
def spinetlaw50_on (r_ : api_Rec) (line_ : Int) : Option (Bool) :=
  if ((decide (0 ≤ line_)) && (decide (line_ < 7))) = true → 0 ≤ (line_ : Int) ∧ line_ < (7 : Int) then
  some (((decide (0 ≤ line_)) && (decide (line_ < 7))) && (gt [r_.Read, r_.BA, r_.BS, r_.LIC, r_.AVMA, r_.BUSY, r_.Mine] line_))
  else none
def wave_Rises (line_ : Int) (l_ : (List api_Rec)) : Option (Int) :=
  (wave_Line line_ l_).bind fun r_ =>
  if (((⟨#[95]⟩ : ByteArray).size + r_.size : Nat) : Int) ≤ 9223372036854775807 then
  (strings_Count ((⟨#[95]⟩ : ByteArray) ++ r_) (⟨#[95, 35]⟩ : ByteArray)).bind fun r_1 =>
  some r_1
  else none
def wave_High (line_ : Int) (l_ : (List api_Rec)) : Option (Int) :=
  (wave_Line line_ l_).bind fun r_ =>
  (strings_Count r_ (⟨#[35]⟩ : ByteArray)).bind fun r_1 =>
  some r_1
def slices_Equal_sl_api_Rec_api_Rec_l0 (s1_ : (List api_Rec)) (s2_ : (List api_Rec)) : Nat → Int → Option (Out (Bool) (Unit))
  | 0, _ => none
  | k + 1, t_1 =>
    if (decide (t_1 < (ln s1_))) = true then
      if 0 ≤ (t_1 : Int) ∧ t_1 < ln s1_ then
      if 0 ≤ (t_1 : Int) ∧ t_1 < ln s2_ then
      if (!(((gt s1_ t_1).Addr == (gt s2_ t_1).Addr) && (((gt s1_ t_1).Data == (gt s2_ t_1).Data) && (((gt s1_ t_1).Read == (gt s2_ t_1).Read) && (((gt s1_ t_1).BA == (gt s2_ t_1).BA) && (((gt s1_ t_1).BS == (gt s2_ t_1).BS) && (((gt s1_ t_1).LIC == (gt s2_ t_1).LIC) && (((gt s1_ t_1).AVMA == (gt s2_ t_1).AVMA) && (((gt s1_ t_1).BUSY == (gt s2_ t_1).BUSY) && (((gt s1_ t_1).Mine == (gt s2_ t_1).Mine) && true)))))))))) = true then
        some (.ret false)
      else
        slices_Equal_sl_api_Rec_api_Rec_l0 s1_ s2_ k (IntKind.wrap .i64 (t_1 + 1))
      else none
      else none
    else
      some (.go ())
def slices_Equal_sl_api_Rec_api_Rec (s1_ : (List api_Rec)) (s2_ : (List api_Rec)) : Option (Bool) :=
  if ((ln s1_) != (ln s2_)) = true then
    some false
  else
    (slices_Equal_sl_api_Rec_api_Rec_l0 s1_ s2_ BIG (0)).bind fun o => match o with
      | .ret r => some r
      | .go _ =>
        some true
def spinetlaw50_WaveDraws_l4 (l_ : (List api_Rec)) (k_2 : Int) : Nat → ByteArray → Int → Option (ByteArray × Int × Int × Bool)
  | 0, _, _ => none
  | k + 1, s_10, i_10 =>
    if (decide (i_10 < (ln l_))) = true then
      if 0 ≤ (i_10 : Int) ∧ i_10 < ln l_ then
      (spinetlaw50_on (gt l_ i_10) k_2).bind fun r_14 =>
      if r_14 = true then
        if ((s_10.size + (⟨#[35]⟩ : ByteArray).size : Nat) : Int) ≤ 9223372036854775807 then
        spinetlaw50_WaveDraws_l4 l_ k_2 k (s_10 ++ (⟨#[35]⟩ : ByteArray)) (IntKind.wrap .i64 (i_10 + 1))
        else none
      else
        if ((s_10.size + (⟨#[95]⟩ : ByteArray).size : Nat) : Int) ≤ 9223372036854775807 then
        spinetlaw50_WaveDraws_l4 l_ k_2 k (s_10 ++ (⟨#[95]⟩ : ByteArray)) (IntKind.wrap .i64 (i_10 + 1))
        else none
      else none
    else
      some (s_10, i_10, i_10, (decide (i_10 < (ln l_))))
def spinetlaw50_WaveDraws_l3 (l_ : (List api_Rec)) : Nat → ByteArray → Int → Option (Out (Bool) ByteArray)
  | 0, _, _ => none
  | k + 1, text_2, k_2 =>
    if (decide (k_2 < 7)) = true then
      (spinetlaw50_WaveDraws_l4 l_ k_2 BIG (⟨#[]⟩ : ByteArray) (0)).bind fun (s_11, i_11, t_6, t_7) =>
      (wave_Line k_2 l_).bind fun r_15 =>
      if (!(r_15.toList == s_11.toList)) = true then
        some (.ret false)
      else
        if 0 ≤ (k_2 : Int) ∧ k_2 < (7 : Int) then
        if (((gt [(⟨#[82, 69, 65, 68, 32]⟩ : ByteArray), (⟨#[66, 65, 32, 32, 32]⟩ : ByteArray), (⟨#[66, 83, 32, 32, 32]⟩ : ByteArray), (⟨#[76, 73, 67, 32, 32]⟩ : ByteArray), (⟨#[65, 86, 77, 65, 32]⟩ : ByteArray), (⟨#[66, 85, 83, 89, 32]⟩ : ByteArray), (⟨#[77, 73, 78, 69, 32]⟩ : ByteArray)] k_2).size + s_11.size : Nat) : Int) ≤ 9223372036854775807 then
        if ((((gt [(⟨#[82, 69, 65, 68, 32]⟩ : ByteArray), (⟨#[66, 65, 32, 32, 32]⟩ : ByteArray), (⟨#[66, 83, 32, 32, 32]⟩ : ByteArray), (⟨#[76, 73, 67, 32, 32]⟩ : ByteArray), (⟨#[65, 86, 77, 65, 32]⟩ : ByteArray), (⟨#[66, 85, 83, 89, 32]⟩ : ByteArray), (⟨#[77, 73, 78, 69, 32]⟩ : ByteArray)] k_2) ++ s_11).size + (⟨#[10]⟩ : ByteArray).size : Nat) : Int) ≤ 9223372036854775807 then
        if ((text_2.size + (((gt [(⟨#[82, 69, 65, 68, 32]⟩ : ByteArray), (⟨#[66, 65, 32, 32, 32]⟩ : ByteArray), (⟨#[66, 83, 32, 32, 32]⟩ : ByteArray), (⟨#[76, 73, 67, 32, 32]⟩ : ByteArray), (⟨#[65, 86, 77, 65, 32]⟩ : ByteArray), (⟨#[66, 85, 83, 89, 32]⟩ : ByteArray), (⟨#[77, 73, 78, 69, 32]⟩ : ByteArray)] k_2) ++ s_11) ++ (⟨#[10]⟩ : ByteArray)).size : Nat) : Int) ≤ 9223372036854775807 then
        spinetlaw50_WaveDraws_l3 l_ k (text_2 ++ (((gt [(⟨#[82, 69, 65, 68, 32]⟩ : ByteArray), (⟨#[66, 65, 32, 32, 32]⟩ : ByteArray), (⟨#[66, 83, 32, 32, 32]⟩ : ByteArray), (⟨#[76, 73, 67, 32, 32]⟩ : ByteArray), (⟨#[65, 86, 77, 65, 32]⟩ : ByteArray), (⟨#[66, 85, 83, 89, 32]⟩ : ByteArray), (⟨#[77, 73, 78, 69, 32]⟩ : ByteArray)] k_2) ++ s_11) ++ (⟨#[10]⟩ : ByteArray))) (IntKind.wrap .i64 (k_2 + 1))
        else none
        else none
        else none
        else none
    else
      some (.go text_2)
def spinetlaw50_WaveDraws_l5 (l_ : (List api_Rec)) (line_ : Int) : Nat → (List api_Rec) → Int → Int → Int → Option ((List api_Rec) × Int × Int)
  | 0, _, _, _, _ => none
  | k + 1, l_2, rises_1, high_1, i_13 =>
    if (decide (i_13 < (ln l_))) = true then
      if 0 ≤ (i_13 : Int) ∧ i_13 < ln l_ then
      if (l_2.length + [(api_Rec.mk (0) (0) ((gt l_ i_13).Read) ((gt l_ i_13).BA) ((gt l_ i_13).BS) ((gt l_ i_13).LIC) ((gt l_ i_13).AVMA) ((gt l_ i_13).BUSY) ((gt l_ i_13).Mine))].length) * 10 ≤ 140737488355328 then
      if 0 ≤ (i_13 : Int) ∧ i_13 < ln l_ then
      (spinetlaw50_on (gt l_ i_13) line_).bind fun r_20 =>
      if r_20 = true then
        if (!(i_13 == 0)) = true → 0 ≤ ((IntKind.wrap .i64 (i_13 - 1)) : Int) ∧ (IntKind.wrap .i64 (i_13 - 1)) < ln l_ then
        ((if (!(i_13 == 0)) = true then spinetlaw50_on (gt l_ (IntKind.wrap .i64 (i_13 - 1))) line_ else some default)).bind fun r_21 =>
        if ((i_13 == 0) || (!r_21)) = true then
          spinetlaw50_WaveDraws_l5 l_ line_ k (l_2 ++ [(api_Rec.mk (0) (0) ((gt l_ i_13).Read) ((gt l_ i_13).BA) ((gt l_ i_13).BS) ((gt l_ i_13).LIC) ((gt l_ i_13).AVMA) ((gt l_ i_13).BUSY) ((gt l_ i_13).Mine))]) (IntKind.wrap .i64 (rises_1 + 1)) (IntKind.wrap .i64 (high_1 + 1)) (IntKind.wrap .i64 (i_13 + 1))
        else
          spinetlaw50_WaveDraws_l5 l_ line_ k (l_2 ++ [(api_Rec.mk (0) (0) ((gt l_ i_13).Read) ((gt l_ i_13).BA) ((gt l_ i_13).BS) ((gt l_ i_13).LIC) ((gt l_ i_13).AVMA) ((gt l_ i_13).BUSY) ((gt l_ i_13).Mine))]) rises_1 (IntKind.wrap .i64 (high_1 + 1)) (IntKind.wrap .i64 (i_13 + 1))
        else none
      else
        spinetlaw50_WaveDraws_l5 l_ line_ k (l_2 ++ [(api_Rec.mk (0) (0) ((gt l_ i_13).Read) ((gt l_ i_13).BA) ((gt l_ i_13).BS) ((gt l_ i_13).LIC) ((gt l_ i_13).AVMA) ((gt l_ i_13).BUSY) ((gt l_ i_13).Mine))]) rises_1 high_1 (IntKind.wrap .i64 (i_13 + 1))
      else none
      else none
      else none
    else
      some (l_2, rises_1, high_1)
def spinetlaw50_WaveDraws (l_ : (List api_Rec)) (line_ : Int) : Option (Bool) :=
  if (decide (200 < (ln l_))) = true then
    some true
  else
    (spinetlaw50_WaveDraws_l3 l_ BIG (⟨#[]⟩ : ByteArray) (0)).bind fun o => match o with
      | .ret r => some r
      | .go text_3 =>
        (spinetlaw50_WaveDraws_l5 l_ line_ BIG ([] : List api_Rec) (0) (0) (0)).bind fun (l_3, rises_2, high_2) =>
        ((if ((decide (line_ < 0)) || (decide (6 < line_))) = true then wave_Line line_ l_ else some default)).bind fun r_22 =>
        if (((decide (line_ < 0)) || (decide (6 < line_))) && (!(r_22.toList == (⟨#[]⟩ : ByteArray).toList))) = true then
          some false
        else
          (wave_Read text_3).bind fun r_23 =>
          (wave_Text l_).bind fun r_24 =>
          ((if (r_24.toList == text_3.toList) = true then wave_Rises line_ l_ else some default)).bind fun r_25 =>
          ((if ((r_24.toList == text_3.toList) && (r_25 == rises_2)) = true then wave_High line_ l_ else some default)).bind fun r_26 =>
          ((if (((r_24.toList == text_3.toList) && (r_25 == rises_2)) && (r_26 == high_2)) = true then slices_Equal_sl_api_Rec_api_Rec r_23.1 l_3 else some default)).bind fun r_27 =>
          ((if (((((r_24.toList == text_3.toList) && (r_25 == rises_2)) && (r_26 == high_2)) && r_27) && (r_23.2 == 0)) = true then spinetlaw50_alive else some default)).bind fun r_28 =>
          some ((((((r_24.toList == text_3.toList) && (r_25 == rises_2)) && (r_26 == high_2)) && r_27) && (r_23.2 == 0)) && r_28)
end Go.Proofs.YtnilppmpfklpbaaDoorK
