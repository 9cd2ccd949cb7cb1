/- The functions, over typed data. Printed by a program of this work. -/
import Derived.Test.YthooddibdmigmaaDoorRj
namespace Go.Proofs.YthooddibdmigmaaDoorK
set_option linter.unusedVariables false
set_option linter.unusedSimpArgs false
set_option maxHeartbeats 4000000
open Go.RowKit
attribute [local irreducible] dwv mops lops lqops lwops kont iter run runK rk okK ex E1 vals val chain chB sel resF
def sl_u8 (x : (List Int)) : List V := [.sl false x.length (cat (nI .u8) x)]
instance : Cells sl_u8 1 := ⟨fun _ => rfl, fun _ => by simp [sl_u8, statics, V.static, cat_stat], fun _ => rfl⟩
structure lexer_Line where
  Label : ByteArray
  Op : ByteArray
  Arg : ByteArray
instance : Inhabited lexer_Line := ⟨⟨⟨#[]⟩, ⟨#[]⟩, ⟨#[]⟩⟩⟩
def lexer_Line.v (x : lexer_Line) : List V := [.s (.string x.Label), .s (.string x.Op), .s (.string x.Arg)]
instance : Cells lexer_Line.v 3 := ⟨fun _ => rfl, fun _ => rfl, fun _ => rfl⟩
def sl_str (x : (List ByteArray)) : List V := [.sl false x.length (cat nS x)]
instance : Cells sl_str 1 := ⟨fun _ => rfl, fun _ => by simp [sl_str, statics, V.static, cat_stat], fun _ => rfl⟩
def sl_lexer_Line (x : (List lexer_Line)) : List V := [.sl false x.length (cat lexer_Line.v x)]
instance : Cells sl_lexer_Line 1 := ⟨fun _ => rfl, fun _ => by simp [sl_lexer_Line, statics, V.static, cat_stat], fun _ => rfl⟩
structure spinetref43_Line where
  Label : ByteArray
  Op : ByteArray
  Arg : ByteArray
instance : Inhabited spinetref43_Line := ⟨⟨⟨#[]⟩, ⟨#[]⟩, ⟨#[]⟩⟩⟩
def spinetref43_Line.v (x : spinetref43_Line) : List V := [.s (.string x.Label), .s (.string x.Op), .s (.string x.Arg)]
instance : Cells spinetref43_Line.v 3 := ⟨fun _ => rfl, fun _ => rfl, fun _ => rfl⟩
def internal_stringslite_Cut (s_ : ByteArray) (sep_ : ByteArray) : Option (ByteArray × ByteArray × Bool) :=
  (internal_stringslite_Index s_ sep_).bind fun r_ =>
  if (decide (0 ≤ r_)) = true then
    if 0 ≤ (r_ : Int) ∧ r_ ≤ (sln s_) then
    if 0 ≤ ((IntKind.wrap .i64 (r_ + (sln sep_))) : Int) ∧ (IntKind.wrap .i64 (r_ + (sln sep_))) ≤ (sln s_) then
    some ((s_.extract 0 (r_ : Int).toNat), (s_.extract ((IntKind.wrap .i64 (r_ + (sln sep_))) : Int).toNat s_.size), true)
    else none
    else none
  else
    some (s_, (⟨#[]⟩ : ByteArray), false)
def strings_Cut (s_ : ByteArray) (sep_ : ByteArray) : Option (ByteArray × ByteArray × Bool) :=
  (internal_stringslite_Cut s_ sep_).bind fun r_ =>
  some (r_.1, r_.2.1, r_.2.2)
def lexer_blank (c_ : Int) : Option (Bool) :=
  some ((c_ == 32) || (c_ == 9))
def lexer_word_l0 (s_ : ByteArray) : Nat → Int → Option (Out (ByteArray × ByteArray) (Unit))
  | 0, _ => none
  | k + 1, t_1 =>
    if (decide (t_1 < (sln s_))) = true then
      if 0 ≤ (t_1 : Int) ∧ t_1 < sln s_ then
      (lexer_blank (bt s_ t_1)).bind fun r_2 =>
      if r_2 = true then
        if 0 ≤ (t_1 : Int) ∧ t_1 ≤ (sln s_) then
        if 0 ≤ (t_1 : Int) ∧ t_1 ≤ (sln s_) then
        some (.ret ((s_.extract 0 (t_1 : Int).toNat), (s_.extract (t_1 : Int).toNat s_.size)))
        else none
        else none
      else
        lexer_word_l0 s_ k (IntKind.wrap .i64 (t_1 + 1))
      else none
    else
      some (.go ())
def lexer_word (s_ : ByteArray) : Option (ByteArray × ByteArray) :=
  (lexer_word_l0 s_ BIG (0)).bind fun o => match o with
    | .ret r => some r
    | .go _ =>
      some (s_, (⟨#[]⟩ : ByteArray))
def lexer_label (s_ : ByteArray) : Option (ByteArray × ByteArray) :=
  (lexer_word s_).bind fun r_ =>
  (strings_Cut r_.1 (⟨#[58]⟩ : ByteArray)).bind fun r_1 =>
  if r_1.2.2 = true then
    if ((r_1.2.1.size + r_.2.size : Nat) : Int) ≤ 9223372036854775807 then
    some (r_1.1, (r_1.2.1 ++ r_.2))
    else none
  else
    some (r_.1, r_.2)
def symbols_Right_l0 (s_ : ByteArray) : Nat → Int → Option (Out (Bool) (Unit))
  | 0, _ => none
  | k + 1, t_1 =>
    if (decide (t_1 < (sln s_))) = true then
      if 0 ≤ (t_1 : Int) ∧ t_1 < sln s_ then
      if ((!(((((decide (65 ≤ (bt s_ t_1))) && (decide ((bt s_ t_1) ≤ 90))) || ((decide (97 ≤ (bt s_ t_1))) && (decide ((bt s_ t_1) ≤ 122)))) || ((bt s_ t_1) == 95)) || ((bt s_ t_1) == 46))) && (((t_1 == 0) || (decide ((bt s_ t_1) < 48))) || (decide (57 < (bt s_ t_1))))) = true then
        some (.ret false)
      else
        symbols_Right_l0 s_ k (IntKind.wrap .i64 (t_1 + 1))
      else none
    else
      some (.go ())
def symbols_Right (s_ : ByteArray) : Option (Bool) :=
  (symbols_Right_l0 s_ BIG (0)).bind fun o => match o with
    | .ret r => some r
    | .go _ =>
      some ((decide (1 ≤ (sln s_))) && (decide ((sln s_) ≤ 16)))
def lexer_skip_l0 : Nat → ByteArray → Option ByteArray
  | 0, _ => none
  | k + 1, t_1 =>
    if (!(t_1.toList == (⟨#[]⟩ : ByteArray).toList)) = true → 0 ≤ (0 : Int) ∧ 0 < sln t_1 then
    ((if (!(t_1.toList == (⟨#[]⟩ : ByteArray).toList)) = true then lexer_blank (bt t_1 (0)) else some default)).bind fun r_2 =>
    if ((!(t_1.toList == (⟨#[]⟩ : ByteArray).toList)) && r_2) = true then
      if 0 ≤ (1 : Int) ∧ 1 ≤ (sln t_1) then
      lexer_skip_l0 k (t_1.extract (1 : Int).toNat t_1.size)
      else none
    else
      some t_1
    else none
def lexer_skip (s_ : ByteArray) : Option (ByteArray) :=
  (lexer_skip_l0 BIG s_).bind fun t_2 =>
  some t_2
def lexer_capital_l0 (s_ : ByteArray) : Nat → (List Int) → Int → Option (List Int)
  | 0, _, _ => none
  | k + 1, l_1, t_1 =>
    if (decide (t_1 < (ln (sbl s_)))) = true then
      if 0 ≤ (t_1 : Int) ∧ t_1 < ln l_1 then
      if ((decide (97 ≤ (gt l_1 t_1))) && (decide ((gt l_1 t_1) ≤ 122))) = true then
        if 0 ≤ (t_1 : Int) ∧ t_1 < ln l_1 then
        lexer_capital_l0 s_ k (st l_1 t_1 (IntKind.wrap .u8 ((IntKind.wrap .u8 ((gt l_1 t_1) - 97)) + 65))) (IntKind.wrap .i64 (t_1 + 1))
        else none
      else
        lexer_capital_l0 s_ k l_1 (IntKind.wrap .i64 (t_1 + 1))
      else none
    else
      some l_1
def lexer_capital (s_ : ByteArray) : Option (ByteArray) :=
  if s_.size ≤ 140737488355328 then
  (lexer_capital_l0 s_ BIG (sbl s_) (0)).bind fun l_2 =>
  some (bs l_2)
  else none
def lexer_tight_l0 (s_ : ByteArray) : Nat → (List Int) → Int → Option (List Int)
  | 0, _, _ => none
  | k + 1, l_1, t_1 =>
    if (decide (t_1 < (sln s_))) = true then
      if 0 ≤ (t_1 : Int) ∧ t_1 < sln s_ then
      (lexer_blank (bt s_ t_1)).bind fun r_2 =>
      if (!r_2) = true then
        if 0 ≤ (t_1 : Int) ∧ t_1 < sln s_ then
        if (l_1.length + [(bt s_ t_1)].length) * 1 ≤ 140737488355328 then
        lexer_tight_l0 s_ k (l_1 ++ [(bt s_ t_1)]) (IntKind.wrap .i64 (t_1 + 1))
        else none
        else none
      else
        lexer_tight_l0 s_ k l_1 (IntKind.wrap .i64 (t_1 + 1))
      else none
    else
      some l_1
def lexer_tight (s_ : ByteArray) : Option (ByteArray) :=
  (lexer_tight_l0 s_ BIG ([] : List Int) (0)).bind fun l_2 =>
  if bytesB l_2 = true then
  some (bs l_2)
  else none
def lexer_Cut_j0 (m_ : ByteArray) (t_ : ByteArray) : Option (lexer_Line × Int) :=
  (lexer_skip t_).bind fun r_4 =>
  (lexer_word r_4).bind fun r_5 =>
  (lexer_capital r_5.1).bind fun r_6 =>
  (lexer_tight r_5.2).bind fun r_7 =>
  some ((lexer_Line.mk m_ r_6 r_7), 0)
def lexer_Cut (s_ : ByteArray) : Option (lexer_Line × Int) :=
  (strings_Cut s_ (⟨#[59]⟩ : ByteArray)).bind fun r_ =>
  if (!(r_.1.toList == (⟨#[]⟩ : ByteArray).toList)) = true → 0 ≤ (0 : Int) ∧ 0 < sln r_.1 then
  ((if (!(r_.1.toList == (⟨#[]⟩ : ByteArray).toList)) = true then lexer_blank (bt r_.1 (0)) else some default)).bind fun r_1 =>
  if ((!(r_.1.toList == (⟨#[]⟩ : ByteArray).toList)) && (!r_1)) = true then
    (lexer_label r_.1).bind fun r_2 =>
    (symbols_Right r_2.1).bind fun r_3 =>
    if (!r_3) = true then
      some ((lexer_Line.mk (⟨#[]⟩ : ByteArray) (⟨#[]⟩ : ByteArray) (⟨#[]⟩ : ByteArray)), 40)
    else
      lexer_Cut_j0 r_2.1 r_2.2
  else
    lexer_Cut_j0 (⟨#[]⟩ : ByteArray) r_.1
  else none
def unicode_utf8_DecodeRuneInString (s_ : ByteArray) : Option (Int × Int) :=
  if (!(s_.toList == (⟨#[]⟩ : ByteArray).toList)) = true → 0 ≤ (0 : Int) ∧ 0 < sln s_ then
  if ((!(s_.toList == (⟨#[]⟩ : ByteArray).toList)) && (decide ((bt s_ (0)) < 128))) = true then
    if 0 ≤ (0 : Int) ∧ 0 < sln s_ then
    some ((IntKind.wrap .i32 (bt s_ (0))), 1)
    else none
  else
    none
  else none
def strings_Index (s_ : ByteArray) (substr_ : ByteArray) : Option (Int) :=
  (internal_stringslite_Index s_ substr_).bind fun r_ =>
  some r_
def strings_genSplit_l0 (s_ : ByteArray) (sep_ : ByteArray) (sepSave_ : Int) (t_ : Int) : Nat → (List ByteArray) → ByteArray → Int → Option ((List ByteArray) × ByteArray × Int)
  | 0, _, _, _ => none
  | k + 1, l_1, t_2, i_1 =>
    if (decide (i_1 < (IntKind.wrap .i64 ((if (IntKind.wrap .i64 ((sln s_) + 1)) < t_ then (IntKind.wrap .i64 ((sln s_) + 1)) else t_) - 1)))) = true then
      (strings_Index t_2 sep_).bind fun r_3 =>
      if (decide (r_3 < 0)) = true then
        some (l_1, t_2, i_1)
      else
        if 0 ≤ ((IntKind.wrap .i64 (r_3 + sepSave_)) : Int) ∧ (IntKind.wrap .i64 (r_3 + sepSave_)) ≤ (sln t_2) then
        if 0 ≤ (i_1 : Int) ∧ i_1 < ln l_1 then
        if 0 ≤ ((IntKind.wrap .i64 (r_3 + (sln sep_))) : Int) ∧ (IntKind.wrap .i64 (r_3 + (sln sep_))) ≤ (sln t_2) then
        strings_genSplit_l0 s_ sep_ sepSave_ t_ k (st l_1 i_1 (t_2.extract 0 ((IntKind.wrap .i64 (r_3 + sepSave_)) : Int).toNat)) (t_2.extract ((IntKind.wrap .i64 (r_3 + (sln sep_))) : Int).toNat t_2.size) (IntKind.wrap .i64 (i_1 + 1))
        else none
        else none
        else none
    else
      some (l_1, t_2, i_1)
def strings_genSplit_j0 (s_ : ByteArray) (sep_ : ByteArray) (sepSave_ : Int) (t_ : Int) : Option ((List ByteArray)) :=
  if 0 ≤ ((if (IntKind.wrap .i64 ((sln s_) + 1)) < t_ then (IntKind.wrap .i64 ((sln s_) + 1)) else t_) : Int) ∧ ((if (IntKind.wrap .i64 ((sln s_) + 1)) < t_ then (IntKind.wrap .i64 ((sln s_) + 1)) else t_) : Int) ≤ (if (IntKind.wrap .i64 ((sln s_) + 1)) < t_ then (IntKind.wrap .i64 ((sln s_) + 1)) else t_) ∧ ((if (IntKind.wrap .i64 ((sln s_) + 1)) < t_ then (IntKind.wrap .i64 ((sln s_) + 1)) else t_) : Int) * 16 ≤ 281474976710656 ∧ ((if (IntKind.wrap .i64 ((sln s_) + 1)) < t_ then (IntKind.wrap .i64 ((sln s_) + 1)) else t_) : Int) ≤ 281474976710656 then
  (strings_genSplit_l0 s_ sep_ sepSave_ t_ BIG (rp (if (IntKind.wrap .i64 ((sln s_) + 1)) < t_ then (IntKind.wrap .i64 ((sln s_) + 1)) else t_) ((⟨#[]⟩ : ByteArray) : ByteArray)) s_ (0)).bind fun (l_2, t_3, i_2) =>
  if 0 ≤ (i_2 : Int) ∧ i_2 < ln l_2 then
  if 0 ≤ ((IntKind.wrap .i64 (i_2 + 1)) : Int) ∧ (IntKind.wrap .i64 (i_2 + 1)) ≤ (ln (st l_2 i_2 t_3)) then
  some (((st l_2 i_2 t_3).drop 0).take (((IntKind.wrap .i64 (i_2 + 1)) : Int).toNat - 0))
  else none
  else none
  else none
def strings_genSplit (s_ : ByteArray) (sep_ : ByteArray) (sepSave_ : Int) (n_ : Int) : Option ((List ByteArray)) :=
  if (n_ == 0) = true then
    some ([] : List ByteArray)
  else
    if (sep_.toList == (⟨#[]⟩ : ByteArray).toList) = true then
      none
    else
      if (decide (n_ < 0)) = true then
        (strings_Count s_ sep_).bind fun r_ =>
        strings_genSplit_j0 s_ sep_ sepSave_ (IntKind.wrap .i64 (r_ + 1))
      else
        strings_genSplit_j0 s_ sep_ sepSave_ n_
def strings_Split (s_ : ByteArray) (sep_ : ByteArray) : Option ((List ByteArray)) :=
  (strings_genSplit s_ sep_ (0) (-1)).bind fun r_ =>
  some r_
def lexer_All_l0 (r_ : ((List ByteArray))) : Nat → (List lexer_Line) → Int → Option (Out ((List lexer_Line) × Int × Int) (List lexer_Line))
  | 0, _, _ => none
  | k + 1, l_1, t_1 =>
    if (decide (t_1 < (ln r_))) = true then
      if 0 ≤ (t_1 : Int) ∧ t_1 < ln r_ then
      (lexer_Cut (gt r_ t_1)).bind fun r_3 =>
      if (r_3.2 != 0) = true then
        some (.ret (([] : List lexer_Line), (IntKind.wrap .i64 (t_1 + 1)), r_3.2))
      else
        if (l_1.length + [r_3.1].length) * 48 ≤ 140737488355328 then
        lexer_All_l0 r_ k (l_1 ++ [r_3.1]) (IntKind.wrap .i64 (t_1 + 1))
        else none
      else none
    else
      some (.go l_1)
def lexer_All (s_ : ByteArray) : Option ((List lexer_Line) × Int × Int) :=
  (strings_Split s_ (⟨#[10]⟩ : ByteArray)).bind fun r_ =>
  (lexer_All_l0 r_ BIG ([] : List lexer_Line) (0)).bind fun o => match o with
    | .ret r => some r
    | .go l_2 =>
      some (l_2, 0, 0)
def spinetref43_Lines_l0 (s_ : ByteArray) : Nat → (List ByteArray) → Int → Option (List ByteArray)
  | 0, _, _ => none
  | k + 1, l_1, i_1 =>
    if (decide (i_1 < (sln s_))) = true then
      if 0 ≤ (i_1 : Int) ∧ i_1 < sln s_ then
      if ((bt s_ i_1) == 10) = true then
        if (l_1.length + [(⟨#[]⟩ : ByteArray)].length) * 16 ≤ 140737488355328 then
        spinetref43_Lines_l0 s_ k (l_1 ++ [(⟨#[]⟩ : ByteArray)]) (IntKind.wrap .i64 (i_1 + 1))
        else none
      else
        if 0 ≤ ((IntKind.wrap .i64 ((ln l_1) - 1)) : Int) ∧ (IntKind.wrap .i64 ((ln l_1) - 1)) < ln l_1 then
        if 0 ≤ (i_1 : Int) ∧ i_1 ≤ ((IntKind.wrap .i64 (i_1 + 1)) : Int) ∧ (IntKind.wrap .i64 (i_1 + 1)) ≤ (sln s_) then
        if (((gt l_1 (IntKind.wrap .i64 ((ln l_1) - 1))).size + (s_.extract (i_1 : Int).toNat ((IntKind.wrap .i64 (i_1 + 1)) : Int).toNat).size : Nat) : Int) ≤ 9223372036854775807 then
        if 0 ≤ ((IntKind.wrap .i64 ((ln l_1) - 1)) : Int) ∧ (IntKind.wrap .i64 ((ln l_1) - 1)) < ln l_1 then
        spinetref43_Lines_l0 s_ k (st l_1 (IntKind.wrap .i64 ((ln l_1) - 1)) ((gt l_1 (IntKind.wrap .i64 ((ln l_1) - 1))) ++ (s_.extract (i_1 : Int).toNat ((IntKind.wrap .i64 (i_1 + 1)) : Int).toNat))) (IntKind.wrap .i64 (i_1 + 1))
        else none
        else none
        else none
        else none
      else none
    else
      some l_1
def spinetref43_Lines (s_ : ByteArray) : Option ((List ByteArray)) :=
  (spinetref43_Lines_l0 s_ BIG [(⟨#[]⟩ : ByteArray)] (0)).bind fun l_2 =>
  some l_2
def spinetref43_blank (c_ : Int) : Option (Bool) :=
  some ((c_ == 32) || (c_ == 9))
def spinetref41_Letter (c_ : Int) : Option (Bool) :=
  some (((((decide (65 ≤ c_)) && (decide (c_ ≤ 90))) || ((decide (97 ≤ c_)) && (decide (c_ ≤ 122)))) || (c_ == 46)) || (c_ == 95))
def spinetref41_Right_l0 (s_ : ByteArray) : Nat → Int → Option (Out (Bool) (Unit))
  | 0, _ => none
  | k + 1, i_1 =>
    if (decide (i_1 < (sln s_))) = true then
      if 0 ≤ (i_1 : Int) ∧ i_1 < sln s_ then
      (spinetref41_Letter (bt s_ i_1)).bind fun r_3 =>
      if (!r_3) = true → 0 ≤ (i_1 : Int) ∧ i_1 < sln s_ then
      if ((!(decide ((bt s_ i_1) < 48))) && (!r_3)) = true → 0 ≤ (i_1 : Int) ∧ i_1 < sln s_ then
      if ((!r_3) && ((decide ((bt s_ i_1) < 48)) || (decide (57 < (bt s_ i_1))))) = true then
        some (.ret false)
      else
        spinetref41_Right_l0 s_ k (IntKind.wrap .i64 (i_1 + 1))
      else none
      else none
      else none
    else
      some (.go ())
def spinetref41_Right (s_ : ByteArray) : Option (Bool) :=
  if (!((decide ((sln s_) < 1)) || (decide (16 < (sln s_))))) = true → 0 ≤ (0 : Int) ∧ 0 < sln s_ then
  ((if (!((decide ((sln s_) < 1)) || (decide (16 < (sln s_))))) = true then spinetref41_Letter (bt s_ (0)) else some default)).bind fun r_ =>
  if (((decide ((sln s_) < 1)) || (decide (16 < (sln s_)))) || (!r_)) = true then
    some false
  else
    (spinetref41_Right_l0 s_ BIG (1)).bind fun o => match o with
      | .ret r => some r
      | .go _ =>
        some true
  else none
def spinetref43_Cut_l0 (s_ : ByteArray) : Nat → Int → Option Int
  | 0, _ => none
  | k + 1, n_1 =>
    if (decide (n_1 < (sln s_))) = true → 0 ≤ (n_1 : Int) ∧ n_1 < sln s_ then
    if ((decide (n_1 < (sln s_))) && ((bt s_ n_1) != 59)) = true then
      spinetref43_Cut_l0 s_ k (IntKind.wrap .i64 (n_1 + 1))
    else
      some n_1
    else none
def spinetref43_Cut_l1 (s_ : ByteArray) (n_2 : Int) : Nat → Int → Option Int
  | 0, _ => none
  | k + 1, i_1 =>
    if (decide (i_1 < (sln (s_.extract 0 (n_2 : Int).toNat)))) = true → 0 ≤ (i_1 : Int) ∧ i_1 < sln (s_.extract 0 (n_2 : Int).toNat) then
    ((if (decide (i_1 < (sln (s_.extract 0 (n_2 : Int).toNat)))) = true then spinetref43_blank (bt (s_.extract 0 (n_2 : Int).toNat) i_1) else some default)).bind fun r_3 =>
    if ((decide (i_1 < (sln (s_.extract 0 (n_2 : Int).toNat)))) && (!r_3)) = true → 0 ≤ (i_1 : Int) ∧ i_1 < sln (s_.extract 0 (n_2 : Int).toNat) then
    if (((decide (i_1 < (sln (s_.extract 0 (n_2 : Int).toNat)))) && (!r_3)) && ((bt (s_.extract 0 (n_2 : Int).toNat) i_1) != 58)) = true then
      spinetref43_Cut_l1 s_ n_2 k (IntKind.wrap .i64 (i_1 + 1))
    else
      some i_1
    else none
    else none
def spinetref43_Cut_l2 (s_ : ByteArray) (n_2 : Int) : Nat → Int → Option Int
  | 0, _ => none
  | k + 1, i_5 =>
    if (decide (i_5 < (sln (s_.extract 0 (n_2 : Int).toNat)))) = true → 0 ≤ (i_5 : Int) ∧ i_5 < sln (s_.extract 0 (n_2 : Int).toNat) then
    ((if (decide (i_5 < (sln (s_.extract 0 (n_2 : Int).toNat)))) = true then spinetref43_blank (bt (s_.extract 0 (n_2 : Int).toNat) i_5) else some default)).bind fun r_7 =>
    if ((decide (i_5 < (sln (s_.extract 0 (n_2 : Int).toNat)))) && r_7) = true then
      spinetref43_Cut_l2 s_ n_2 k (IntKind.wrap .i64 (i_5 + 1))
    else
      some i_5
    else none
def spinetref43_Cut_j0 (rec : ByteArray → Int → Option (ByteArray × Int)) (m_2 : ByteArray) (i_8 : Int) (c_2 : Int) : Option (ByteArray × Int) :=
  if ((m_2.size + (bs [c_2]).size : Nat) : Int) ≤ 9223372036854775807 then
  rec (m_2 ++ (bs [c_2])) (IntKind.wrap .i64 (i_8 + 1))
  else none
def spinetref43_Cut_l3 (s_ : ByteArray) (n_2 : Int) : Nat → ByteArray → Int → Option (ByteArray × Int)
  | 0, _, _ => none
  | k + 1, m_2, i_8 =>
    if (decide (i_8 < (sln (s_.extract 0 (n_2 : Int).toNat)))) = true → 0 ≤ (i_8 : Int) ∧ i_8 < sln (s_.extract 0 (n_2 : Int).toNat) then
    ((if (decide (i_8 < (sln (s_.extract 0 (n_2 : Int).toNat)))) = true then spinetref43_blank (bt (s_.extract 0 (n_2 : Int).toNat) i_8) else some default)).bind fun r_10 =>
    if ((decide (i_8 < (sln (s_.extract 0 (n_2 : Int).toNat)))) && (!r_10)) = true then
      if 0 ≤ (i_8 : Int) ∧ i_8 < sln (s_.extract 0 (n_2 : Int).toNat) then
      if ((decide (97 ≤ (bt (s_.extract 0 (n_2 : Int).toNat) i_8))) && (decide ((bt (s_.extract 0 (n_2 : Int).toNat) i_8) ≤ 122))) = true then
        spinetref43_Cut_j0 (spinetref43_Cut_l3 s_ n_2 k) m_2 i_8 (IntKind.wrap .u8 ((bt (s_.extract 0 (n_2 : Int).toNat) i_8) - 32))
      else
        spinetref43_Cut_j0 (spinetref43_Cut_l3 s_ n_2 k) m_2 i_8 (bt (s_.extract 0 (n_2 : Int).toNat) i_8)
      else none
    else
      some (m_2, i_8)
    else none
def spinetref43_Cut_l4 (s_ : ByteArray) (n_2 : Int) : Nat → ByteArray → Int → Option ByteArray
  | 0, _, _ => none
  | k + 1, m_5, i_11 =>
    if (decide (i_11 < (sln (s_.extract 0 (n_2 : Int).toNat)))) = true then
      if 0 ≤ (i_11 : Int) ∧ i_11 < sln (s_.extract 0 (n_2 : Int).toNat) then
      (spinetref43_blank (bt (s_.extract 0 (n_2 : Int).toNat) i_11)).bind fun r_13 =>
      if (!r_13) = true then
        if 0 ≤ (i_11 : Int) ∧ i_11 ≤ ((IntKind.wrap .i64 (i_11 + 1)) : Int) ∧ (IntKind.wrap .i64 (i_11 + 1)) ≤ (sln (s_.extract 0 (n_2 : Int).toNat)) then
        if ((m_5.size + ((s_.extract 0 (n_2 : Int).toNat).extract (i_11 : Int).toNat ((IntKind.wrap .i64 (i_11 + 1)) : Int).toNat).size : Nat) : Int) ≤ 9223372036854775807 then
        spinetref43_Cut_l4 s_ n_2 k (m_5 ++ ((s_.extract 0 (n_2 : Int).toNat).extract (i_11 : Int).toNat ((IntKind.wrap .i64 (i_11 + 1)) : Int).toNat)) (IntKind.wrap .i64 (i_11 + 1))
        else none
        else none
      else
        spinetref43_Cut_l4 s_ n_2 k m_5 (IntKind.wrap .i64 (i_11 + 1))
      else none
    else
      some m_5
def spinetref43_Cut_j1 (s_ : ByteArray) (n_2 : Int) (m_ : ByteArray) (i_3 : Int) : Option (spinetref43_Line × Bool) :=
  (spinetref43_Cut_l2 s_ n_2 BIG i_3).bind fun i_6 =>
  (spinetref43_Cut_l3 s_ n_2 BIG (⟨#[]⟩ : ByteArray) i_6).bind fun (m_3, i_9) =>
  (spinetref43_Cut_l4 s_ n_2 BIG (⟨#[]⟩ : ByteArray) i_9).bind fun m_6 =>
  some ((spinetref43_Line.mk m_ m_3 m_6), true)
def spinetref43_Cut (s_ : ByteArray) : Option (spinetref43_Line × Bool) :=
  (spinetref43_Cut_l0 s_ BIG (0)).bind fun n_2 =>
  if 0 ≤ (n_2 : Int) ∧ n_2 ≤ (sln s_) then
  if (decide (0 < (sln (s_.extract 0 (n_2 : Int).toNat)))) = true → 0 ≤ (0 : Int) ∧ 0 < sln (s_.extract 0 (n_2 : Int).toNat) then
  ((if (decide (0 < (sln (s_.extract 0 (n_2 : Int).toNat)))) = true then spinetref43_blank (bt (s_.extract 0 (n_2 : Int).toNat) (0)) else some default)).bind fun r_ =>
  if ((decide (0 < (sln (s_.extract 0 (n_2 : Int).toNat)))) && (!r_)) = true then
    (spinetref43_Cut_l1 s_ n_2 BIG (0)).bind fun i_2 =>
    if 0 ≤ (i_2 : Int) ∧ i_2 ≤ (sln (s_.extract 0 (n_2 : Int).toNat)) then
    (spinetref41_Right ((s_.extract 0 (n_2 : Int).toNat).extract 0 (i_2 : Int).toNat)).bind fun r_4 =>
    if (!r_4) = true then
      some ((spinetref43_Line.mk (⟨#[]⟩ : ByteArray) (⟨#[]⟩ : ByteArray) (⟨#[]⟩ : ByteArray)), false)
    else
      if (decide (i_2 < (sln (s_.extract 0 (n_2 : Int).toNat)))) = true → 0 ≤ (i_2 : Int) ∧ i_2 < sln (s_.extract 0 (n_2 : Int).toNat) then
      if ((decide (i_2 < (sln (s_.extract 0 (n_2 : Int).toNat)))) && ((bt (s_.extract 0 (n_2 : Int).toNat) i_2) == 58)) = true then
        spinetref43_Cut_j1 s_ n_2 ((s_.extract 0 (n_2 : Int).toNat).extract 0 (i_2 : Int).toNat) (IntKind.wrap .i64 (i_2 + 1))
      else
        spinetref43_Cut_j1 s_ n_2 ((s_.extract 0 (n_2 : Int).toNat).extract 0 (i_2 : Int).toNat) i_2
      else none
    else none
  else
    spinetref43_Cut_j1 s_ n_2 (⟨#[]⟩ : ByteArray) (0)
  else none
  else none
def spinetlaw43_alive : Option (Bool) :=
  (lexer_Cut (⟨#[97, 58, 32, 108, 100, 97, 32, 35, 32, 53, 32, 59, 32, 120]⟩ : ByteArray)).bind fun r_ =>
  some (((r_.1.Label == (⟨#[97]⟩ : ByteArray)) && ((r_.1.Op == (⟨#[76, 68, 65]⟩ : ByteArray)) && ((r_.1.Arg == (⟨#[35, 53]⟩ : ByteArray)) && true))) && (r_.2 == 0))
def spinetlaw43_LexerAll_l0 (r_ : ((List lexer_Line) × Int × Int)) (r_1 : ((List ByteArray))) : Nat → Int → Option (Out (Bool) (Unit))
  | 0, _ => none
  | k + 1, i_1 =>
    if (decide (i_1 < (ln r_1))) = true then
      if 0 ≤ (i_1 : Int) ∧ i_1 < ln r_1 then
      (spinetref43_Cut (gt r_1 i_1)).bind fun r_6 =>
      if (!r_6.2) = true then
        ((if ((((ln r_.1) == 0) && (r_.2.1 == (IntKind.wrap .i64 (i_1 + 1)))) && (r_.2.2 == 40)) = true then spinetlaw43_alive else some default)).bind fun r_7 =>
        some (.ret (((((ln r_.1) == 0) && (r_.2.1 == (IntKind.wrap .i64 (i_1 + 1)))) && (r_.2.2 == 40)) && r_7))
      else
        if ((!(decide ((ln r_.1) ≤ i_1))) && ((ln r_.1) != 0)) = true → 0 ≤ (i_1 : Int) ∧ i_1 < ln r_.1 then
        if (((ln r_.1) != 0) && ((decide ((ln r_.1) ≤ i_1)) || (!(((gt r_.1 i_1).Label == r_6.1.Label) && (((gt r_.1 i_1).Op == r_6.1.Op) && (((gt r_.1 i_1).Arg == r_6.1.Arg) && true)))))) = true then
          some (.ret false)
        else
          spinetlaw43_LexerAll_l0 r_ r_1 k (IntKind.wrap .i64 (i_1 + 1))
        else none
      else none
    else
      some (.go ())
def spinetlaw43_LexerAll (s_ : ByteArray) : Option (Bool) :=
  if (decide (600 < (sln s_))) = true then
    some true
  else
    (lexer_All s_).bind fun r_ =>
    (spinetref43_Lines s_).bind fun r_1 =>
    (spinetlaw43_LexerAll_l0 r_ r_1 BIG (0)).bind fun o => match o with
      | .ret r => some r
      | .go _ =>
        ((if ((((ln r_.1) == (ln r_1)) && (r_.2.1 == 0)) && (r_.2.2 == 0)) = true then spinetlaw43_alive else some default)).bind fun r_8 =>
        some (((((ln r_.1) == (ln r_1)) && (r_.2.1 == 0)) && (r_.2.2 == 0)) && r_8)
def slices_Equal_sl_string_string_l0 (s1_ : (List ByteArray)) (s2_ : (List ByteArray)) : Nat → Int → Option (Out (Bool) (Unit))
  | 0, _ => none
  | k + 1, t_1 =>
    if (decide (t_1 < (ln s1_))) = true then
      if 0 ≤ (t_1 : Int) ∧ t_1 < ln s1_ then
      if 0 ≤ (t_1 : Int) ∧ t_1 < ln s2_ then
      if (!((gt s1_ t_1).toList == (gt s2_ t_1).toList)) = true then
        some (.ret false)
      else
        slices_Equal_sl_string_string_l0 s1_ s2_ k (IntKind.wrap .i64 (t_1 + 1))
      else none
      else none
    else
      some (.go ())
def slices_Equal_sl_string_string (s1_ : (List ByteArray)) (s2_ : (List ByteArray)) : Option (Bool) :=
  if ((ln s1_) != (ln s2_)) = true then
    some false
  else
    (slices_Equal_sl_string_string_l0 s1_ s2_ BIG (0)).bind fun o => match o with
      | .ret r => some r
      | .go _ =>
        some true
def lexer_Fields (s_ : ByteArray) : Option ((List ByteArray)) :=
  if (s_.toList == (⟨#[]⟩ : ByteArray).toList) = true then
    some ([] : List ByteArray)
  else
    (strings_Split s_ (⟨#[44]⟩ : ByteArray)).bind fun r_ =>
    some r_
def spinetref43_Fields_l0 (s_ : ByteArray) : Nat → (List ByteArray) → Int → Option (List ByteArray)
  | 0, _, _ => none
  | k + 1, l_1, i_1 =>
    if (decide (i_1 < (sln s_))) = true then
      if 0 ≤ (i_1 : Int) ∧ i_1 < sln s_ then
      if ((bt s_ i_1) == 44) = true then
        if (l_1.length + [(⟨#[]⟩ : ByteArray)].length) * 16 ≤ 140737488355328 then
        spinetref43_Fields_l0 s_ k (l_1 ++ [(⟨#[]⟩ : ByteArray)]) (IntKind.wrap .i64 (i_1 + 1))
        else none
      else
        if 0 ≤ ((IntKind.wrap .i64 ((ln l_1) - 1)) : Int) ∧ (IntKind.wrap .i64 ((ln l_1) - 1)) < ln l_1 then
        if 0 ≤ (i_1 : Int) ∧ i_1 ≤ ((IntKind.wrap .i64 (i_1 + 1)) : Int) ∧ (IntKind.wrap .i64 (i_1 + 1)) ≤ (sln s_) then
        if (((gt l_1 (IntKind.wrap .i64 ((ln l_1) - 1))).size + (s_.extract (i_1 : Int).toNat ((IntKind.wrap .i64 (i_1 + 1)) : Int).toNat).size : Nat) : Int) ≤ 9223372036854775807 then
        if 0 ≤ ((IntKind.wrap .i64 ((ln l_1) - 1)) : Int) ∧ (IntKind.wrap .i64 ((ln l_1) - 1)) < ln l_1 then
        spinetref43_Fields_l0 s_ k (st l_1 (IntKind.wrap .i64 ((ln l_1) - 1)) ((gt l_1 (IntKind.wrap .i64 ((ln l_1) - 1))) ++ (s_.extract (i_1 : Int).toNat ((IntKind.wrap .i64 (i_1 + 1)) : Int).toNat))) (IntKind.wrap .i64 (i_1 + 1))
        else none
        else none
        else none
        else none
      else none
    else
      some l_1
def spinetref43_Fields (s_ : ByteArray) : Option ((List ByteArray)) :=
  if (s_.toList == (⟨#[]⟩ : ByteArray).toList) = true then
    some ([] : List ByteArray)
  else
    (spinetref43_Fields_l0 s_ BIG [(⟨#[]⟩ : ByteArray)] (0)).bind fun l_2 =>
    some l_2
def spinetlaw43_LexerCuts (s_ : ByteArray) : Option (Bool) :=
  if (decide (200 < (sln s_))) = true then
    some true
  else
    (lexer_Cut s_).bind fun r_ =>
    (spinetref43_Cut s_).bind fun r_1 =>
    (lexer_Fields s_).bind fun r_2 =>
    (spinetref43_Fields s_).bind fun r_3 =>
    (slices_Equal_sl_string_string r_2 r_3).bind fun r_4 =>
    if (!r_4) = true then
      some false
    else
      if (!r_1.2) = true then
        ((if (((r_.1.Label == (⟨#[]⟩ : ByteArray)) && ((r_.1.Op == (⟨#[]⟩ : ByteArray)) && ((r_.1.Arg == (⟨#[]⟩ : ByteArray)) && true))) && (r_.2 == 40)) = true then spinetlaw43_alive else some default)).bind fun r_5 =>
        some ((((r_.1.Label == (⟨#[]⟩ : ByteArray)) && ((r_.1.Op == (⟨#[]⟩ : ByteArray)) && ((r_.1.Arg == (⟨#[]⟩ : ByteArray)) && true))) && (r_.2 == 40)) && r_5)
      else
        ((if (((r_.1.Label == r_1.1.Label) && ((r_.1.Op == r_1.1.Op) && ((r_.1.Arg == r_1.1.Arg) && true))) && (r_.2 == 0)) = true then spinetlaw43_alive else some default)).bind fun r_6 =>
        some ((((r_.1.Label == r_1.1.Label) && ((r_.1.Op == r_1.1.Op) && ((r_.1.Arg == r_1.1.Arg) && true))) && (r_.2 == 0)) && r_6)
end Go.Proofs.YthooddibdmigmaaDoorK
