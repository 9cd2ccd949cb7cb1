/- The functions, over typed data. Printed by a program of this work. -/
import Derived.Test.YtiedenhkailolaaDoorRj
namespace Go.Proofs.YtiedenhkailolaaDoorK
set_option linter.unusedVariables false
set_option linter.unusedSimpArgs false
set_option maxHeartbeats 4000000
open Go.RowKit
attribute [local irreducible] dwv mops lops lqops lwops kont iter run runK rk okK ex E1 vals val chain chB sel resF
def sl_str (x : (List ByteArray)) : List V := [.sl false x.length (cat nS x)]
instance : Cells sl_str 1 := ⟨fun _ => rfl, fun _ => by simp [sl_str, statics, V.static, cat_stat], fun _ => rfl⟩
structure A8_i64 where
  a0 : Int
  a1 : Int
  a2 : Int
  a3 : Int
  a4 : Int
  a5 : Int
  a6 : Int
  a7 : Int
instance : Inhabited A8_i64 := ⟨⟨0, 0, 0, 0, 0, 0, 0, 0⟩⟩
def A8_i64.v (x : A8_i64) : List V := [.s (.int .i64 x.a0), .s (.int .i64 x.a1), .s (.int .i64 x.a2), .s (.int .i64 x.a3), .s (.int .i64 x.a4), .s (.int .i64 x.a5), .s (.int .i64 x.a6), .s (.int .i64 x.a7)]
instance : Cells A8_i64.v 8 := ⟨fun _ => rfl, fun _ => rfl, fun _ => rfl⟩
structure lists_Part where
  Reg : Int
  High : Bool
instance : Inhabited lists_Part := ⟨⟨0, false⟩⟩
def lists_Part.v (x : lists_Part) : List V := [.s (.int .i64 x.Reg), .s (.bool x.High)]
instance : Cells lists_Part.v 2 := ⟨fun _ => rfl, fun _ => rfl, fun _ => rfl⟩
def sl_lists_Part (x : (List lists_Part)) : List V := [.sl false x.length (cat lists_Part.v x)]
instance : Cells sl_lists_Part 1 := ⟨fun _ => rfl, fun _ => by simp [sl_lists_Part, statics, V.static, cat_stat], fun _ => rfl⟩
structure api_Regs where
  A : Int
  B : Int
  DP : Int
  CC : Int
  X : Int
  Y : Int
  U : Int
  S : Int
  PC : Int
instance : Inhabited api_Regs := ⟨⟨0, 0, 0, 0, 0, 0, 0, 0, 0⟩⟩
def api_Regs.v (x : api_Regs) : List V := [.s (.int .u8 x.A), .s (.int .u8 x.B), .s (.int .u8 x.DP), .s (.int .u8 x.CC), .s (.int .u16 x.X), .s (.int .u16 x.Y), .s (.int .u16 x.U), .s (.int .u16 x.S), .s (.int .u16 x.PC)]
instance : Cells api_Regs.v 9 := ⟨fun _ => rfl, fun _ => rfl, fun _ => rfl⟩
structure file_File where
  Regs : api_Regs
instance : Inhabited file_File := ⟨⟨⟨0, 0, 0, 0, 0, 0, 0, 0, 0⟩⟩⟩
def file_File.v (x : file_File) : List V := [.s (.int .u8 x.Regs.A), .s (.int .u8 x.Regs.B), .s (.int .u8 x.Regs.DP), .s (.int .u8 x.Regs.CC), .s (.int .u16 x.Regs.X), .s (.int .u16 x.Regs.Y), .s (.int .u16 x.Regs.U), .s (.int .u16 x.Regs.S), .s (.int .u16 x.Regs.PC)]
instance : Cells file_File.v 9 := ⟨fun _ => rfl, fun _ => rfl, fun _ => rfl⟩
structure A12_u16 where
  a0 : Int
  a1 : Int
  a2 : Int
  a3 : Int
  a4 : Int
  a5 : Int
  a6 : Int
  a7 : Int
  a8 : Int
  a9 : Int
  a10 : Int
  a11 : Int
instance : Inhabited A12_u16 := ⟨⟨0, 0, 0, 0, 0, 0, 0, 0, 0, 0, 0, 0⟩⟩
def A12_u16.v (x : A12_u16) : List V := [.s (.int .u16 x.a0), .s (.int .u16 x.a1), .s (.int .u16 x.a2), .s (.int .u16 x.a3), .s (.int .u16 x.a4), .s (.int .u16 x.a5), .s (.int .u16 x.a6), .s (.int .u16 x.a7), .s (.int .u16 x.a8), .s (.int .u16 x.a9), .s (.int .u16 x.a10), .s (.int .u16 x.a11)]
instance : Cells A12_u16.v 12 := ⟨fun _ => rfl, fun _ => rfl, fun _ => rfl⟩
structure spinetref17_Part where
  Reg : Int
  High : Bool
instance : Inhabited spinetref17_Part := ⟨⟨0, false⟩⟩
def spinetref17_Part.v (x : spinetref17_Part) : List V := [.s (.int .i64 x.Reg), .s (.bool x.High)]
instance : Cells spinetref17_Part.v 2 := ⟨fun _ => rfl, fun _ => rfl, fun _ => rfl⟩
def unicode_utf8_DecodeRuneInString (s_ : ByteArray) : Option (Int × Int) :=
  if (!(s_.toList == (⟨#[]⟩ : ByteArray).toList)) = true → 0 ≤ (0 : Int) ∧ 0 < sln s_ then
  if ((!(s_.toList == (⟨#[]⟩ : ByteArray).toList)) && (decide ((bt s_ (0)) < 128))) = true then
    if 0 ≤ (0 : Int) ∧ 0 < sln s_ then
    some ((IntKind.wrap .i32 (bt s_ (0))), 1)
    else none
  else
    none
  else none
def strings_Index (s_ : ByteArray) (substr_ : ByteArray) : Option (Int) :=
  (internal_stringslite_Index s_ substr_).bind fun r_ =>
  some r_
def strings_genSplit_l0 (s_ : ByteArray) (sep_ : ByteArray) (sepSave_ : Int) (t_ : Int) : Nat → (List ByteArray) → ByteArray → Int → Option ((List ByteArray) × ByteArray × Int)
  | 0, _, _, _ => none
  | k + 1, l_1, t_2, i_1 =>
    if (decide (i_1 < (IntKind.wrap .i64 ((if (IntKind.wrap .i64 ((sln s_) + 1)) < t_ then (IntKind.wrap .i64 ((sln s_) + 1)) else t_) - 1)))) = true then
      (strings_Index t_2 sep_).bind fun r_3 =>
      if (decide (r_3 < 0)) = true then
        some (l_1, t_2, i_1)
      else
        if 0 ≤ ((IntKind.wrap .i64 (r_3 + sepSave_)) : Int) ∧ (IntKind.wrap .i64 (r_3 + sepSave_)) ≤ (sln t_2) then
        if 0 ≤ (i_1 : Int) ∧ i_1 < ln l_1 then
        if 0 ≤ ((IntKind.wrap .i64 (r_3 + (sln sep_))) : Int) ∧ (IntKind.wrap .i64 (r_3 + (sln sep_))) ≤ (sln t_2) then
        strings_genSplit_l0 s_ sep_ sepSave_ t_ k (st l_1 i_1 (t_2.extract 0 ((IntKind.wrap .i64 (r_3 + sepSave_)) : Int).toNat)) (t_2.extract ((IntKind.wrap .i64 (r_3 + (sln sep_))) : Int).toNat t_2.size) (IntKind.wrap .i64 (i_1 + 1))
        else none
        else none
        else none
    else
      some (l_1, t_2, i_1)
def strings_genSplit_j0 (s_ : ByteArray) (sep_ : ByteArray) (sepSave_ : Int) (t_ : Int) : Option ((List ByteArray)) :=
  if 0 ≤ ((if (IntKind.wrap .i64 ((sln s_) + 1)) < t_ then (IntKind.wrap .i64 ((sln s_) + 1)) else t_) : Int) ∧ ((if (IntKind.wrap .i64 ((sln s_) + 1)) < t_ then (IntKind.wrap .i64 ((sln s_) + 1)) else t_) : Int) ≤ (if (IntKind.wrap .i64 ((sln s_) + 1)) < t_ then (IntKind.wrap .i64 ((sln s_) + 1)) else t_) ∧ ((if (IntKind.wrap .i64 ((sln s_) + 1)) < t_ then (IntKind.wrap .i64 ((sln s_) + 1)) else t_) : Int) * 16 ≤ 281474976710656 ∧ ((if (IntKind.wrap .i64 ((sln s_) + 1)) < t_ then (IntKind.wrap .i64 ((sln s_) + 1)) else t_) : Int) ≤ 281474976710656 then
  (strings_genSplit_l0 s_ sep_ sepSave_ t_ BIG (rp (if (IntKind.wrap .i64 ((sln s_) + 1)) < t_ then (IntKind.wrap .i64 ((sln s_) + 1)) else t_) ((⟨#[]⟩ : ByteArray) : ByteArray)) s_ (0)).bind fun (l_2, t_3, i_2) =>
  if 0 ≤ (i_2 : Int) ∧ i_2 < ln l_2 then
  if 0 ≤ ((IntKind.wrap .i64 (i_2 + 1)) : Int) ∧ (IntKind.wrap .i64 (i_2 + 1)) ≤ (ln (st l_2 i_2 t_3)) then
  some (((st l_2 i_2 t_3).drop 0).take (((IntKind.wrap .i64 (i_2 + 1)) : Int).toNat - 0))
  else none
  else none
  else none
def strings_genSplit (s_ : ByteArray) (sep_ : ByteArray) (sepSave_ : Int) (n_ : Int) : Option ((List ByteArray)) :=
  if (n_ == 0) = true then
    some ([] : List ByteArray)
  else
    if (sep_.toList == (⟨#[]⟩ : ByteArray).toList) = true then
      none
    else
      if (decide (n_ < 0)) = true then
        (strings_Count s_ sep_).bind fun r_ =>
        strings_genSplit_j0 s_ sep_ sepSave_ (IntKind.wrap .i64 (r_ + 1))
      else
        strings_genSplit_j0 s_ sep_ sepSave_ n_
def strings_Split (s_ : ByteArray) (sep_ : ByteArray) : Option ((List ByteArray)) :=
  (strings_genSplit s_ sep_ (0) (-1)).bind fun r_ =>
  some r_
def lists_regs (stack_ : Int) : Option (A8_i64) :=
  if (stack_ == 3) = true then
    some (A8_i64.mk (10) (8) (9) (11) (1) (2) (4) (5))
  else
    some (A8_i64.mk (10) (8) (9) (11) (1) (2) (3) (5))
def ops_Reg (code_ : Int) : Option (ByteArray) :=
  if (code_ == 0) = true then
    some (⟨#[68]⟩ : ByteArray)
  else
    if (code_ == 1) = true then
      some (⟨#[88]⟩ : ByteArray)
    else
      if (code_ == 2) = true then
        some (⟨#[89]⟩ : ByteArray)
      else
        if (code_ == 3) = true then
          some (⟨#[85]⟩ : ByteArray)
        else
          if (code_ == 4) = true then
            some (⟨#[83]⟩ : ByteArray)
          else
            if (code_ == 5) = true then
              some (⟨#[80, 67]⟩ : ByteArray)
            else
              if (code_ == 8) = true then
                some (⟨#[65]⟩ : ByteArray)
              else
                if (code_ == 9) = true then
                  some (⟨#[66]⟩ : ByteArray)
                else
                  if (code_ == 10) = true then
                    some (⟨#[67, 67]⟩ : ByteArray)
                  else
                    if (code_ == 11) = true then
                      some (⟨#[68, 80]⟩ : ByteArray)
                    else
                      some (⟨#[]⟩ : ByteArray)
def lists_bits_l0 (s_ : ByteArray) (r_ : (A8_i64)) : Nat → Int → Option (Out (Int) (Unit))
  | 0, _ => none
  | k + 1, t_1 =>
    if (decide (t_1 < 8)) = true then
      if 0 ≤ (t_1 : Int) ∧ t_1 < (8 : Int) then
      (ops_Reg (gt [r_.a0, r_.a1, r_.a2, r_.a3, r_.a4, r_.a5, r_.a6, r_.a7] t_1)).bind fun r_3 =>
      if (r_3.toList == s_.toList) = true then
        if 0 ≤ t_1 then
        some (.ret (IntKind.wrap .u8 (1 * 2 ^ (min (t_1 : Int).toNat (IntKind.bits .u8)))))
        else none
      else
        lists_bits_l0 s_ r_ k (IntKind.wrap .i64 (t_1 + 1))
      else none
    else
      some (.go ())
def lists_bits (s_ : ByteArray) (stack_ : Int) : Option (Int) :=
  if (s_.toList == (⟨#[68]⟩ : ByteArray).toList) = true then
    some (6)
  else
    (lists_regs stack_).bind fun r_ =>
    (lists_bits_l0 s_ r_ BIG (0)).bind fun o => match o with
      | .ret r => some r
      | .go _ =>
        some (0)
def lists_Read_l0 (stack_ : Int) (r_ : ((List ByteArray))) : Nat → Int → Int → Option (Out (Int × Int) Int)
  | 0, _, _ => none
  | k + 1, post_1, t_1 =>
    if (decide (t_1 < (ln r_))) = true then
      if 0 ≤ (t_1 : Int) ∧ t_1 < ln r_ then
      (lists_bits (gt r_ t_1) stack_).bind fun r_3 =>
      if (r_3 == 0) = true then
        some (.ret (0, 40))
      else
        if ((bits .and .u8 post_1 r_3) != 0) = true then
          some (.ret (0, 41))
        else
          lists_Read_l0 stack_ r_ k (bits .or .u8 post_1 r_3) (IntKind.wrap .i64 (t_1 + 1))
      else none
    else
      some (.go post_1)
def lists_Read (s_ : ByteArray) (stack_ : Int) : Option (Int × Int) :=
  if (s_.toList == (⟨#[]⟩ : ByteArray).toList) = true then
    some (0, 0)
  else
    (strings_Split s_ (⟨#[44]⟩ : ByteArray)).bind fun r_ =>
    (lists_Read_l0 stack_ r_ BIG (0) (0)).bind fun o => match o with
      | .ret r => some r
      | .go post_2 =>
        some (post_2, 0)
def lists_Order_j0 (rec : (List lists_Part) → Int → Option (List lists_Part)) (r_ : (A8_i64)) (t_1 : Int) (l_5 : (List lists_Part)) : Option (List lists_Part) :=
  if (l_5.length + [(lists_Part.mk (gt [r_.a0, r_.a1, r_.a2, r_.a3, r_.a4, r_.a5, r_.a6, r_.a7] t_1) false)].length) * 16 ≤ 140737488355328 then
  rec (l_5 ++ [(lists_Part.mk (gt [r_.a0, r_.a1, r_.a2, r_.a3, r_.a4, r_.a5, r_.a6, r_.a7] t_1) false)]) (IntKind.wrap .i64 (t_1 + 1))
  else none
def lists_Order_l0 (post_ : Int) (r_ : (A8_i64)) : Nat → (List lists_Part) → Int → Option (List lists_Part)
  | 0, _, _ => none
  | k + 1, l_3, t_1 =>
    if (decide (t_1 < 8)) = true then
      if 0 ≤ (t_1 : Int) ∧ t_1 < (8 : Int) then
      if 0 ≤ t_1 then
      if ((bits .and .u8 (Int.fdiv post_ (2 ^ (min (t_1 : Int).toNat (IntKind.bits .u8)))) 1) == 0) = true then
        lists_Order_l0 post_ r_ k l_3 (IntKind.wrap .i64 (t_1 + 1))
      else
        if (decide (3 < t_1)) = true then
          if (l_3.length + [(lists_Part.mk (gt [r_.a0, r_.a1, r_.a2, r_.a3, r_.a4, r_.a5, r_.a6, r_.a7] t_1) true)].length) * 16 ≤ 140737488355328 then
          lists_Order_j0 (lists_Order_l0 post_ r_ k) r_ t_1 (l_3 ++ [(lists_Part.mk (gt [r_.a0, r_.a1, r_.a2, r_.a3, r_.a4, r_.a5, r_.a6, r_.a7] t_1) true)])
          else none
        else
          lists_Order_j0 (lists_Order_l0 post_ r_ k) r_ t_1 l_3
      else none
      else none
    else
      some l_3
def lists_Order (post_ : Int) (stack_ : Int) : Option ((List lists_Part)) :=
  (lists_regs stack_).bind fun r_ =>
  (lists_Order_l0 post_ r_ BIG ([] : List lists_Part) (0)).bind fun l_4 =>
  some l_4
def spinetlaw17_alive : Option (Bool) :=
  (lists_Order (129) (4)).bind fun r_ =>
  (lists_Read (⟨#[68, 44, 88]⟩ : ByteArray) (4)).bind fun r_1 =>
  if ((ln r_) == 3) = true → 0 ≤ (0 : Int) ∧ 0 < ln r_ then
  if (((ln r_) == 3) && ((gt r_ (0)).Reg == 10)) = true → 0 ≤ (1 : Int) ∧ 1 < ln r_ then
  some ((((((ln r_) == 3) && ((gt r_ (0)).Reg == 10)) && (gt r_ (1)).High) && (r_1.1 == 22)) && (r_1.2 == 0))
  else none
  else none
def octet_High (w_ : Int) : Option (Int) :=
  some (IntKind.wrap .u8 (Int.fdiv w_ (2 ^ (8))))
def octet_Word (hi_ : Int) (lo_ : Int) : Option (Int) :=
  some (bits .or .u16 (IntKind.wrap .u16 ((IntKind.wrap .u16 hi_) * 2 ^ (8))) (IntKind.wrap .u16 lo_))
def file_File_Get (f_ : file_File) (code_ : Int) : Option (Int) :=
  if (code_ == 0) = true then
    (octet_Word f_.Regs.A f_.Regs.B).bind fun r_ =>
    some r_
  else
    if (code_ == 1) = true then
      some f_.Regs.X
    else
      if (code_ == 2) = true then
        some f_.Regs.Y
      else
        if (code_ == 3) = true then
          some f_.Regs.U
        else
          if (code_ == 4) = true then
            some f_.Regs.S
          else
            if (code_ == 5) = true then
              some f_.Regs.PC
            else
              if (code_ == 8) = true then
                (octet_Word (255) f_.Regs.A).bind fun r_1 =>
                some r_1
              else
                if (code_ == 9) = true then
                  (octet_Word (255) f_.Regs.B).bind fun r_2 =>
                  some r_2
                else
                  if (code_ == 10) = true then
                    (octet_Word (255) f_.Regs.CC).bind fun r_3 =>
                    some r_3
                  else
                    if (code_ == 11) = true then
                      (octet_Word (255) f_.Regs.DP).bind fun r_4 =>
                      some r_4
                    else
                      some (65535)
def octet_Low (w_ : Int) : Option (Int) :=
  some (IntKind.wrap .u8 w_)
def lists_Byte (r_ : api_Regs) (p_ : lists_Part) : Option (Int) :=
  if p_.High = true then
    (file_File_Get (file_File.mk r_) p_.Reg).bind fun r_1 =>
    (octet_High r_1).bind fun r_2 =>
    some r_2
  else
    (file_File_Get (file_File.mk r_) p_.Reg).bind fun r_3 =>
    (octet_Low r_3).bind fun r_4 =>
    some r_4
def spinetref16_Get (r_ : api_Regs) (code_ : Int) : Option (Int) :=
  if ((decide (code_ < 0)) || (decide (11 < code_))) = true then
    some (65535)
  else
    if 0 ≤ (code_ : Int) ∧ code_ < (12 : Int) then
    some (gt [(IntKind.wrap .u16 ((IntKind.wrap .u16 ((IntKind.wrap .u16 r_.A) * 256)) + (IntKind.wrap .u16 r_.B))), r_.X, r_.Y, r_.U, r_.S, r_.PC, 65535, 65535, (IntKind.wrap .u16 (65280 + (IntKind.wrap .u16 r_.A))), (IntKind.wrap .u16 (65280 + (IntKind.wrap .u16 r_.B))), (IntKind.wrap .u16 (65280 + (IntKind.wrap .u16 r_.CC))), (IntKind.wrap .u16 (65280 + (IntKind.wrap .u16 r_.DP)))] code_)
    else none
def spinetref17_Byte (r_ : api_Regs) (p_ : spinetref17_Part) : Option (Int) :=
  (spinetref16_Get r_ p_.Reg).bind fun r_1 =>
  if p_.High = true then
    some (IntKind.wrap .u8 (IntKind.wrap .u16 (Int.tdiv r_1 256)))
  else
    some (IntKind.wrap .u8 (Int.tmod r_1 256))
def file_File_Set (f_ : file_File) (code_ : Int) (w_ : Int) : Option (Bool × file_File) :=
  if (code_ == 0) = true then
    (octet_High w_).bind fun r_ =>
    (octet_Low w_).bind fun r_1 =>
    some (true, (file_File.mk (api_Regs.mk r_ r_1 f_.Regs.DP f_.Regs.CC f_.Regs.X f_.Regs.Y f_.Regs.U f_.Regs.S f_.Regs.PC)))
  else
    if (code_ == 1) = true then
      some (true, (file_File.mk (api_Regs.mk f_.Regs.A f_.Regs.B f_.Regs.DP f_.Regs.CC w_ f_.Regs.Y f_.Regs.U f_.Regs.S f_.Regs.PC)))
    else
      if (code_ == 2) = true then
        some (true, (file_File.mk (api_Regs.mk f_.Regs.A f_.Regs.B f_.Regs.DP f_.Regs.CC f_.Regs.X w_ f_.Regs.U f_.Regs.S f_.Regs.PC)))
      else
        if (code_ == 3) = true then
          some (true, (file_File.mk (api_Regs.mk f_.Regs.A f_.Regs.B f_.Regs.DP f_.Regs.CC f_.Regs.X f_.Regs.Y w_ f_.Regs.S f_.Regs.PC)))
        else
          if (code_ == 4) = true then
            some (true, (file_File.mk (api_Regs.mk f_.Regs.A f_.Regs.B f_.Regs.DP f_.Regs.CC f_.Regs.X f_.Regs.Y f_.Regs.U w_ f_.Regs.PC)))
          else
            if (code_ == 5) = true then
              some (true, (file_File.mk (api_Regs.mk f_.Regs.A f_.Regs.B f_.Regs.DP f_.Regs.CC f_.Regs.X f_.Regs.Y f_.Regs.U f_.Regs.S w_)))
            else
              if (code_ == 8) = true then
                (octet_Low w_).bind fun r_2 =>
                some (true, (file_File.mk (api_Regs.mk r_2 f_.Regs.B f_.Regs.DP f_.Regs.CC f_.Regs.X f_.Regs.Y f_.Regs.U f_.Regs.S f_.Regs.PC)))
              else
                if (code_ == 9) = true then
                  (octet_Low w_).bind fun r_3 =>
                  some (true, (file_File.mk (api_Regs.mk f_.Regs.A r_3 f_.Regs.DP f_.Regs.CC f_.Regs.X f_.Regs.Y f_.Regs.U f_.Regs.S f_.Regs.PC)))
                else
                  if (code_ == 10) = true then
                    (octet_Low w_).bind fun r_4 =>
                    some (true, (file_File.mk (api_Regs.mk f_.Regs.A f_.Regs.B f_.Regs.DP r_4 f_.Regs.X f_.Regs.Y f_.Regs.U f_.Regs.S f_.Regs.PC)))
                  else
                    if (code_ == 11) = true then
                      (octet_Low w_).bind fun r_5 =>
                      some (true, (file_File.mk (api_Regs.mk f_.Regs.A f_.Regs.B r_5 f_.Regs.CC f_.Regs.X f_.Regs.Y f_.Regs.U f_.Regs.S f_.Regs.PC)))
                    else
                      some (false, f_)
def lists_With_j0 (m_ : Int) (m_1 : Int) (m_2 : Int) (m_3 : Int) (m_4 : Int) (m_5 : Int) (m_6 : Int) (m_7 : Int) (m_8 : Int) : Option (api_Regs) :=
  some (api_Regs.mk m_ m_1 m_2 m_3 m_4 m_5 m_6 m_7 m_8)
def lists_With (r_ : api_Regs) (p_ : lists_Part) (b_ : Int) : Option (api_Regs) :=
  (file_File_Get (file_File.mk r_) p_.Reg).bind fun r_1 =>
  if p_.High = true then
    (octet_Low r_1).bind fun r_2 =>
    (octet_Word b_ r_2).bind fun r_3 =>
    (file_File_Set (file_File.mk r_) p_.Reg r_3).bind fun r_4 =>
    lists_With_j0 r_4.2.Regs.A r_4.2.Regs.B r_4.2.Regs.DP r_4.2.Regs.CC r_4.2.Regs.X r_4.2.Regs.Y r_4.2.Regs.U r_4.2.Regs.S r_4.2.Regs.PC
  else
    (octet_High r_1).bind fun r_5 =>
    (octet_Word r_5 b_).bind fun r_6 =>
    (file_File_Set (file_File.mk r_) p_.Reg r_6).bind fun r_7 =>
    lists_With_j0 r_7.2.Regs.A r_7.2.Regs.B r_7.2.Regs.DP r_7.2.Regs.CC r_7.2.Regs.X r_7.2.Regs.Y r_7.2.Regs.U r_7.2.Regs.S r_7.2.Regs.PC
def spinetref16_Set (r_ : api_Regs) (code_ : Int) (w_ : Int) : Option (api_Regs) :=
  if (code_ == 0) = true then
    some (api_Regs.mk (IntKind.wrap .u8 (IntKind.wrap .u16 (Int.tdiv w_ 256))) (IntKind.wrap .u8 (Int.tmod w_ 256)) r_.DP r_.CC r_.X r_.Y r_.U r_.S r_.PC)
  else
    if (code_ == 1) = true then
      some (api_Regs.mk r_.A r_.B r_.DP r_.CC w_ r_.Y r_.U r_.S r_.PC)
    else
      if (code_ == 2) = true then
        some (api_Regs.mk r_.A r_.B r_.DP r_.CC r_.X w_ r_.U r_.S r_.PC)
      else
        if (code_ == 3) = true then
          some (api_Regs.mk r_.A r_.B r_.DP r_.CC r_.X r_.Y w_ r_.S r_.PC)
        else
          if (code_ == 4) = true then
            some (api_Regs.mk r_.A r_.B r_.DP r_.CC r_.X r_.Y r_.U w_ r_.PC)
          else
            if (code_ == 5) = true then
              some (api_Regs.mk r_.A r_.B r_.DP r_.CC r_.X r_.Y r_.U r_.S w_)
            else
              if (code_ == 8) = true then
                some (api_Regs.mk (IntKind.wrap .u8 (Int.tmod w_ 256)) r_.B r_.DP r_.CC r_.X r_.Y r_.U r_.S r_.PC)
              else
                if (code_ == 9) = true then
                  some (api_Regs.mk r_.A (IntKind.wrap .u8 (Int.tmod w_ 256)) r_.DP r_.CC r_.X r_.Y r_.U r_.S r_.PC)
                else
                  if (code_ == 10) = true then
                    some (api_Regs.mk r_.A r_.B r_.DP (IntKind.wrap .u8 (Int.tmod w_ 256)) r_.X r_.Y r_.U r_.S r_.PC)
                  else
                    if (code_ == 11) = true then
                      some (api_Regs.mk r_.A r_.B (IntKind.wrap .u8 (Int.tmod w_ 256)) r_.CC r_.X r_.Y r_.U r_.S r_.PC)
                    else
                      some r_
def spinetref17_With (r_ : api_Regs) (p_ : spinetref17_Part) (b_ : Int) : Option (api_Regs) :=
  (spinetref16_Get r_ p_.Reg).bind fun r_1 =>
  if p_.High = true then
    (spinetref16_Set r_ p_.Reg (IntKind.wrap .u16 ((IntKind.wrap .u16 ((IntKind.wrap .u16 b_) * 256)) + (Int.tmod r_1 256)))).bind fun r_2 =>
    some r_2
  else
    (spinetref16_Set r_ p_.Reg (IntKind.wrap .u16 ((IntKind.wrap .u16 ((IntKind.wrap .u16 (Int.tdiv r_1 256)) * 256)) + (IntKind.wrap .u16 b_)))).bind fun r_3 =>
    some r_3
def spinetlaw17_ListsParts (r_ : api_Regs) (p_ : lists_Part) (b_ : Int) : Option (Bool) :=
  (lists_Byte r_ p_).bind fun r_1 =>
  (spinetref17_Byte r_ (spinetref17_Part.mk p_.Reg p_.High)).bind fun r_2 =>
  ((if (r_1 == r_2) = true then lists_With r_ p_ b_ else some default)).bind fun r_3 =>
  ((if (r_1 == r_2) = true then spinetref17_With r_ (spinetref17_Part.mk p_.Reg p_.High) b_ else some default)).bind fun r_4 =>
  ((if ((r_1 == r_2) && ((r_3.A == r_4.A) && ((r_3.B == r_4.B) && ((r_3.DP == r_4.DP) && ((r_3.CC == r_4.CC) && ((r_3.X == r_4.X) && ((r_3.Y == r_4.Y) && ((r_3.U == r_4.U) && ((r_3.S == r_4.S) && ((r_3.PC == r_4.PC) && true)))))))))) = true then spinetlaw17_alive else some default)).bind fun r_5 =>
  some (((r_1 == r_2) && ((r_3.A == r_4.A) && ((r_3.B == r_4.B) && ((r_3.DP == r_4.DP) && ((r_3.CC == r_4.CC) && ((r_3.X == r_4.X) && ((r_3.Y == r_4.Y) && ((r_3.U == r_4.U) && ((r_3.S == r_4.S) && ((r_3.PC == r_4.PC) && true)))))))))) && r_5)
end Go.Proofs.YtiedenhkailolaaDoorK
