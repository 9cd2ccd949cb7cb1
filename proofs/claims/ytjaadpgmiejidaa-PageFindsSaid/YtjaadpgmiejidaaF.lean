/- The functions, over typed data. Printed by a program of this work. -/
import Derived.Test.YtjaadpgmiejidaaRg
namespace Go.Proofs.YtjaadpgmiejidaaK
set_option linter.unusedVariables false
set_option linter.unusedSimpArgs false
set_option maxHeartbeats 4000000
open Go.RowKit
attribute [local irreducible] dwv mops lops lqops lwops kont iter run runK ex E1 vals val chain chB sel resF
structure api_Entry where
  Op : Int
  Mode : Int
  Reg : Int
instance : Inhabited api_Entry := ⟨⟨0, 0, 0⟩⟩
def api_Entry.v (x : api_Entry) : List V := [.s (.int .i64 x.Op), .s (.int .i64 x.Mode), .s (.int .i64 x.Reg)]
instance : Cells api_Entry.v 3 := ⟨fun _ => rfl, fun _ => rfl, fun _ => rfl⟩
structure A5_i64 where
  a0 : Int
  a1 : Int
  a2 : Int
  a3 : Int
  a4 : Int
instance : Inhabited A5_i64 := ⟨⟨0, 0, 0, 0, 0⟩⟩
def A5_i64.v (x : A5_i64) : List V := [.s (.int .i64 x.a0), .s (.int .i64 x.a1), .s (.int .i64 x.a2), .s (.int .i64 x.a3), .s (.int .i64 x.a4)]
instance : Cells A5_i64.v 5 := ⟨fun _ => rfl, fun _ => rfl, fun _ => rfl⟩
def sl_A5_i64 (x : (List A5_i64)) : List V := [.sl false x.length (cat A5_i64.v x)]
instance : Cells sl_A5_i64 1 := ⟨fun _ => rfl, fun _ => by simp [sl_A5_i64, statics, V.static, cat_stat], fun _ => rfl⟩
structure A2_i64 where
  a0 : Int
  a1 : Int
instance : Inhabited A2_i64 := ⟨⟨0, 0⟩⟩
def A2_i64.v (x : A2_i64) : List V := [.s (.int .i64 x.a0), .s (.int .i64 x.a1)]
instance : Cells A2_i64.v 2 := ⟨fun _ => rfl, fun _ => rfl, fun _ => rfl⟩
structure A11_A2_i64 where
  a0 : A2_i64
  a1 : A2_i64
  a2 : A2_i64
  a3 : A2_i64
  a4 : A2_i64
  a5 : A2_i64
  a6 : A2_i64
  a7 : A2_i64
  a8 : A2_i64
  a9 : A2_i64
  a10 : A2_i64
instance : Inhabited A11_A2_i64 := ⟨⟨⟨0, 0⟩, ⟨0, 0⟩, ⟨0, 0⟩, ⟨0, 0⟩, ⟨0, 0⟩, ⟨0, 0⟩, ⟨0, 0⟩, ⟨0, 0⟩, ⟨0, 0⟩, ⟨0, 0⟩, ⟨0, 0⟩⟩⟩
def A11_A2_i64.v (x : A11_A2_i64) : List V := [.s (.int .i64 x.a0.a0), .s (.int .i64 x.a0.a1), .s (.int .i64 x.a1.a0), .s (.int .i64 x.a1.a1), .s (.int .i64 x.a2.a0), .s (.int .i64 x.a2.a1), .s (.int .i64 x.a3.a0), .s (.int .i64 x.a3.a1), .s (.int .i64 x.a4.a0), .s (.int .i64 x.a4.a1), .s (.int .i64 x.a5.a0), .s (.int .i64 x.a5.a1), .s (.int .i64 x.a6.a0), .s (.int .i64 x.a6.a1), .s (.int .i64 x.a7.a0), .s (.int .i64 x.a7.a1), .s (.int .i64 x.a8.a0), .s (.int .i64 x.a8.a1), .s (.int .i64 x.a9.a0), .s (.int .i64 x.a9.a1), .s (.int .i64 x.a10.a0), .s (.int .i64 x.a10.a1)]
instance : Cells A11_A2_i64.v 22 := ⟨fun _ => rfl, fun _ => rfl, fun _ => rfl⟩
structure spinetref14_Known where
  Page : Int
  Code : Int
  Entry : api_Entry
instance : Inhabited spinetref14_Known := ⟨⟨0, 0, ⟨0, 0, 0⟩⟩⟩
def spinetref14_Known.v (x : spinetref14_Known) : List V := [.s (.int .i64 x.Page), .s (.int .i64 x.Code), .s (.int .i64 x.Entry.Op), .s (.int .i64 x.Entry.Mode), .s (.int .i64 x.Entry.Reg)]
instance : Cells spinetref14_Known.v 5 := ⟨fun _ => rfl, fun _ => rfl, fun _ => rfl⟩
def sl_spinetref14_Known (x : (List spinetref14_Known)) : List V := [.sl false x.length (cat spinetref14_Known.v x)]
instance : Cells sl_spinetref14_Known 1 := ⟨fun _ => rfl, fun _ => by simp [sl_spinetref14_Known, statics, V.static, cat_stat], fun _ => rfl⟩
structure A12_A2_i64 where
  a0 : A2_i64
  a1 : A2_i64
  a2 : A2_i64
  a3 : A2_i64
  a4 : A2_i64
  a5 : A2_i64
  a6 : A2_i64
  a7 : A2_i64
  a8 : A2_i64
  a9 : A2_i64
  a10 : A2_i64
  a11 : A2_i64
instance : Inhabited A12_A2_i64 := ⟨⟨⟨0, 0⟩, ⟨0, 0⟩, ⟨0, 0⟩, ⟨0, 0⟩, ⟨0, 0⟩, ⟨0, 0⟩, ⟨0, 0⟩, ⟨0, 0⟩, ⟨0, 0⟩, ⟨0, 0⟩, ⟨0, 0⟩, ⟨0, 0⟩⟩⟩
def A12_A2_i64.v (x : A12_A2_i64) : List V := [.s (.int .i64 x.a0.a0), .s (.int .i64 x.a0.a1), .s (.int .i64 x.a1.a0), .s (.int .i64 x.a1.a1), .s (.int .i64 x.a2.a0), .s (.int .i64 x.a2.a1), .s (.int .i64 x.a3.a0), .s (.int .i64 x.a3.a1), .s (.int .i64 x.a4.a0), .s (.int .i64 x.a4.a1), .s (.int .i64 x.a5.a0), .s (.int .i64 x.a5.a1), .s (.int .i64 x.a6.a0), .s (.int .i64 x.a6.a1), .s (.int .i64 x.a7.a0), .s (.int .i64 x.a7.a1), .s (.int .i64 x.a8.a0), .s (.int .i64 x.a8.a1), .s (.int .i64 x.a9.a0), .s (.int .i64 x.a9.a1), .s (.int .i64 x.a10.a0), .s (.int .i64 x.a10.a1), .s (.int .i64 x.a11.a0), .s (.int .i64 x.a11.a1)]
instance : Cells A12_A2_i64.v 24 := ⟨fun _ => rfl, fun _ => rfl, fun _ => rfl⟩
structure A27_A5_i64 where
  a0 : A5_i64
  a1 : A5_i64
  a2 : A5_i64
  a3 : A5_i64
  a4 : A5_i64
  a5 : A5_i64
  a6 : A5_i64
  a7 : A5_i64
  a8 : A5_i64
  a9 : A5_i64
  a10 : A5_i64
  a11 : A5_i64
  a12 : A5_i64
  a13 : A5_i64
  a14 : A5_i64
  a15 : A5_i64
  a16 : A5_i64
  a17 : A5_i64
  a18 : A5_i64
  a19 : A5_i64
  a20 : A5_i64
  a21 : A5_i64
  a22 : A5_i64
  a23 : A5_i64
  a24 : A5_i64
  a25 : A5_i64
  a26 : A5_i64
instance : Inhabited A27_A5_i64 := ⟨⟨⟨0, 0, 0, 0, 0⟩, ⟨0, 0, 0, 0, 0⟩, ⟨0, 0, 0, 0, 0⟩, ⟨0, 0, 0, 0, 0⟩, ⟨0, 0, 0, 0, 0⟩, ⟨0, 0, 0, 0, 0⟩, ⟨0, 0, 0, 0, 0⟩, ⟨0, 0, 0, 0, 0⟩, ⟨0, 0, 0, 0, 0⟩, ⟨0, 0, 0, 0, 0⟩, ⟨0, 0, 0, 0, 0⟩, ⟨0, 0, 0, 0, 0⟩, ⟨0, 0, 0, 0, 0⟩, ⟨0, 0, 0, 0, 0⟩, ⟨0, 0, 0, 0, 0⟩, ⟨0, 0, 0, 0, 0⟩, ⟨0, 0, 0, 0, 0⟩, ⟨0, 0, 0, 0, 0⟩, ⟨0, 0, 0, 0, 0⟩, ⟨0, 0, 0, 0, 0⟩, ⟨0, 0, 0, 0, 0⟩, ⟨0, 0, 0, 0, 0⟩, ⟨0, 0, 0, 0, 0⟩, ⟨0, 0, 0, 0, 0⟩, ⟨0, 0, 0, 0, 0⟩, ⟨0, 0, 0, 0, 0⟩, ⟨0, 0, 0, 0, 0⟩⟩⟩
def A27_A5_i64.v (x : A27_A5_i64) : List V := [.s (.int .i64 x.a0.a0), .s (.int .i64 x.a0.a1), .s (.int .i64 x.a0.a2), .s (.int .i64 x.a0.a3), .s (.int .i64 x.a0.a4), .s (.int .i64 x.a1.a0), .s (.int .i64 x.a1.a1), .s (.int .i64 x.a1.a2), .s (.int .i64 x.a1.a3), .s (.int .i64 x.a1.a4), .s (.int .i64 x.a2.a0), .s (.int .i64 x.a2.a1), .s (.int .i64 x.a2.a2), .s (.int .i64 x.a2.a3), .s (.int .i64 x.a2.a4), .s (.int .i64 x.a3.a0), .s (.int .i64 x.a3.a1), .s (.int .i64 x.a3.a2), .s (.int .i64 x.a3.a3), .s (.int .i64 x.a3.a4), .s (.int .i64 x.a4.a0), .s (.int .i64 x.a4.a1), .s (.int .i64 x.a4.a2), .s (.int .i64 x.a4.a3), .s (.int .i64 x.a4.a4), .s (.int .i64 x.a5.a0), .s (.int .i64 x.a5.a1), .s (.int .i64 x.a5.a2), .s (.int .i64 x.a5.a3), .s (.int .i64 x.a5.a4), .s (.int .i64 x.a6.a0), .s (.int .i64 x.a6.a1), .s (.int .i64 x.a6.a2), .s (.int .i64 x.a6.a3), .s (.int .i64 x.a6.a4), .s (.int .i64 x.a7.a0), .s (.int .i64 x.a7.a1), .s (.int .i64 x.a7.a2), .s (.int .i64 x.a7.a3), .s (.int .i64 x.a7.a4), .s (.int .i64 x.a8.a0), .s (.int .i64 x.a8.a1), .s (.int .i64 x.a8.a2), .s (.int .i64 x.a8.a3), .s (.int .i64 x.a8.a4), .s (.int .i64 x.a9.a0), .s (.int .i64 x.a9.a1), .s (.int .i64 x.a9.a2), .s (.int .i64 x.a9.a3), .s (.int .i64 x.a9.a4), .s (.int .i64 x.a10.a0), .s (.int .i64 x.a10.a1), .s (.int .i64 x.a10.a2), .s (.int .i64 x.a10.a3), .s (.int .i64 x.a10.a4), .s (.int .i64 x.a11.a0), .s (.int .i64 x.a11.a1), .s (.int .i64 x.a11.a2), .s (.int .i64 x.a11.a3), .s (.int .i64 x.a11.a4), .s (.int .i64 x.a12.a0), .s (.int .i64 x.a12.a1), .s (.int .i64 x.a12.a2), .s (.int .i64 x.a12.a3), .s (.int .i64 x.a12.a4), .s (.int .i64 x.a13.a0), .s (.int .i64 x.a13.a1), .s (.int .i64 x.a13.a2), .s (.int .i64 x.a13.a3), .s (.int .i64 x.a13.a4), .s (.int .i64 x.a14.a0), .s (.int .i64 x.a14.a1), .s (.int .i64 x.a14.a2), .s (.int .i64 x.a14.a3), .s (.int .i64 x.a14.a4), .s (.int .i64 x.a15.a0), .s (.int .i64 x.a15.a1), .s (.int .i64 x.a15.a2), .s (.int .i64 x.a15.a3), .s (.int .i64 x.a15.a4), .s (.int .i64 x.a16.a0), .s (.int .i64 x.a16.a1), .s (.int .i64 x.a16.a2), .s (.int .i64 x.a16.a3), .s (.int .i64 x.a16.a4), .s (.int .i64 x.a17.a0), .s (.int .i64 x.a17.a1), .s (.int .i64 x.a17.a2), .s (.int .i64 x.a17.a3), .s (.int .i64 x.a17.a4), .s (.int .i64 x.a18.a0), .s (.int .i64 x.a18.a1), .s (.int .i64 x.a18.a2), .s (.int .i64 x.a18.a3), .s (.int .i64 x.a18.a4), .s (.int .i64 x.a19.a0), .s (.int .i64 x.a19.a1), .s (.int .i64 x.a19.a2), .s (.int .i64 x.a19.a3), .s (.int .i64 x.a19.a4), .s (.int .i64 x.a20.a0), .s (.int .i64 x.a20.a1), .s (.int .i64 x.a20.a2), .s (.int .i64 x.a20.a3), .s (.int .i64 x.a20.a4), .s (.int .i64 x.a21.a0), .s (.int .i64 x.a21.a1), .s (.int .i64 x.a21.a2), .s (.int .i64 x.a21.a3), .s (.int .i64 x.a21.a4), .s (.int .i64 x.a22.a0), .s (.int .i64 x.a22.a1), .s (.int .i64 x.a22.a2), .s (.int .i64 x.a22.a3), .s (.int .i64 x.a22.a4), .s (.int .i64 x.a23.a0), .s (.int .i64 x.a23.a1), .s (.int .i64 x.a23.a2), .s (.int .i64 x.a23.a3), .s (.int .i64 x.a23.a4), .s (.int .i64 x.a24.a0), .s (.int .i64 x.a24.a1), .s (.int .i64 x.a24.a2), .s (.int .i64 x.a24.a3), .s (.int .i64 x.a24.a4), .s (.int .i64 x.a25.a0), .s (.int .i64 x.a25.a1), .s (.int .i64 x.a25.a2), .s (.int .i64 x.a25.a3), .s (.int .i64 x.a25.a4), .s (.int .i64 x.a26.a0), .s (.int .i64 x.a26.a1), .s (.int .i64 x.a26.a2), .s (.int .i64 x.a26.a3), .s (.int .i64 x.a26.a4)]
instance : Cells A27_A5_i64.v 135 := ⟨fun _ => rfl, fun _ => rfl, fun _ => rfl⟩
def page_change (low_ : Int) : Option (Int) :=
  if (low_ == 0) = true then
    some (13)
  else
    if (low_ == 3) = true then
      some (14)
    else
      if (low_ == 4) = true then
        some (15)
      else
        if (low_ == 6) = true then
          some (16)
        else
          if (low_ == 7) = true then
            some (17)
          else
            if (low_ == 8) = true then
              some (18)
            else
              if (low_ == 9) = true then
                some (19)
              else
                if (low_ == 10) = true then
                  some (20)
                else
                  if (low_ == 12) = true then
                    some (21)
                  else
                    if (low_ == 13) = true then
                      some (22)
                    else
                      if (low_ == 15) = true then
                        some (23)
                      else
                        some (0)
def page_memory (low_ : Int) (mode_ : Int) : Option (api_Entry) :=
  if (low_ == 14) = true then
    some (api_Entry.mk (32) mode_ (0))
  else
    (page_change low_).bind fun r_ =>
    if (r_ != 0) = true then
      some (api_Entry.mk r_ mode_ (0))
    else
      some (api_Entry.mk (0) (0) (0))
def page_tens (low_ : Int) : Option (api_Entry) :=
  if (low_ == 2) = true then
    some (api_Entry.mk (39) (0) (0))
  else
    if (low_ == 3) = true then
      some (api_Entry.mk (40) (0) (0))
    else
      if (low_ == 6) = true then
        some (api_Entry.mk (36) (7) (0))
      else
        if (low_ == 7) = true then
          some (api_Entry.mk (38) (7) (0))
        else
          if (low_ == 9) = true then
            some (api_Entry.mk (42) (0) (0))
          else
            if (low_ == 10) = true then
              some (api_Entry.mk (43) (1) (0))
            else
              if (low_ == 12) = true then
                some (api_Entry.mk (44) (1) (0))
              else
                if (low_ == 13) = true then
                  some (api_Entry.mk (45) (0) (0))
                else
                  if (low_ == 14) = true then
                    some (api_Entry.mk (46) (8) (0))
                  else
                    if (low_ == 15) = true then
                      some (api_Entry.mk (47) (8) (0))
                    else
                      some (api_Entry.mk (0) (0) (0))
def page_thirties_j0 (low_ : Int) (t_2 : Bool) : Option (api_Entry) :=
  if t_2 = true then
    some (api_Entry.mk (31) (9) (IntKind.wrap .i64 (4 - (IntKind.wrap .i64 (Int.tdiv (IntKind.wrap .i64 (IntKind.wrap .u8 (low_ - 5))) 2)))))
  else
    if (low_ == 9) = true then
      some (api_Entry.mk (48) (0) (0))
    else
      if (low_ == 10) = true then
        some (api_Entry.mk (1) (0) (0))
      else
        if (low_ == 11) = true then
          some (api_Entry.mk (49) (0) (0))
        else
          if (low_ == 12) = true then
            some (api_Entry.mk (41) (1) (0))
          else
            if (low_ == 13) = true then
              some (api_Entry.mk (50) (0) (0))
            else
              if (low_ == 15) = true then
                some (api_Entry.mk (51) (0) (1))
              else
                some (api_Entry.mk (0) (0) (0))
def page_thirties_j1 (low_ : Int) (t_1 : Bool) : Option (api_Entry) :=
  if t_1 = true then
    some (api_Entry.mk (30) (9) (IntKind.wrap .i64 (4 - (IntKind.wrap .i64 (Int.tdiv (IntKind.wrap .i64 (IntKind.wrap .u8 (low_ - 4))) 2)))))
  else
    if (low_ == 5) = true then
      page_thirties_j0 low_ (low_ == 5)
    else
      page_thirties_j0 low_ (low_ == 7)
def page_thirties_j2 (low_ : Int) (t_ : Bool) : Option (api_Entry) :=
  if t_ = true then
    if 0 ≤ (low_ : Int) ∧ low_ < (4 : Int) then
    some (api_Entry.mk (29) (4) (gt [1, 2, 4, 3] low_))
    else none
  else
    if (low_ == 4) = true then
      page_thirties_j1 low_ (low_ == 4)
    else
      page_thirties_j1 low_ (low_ == 6)
def page_thirties (low_ : Int) : Option (api_Entry) :=
  if (low_ == 0) = true then
    page_thirties_j2 low_ (low_ == 0)
  else
    if (low_ == 1) = true then
      page_thirties_j2 low_ (low_ == 1)
    else
      if (low_ == 2) = true then
        page_thirties_j2 low_ (low_ == 2)
      else
        page_thirties_j2 low_ (low_ == 3)
def page_inside (low_ : Int) (reg_ : Int) : Option (api_Entry) :=
  (page_change low_).bind fun r_ =>
  if (r_ != 0) = true then
    some (api_Entry.mk r_ (0) reg_)
  else
    some (api_Entry.mk (0) (0) (0))
def page_wide_j0 (op_ : Int) (reg_ : Int) (t_ : Int) : Option (api_Entry) :=
  some (api_Entry.mk op_ t_ reg_)
def page_wide (op_ : Int) (mode_ : Int) (reg_ : Int) : Option (api_Entry) :=
  if (mode_ == 1) = true then
    if (op_ == 25) = true then
      some (api_Entry.mk (0) (0) (0))
    else
      page_wide_j0 op_ reg_ (2)
  else
    page_wide_j0 op_ reg_ mode_
def page_column (high_ : Int) : Option (Int) :=
  if 0 ≤ ((bits .and .u8 high_ 3) : Int) ∧ (bits .and .u8 high_ 3) < (4 : Int) then
  some (gt [1, 3, 4, 5] (bits .and .u8 high_ 3))
  else none
def page_eight (low_ : Int) : Option (Int) :=
  if (low_ == 0) = true then
    some (10)
  else
    if (low_ == 1) = true then
      some (6)
    else
      if (low_ == 2) = true then
        some (9)
      else
        if (low_ == 4) = true then
          some (4)
        else
          if (low_ == 5) = true then
            some (5)
          else
            if (low_ == 6) = true then
              some (11)
            else
              if (low_ == 7) = true then
                some (12)
              else
                if (low_ == 8) = true then
                  some (7)
                else
                  if (low_ == 9) = true then
                    some (2)
                  else
                    if (low_ == 10) = true then
                      some (8)
                    else
                      if (low_ == 11) = true then
                        some (3)
                      else
                        some (0)
def page_columns (high_ : Int) (low_ : Int) : Option (api_Entry) :=
  (page_column high_).bind fun r_ =>
  (page_eight low_).bind fun r_1 =>
  if (r_1 != 0) = true then
    if ((r_1 == 12) && (r_ == 1)) = true then
      some (api_Entry.mk (0) (0) (0))
    else
      if (decide (11 < high_)) = true then
        some (api_Entry.mk r_1 r_ (9))
      else
        some (api_Entry.mk r_1 r_ (8))
  else
    if (decide (11 < high_)) = true then
      if (low_ == 3) = true then
        (page_wide (26) r_ (0)).bind fun r_2 =>
        some r_2
      else
        if (low_ == 12) = true then
          (page_wide (24) r_ (0)).bind fun r_3 =>
          some r_3
        else
          if (low_ == 13) = true then
            (page_wide (25) r_ (0)).bind fun r_4 =>
            some r_4
          else
            if (low_ == 14) = true then
              (page_wide (24) r_ (3)).bind fun r_5 =>
              some r_5
            else
              (page_wide (25) r_ (3)).bind fun r_6 =>
              some r_6
    else
      if (low_ == 3) = true then
        (page_wide (27) r_ (0)).bind fun r_7 =>
        some r_7
      else
        if (low_ == 12) = true then
          (page_wide (28) r_ (1)).bind fun r_8 =>
          some r_8
        else
          if (low_ == 14) = true then
            (page_wide (24) r_ (1)).bind fun r_9 =>
            some r_9
          else
            if (low_ == 15) = true then
              (page_wide (25) r_ (1)).bind fun r_10 =>
              some r_10
            else
              if (r_ == 1) = true then
                some (api_Entry.mk (37) (6) (0))
              else
                some (api_Entry.mk (33) r_ (0))
def page_first (code_ : Int) : Option (api_Entry) :=
  if ((Int.fdiv code_ (2 ^ (4))) == 0) = true then
    (page_memory (bits .and .u8 code_ 15) (3)).bind fun r_ =>
    some r_
  else
    if ((Int.fdiv code_ (2 ^ (4))) == 1) = true then
      (page_tens (bits .and .u8 code_ 15)).bind fun r_1 =>
      some r_1
    else
      if ((Int.fdiv code_ (2 ^ (4))) == 2) = true then
        some (api_Entry.mk (34) (6) (IntKind.wrap .i64 (bits .and .u8 code_ 15)))
      else
        if ((Int.fdiv code_ (2 ^ (4))) == 3) = true then
          (page_thirties (bits .and .u8 code_ 15)).bind fun r_2 =>
          some r_2
        else
          if ((Int.fdiv code_ (2 ^ (4))) == 4) = true then
            (page_inside (bits .and .u8 code_ 15) (8)).bind fun r_3 =>
            some r_3
          else
            if ((Int.fdiv code_ (2 ^ (4))) == 5) = true then
              (page_inside (bits .and .u8 code_ 15) (9)).bind fun r_4 =>
              some r_4
            else
              if ((Int.fdiv code_ (2 ^ (4))) == 6) = true then
                (page_memory (bits .and .u8 code_ 15) (4)).bind fun r_5 =>
                some r_5
              else
                if ((Int.fdiv code_ (2 ^ (4))) == 7) = true then
                  (page_memory (bits .and .u8 code_ 15) (5)).bind fun r_6 =>
                  some r_6
                else
                  (page_columns (Int.fdiv code_ (2 ^ (4))) (bits .and .u8 code_ 15)).bind fun r_7 =>
                  some r_7
def page_second (code_ : Int) : Option (api_Entry) :=
  if (((Int.fdiv code_ (2 ^ (4))) == 2) && (decide (0 < (bits .and .u8 code_ 15)))) = true then
    some (api_Entry.mk (35) (7) (IntKind.wrap .i64 (bits .and .u8 code_ 15)))
  else
    if (((decide (8 ≤ (Int.fdiv code_ (2 ^ (4))))) && (decide ((Int.fdiv code_ (2 ^ (4))) < 12))) && ((bits .and .u8 code_ 15) == 3)) = true then
      (page_column (Int.fdiv code_ (2 ^ (4)))).bind fun r_ =>
      (page_wide (28) r_ (0)).bind fun r_1 =>
      some r_1
    else
      if (((decide (8 ≤ (Int.fdiv code_ (2 ^ (4))))) && (decide ((Int.fdiv code_ (2 ^ (4))) < 12))) && ((bits .and .u8 code_ 15) == 12)) = true then
        (page_column (Int.fdiv code_ (2 ^ (4)))).bind fun r_2 =>
        (page_wide (28) r_2 (2)).bind fun r_3 =>
        some r_3
      else
        if (((decide (8 ≤ (Int.fdiv code_ (2 ^ (4))))) && (decide ((Int.fdiv code_ (2 ^ (4))) < 12))) && ((bits .and .u8 code_ 15) == 14)) = true then
          (page_column (Int.fdiv code_ (2 ^ (4)))).bind fun r_4 =>
          (page_wide (24) r_4 (2)).bind fun r_5 =>
          some r_5
        else
          if (((decide (8 ≤ (Int.fdiv code_ (2 ^ (4))))) && (decide ((Int.fdiv code_ (2 ^ (4))) < 12))) && ((bits .and .u8 code_ 15) == 15)) = true then
            (page_column (Int.fdiv code_ (2 ^ (4)))).bind fun r_6 =>
            (page_wide (25) r_6 (2)).bind fun r_7 =>
            some r_7
          else
            if ((decide (12 ≤ (Int.fdiv code_ (2 ^ (4))))) && ((bits .and .u8 code_ 15) == 14)) = true then
              (page_column (Int.fdiv code_ (2 ^ (4)))).bind fun r_8 =>
              (page_wide (24) r_8 (4)).bind fun r_9 =>
              some r_9
            else
              if ((decide (12 ≤ (Int.fdiv code_ (2 ^ (4))))) && ((bits .and .u8 code_ 15) == 15)) = true then
                (page_column (Int.fdiv code_ (2 ^ (4)))).bind fun r_10 =>
                (page_wide (25) r_10 (4)).bind fun r_11 =>
                some r_11
              else
                some (api_Entry.mk (0) (0) (0))
def page_third (code_ : Int) : Option (api_Entry) :=
  if (((decide (8 ≤ (Int.fdiv code_ (2 ^ (4))))) && (decide ((Int.fdiv code_ (2 ^ (4))) < 12))) && ((bits .and .u8 code_ 15) == 3)) = true then
    (page_column (Int.fdiv code_ (2 ^ (4)))).bind fun r_ =>
    (page_wide (28) r_ (3)).bind fun r_1 =>
    some r_1
  else
    if (((decide (8 ≤ (Int.fdiv code_ (2 ^ (4))))) && (decide ((Int.fdiv code_ (2 ^ (4))) < 12))) && ((bits .and .u8 code_ 15) == 12)) = true then
      (page_column (Int.fdiv code_ (2 ^ (4)))).bind fun r_2 =>
      (page_wide (28) r_2 (4)).bind fun r_3 =>
      some r_3
    else
      some (api_Entry.mk (0) (0) (0))
def page_Of (page_ : Int) (code_ : Int) : Option (api_Entry) :=
  if (((page_ == 2) || (page_ == 3)) && (code_ == 63)) = true then
    some (api_Entry.mk (51) (0) page_)
  else
    if (page_ == 1) = true then
      (page_first code_).bind fun r_ =>
      some r_
    else
      if (page_ == 2) = true then
        (page_second code_).bind fun r_1 =>
        some r_1
      else
        if (page_ == 3) = true then
          (page_third code_).bind fun r_2 =>
          some r_2
        else
          some (api_Entry.mk (0) (0) (0))
def page_Find_l3 (e_ : api_Entry) (page_1 : Int) : Nat → Int → Option (Out (Int × Int × Bool) (Int × Bool))
  | 0, _ => none
  | k + 1, t_9 =>
    if (decide (t_9 < 256)) = true then
      (page_Of page_1 (IntKind.wrap .u8 t_9)).bind fun r_8 =>
      if ((r_8.Op == e_.Op) && ((r_8.Mode == e_.Mode) && ((r_8.Reg == e_.Reg) && true))) = true then
        some (.ret (page_1, (IntKind.wrap .u8 t_9), true))
      else
        page_Find_l3 e_ page_1 k (IntKind.wrap .i64 (t_9 + 1))
    else
      some (.go (t_9, (decide (t_9 < 256))))
def page_Find_l2 (e_ : api_Entry) : Nat → Int → Option (Out (Int × Int × Bool) (Unit))
  | 0, _ => none
  | k + 1, page_1 =>
    if ((decide (page_1 ≤ 3)) && (e_.Op != 0)) = true then
      (page_Find_l3 e_ page_1 BIG (0)).bind fun o => match o with
        | .ret r => some (.ret r)
        | .go (t_10, t_11) =>
          page_Find_l2 e_ k (IntKind.wrap .i64 (page_1 + 1))
    else
      some (.go ())
def page_Find (e_ : api_Entry) : Option (Int × Int × Bool) :=
  (page_Find_l2 e_ BIG (1)).bind fun o => match o with
    | .ret r => some r
    | .go _ =>
      some (0, 0, false)
def spinetref14_columns_j0 (rec : (List A5_i64) → Int → Option (List A5_i64)) (l_2 : (List A5_i64)) (i_2 : Int) (imm_3 : Int) : Option (List A5_i64) :=
  if 0 ≤ (i_2 : Int) ∧ i_2 < (11 : Int) then
  if 0 ≤ (i_2 : Int) ∧ i_2 < (11 : Int) then
  if 0 ≤ (i_2 : Int) ∧ i_2 < (11 : Int) then
  if 0 ≤ (i_2 : Int) ∧ i_2 < (11 : Int) then
  if (l_2.length + [(A5_i64.mk ((gt [(A2_i64.mk (10) (128)), (A2_i64.mk (6) (129)), (A2_i64.mk (9) (130)), (A2_i64.mk (4) (132)), (A2_i64.mk (5) (133)), (A2_i64.mk (11) (134)), (A2_i64.mk (12) (135)), (A2_i64.mk (7) (136)), (A2_i64.mk (2) (137)), (A2_i64.mk (8) (138)), (A2_i64.mk (3) (139))] i_2).a0) (8) (1) ((gt [(A2_i64.mk (10) (128)), (A2_i64.mk (6) (129)), (A2_i64.mk (9) (130)), (A2_i64.mk (4) (132)), (A2_i64.mk (5) (133)), (A2_i64.mk (11) (134)), (A2_i64.mk (12) (135)), (A2_i64.mk (7) (136)), (A2_i64.mk (2) (137)), (A2_i64.mk (8) (138)), (A2_i64.mk (3) (139))] i_2).a1) imm_3), (A5_i64.mk ((gt [(A2_i64.mk (10) (128)), (A2_i64.mk (6) (129)), (A2_i64.mk (9) (130)), (A2_i64.mk (4) (132)), (A2_i64.mk (5) (133)), (A2_i64.mk (11) (134)), (A2_i64.mk (12) (135)), (A2_i64.mk (7) (136)), (A2_i64.mk (2) (137)), (A2_i64.mk (8) (138)), (A2_i64.mk (3) (139))] i_2).a0) (9) (1) (IntKind.wrap .i64 ((gt [(A2_i64.mk (10) (128)), (A2_i64.mk (6) (129)), (A2_i64.mk (9) (130)), (A2_i64.mk (4) (132)), (A2_i64.mk (5) (133)), (A2_i64.mk (11) (134)), (A2_i64.mk (12) (135)), (A2_i64.mk (7) (136)), (A2_i64.mk (2) (137)), (A2_i64.mk (8) (138)), (A2_i64.mk (3) (139))] i_2).a1 + 64)) imm_3)].length) * 40 ≤ 140737488355328 then
  rec (l_2 ++ [(A5_i64.mk ((gt [(A2_i64.mk (10) (128)), (A2_i64.mk (6) (129)), (A2_i64.mk (9) (130)), (A2_i64.mk (4) (132)), (A2_i64.mk (5) (133)), (A2_i64.mk (11) (134)), (A2_i64.mk (12) (135)), (A2_i64.mk (7) (136)), (A2_i64.mk (2) (137)), (A2_i64.mk (8) (138)), (A2_i64.mk (3) (139))] i_2).a0) (8) (1) ((gt [(A2_i64.mk (10) (128)), (A2_i64.mk (6) (129)), (A2_i64.mk (9) (130)), (A2_i64.mk (4) (132)), (A2_i64.mk (5) (133)), (A2_i64.mk (11) (134)), (A2_i64.mk (12) (135)), (A2_i64.mk (7) (136)), (A2_i64.mk (2) (137)), (A2_i64.mk (8) (138)), (A2_i64.mk (3) (139))] i_2).a1) imm_3), (A5_i64.mk ((gt [(A2_i64.mk (10) (128)), (A2_i64.mk (6) (129)), (A2_i64.mk (9) (130)), (A2_i64.mk (4) (132)), (A2_i64.mk (5) (133)), (A2_i64.mk (11) (134)), (A2_i64.mk (12) (135)), (A2_i64.mk (7) (136)), (A2_i64.mk (2) (137)), (A2_i64.mk (8) (138)), (A2_i64.mk (3) (139))] i_2).a0) (9) (1) (IntKind.wrap .i64 ((gt [(A2_i64.mk (10) (128)), (A2_i64.mk (6) (129)), (A2_i64.mk (9) (130)), (A2_i64.mk (4) (132)), (A2_i64.mk (5) (133)), (A2_i64.mk (11) (134)), (A2_i64.mk (12) (135)), (A2_i64.mk (7) (136)), (A2_i64.mk (2) (137)), (A2_i64.mk (8) (138)), (A2_i64.mk (3) (139))] i_2).a1 + 64)) imm_3)]) (IntKind.wrap .i64 (i_2 + 1))
  else none
  else none
  else none
  else none
  else none
def spinetref14_columns_l0 : Nat → (List A5_i64) → Int → Option (List A5_i64)
  | 0, _, _ => none
  | k + 1, l_2, i_2 =>
    if (decide (i_2 < 11)) = true then
      if 0 ≤ (i_2 : Int) ∧ i_2 < (11 : Int) then
      if ((gt [(A2_i64.mk (10) (128)), (A2_i64.mk (6) (129)), (A2_i64.mk (9) (130)), (A2_i64.mk (4) (132)), (A2_i64.mk (5) (133)), (A2_i64.mk (11) (134)), (A2_i64.mk (12) (135)), (A2_i64.mk (7) (136)), (A2_i64.mk (2) (137)), (A2_i64.mk (8) (138)), (A2_i64.mk (3) (139))] i_2).a0 == 12) = true then
        spinetref14_columns_j0 (spinetref14_columns_l0 k) l_2 i_2 (0)
      else
        spinetref14_columns_j0 (spinetref14_columns_l0 k) l_2 i_2 (1)
      else none
    else
      some l_2
def spinetref14_columns : Option ((List A5_i64)) :=
  (spinetref14_columns_l0 BIG [(A5_i64.mk (27) (0) (1) (131) (2)), (A5_i64.mk (28) (1) (1) (140) (2)), (A5_i64.mk (24) (1) (1) (142) (2)), (A5_i64.mk (25) (1) (1) (143) (0)), (A5_i64.mk (26) (0) (1) (195) (2)), (A5_i64.mk (24) (0) (1) (204) (2)), (A5_i64.mk (25) (0) (1) (205) (0)), (A5_i64.mk (24) (3) (1) (206) (2)), (A5_i64.mk (25) (3) (1) (207) (0)), (A5_i64.mk (33) (0) (1) (141) (0)), (A5_i64.mk (28) (0) (2) (131) (2)), (A5_i64.mk (28) (2) (2) (140) (2)), (A5_i64.mk (24) (2) (2) (142) (2)), (A5_i64.mk (25) (2) (2) (143) (0)), (A5_i64.mk (24) (4) (2) (206) (2)), (A5_i64.mk (25) (4) (2) (207) (0)), (A5_i64.mk (28) (3) (3) (131) (2)), (A5_i64.mk (28) (4) (3) (140) (2))] (0)).bind fun l_3 =>
  some l_3
def spinetref14_add (l_ : (List spinetref14_Known)) (page_ : Int) (code_ : Int) (op_ : Int) (mode_ : Int) (reg_ : Int) : Option ((List spinetref14_Known)) :=
  if (l_.length + [(spinetref14_Known.mk page_ code_ (api_Entry.mk op_ mode_ reg_))].length) * 40 ≤ 140737488355328 then
  some (l_ ++ [(spinetref14_Known.mk page_ code_ (api_Entry.mk op_ mode_ reg_))])
  else none
def spinetref14_All_j0 (rec : (List spinetref14_Known) → Int → Option (List spinetref14_Known)) (r_ : ((List A5_i64))) (i_1 : Int) (l_5 : (List spinetref14_Known)) : Option (List spinetref14_Known) :=
  (spinetref14_add l_5 ((gt r_ i_1).a2) (IntKind.wrap .i64 ((gt r_ i_1).a3 + 16)) ((gt r_ i_1).a0) (3) ((gt r_ i_1).a1)).bind fun r_10 =>
  (spinetref14_add r_10 ((gt r_ i_1).a2) (IntKind.wrap .i64 ((gt r_ i_1).a3 + 32)) ((gt r_ i_1).a0) (4) ((gt r_ i_1).a1)).bind fun r_11 =>
  (spinetref14_add r_11 ((gt r_ i_1).a2) (IntKind.wrap .i64 ((gt r_ i_1).a3 + 48)) ((gt r_ i_1).a0) (5) ((gt r_ i_1).a1)).bind fun r_12 =>
  rec r_12 (IntKind.wrap .i64 (i_1 + 1))
def spinetref14_All_l0 (r_ : ((List A5_i64))) : Nat → (List spinetref14_Known) → Int → Option (List spinetref14_Known)
  | 0, _, _ => none
  | k + 1, l_3, i_1 =>
    if (decide (i_1 < (ln r_))) = true then
      if 0 ≤ (i_1 : Int) ∧ i_1 < ln r_ then
      if (decide (0 < (gt r_ i_1).a4)) = true then
        (spinetref14_add l_3 ((gt r_ i_1).a2) ((gt r_ i_1).a3) ((gt r_ i_1).a0) ((gt r_ i_1).a4) ((gt r_ i_1).a1)).bind fun r_9 =>
        spinetref14_All_j0 (spinetref14_All_l0 r_ k) r_ i_1 r_9
      else
        spinetref14_All_j0 (spinetref14_All_l0 r_ k) r_ i_1 l_3
      else none
    else
      some l_3
def spinetref14_All_l1 : Nat → (List spinetref14_Known) → Int → Option (List spinetref14_Known)
  | 0, _, _ => none
  | k + 1, l_8, i_4 =>
    if (decide (i_4 < 12)) = true then
      if 0 ≤ (i_4 : Int) ∧ i_4 < (12 : Int) then
      if 0 ≤ (i_4 : Int) ∧ i_4 < (12 : Int) then
      (spinetref14_add l_8 (1) ((gt [(A2_i64.mk (13) (0)), (A2_i64.mk (14) (3)), (A2_i64.mk (15) (4)), (A2_i64.mk (16) (6)), (A2_i64.mk (17) (7)), (A2_i64.mk (18) (8)), (A2_i64.mk (19) (9)), (A2_i64.mk (20) (10)), (A2_i64.mk (21) (12)), (A2_i64.mk (22) (13)), (A2_i64.mk (23) (15)), (A2_i64.mk (32) (14))] i_4).a1) ((gt [(A2_i64.mk (13) (0)), (A2_i64.mk (14) (3)), (A2_i64.mk (15) (4)), (A2_i64.mk (16) (6)), (A2_i64.mk (17) (7)), (A2_i64.mk (18) (8)), (A2_i64.mk (19) (9)), (A2_i64.mk (20) (10)), (A2_i64.mk (21) (12)), (A2_i64.mk (22) (13)), (A2_i64.mk (23) (15)), (A2_i64.mk (32) (14))] i_4).a0) (3) (0)).bind fun r_28 =>
      (spinetref14_add r_28 (1) (IntKind.wrap .i64 ((gt [(A2_i64.mk (13) (0)), (A2_i64.mk (14) (3)), (A2_i64.mk (15) (4)), (A2_i64.mk (16) (6)), (A2_i64.mk (17) (7)), (A2_i64.mk (18) (8)), (A2_i64.mk (19) (9)), (A2_i64.mk (20) (10)), (A2_i64.mk (21) (12)), (A2_i64.mk (22) (13)), (A2_i64.mk (23) (15)), (A2_i64.mk (32) (14))] i_4).a1 + 96)) ((gt [(A2_i64.mk (13) (0)), (A2_i64.mk (14) (3)), (A2_i64.mk (15) (4)), (A2_i64.mk (16) (6)), (A2_i64.mk (17) (7)), (A2_i64.mk (18) (8)), (A2_i64.mk (19) (9)), (A2_i64.mk (20) (10)), (A2_i64.mk (21) (12)), (A2_i64.mk (22) (13)), (A2_i64.mk (23) (15)), (A2_i64.mk (32) (14))] i_4).a0) (4) (0)).bind fun r_29 =>
      (spinetref14_add r_29 (1) (IntKind.wrap .i64 ((gt [(A2_i64.mk (13) (0)), (A2_i64.mk (14) (3)), (A2_i64.mk (15) (4)), (A2_i64.mk (16) (6)), (A2_i64.mk (17) (7)), (A2_i64.mk (18) (8)), (A2_i64.mk (19) (9)), (A2_i64.mk (20) (10)), (A2_i64.mk (21) (12)), (A2_i64.mk (22) (13)), (A2_i64.mk (23) (15)), (A2_i64.mk (32) (14))] i_4).a1 + 112)) ((gt [(A2_i64.mk (13) (0)), (A2_i64.mk (14) (3)), (A2_i64.mk (15) (4)), (A2_i64.mk (16) (6)), (A2_i64.mk (17) (7)), (A2_i64.mk (18) (8)), (A2_i64.mk (19) (9)), (A2_i64.mk (20) (10)), (A2_i64.mk (21) (12)), (A2_i64.mk (22) (13)), (A2_i64.mk (23) (15)), (A2_i64.mk (32) (14))] i_4).a0) (5) (0)).bind fun r_30 =>
      if ((gt [(A2_i64.mk (13) (0)), (A2_i64.mk (14) (3)), (A2_i64.mk (15) (4)), (A2_i64.mk (16) (6)), (A2_i64.mk (17) (7)), (A2_i64.mk (18) (8)), (A2_i64.mk (19) (9)), (A2_i64.mk (20) (10)), (A2_i64.mk (21) (12)), (A2_i64.mk (22) (13)), (A2_i64.mk (23) (15)), (A2_i64.mk (32) (14))] i_4).a0 != 32) = true then
        (spinetref14_add r_30 (1) (IntKind.wrap .i64 ((gt [(A2_i64.mk (13) (0)), (A2_i64.mk (14) (3)), (A2_i64.mk (15) (4)), (A2_i64.mk (16) (6)), (A2_i64.mk (17) (7)), (A2_i64.mk (18) (8)), (A2_i64.mk (19) (9)), (A2_i64.mk (20) (10)), (A2_i64.mk (21) (12)), (A2_i64.mk (22) (13)), (A2_i64.mk (23) (15)), (A2_i64.mk (32) (14))] i_4).a1 + 64)) ((gt [(A2_i64.mk (13) (0)), (A2_i64.mk (14) (3)), (A2_i64.mk (15) (4)), (A2_i64.mk (16) (6)), (A2_i64.mk (17) (7)), (A2_i64.mk (18) (8)), (A2_i64.mk (19) (9)), (A2_i64.mk (20) (10)), (A2_i64.mk (21) (12)), (A2_i64.mk (22) (13)), (A2_i64.mk (23) (15)), (A2_i64.mk (32) (14))] i_4).a0) (0) (8)).bind fun r_31 =>
        (spinetref14_add r_31 (1) (IntKind.wrap .i64 ((gt [(A2_i64.mk (13) (0)), (A2_i64.mk (14) (3)), (A2_i64.mk (15) (4)), (A2_i64.mk (16) (6)), (A2_i64.mk (17) (7)), (A2_i64.mk (18) (8)), (A2_i64.mk (19) (9)), (A2_i64.mk (20) (10)), (A2_i64.mk (21) (12)), (A2_i64.mk (22) (13)), (A2_i64.mk (23) (15)), (A2_i64.mk (32) (14))] i_4).a1 + 80)) ((gt [(A2_i64.mk (13) (0)), (A2_i64.mk (14) (3)), (A2_i64.mk (15) (4)), (A2_i64.mk (16) (6)), (A2_i64.mk (17) (7)), (A2_i64.mk (18) (8)), (A2_i64.mk (19) (9)), (A2_i64.mk (20) (10)), (A2_i64.mk (21) (12)), (A2_i64.mk (22) (13)), (A2_i64.mk (23) (15)), (A2_i64.mk (32) (14))] i_4).a0) (0) (9)).bind fun r_32 =>
        spinetref14_All_l1 k r_32 (IntKind.wrap .i64 (i_4 + 1))
      else
        spinetref14_All_l1 k r_30 (IntKind.wrap .i64 (i_4 + 1))
      else none
      else none
    else
      some l_8
def spinetref14_All_l2 : Nat → (List spinetref14_Known) → Int → Option (List spinetref14_Known)
  | 0, _, _ => none
  | k + 1, l_11, n_1 =>
    if (decide (n_1 < 16)) = true then
      (spinetref14_add l_11 (1) (IntKind.wrap .i64 (32 + n_1)) (34) (6) n_1).bind fun r_37 =>
      if (decide (0 < n_1)) = true then
        (spinetref14_add r_37 (2) (IntKind.wrap .i64 (32 + n_1)) (35) (7) n_1).bind fun r_38 =>
        spinetref14_All_l2 k r_38 (IntKind.wrap .i64 (n_1 + 1))
      else
        spinetref14_All_l2 k r_37 (IntKind.wrap .i64 (n_1 + 1))
    else
      some l_11
def spinetref14_All_l3 : Nat → (List spinetref14_Known) → Int → Option (List spinetref14_Known)
  | 0, _, _ => none
  | k + 1, l_15, i_7 =>
    if (decide (i_7 < 27)) = true then
      if 0 ≤ (i_7 : Int) ∧ i_7 < (27 : Int) then
      (spinetref14_add l_15 ((gt [(A5_i64.mk (1) (18) (39) (0) (0)), (A5_i64.mk (1) (19) (40) (0) (0)), (A5_i64.mk (1) (25) (42) (0) (0)), (A5_i64.mk (1) (29) (45) (0) (0)), (A5_i64.mk (1) (57) (48) (0) (0)), (A5_i64.mk (1) (58) (1) (0) (0)), (A5_i64.mk (1) (59) (49) (0) (0)), (A5_i64.mk (1) (61) (50) (0) (0)), (A5_i64.mk (1) (63) (51) (0) (1)), (A5_i64.mk (2) (63) (51) (0) (2)), (A5_i64.mk (3) (63) (51) (0) (3)), (A5_i64.mk (1) (26) (43) (1) (0)), (A5_i64.mk (1) (28) (44) (1) (0)), (A5_i64.mk (1) (60) (41) (1) (0)), (A5_i64.mk (1) (30) (46) (8) (0)), (A5_i64.mk (1) (31) (47) (8) (0)), (A5_i64.mk (1) (52) (30) (9) (4)), (A5_i64.mk (1) (53) (31) (9) (4)), (A5_i64.mk (1) (54) (30) (9) (3)), (A5_i64.mk (1) (55) (31) (9) (3)), (A5_i64.mk (1) (48) (29) (4) (1)), (A5_i64.mk (1) (49) (29) (4) (2)), (A5_i64.mk (1) (50) (29) (4) (4)), (A5_i64.mk (1) (51) (29) (4) (3)), (A5_i64.mk (1) (141) (37) (6) (0)), (A5_i64.mk (1) (22) (36) (7) (0)), (A5_i64.mk (1) (23) (38) (7) (0))] i_7).a0) ((gt [(A5_i64.mk (1) (18) (39) (0) (0)), (A5_i64.mk (1) (19) (40) (0) (0)), (A5_i64.mk (1) (25) (42) (0) (0)), (A5_i64.mk (1) (29) (45) (0) (0)), (A5_i64.mk (1) (57) (48) (0) (0)), (A5_i64.mk (1) (58) (1) (0) (0)), (A5_i64.mk (1) (59) (49) (0) (0)), (A5_i64.mk (1) (61) (50) (0) (0)), (A5_i64.mk (1) (63) (51) (0) (1)), (A5_i64.mk (2) (63) (51) (0) (2)), (A5_i64.mk (3) (63) (51) (0) (3)), (A5_i64.mk (1) (26) (43) (1) (0)), (A5_i64.mk (1) (28) (44) (1) (0)), (A5_i64.mk (1) (60) (41) (1) (0)), (A5_i64.mk (1) (30) (46) (8) (0)), (A5_i64.mk (1) (31) (47) (8) (0)), (A5_i64.mk (1) (52) (30) (9) (4)), (A5_i64.mk (1) (53) (31) (9) (4)), (A5_i64.mk (1) (54) (30) (9) (3)), (A5_i64.mk (1) (55) (31) (9) (3)), (A5_i64.mk (1) (48) (29) (4) (1)), (A5_i64.mk (1) (49) (29) (4) (2)), (A5_i64.mk (1) (50) (29) (4) (4)), (A5_i64.mk (1) (51) (29) (4) (3)), (A5_i64.mk (1) (141) (37) (6) (0)), (A5_i64.mk (1) (22) (36) (7) (0)), (A5_i64.mk (1) (23) (38) (7) (0))] i_7).a1) ((gt [(A5_i64.mk (1) (18) (39) (0) (0)), (A5_i64.mk (1) (19) (40) (0) (0)), (A5_i64.mk (1) (25) (42) (0) (0)), (A5_i64.mk (1) (29) (45) (0) (0)), (A5_i64.mk (1) (57) (48) (0) (0)), (A5_i64.mk (1) (58) (1) (0) (0)), (A5_i64.mk (1) (59) (49) (0) (0)), (A5_i64.mk (1) (61) (50) (0) (0)), (A5_i64.mk (1) (63) (51) (0) (1)), (A5_i64.mk (2) (63) (51) (0) (2)), (A5_i64.mk (3) (63) (51) (0) (3)), (A5_i64.mk (1) (26) (43) (1) (0)), (A5_i64.mk (1) (28) (44) (1) (0)), (A5_i64.mk (1) (60) (41) (1) (0)), (A5_i64.mk (1) (30) (46) (8) (0)), (A5_i64.mk (1) (31) (47) (8) (0)), (A5_i64.mk (1) (52) (30) (9) (4)), (A5_i64.mk (1) (53) (31) (9) (4)), (A5_i64.mk (1) (54) (30) (9) (3)), (A5_i64.mk (1) (55) (31) (9) (3)), (A5_i64.mk (1) (48) (29) (4) (1)), (A5_i64.mk (1) (49) (29) (4) (2)), (A5_i64.mk (1) (50) (29) (4) (4)), (A5_i64.mk (1) (51) (29) (4) (3)), (A5_i64.mk (1) (141) (37) (6) (0)), (A5_i64.mk (1) (22) (36) (7) (0)), (A5_i64.mk (1) (23) (38) (7) (0))] i_7).a2) ((gt [(A5_i64.mk (1) (18) (39) (0) (0)), (A5_i64.mk (1) (19) (40) (0) (0)), (A5_i64.mk (1) (25) (42) (0) (0)), (A5_i64.mk (1) (29) (45) (0) (0)), (A5_i64.mk (1) (57) (48) (0) (0)), (A5_i64.mk (1) (58) (1) (0) (0)), (A5_i64.mk (1) (59) (49) (0) (0)), (A5_i64.mk (1) (61) (50) (0) (0)), (A5_i64.mk (1) (63) (51) (0) (1)), (A5_i64.mk (2) (63) (51) (0) (2)), (A5_i64.mk (3) (63) (51) (0) (3)), (A5_i64.mk (1) (26) (43) (1) (0)), (A5_i64.mk (1) (28) (44) (1) (0)), (A5_i64.mk (1) (60) (41) (1) (0)), (A5_i64.mk (1) (30) (46) (8) (0)), (A5_i64.mk (1) (31) (47) (8) (0)), (A5_i64.mk (1) (52) (30) (9) (4)), (A5_i64.mk (1) (53) (31) (9) (4)), (A5_i64.mk (1) (54) (30) (9) (3)), (A5_i64.mk (1) (55) (31) (9) (3)), (A5_i64.mk (1) (48) (29) (4) (1)), (A5_i64.mk (1) (49) (29) (4) (2)), (A5_i64.mk (1) (50) (29) (4) (4)), (A5_i64.mk (1) (51) (29) (4) (3)), (A5_i64.mk (1) (141) (37) (6) (0)), (A5_i64.mk (1) (22) (36) (7) (0)), (A5_i64.mk (1) (23) (38) (7) (0))] i_7).a3) ((gt [(A5_i64.mk (1) (18) (39) (0) (0)), (A5_i64.mk (1) (19) (40) (0) (0)), (A5_i64.mk (1) (25) (42) (0) (0)), (A5_i64.mk (1) (29) (45) (0) (0)), (A5_i64.mk (1) (57) (48) (0) (0)), (A5_i64.mk (1) (58) (1) (0) (0)), (A5_i64.mk (1) (59) (49) (0) (0)), (A5_i64.mk (1) (61) (50) (0) (0)), (A5_i64.mk (1) (63) (51) (0) (1)), (A5_i64.mk (2) (63) (51) (0) (2)), (A5_i64.mk (3) (63) (51) (0) (3)), (A5_i64.mk (1) (26) (43) (1) (0)), (A5_i64.mk (1) (28) (44) (1) (0)), (A5_i64.mk (1) (60) (41) (1) (0)), (A5_i64.mk (1) (30) (46) (8) (0)), (A5_i64.mk (1) (31) (47) (8) (0)), (A5_i64.mk (1) (52) (30) (9) (4)), (A5_i64.mk (1) (53) (31) (9) (4)), (A5_i64.mk (1) (54) (30) (9) (3)), (A5_i64.mk (1) (55) (31) (9) (3)), (A5_i64.mk (1) (48) (29) (4) (1)), (A5_i64.mk (1) (49) (29) (4) (2)), (A5_i64.mk (1) (50) (29) (4) (4)), (A5_i64.mk (1) (51) (29) (4) (3)), (A5_i64.mk (1) (141) (37) (6) (0)), (A5_i64.mk (1) (22) (36) (7) (0)), (A5_i64.mk (1) (23) (38) (7) (0))] i_7).a4)).bind fun r_42 =>
      spinetref14_All_l3 k r_42 (IntKind.wrap .i64 (i_7 + 1))
      else none
    else
      some l_15
def spinetref14_All : Option ((List spinetref14_Known)) :=
  (spinetref14_columns).bind fun r_ =>
  (spinetref14_All_l0 r_ BIG ([] : List spinetref14_Known) (0)).bind fun l_4 =>
  (spinetref14_All_l1 BIG l_4 (0)).bind fun l_9 =>
  (spinetref14_All_l2 BIG l_9 (0)).bind fun l_12 =>
  (spinetref14_All_l3 BIG l_12 (0)).bind fun l_16 =>
  some l_16
def spinetlaw14_alive : Option (Bool) :=
  (page_Of (1) (134)).bind fun r_ =>
  some ((r_.Op == 11) && ((r_.Mode == 1) && ((r_.Reg == 8) && true)))
def spinetlaw14_PageFinds_l0 (e_ : api_Entry) (r_ : (Int × Int × Bool)) (r_1 : ((List spinetref14_Known))) : Nat → Int → Option (Out (Bool) (Unit))
  | 0, _ => none
  | k + 1, i_1 =>
    if (decide (i_1 < (ln r_1))) = true then
      if 0 ≤ (i_1 : Int) ∧ i_1 < ln r_1 then
      if ((((gt r_1 i_1).Entry).Op == e_.Op) && ((((gt r_1 i_1).Entry).Mode == e_.Mode) && ((((gt r_1 i_1).Entry).Reg == e_.Reg) && true))) = true then
        if 0 ≤ (i_1 : Int) ∧ i_1 < ln r_1 then
        if (r_.1 == (gt r_1 i_1).Page) = true → 0 ≤ (i_1 : Int) ∧ i_1 < ln r_1 then
        ((if (((r_.1 == (gt r_1 i_1).Page) && ((IntKind.wrap .i64 r_.2.1) == (gt r_1 i_1).Code)) && r_.2.2) = true then spinetlaw14_alive else some default)).bind fun r_4 =>
        some (.ret ((((r_.1 == (gt r_1 i_1).Page) && ((IntKind.wrap .i64 r_.2.1) == (gt r_1 i_1).Code)) && r_.2.2) && r_4))
        else none
        else none
      else
        spinetlaw14_PageFinds_l0 e_ r_ r_1 k (IntKind.wrap .i64 (i_1 + 1))
      else none
    else
      some (.go ())
def spinetlaw14_PageFinds (e_ : api_Entry) : Option (Bool) :=
  (page_Find e_).bind fun r_ =>
  (spinetref14_All).bind fun r_1 =>
  (spinetlaw14_PageFinds_l0 e_ r_ r_1 BIG (0)).bind fun o => match o with
    | .ret r => some r
    | .go _ =>
      ((if (((r_.1 == 0) && (r_.2.1 == 0)) && (!r_.2.2)) = true then spinetlaw14_alive else some default)).bind fun r_5 =>
      some ((((r_.1 == 0) && (r_.2.1 == 0)) && (!r_.2.2)) && r_5)
def spinetref14_Of_l0 (page_ : Int) (code_ : Int) (r_ : ((List spinetref14_Known))) : Nat → Int → Option (Out (api_Entry) (Unit))
  | 0, _ => none
  | k + 1, i_1 =>
    if (decide (i_1 < (ln r_))) = true then
      if 0 ≤ (i_1 : Int) ∧ i_1 < ln r_ then
      if ((gt r_ i_1).Page == page_) = true → 0 ≤ (i_1 : Int) ∧ i_1 < ln r_ then
      if (((gt r_ i_1).Page == page_) && ((gt r_ i_1).Code == code_)) = true then
        if 0 ≤ (i_1 : Int) ∧ i_1 < ln r_ then
        some (.ret ((gt r_ i_1).Entry))
        else none
      else
        spinetref14_Of_l0 page_ code_ r_ k (IntKind.wrap .i64 (i_1 + 1))
      else none
      else none
    else
      some (.go ())
def spinetref14_Of (page_ : Int) (code_ : Int) : Option (api_Entry) :=
  (spinetref14_All).bind fun r_ =>
  (spinetref14_Of_l0 page_ code_ r_ BIG (0)).bind fun o => match o with
    | .ret r => some r
    | .go _ =>
      some (api_Entry.mk (0) (0) (0))
def page_Prefix (code_ : Int) : Option (Int) :=
  if (code_ == 16) = true then
    some (2)
  else
    if (code_ == 17) = true then
      some (3)
    else
      some (0)
def spinetlaw14_PageCodes_j0 (p_ : Int) (code_ : Int) (r_ : (api_Entry)) (prefix_ : Int) : Option (Bool) :=
  (spinetref14_Of p_ (IntKind.wrap .i64 code_)).bind fun r_1 =>
  ((if (!(!((r_.Op == r_1.Op) && ((r_.Mode == r_1.Mode) && ((r_.Reg == r_1.Reg) && true))))) = true then page_Prefix code_ else some default)).bind fun r_2 =>
  if ((!((r_.Op == r_1.Op) && ((r_.Mode == r_1.Mode) && ((r_.Reg == r_1.Reg) && true)))) || (r_2 != prefix_)) = true then
    some false
  else
    (page_Find r_).bind fun r_3 =>
    if (r_.Op == 0) = true then
      ((if (((r_3.1 == 0) && (r_3.2.1 == 0)) && (!r_3.2.2)) = true then spinetlaw14_alive else some default)).bind fun r_4 =>
      some ((((r_3.1 == 0) && (r_3.2.1 == 0)) && (!r_3.2.2)) && r_4)
    else
      ((if (((r_3.1 == p_) && (r_3.2.1 == code_)) && r_3.2.2) = true then spinetlaw14_alive else some default)).bind fun r_5 =>
      some ((((r_3.1 == p_) && (r_3.2.1 == code_)) && r_3.2.2) && r_5)
def spinetlaw14_PageCodes (p_ : Int) (code_ : Int) : Option (Bool) :=
  (page_Of p_ code_).bind fun r_ =>
  if ((code_ == 16) || (code_ == 17)) = true then
    spinetlaw14_PageCodes_j0 p_ code_ r_ (IntKind.wrap .i64 ((IntKind.wrap .i64 code_) - 14))
  else
    spinetlaw14_PageCodes_j0 p_ code_ r_ (0)
end Go.Proofs.YtjaadpgmiejidaaK
