/- The functions, over typed data. Printed by a program of this work. -/
import Derived.Test.YtfdadnldlngmeaaRj
namespace Go.Proofs.YtfdadnldlngmeaaK
set_option linter.unusedVariables false
set_option linter.unusedSimpArgs false
set_option maxHeartbeats 4000000
open Go.RowKit
attribute [local irreducible] dwv mops lops lqops lwops kont iter run runK rk okK ex E1 vals val chain chB sel resF
structure watch_Point where
  Id : Int
  Kind : Int
  From : Int
  To : Int
instance : Inhabited watch_Point := ⟨⟨0, 0, 0, 0⟩⟩
def watch_Point.v (x : watch_Point) : List V := [.s (.int .i64 x.Id), .s (.int .i64 x.Kind), .s (.int .u16 x.From), .s (.int .u16 x.To)]
instance : Cells watch_Point.v 4 := ⟨fun _ => rfl, fun _ => rfl, fun _ => rfl⟩
def sl_watch_Point (x : (List watch_Point)) : List V := [.sl false x.length (cat watch_Point.v x)]
instance : Cells sl_watch_Point 1 := ⟨fun _ => rfl, fun _ => by simp [sl_watch_Point, statics, V.static, cat_stat], fun _ => rfl⟩
structure watch_Watch where
  l : (List watch_Point)
  last : Int
instance : Inhabited watch_Watch := ⟨⟨[], 0⟩⟩
def watch_Watch.v (x : watch_Watch) : List V := [.sl false x.l.length (cat watch_Point.v x.l), .s (.int .i64 x.last)]
instance : Cells watch_Watch.v 2 := ⟨fun _ => rfl, fun _ => by simp [watch_Watch.v, statics, V.static, cat_stat], fun _ => rfl⟩
structure spinetlaw49_Op where
  Drop : Bool
  P : watch_Point
instance : Inhabited spinetlaw49_Op := ⟨⟨false, ⟨0, 0, 0, 0⟩⟩⟩
def spinetlaw49_Op.v (x : spinetlaw49_Op) : List V := [.s (.bool x.Drop), .s (.int .i64 x.P.Id), .s (.int .i64 x.P.Kind), .s (.int .u16 x.P.From), .s (.int .u16 x.P.To)]
instance : Cells spinetlaw49_Op.v 5 := ⟨fun _ => rfl, fun _ => rfl, fun _ => rfl⟩
def sl_spinetlaw49_Op (x : (List spinetlaw49_Op)) : List V := [.sl false x.length (cat spinetlaw49_Op.v x)]
instance : Cells sl_spinetlaw49_Op 1 := ⟨fun _ => rfl, fun _ => by simp [sl_spinetlaw49_Op, statics, V.static, cat_stat], fun _ => rfl⟩
def sl_i64 (x : (List Int)) : List V := [.sl false x.length (cat (nI .i64) x)]
instance : Cells sl_i64 1 := ⟨fun _ => rfl, fun _ => by simp [sl_i64, statics, V.static, cat_stat], fun _ => rfl⟩
structure api_Rec where
  Addr : Int
  Data : Int
  Read : Bool
  BA : Bool
  BS : Bool
  LIC : Bool
  AVMA : Bool
  BUSY : Bool
  Mine : Bool
instance : Inhabited api_Rec := ⟨⟨0, 0, false, false, false, false, false, false, false⟩⟩
def api_Rec.v (x : api_Rec) : List V := [.s (.int .u16 x.Addr), .s (.int .u8 x.Data), .s (.bool x.Read), .s (.bool x.BA), .s (.bool x.BS), .s (.bool x.LIC), .s (.bool x.AVMA), .s (.bool x.BUSY), .s (.bool x.Mine)]
instance : Cells api_Rec.v 9 := ⟨fun _ => rfl, fun _ => rfl, fun _ => rfl⟩
def watch_Watch_Drop_1 (p_ : watch_Point) (caught_ : Int) : Option (Bool) :=
  some (p_.Id == caught_)
def slices_IndexFunc_sl_watch_Point_watch_Point_l0 (s_ : (List watch_Point)) (f_ : Int) : Nat → Int → Option (Out (Int) (Unit))
  | 0, _ => none
  | k + 1, t_1 =>
    if (decide (t_1 < (ln s_))) = true then
      if 0 ≤ (t_1 : Int) ∧ t_1 < ln s_ then
      (watch_Watch_Drop_1 (gt s_ t_1) f_).bind fun r_2 =>
      if r_2 = true then
        some (.ret t_1)
      else
        slices_IndexFunc_sl_watch_Point_watch_Point_l0 s_ f_ k (IntKind.wrap .i64 (t_1 + 1))
      else none
    else
      some (.go ())
def slices_IndexFunc_sl_watch_Point_watch_Point (s_ : (List watch_Point)) (f_ : Int) : Option (Int) :=
  (slices_IndexFunc_sl_watch_Point_watch_Point_l0 s_ f_ BIG (0)).bind fun o => match o with
    | .ret r => some r
    | .go _ =>
      some (-1)
def slices_DeleteFunc_sl_watch_Point_watch_Point_l0 (del_ : Int) : Nat → (List watch_Point) → Int → Int → Option ((List watch_Point) × Int)
  | 0, _, _, _ => none
  | k + 1, l_1, i_1, j_1 =>
    if (decide (j_1 < (ln l_1))) = true then
      if 0 ≤ (j_1 : Int) ∧ j_1 < ln l_1 then
      (watch_Watch_Drop_1 (gt l_1 j_1) del_).bind fun r_3 =>
      if (!r_3) = true then
        if 0 ≤ (i_1 : Int) ∧ i_1 < ln l_1 then
        slices_DeleteFunc_sl_watch_Point_watch_Point_l0 del_ k (st l_1 i_1 (gt l_1 j_1)) (IntKind.wrap .i64 (i_1 + 1)) (IntKind.wrap .i64 (j_1 + 1))
        else none
      else
        slices_DeleteFunc_sl_watch_Point_watch_Point_l0 del_ k l_1 i_1 (IntKind.wrap .i64 (j_1 + 1))
      else none
    else
      some (l_1, i_1)
def slices_DeleteFunc_sl_watch_Point_watch_Point (s_ : (List watch_Point)) (del_ : Int) : Option ((List watch_Point)) :=
  (slices_IndexFunc_sl_watch_Point_watch_Point s_ del_).bind fun r_ =>
  if (r_ == (-1)) = true then
    some s_
  else
    (slices_DeleteFunc_sl_watch_Point_watch_Point_l0 del_ BIG s_ r_ (IntKind.wrap .i64 (r_ + 1))).bind fun (l_2, i_2) =>
    if 0 ≤ (i_2 : Int) ∧ i_2 ≤ (ln l_2) then
    if 0 ≤ (i_2 : Int) ∧ i_2 ≤ (ln l_2) then
    some (l_2.take ((i_2 : Int).toNat))
    else none
    else none
def watch_Watch_Drop (w_ : watch_Watch) (id_ : Int) : Option (Bool × watch_Watch) :=
  (slices_DeleteFunc_sl_watch_Point_watch_Point w_.l id_).bind fun r_ =>
  some ((decide ((ln r_) < (ln w_.l))), (watch_Watch.mk r_ w_.last))
def watch_Watch_Add (w_ : watch_Watch) (kind_ : Int) (from_ : Int) (to_ : Int) : Option (Int × Int × watch_Watch) :=
  if ((decide (kind_ < 0)) || (decide (2 < kind_))) = true then
    some (0, 10, w_)
  else
    if (decide (to_ < from_)) = true then
      some (0, 11, w_)
    else
      if (w_.l.length + [(watch_Point.mk (IntKind.wrap .i64 (w_.last + 1)) kind_ from_ to_)].length) * 24 ≤ 140737488355328 then
      some ((IntKind.wrap .i64 (w_.last + 1)), 0, (watch_Watch.mk (w_.l ++ [(watch_Point.mk (IntKind.wrap .i64 (w_.last + 1)) kind_ from_ to_)]) (IntKind.wrap .i64 (w_.last + 1))))
      else none
def slices_Equal_sl_watch_Point_watch_Point_l0 (s1_ : (List watch_Point)) (s2_ : (List watch_Point)) : Nat → Int → Option (Out (Bool) (Unit))
  | 0, _ => none
  | k + 1, t_1 =>
    if (decide (t_1 < (ln s1_))) = true then
      if 0 ≤ (t_1 : Int) ∧ t_1 < ln s1_ then
      if 0 ≤ (t_1 : Int) ∧ t_1 < ln s2_ then
      if (!(((gt s1_ t_1).Id == (gt s2_ t_1).Id) && (((gt s1_ t_1).Kind == (gt s2_ t_1).Kind) && (((gt s1_ t_1).From == (gt s2_ t_1).From) && (((gt s1_ t_1).To == (gt s2_ t_1).To) && true))))) = true then
        some (.ret false)
      else
        slices_Equal_sl_watch_Point_watch_Point_l0 s1_ s2_ k (IntKind.wrap .i64 (t_1 + 1))
      else none
      else none
    else
      some (.go ())
def slices_Equal_sl_watch_Point_watch_Point (s1_ : (List watch_Point)) (s2_ : (List watch_Point)) : Option (Bool) :=
  if ((ln s1_) != (ln s2_)) = true then
    some false
  else
    (slices_Equal_sl_watch_Point_watch_Point_l0 s1_ s2_ BIG (0)).bind fun o => match o with
      | .ret r => some r
      | .go _ =>
        some true
def watch_Watch_All (w_ : watch_Watch) : Option ((List watch_Point)) :=
  (sl_clone w_.l).bind fun r_ =>
  some r_
def spinetlaw49_made_l3 (calls_ : (List spinetlaw49_Op)) (l_15 : (List watch_Point)) (i_1 : Int) : Nat → (List watch_Point) → Int → Option ((List watch_Point) × Int × Int × Bool)
  | 0, _, _ => none
  | k + 1, l_19, k_7 =>
    if (decide (k_7 < (ln l_15))) = true then
      if 0 ≤ (k_7 : Int) ∧ k_7 < ln l_15 then
      if ((gt l_15 k_7).Id != ((gt calls_ i_1).P).Id) = true then
        if 0 ≤ (k_7 : Int) ∧ k_7 < ln l_15 then
        if (l_19.length + [(gt l_15 k_7)].length) * 24 ≤ 140737488355328 then
        spinetlaw49_made_l3 calls_ l_15 i_1 k (l_19 ++ [(gt l_15 k_7)]) (IntKind.wrap .i64 (k_7 + 1))
        else none
        else none
      else
        spinetlaw49_made_l3 calls_ l_15 i_1 k l_19 (IntKind.wrap .i64 (k_7 + 1))
      else none
    else
      some (l_19, k_7, k_7, (decide (k_7 < (ln l_15))))
def spinetlaw49_made_j3 (rec : (List watch_Point) → Int → (List watch_Point) → Int → Int → Option (Out ((List watch_Point) × Bool × watch_Watch) ((List watch_Point) × Int × (List watch_Point)))) (i_1 : Int) (l_22 : (List watch_Point)) (m_5 : Int) (l_23 : (List watch_Point)) (last_7 : Int) : Option (Out ((List watch_Point) × Bool × watch_Watch) ((List watch_Point) × Int × (List watch_Point))) :=
  (watch_Watch_All (watch_Watch.mk l_22 m_5)).bind fun r_10 =>
  (slices_Equal_sl_watch_Point_watch_Point r_10 l_23).bind fun r_11 =>
  if (!r_11) = true then
    some (.ret (([] : List watch_Point), false, (watch_Watch.mk l_22 m_5)))
  else
    rec l_22 m_5 l_23 last_7 (IntKind.wrap .i64 (i_1 + 1))
def spinetlaw49_made_j0 (rec : (List watch_Point) → Int → (List watch_Point) → Int → Int → Option (Out ((List watch_Point) × Bool × watch_Watch) ((List watch_Point) × Int × (List watch_Point)))) (calls_ : (List spinetlaw49_Op)) (i_1 : Int) (r_9 : (Int × Int × watch_Watch)) (want_5 : Int) (l_21 : (List watch_Point)) (last_6 : Int) : Option (Out ((List watch_Point) × Bool × watch_Watch) ((List watch_Point) × Int × (List watch_Point))) :=
  if (((r_9.2.1 != want_5) || ((want_5 == 0) && (r_9.1 != last_6))) || ((want_5 != 0) && (r_9.1 != 0))) = true then
    some (.ret (([] : List watch_Point), false, r_9.2.2))
  else
    spinetlaw49_made_j3 (rec) i_1 r_9.2.2.l r_9.2.2.last l_21 last_6
def spinetlaw49_made_j1 (rec : (List watch_Point) → Int → (List watch_Point) → Int → Int → Option (Out ((List watch_Point) × Bool × watch_Watch) ((List watch_Point) × Int × (List watch_Point)))) (calls_ : (List spinetlaw49_Op)) (l_15 : (List watch_Point)) (last_5 : Int) (i_1 : Int) (r_9 : (Int × Int × watch_Watch)) (want_5 : Int) : Option (Out ((List watch_Point) × Bool × watch_Watch) ((List watch_Point) × Int × (List watch_Point))) :=
  if (want_5 == 0) = true then
    if (l_15.length + [(watch_Point.mk (IntKind.wrap .i64 (last_5 + 1)) (((gt calls_ i_1).P).Kind) (((gt calls_ i_1).P).From) (((gt calls_ i_1).P).To))].length) * 24 ≤ 140737488355328 then
    spinetlaw49_made_j0 (rec) calls_ i_1 r_9 want_5 (l_15 ++ [(watch_Point.mk (IntKind.wrap .i64 (last_5 + 1)) (((gt calls_ i_1).P).Kind) (((gt calls_ i_1).P).From) (((gt calls_ i_1).P).To))]) (IntKind.wrap .i64 (last_5 + 1))
    else none
  else
    spinetlaw49_made_j0 (rec) calls_ i_1 r_9 want_5 l_15 last_5
def spinetlaw49_made_j2 (rec : (List watch_Point) → Int → (List watch_Point) → Int → Int → Option (Out ((List watch_Point) × Bool × watch_Watch) ((List watch_Point) × Int × (List watch_Point)))) (calls_ : (List spinetlaw49_Op)) (l_15 : (List watch_Point)) (last_5 : Int) (i_1 : Int) (r_9 : (Int × Int × watch_Watch)) (want_4 : Int) : Option (Out ((List watch_Point) × Bool × watch_Watch) ((List watch_Point) × Int × (List watch_Point))) :=
  if ((decide (((gt calls_ i_1).P).Kind < 0)) || (decide (2 < ((gt calls_ i_1).P).Kind))) = true then
    spinetlaw49_made_j1 (rec) calls_ l_15 last_5 i_1 r_9 (10)
  else
    spinetlaw49_made_j1 (rec) calls_ l_15 last_5 i_1 r_9 want_4
def spinetlaw49_made_l2 (calls_ : (List spinetlaw49_Op)) : Nat → (List watch_Point) → Int → (List watch_Point) → Int → Int → Option (Out ((List watch_Point) × Bool × watch_Watch) ((List watch_Point) × Int × (List watch_Point)))
  | 0, _, _, _, _, _ => none
  | k + 1, l_14, m_3, l_15, last_5, i_1 =>
    if (decide (i_1 < (ln calls_))) = true then
      if 0 ≤ (i_1 : Int) ∧ i_1 < ln calls_ then
      if 0 ≤ (i_1 : Int) ∧ i_1 < ln calls_ then
      if (gt calls_ i_1).Drop = true then
        (spinetlaw49_made_l3 calls_ l_15 i_1 BIG ([] : List watch_Point) (0)).bind fun (l_20, k_8, t_4, t_5) =>
        (watch_Watch_Drop (watch_Watch.mk l_14 m_3) (((gt calls_ i_1).P).Id)).bind fun r_8 =>
        if (!(r_8.1 == (decide ((ln l_20) < (ln l_15))))) = true then
          some (.ret (([] : List watch_Point), false, r_8.2))
        else
          spinetlaw49_made_j3 (spinetlaw49_made_l2 calls_ k) i_1 r_8.2.l r_8.2.last l_20 last_5
      else
        (watch_Watch_Add (watch_Watch.mk l_14 m_3) (((gt calls_ i_1).P).Kind) (((gt calls_ i_1).P).From) (((gt calls_ i_1).P).To)).bind fun r_9 =>
        if (decide (((gt calls_ i_1).P).To < ((gt calls_ i_1).P).From)) = true then
          spinetlaw49_made_j2 (spinetlaw49_made_l2 calls_ k) calls_ l_15 last_5 i_1 r_9 (11)
        else
          spinetlaw49_made_j2 (spinetlaw49_made_l2 calls_ k) calls_ l_15 last_5 i_1 r_9 (0)
      else none
      else none
    else
      some (.go (l_14, m_3, l_15))
def spinetlaw49_made (w_ : watch_Watch) (calls_ : (List spinetlaw49_Op)) : Option ((List watch_Point) × Bool × watch_Watch) :=
  (spinetlaw49_made_l2 calls_ BIG w_.l w_.last ([] : List watch_Point) (0) (0)).bind fun o => match o with
    | .ret r => some r
    | .go (l_16, m_4, l_17) =>
      some (l_17, true, (watch_Watch.mk l_16 m_4))
def spinetlaw49_hits_l0 (l_ : (List watch_Point)) (kind_ : Int) (at_ : Int) : Nat → (List Int) → Int → Option (List Int)
  | 0, _, _ => none
  | k + 1, l_2, i_1 =>
    if (decide (i_1 < (ln l_))) = true then
      if 0 ≤ (i_1 : Int) ∧ i_1 < ln l_ then
      if ((gt l_ i_1).Kind == kind_) = true → 0 ≤ (i_1 : Int) ∧ i_1 < ln l_ then
      if (((gt l_ i_1).Kind == kind_) && (decide ((gt l_ i_1).From ≤ at_))) = true → 0 ≤ (i_1 : Int) ∧ i_1 < ln l_ then
      if ((((gt l_ i_1).Kind == kind_) && (decide ((gt l_ i_1).From ≤ at_))) && (decide (at_ ≤ (gt l_ i_1).To))) = true then
        if 0 ≤ (i_1 : Int) ∧ i_1 < ln l_ then
        if (l_2.length + [(gt l_ i_1).Id].length) * 8 ≤ 140737488355328 then
        spinetlaw49_hits_l0 l_ kind_ at_ k (l_2 ++ [(gt l_ i_1).Id]) (IntKind.wrap .i64 (i_1 + 1))
        else none
        else none
      else
        spinetlaw49_hits_l0 l_ kind_ at_ k l_2 (IntKind.wrap .i64 (i_1 + 1))
      else none
      else none
      else none
    else
      some l_2
def spinetlaw49_hits (l_ : (List watch_Point)) (kind_ : Int) (at_ : Int) : Option ((List Int)) :=
  (spinetlaw49_hits_l0 l_ kind_ at_ BIG ([] : List Int) (0)).bind fun l_3 =>
  some l_3
def slices_Equal_sl_int_int_l0 (s1_ : (List Int)) (s2_ : (List Int)) : Nat → Int → Option (Out (Bool) (Unit))
  | 0, _ => none
  | k + 1, t_1 =>
    if (decide (t_1 < (ln s1_))) = true then
      if 0 ≤ (t_1 : Int) ∧ t_1 < ln s1_ then
      if 0 ≤ (t_1 : Int) ∧ t_1 < ln s2_ then
      if ((gt s1_ t_1) != (gt s2_ t_1)) = true then
        some (.ret false)
      else
        slices_Equal_sl_int_int_l0 s1_ s2_ k (IntKind.wrap .i64 (t_1 + 1))
      else none
      else none
    else
      some (.go ())
def slices_Equal_sl_int_int (s1_ : (List Int)) (s2_ : (List Int)) : Option (Bool) :=
  if ((ln s1_) != (ln s2_)) = true then
    some false
  else
    (slices_Equal_sl_int_int_l0 s1_ s2_ BIG (0)).bind fun o => match o with
      | .ret r => some r
      | .go _ =>
        some true
def watch_Watch_hits_l0 (w_ : watch_Watch) (kind_ : Int) (at_ : Int) : Nat → (List Int) → Int → Option (List Int)
  | 0, _, _ => none
  | k + 1, l_1, t_1 =>
    if (decide (t_1 < (ln w_.l))) = true then
      if 0 ≤ (t_1 : Int) ∧ t_1 < ln w_.l then
      if ((((gt w_.l t_1).Kind == kind_) && (decide ((gt w_.l t_1).From ≤ at_))) && (decide (at_ ≤ (gt w_.l t_1).To))) = true then
        if (l_1.length + [(gt w_.l t_1).Id].length) * 8 ≤ 140737488355328 then
        watch_Watch_hits_l0 w_ kind_ at_ k (l_1 ++ [(gt w_.l t_1).Id]) (IntKind.wrap .i64 (t_1 + 1))
        else none
      else
        watch_Watch_hits_l0 w_ kind_ at_ k l_1 (IntKind.wrap .i64 (t_1 + 1))
      else none
    else
      some l_1
def watch_Watch_hits (w_ : watch_Watch) (kind_ : Int) (at_ : Int) : Option ((List Int)) :=
  (watch_Watch_hits_l0 w_ kind_ at_ BIG ([] : List Int) (0)).bind fun l_2 =>
  some l_2
def watch_Watch_Cycle (w_ : watch_Watch) (r_ : api_Rec) : Option ((List Int)) :=
  if (!r_.Mine) = true then
    some ([] : List Int)
  else
    if r_.Read = true then
      (watch_Watch_hits w_ (0) r_.Addr).bind fun r_1 =>
      some r_1
    else
      (watch_Watch_hits w_ (1) r_.Addr).bind fun r_2 =>
      some r_2
def watch_Watch_Boundary (w_ : watch_Watch) (pc_ : Int) : Option ((List Int)) :=
  (watch_Watch_hits w_ (2) pc_).bind fun r_ =>
  some r_
def spinetlaw49_alive : Option (Bool) :=
  (watch_Watch_Add (watch_Watch.mk ([] : List watch_Point) (0)) (1) (5) (6)).bind fun r_ =>
  ((if ((r_.1 == 1) && (r_.2.1 == 0)) = true then watch_Watch_Cycle r_.2.2 (api_Rec.mk (6) (0) false false false false false false true) else some default)).bind fun r_1 =>
  ((if ((r_.1 == 1) && (r_.2.1 == 0)) = true then slices_Equal_sl_int_int r_1 [1] else some default)).bind fun r_2 =>
  some (((r_.1 == 1) && (r_.2.1 == 0)) && r_2)
def spinetlaw49_WatchPoints_j0 (r_ : api_Rec) (r_1 : ((List watch_Point) × Bool × watch_Watch)) (want_1 : (List Int)) : Option (Bool) :=
  (watch_Watch_Cycle r_1.2.2 r_).bind fun r_4 =>
  (slices_Equal_sl_int_int r_4 want_1).bind fun r_5 =>
  ((if r_5 = true then watch_Watch_Boundary r_1.2.2 r_.Addr else some default)).bind fun r_6 =>
  ((if r_5 = true then spinetlaw49_hits r_1.1 (2) r_.Addr else some default)).bind fun r_7 =>
  ((if r_5 = true then slices_Equal_sl_int_int r_6 r_7 else some default)).bind fun r_8 =>
  ((if (r_5 && r_8) = true then spinetlaw49_alive else some default)).bind fun r_9 =>
  some ((r_5 && r_8) && r_9)
def spinetlaw49_WatchPoints_j1 (r_ : api_Rec) (r_1 : ((List watch_Point) × Bool × watch_Watch)) (want_ : (List Int)) : Option (Bool) :=
  if (r_.Mine && (!r_.Read)) = true then
    (spinetlaw49_hits r_1.1 (1) r_.Addr).bind fun r_3 =>
    spinetlaw49_WatchPoints_j0 r_ r_1 r_3
  else
    spinetlaw49_WatchPoints_j0 r_ r_1 want_
def spinetlaw49_WatchPoints (calls_ : (List spinetlaw49_Op)) (r_ : api_Rec) : Option (Bool) :=
  if (decide (40 < (ln calls_))) = true then
    some true
  else
    (spinetlaw49_made (watch_Watch.mk ([] : List watch_Point) (0)) calls_).bind fun r_1 =>
    if (!r_1.2.1) = true then
      some false
    else
      if (r_.Mine && r_.Read) = true then
        (spinetlaw49_hits r_1.1 (0) r_.Addr).bind fun r_2 =>
        spinetlaw49_WatchPoints_j1 r_ r_1 r_2
      else
        spinetlaw49_WatchPoints_j1 r_ r_1 ([] : List Int)
end Go.Proofs.YtfdadnldlngmeaaK
